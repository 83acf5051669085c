/-
  A cache's entries copied one by one into a row of the call's own: l17Cache of the reference. No conditions.
-/
import Derived.Test.YtlicnppfgfjkgaaZB
import Derived.Test.YtlicnppfgfjkgaaZA
import Derived.Test.YtlicnppfgfjkgaaZMatch
namespace Go.Proofs.Ytlicnppfgfjkgaa
open Go.ChangeShapes Go.WideShapes Go.RowKit
set_option linter.unusedVariables false

theorem infoCached : (Try.prog.info? 129).map (fun i => (i.zero, i.size, i.bytes)) = some (some (Value.agg #[.string ByteArray.empty, .string ByteArray.empty, .int .i64 0, .int .i64 0, .int .i64 0, .slice none 0 0, .bool false]), 7, 88) := by kernel_rfl
/-- a walk that is to stand still here -/
def Stop (p : Prop) : Prop := p
theorem stop_ {p : Prop} (h : Stop p) : p := h
theorem Stop.go {p : Prop} (h : p) : Stop p := h
theorem take_next {α : Type} {xs : List α} {k : Nat} (h : k < xs.length) : xs.take k ++ [xs[k]] = xs.take (k + 1) := (List.take_succ_eq_append_getElem h).symm
theorem cache_len {x : TCache} (hn : cCache.sz x ≤ 1048576) : x.entries.length ≤ 1048576 := by
  have h1 := Cod.len_le cCached x.entries
  have h3 : cCache.sz x = 0 + Cod.szs cCached x.entries := rfl
  omega
theorem cache_resp {x : TCache} (hn : cCache.sz x ≤ 1048576) {k : Nat} (hk : k < x.entries.length) : cResp.sz x.entries[k].resp ≤ 1048576 := by
  have h1 := entry_sz (List.getElem_mem hk)
  have h3 : cCache.sz x = 0 + cCachedS.sz x.entries := rfl
  omega
set_option maxRecDepth 100000 in
set_option maxHeartbeats 1000000 in
theorem specCopyCache_any (vs : Array Value) (x : TCache) (F : List Nat) (w : World) (h : cCache.rep w vs.toList x F) (hn : cCache.sz x ≤ 1048576) :
    Calls Try.prog 141 #[.agg vs] w (GivesR cCacheO w x) := by
  obtain ⟨i0, hi0, hz0, hz1, hz2⟩ := info_parts infoCached
  obtain ⟨v1, F1, rfl, -, hok, m1⟩ := TCache.outA h
  obtain ⟨A, cp, rfl⟩ := cL_form m1
  obtain ⟨-, hcp, hm⟩ := cL_len m1
  have hnl := cache_len hn
  clear h
  obtain ⟨n, hxn⟩ : ∃ n, x.entries.length = n := ⟨_, rfl⟩
  have HN := Lib.hid hxn
  rw [hxn] at hcp hnl ⊢
  clear hxn
  unfold maxLen at hm
  go_enter Try.func141, Try.ntmps141
  go_wp2
  generalize hW : World.alloc _ _ = W
  have hWs : W.heap.size = w.heap.size + 3 := by rw [← hW]; clear hW; simp
  have hbW : Below w.heap.size w W := by rw [← hW]; exact (by repeat (first | with_reducible exact Below.refl _ _ | with_reducible assumption | with_reducible refine bel_alloc ?_ _ | with_reducible refine bel_drew ?_ | with_reducible refine bel_drewN ?_ _ | (with_reducible refine bel_set ?_ ?_ _; rotate_left; ((try simp); (try omega)))))
  have HK := Lib.hid (show W.cell? ⟨w.heap.size, 0, none⟩ = some (.int .i64 x.ver) ∧ W.cell? ⟨w.heap.size, 1, none⟩ = some (.slice A n cp) ∧ W.cell? ⟨w.heap.size + 1, 0, none⟩ = some (.int .i64 0) ∧ W.cell? ⟨w.heap.size + 1, 1, none⟩ = some (.slice none 0 0) ∧ W.cell? ⟨w.heap.size + 1 + 1, 0, none⟩ = some (.int .i64 x.ver) ∧ W.cell? ⟨w.heap.size + 1 + 1, 1, none⟩ = some (.slice none 0 0) from by refine ⟨?_, ?_, ?_, ?_, ?_, ?_⟩ <;> (rw [← hW]; clear hW; go_simp))
  have HZ0 : W.frozen? ⟨w.heap.size + 1, 0, none⟩ = false := by rw [← hW]; clear hW; go_simp
  have HZ1 : W.frozen? ⟨w.heap.size + 1, 1, none⟩ = false := by rw [← hW]; clear hW; go_simp
  have HZ2 : W.frozen? ⟨w.heap.size + 1 + 1, 1, none⟩ = false := by rw [← hW]; clear hW; go_simp
  clear hW
  have hfz : W.frozen? ⟨w.heap.size + 1 + 1, 1, none⟩ = false := HZ2
  go_loopw [4] (fun i wr => ∃ k : Nat, k ≤ n ∧ i = .int .i64 k ∧ BoxRow cCached 129 W wr (w.heap.size + 1 + 1) 1 (x.entries.take k)) (fun i _ => n - (intOf i).toNat)
  case atStart => exact ⟨0, Nat.zero_le _, rfl, BoxRow.start HK.out.2.2.2.2.2⟩
  case round =>
    obtain ⟨k, hk, rfl, vE, Fi, HB⟩ := hrel
    obtain ⟨Ae, ce, hve⟩ := HB.own.slice
    subst hve
    have hlk : (x.entries.take k).length = k := by rw [List.length_take, HN.out]; omega
    rw [hlk] at HB
    clear hlk
    have hE := HB.cell
    have hfr := (HB.fz 1).trans hfz
    have hC0 := HB.oth 0 (by decide)
    have hz9 := HB.only.size
    have hbw : Below w.heap.size w wr := hbW.trans ((HB.only.bel w.heap.size (by omega) (fun y hy => by simp at hy; omega)).mono (Nat.le_refl _))
    have b0 : wr.cell? ⟨w.heap.size, 0, none⟩ = some (.int .i64 x.ver) := (World.cell?_of_block (HB.only.block w.heap.size (by omega) (by intro hm9; simp at hm9; omega))).trans HK.out.1
    have b1 : wr.cell? ⟨w.heap.size, 1, none⟩ = some (.slice A n cp) := (World.cell?_of_block (HB.only.block w.heap.size (by omega) (by intro hm9; simp at hm9; omega))).trans HK.out.2.1
    have hws : w.heap.size < wr.heap.size := by omega
    have hws2 : w.heap.size + 1 + 1 < wr.heap.size := by omega
    have hHB := Lib.hid HB
    by_cases hlt : k < n
    · have hkx : k < x.entries.length := by rw [HN.out]; exact hlt
      obtain ⟨g, o, vs, F3, rfl, hgF, hx, -, hc⟩ := cL_get (hw := by decide) (hw2 := by decide) m1 hkx
      obtain ⟨v5, F4, rfl, -, hok5, m5⟩ := TCached.out hx
      obtain ⟨A5, c5, e5⟩ := cL_form m5
      subst e5
      have hgw : g < w.heap.size := Cod.lt _ m1 g hgF
      have q0 := (hbw.cell (p := ⟨g, o + k * 7, none⟩) hgw).trans ((hc 0 _ rfl).1)
      have q1 := (hbw.cell (p := ⟨g, o + k * 7 + 1, none⟩) hgw).trans ((hc 1 _ rfl).1)
      have q2 := (hbw.cell (p := ⟨g, o + k * 7 + 2, none⟩) hgw).trans ((hc 2 _ rfl).1)
      have q3 := (hbw.cell (p := ⟨g, o + k * 7 + 3, none⟩) hgw).trans ((hc 3 _ rfl).1)
      have q4 := (hbw.cell (p := ⟨g, o + k * 7 + 4, none⟩) hgw).trans ((hc 4 _ rfl).1)
      have q5 := (hbw.cell (p := ⟨g, o + k * 7 + 5, none⟩) hgw).trans ((hc 5 _ rfl).1)
      have q6 := (hbw.cell (p := ⟨g, o + k * 7 + 6, none⟩) hgw).trans ((hc 6 _ rfl).1)
      clear hc hx
      have hgr : g < wr.heap.size := by omega
      have hgn : ¬ g = wr.heap.size := by omega
      have hki : ((k : Int) < (n : Int)) := by omega
      have hokr := TCached.sub hok5
      have hzr := cache_resp hn hkx
      clear HB hC0
      go_wp2_with fail
      refine (specCopyResp_any _ x.entries[k].resp _ _ (by exact TResp.mk_ hokr (Cod.bel m5 (by repeat (first | with_reducible exact Below.refl _ _ | with_reducible assumption | with_reducible refine bel_alloc ?_ _ | with_reducible refine bel_drew ?_ | with_reducible refine bel_drewN ?_ _ | (with_reducible refine bel_set ?_ ?_ _; rotate_left; ((try simp); (try omega))))))) hzr).mono ?_
      rintro e w1 ⟨vs1, G1, rfl, hb1, hrep1, hf1⟩
      obtain ⟨v6, _, rfl, rfl, hok6, n6⟩ := TResp.outA hrep1
      obtain ⟨B6, d6, rfl⟩ := cL_form n6
      have hzz := hb1.size
      (try simp at hzz)
      have hs1 : wr.heap.size < w1.heap.size := by omega
      obtain ⟨hc1, hff1, -⟩ := bcell hb1
      have hbr1 : Below wr.heap.size wr w1 := bel_then (by repeat (first | with_reducible exact Below.refl _ _ | with_reducible assumption | with_reducible refine bel_alloc ?_ _ | with_reducible refine bel_drew ?_ | with_reducible refine bel_drewN ?_ _ | (with_reducible refine bel_set ?_ ?_ _; rotate_left; ((try simp); (try omega))))) hb1
      have hnb : ∀ b, b ∈ G1 → wr.heap.size + 1 ≤ b ∧ b < w1.heap.size := fun b hb => ⟨by have := hf1.1 b hb; (try simp at this); omega, Cod.lt _ n6 b hb⟩
      have hE1 : w1.cell? ⟨w.heap.size + 1 + 1, 1, none⟩ = some (.slice Ae k ce) := (hbr1.cell (p := ⟨w.heap.size + 1 + 1, 1, none⟩) hws2).trans hE
      have hfr1 : w1.frozen? ⟨w.heap.size + 1 + 1, 1, none⟩ = false := (hbr1.frozen (p := ⟨w.heap.size + 1 + 1, 1, none⟩) hws2).trans hfr
      have hwn : ¬ wr.heap.size = w.heap.size + 1 + 1 := by omega
      have hwn2 : ¬ w.heap.size + 1 + 1 = wr.heap.size := by omega
      have hws3 : w.heap.size + 1 + 1 < w1.heap.size := by omega
      have hnlk : k + 1 ≤ 1048577 := by omega
      clear hb1 hrep1
      go_wp2_with (at_builtin; refine stop_ ?_)
      refine Stop.go ?_
      refine wpList_box (c := cCached) (ys := [x.entries[k]]) (G := G1) rfl _ _ _ rfl i0 _ _ Try.underlying123 hi0 hz0 hz1 hz2 rfl (by decide) rfl (.slice (some ⟨w1.heap.size, 0, none⟩) 1 1) rfl (by omega) hHB.out ?hbel (hf1.mono (by (try simp); (try omega))) ?hGl ?hsrc (k + 1) ?hm9 ?h1 ?h2 ?h3
      case hbel => exact (by repeat (first | with_reducible exact Below.refl _ _ | with_reducible assumption | with_reducible refine bel_alloc ?_ _ | with_reducible refine bel_drew ?_ | with_reducible refine bel_drewN ?_ _ | (with_reducible refine bel_set ?_ ?_ _; rotate_left; ((try simp); (try omega)))))
      case hGl => (intro b hb; have h9 := hnb b hb; (try simp); omega)
      case hsrc => exact src_new _ _ (by simp) (TCached.mk_ (x := x.entries[k]) hok5 (by repeat (first | with_reducible exact n6 | with_reducible refine Cod.allocA ?_ _ | with_reducible refine Cod.drewA ?_ | with_reducible refine Cod.drewNA ?_ _ | ((with_reducible refine Cod.setA ?_ ?_ _); rotate_left; ((intro hm9; have hm8 := hnb _ hm9; (try simp at hm8); (try omega)))))))
      case hm9 => (have h9 := HN.out; simp only [List.length_append, List.length_take, List.length_singleton]; omega)
      case h1 => (unfold maxLen; omega)
      case h2 => omega
      intro A2 c2 w2 HA
      rw [take_next hkx] at HA
      have hX := HA.cell
      have hXf := (HA.fz 1).trans hfz
      have hs4 := HA.size
      (try simp at hs4)
      have HR := Lib.hid HA.row
      clear HA
      have hsz2 : w.heap.size + 1 + 1 < w2.heap.size := by omega
      go_wp2_with fail
      go_roundw
      case rel => exact ⟨k + 1, by omega, by go_num, HR.out⟩
      case measure => simp [intOf]; omega
    · obtain rfl : k = n := by omega
      have c0 : wr.cell? ⟨w.heap.size + 1 + 1, 0, none⟩ = some (.int .i64 x.ver) := hC0.trans HK.out.2.2.2.2.1
      clear hC0
      have hb9 := HB.only.block (w.heap.size + 1) (by omega) (by simp)
      have d0 : wr.cell? ⟨w.heap.size + 1, 0, none⟩ = some (.int .i64 0) := (World.cell?_of_block hb9).trans HK.out.2.2.1
      have d1 : wr.cell? ⟨w.heap.size + 1, 1, none⟩ = some (.slice none 0 0) := (World.cell?_of_block hb9).trans HK.out.2.2.2.1
      have f0 : wr.frozen? ⟨w.heap.size + 1, 0, none⟩ = false := (World.frozen?_of_block hb9).trans HZ0
      have f1 : wr.frozen? ⟨w.heap.size + 1, 1, none⟩ = false := (World.frozen?_of_block hb9).trans HZ1
      have hws1 : w.heap.size + 1 < wr.heap.size := by omega
      have htl : x.entries.take k = x.entries := List.take_of_length_le (by rw [HN.out]; exact Nat.le_refl _)
      have hown := HB.own
      rw [htl] at hown
      obtain ⟨hrep, hff⟩ := hown.toO (hw2 := by decide) HB.fresh HB.ne
      have hlow : ∀ b, b ∈ ownL (.slice Ae k ce) ++ Fi → W.heap.size ≤ b := hff.1
      have HRP := Lib.hid hrep
      clear HB hown hrep htl hb9
      go_wp2_with fail
      refine bodyPost_ret (v := .agg #[.int .i64 x.ver, .slice Ae k ce]) (by simp [results, Try.results141, go_sem, *]) rfl ?_
      have hfin : cCachedO.rep wr [.slice Ae k ce] x.entries (ownL (.slice Ae k ce) ++ Fi) := HRP.out
      exact ⟨_, _, rfl, (by repeat (first | with_reducible exact Below.refl _ _ | with_reducible assumption | with_reducible refine bel_alloc ?_ _ | with_reducible refine bel_drew ?_ | with_reducible refine bel_drewN ?_ _ | (with_reducible refine bel_set ?_ ?_ _; rotate_left; ((try simp); (try omega))))), TCache.mkO hok (by repeat (first | with_reducible exact hfin | with_reducible refine Cod.allocA ?_ _ | with_reducible refine Cod.drewA ?_ | with_reducible refine Cod.drewNA ?_ _ | ((with_reducible refine Cod.setA ?_ ?_ _); rotate_left; ((intro hm9; have hm8 := hlow _ hm9; (try simp at hm8); (try omega)))))), hff.mono (by omega)⟩
end Go.Proofs.Ytlicnppfgfjkgaa
