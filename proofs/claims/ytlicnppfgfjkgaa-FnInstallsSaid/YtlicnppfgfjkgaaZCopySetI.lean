/-
  A set of caches copied: copyCacheSet of the program. No conditions.
-/
import Derived.Test.YtlicnppfgfjkgaaZCopySet
namespace Go.Proofs.Ytlicnppfgfjkgaa
open Go.ChangeShapes Go.WideShapes Go.RowKit
set_option linter.unusedVariables false

set_option maxRecDepth 100000 in
set_option maxHeartbeats 4000000 in
theorem implCopySet_any (vs : Array Value) (x : TCSet) (F : List Nat) (w : World) (h : cCSet.rep w vs.toList x F) (hn : cCSet.sz x ≤ 1048576) :
    Calls Try.prog 92 #[.agg vs] w (GivesR cCSetO w x) := by
  obtain ⟨i0, hi0, hz0, hz1, hz2⟩ := info_parts infoCache
  obtain ⟨j0, hj0, jz0, jz1, jz2⟩ := info_parts infoCached
  obtain ⟨v1, F1, rfl, -, -, m1⟩ := TCSet.outA h
  obtain ⟨A, cp, rfl⟩ := cL_form m1
  obtain ⟨-, hcp, hm⟩ := cL_len m1
  have hnl := cset_len hn
  clear h
  obtain ⟨n, hxn⟩ : ∃ n, x.caches.length = n := ⟨_, rfl⟩
  have HN := Lib.hid hxn
  rw [hxn] at hcp hnl ⊢
  clear hxn
  unfold maxLen at hm
  go_enter Try.func92, Try.ntmps92
  go_wp2
  generalize hW : World.alloc _ _ = W
  have hWs : W.heap.size = w.heap.size + 3 := by rw [← hW]; clear hW; simp
  have hbW : Below w.heap.size w W := by rw [← hW]; exact (by repeat (first | with_reducible exact Below.refl _ _ | with_reducible assumption | with_reducible refine bel_alloc ?_ _ | with_reducible refine bel_drew ?_ | with_reducible refine bel_drewN ?_ _ | (with_reducible refine bel_set ?_ ?_ _; rotate_left; ((try simp); (try omega)))))
  have HK := Lib.hid (show W.cell? ⟨w.heap.size, 0, none⟩ = some (.slice A n cp) ∧ W.cell? ⟨w.heap.size + 1, 0, none⟩ = some (.slice none 0 0) ∧ W.cell? ⟨w.heap.size + 1 + 1, 0, none⟩ = some (.slice none 0 0) from by refine ⟨?_, ?_, ?_⟩ <;> (rw [← hW]; clear hW; go_simp))
  have HZ0 : W.frozen? ⟨w.heap.size + 1, 0, none⟩ = false := by rw [← hW]; clear hW; go_simp
  have HZ1 : W.frozen? ⟨w.heap.size + 1 + 1, 0, none⟩ = false := by rw [← hW]; clear hW; go_simp
  clear hW
  have hfz : W.frozen? ⟨w.heap.size + 1 + 1, 0, none⟩ = false := HZ1
  go_loopw [13] (fun i wr => ∃ k : Nat, k ≤ n ∧ i = .int .i64 k ∧ BoxRow cCacheO 125 W wr (w.heap.size + 1 + 1) 0 (x.caches.take k)) (fun i _ => n - (intOf i).toNat)
  case atStart => exact ⟨0, Nat.zero_le _, rfl, BoxRow.start HK.out.2.2⟩
  case round =>
    obtain ⟨k, hk, rfl, vE, Fi, HB⟩ := hrel
    obtain ⟨Ae, ce, hve⟩ := HB.own.slice
    subst hve
    have hlk : (x.caches.take k).length = k := by rw [List.length_take, HN.out]; omega
    rw [hlk] at HB
    clear hlk
    have hE := HB.cell
    have hfr := (HB.fz 0).trans hfz
    have hz9 := HB.only.size
    have hbw : Below w.heap.size w wr := hbW.trans ((HB.only.bel w.heap.size (by omega) (fun y hy => by simp at hy; omega)).mono (Nat.le_refl _))
    have b0 : wr.cell? ⟨w.heap.size, 0, none⟩ = some (.slice A n cp) := (World.cell?_of_block (HB.only.block w.heap.size (by omega) (by intro hm9; simp at hm9; omega))).trans HK.out.1
    have hws : w.heap.size < wr.heap.size := by omega
    have hws2 : w.heap.size + 1 + 1 < wr.heap.size := by omega
    have hHB := Lib.hid HB
    by_cases hlt : k < n
    · have hkx : k < x.caches.length := by rw [HN.out]; exact hlt
      obtain ⟨g, o, vs, F3, rfl, hgF, hx, -, hc⟩ := cL_get (hw := by decide) (hw2 := by decide) m1 hkx
      obtain ⟨v5, F4, rfl, -, hok5, m5⟩ := TCache.out hx
      obtain ⟨A5, c5, e5⟩ := cL_form m5
      subst e5
      obtain ⟨-, hcp5, hm5⟩ := cL_len m5
      have hgw : g < w.heap.size := Cod.lt _ m1 g hgF
      have q0 := (hbw.cell (p := ⟨g, o + k * 2, none⟩) hgw).trans ((hc 0 _ rfl).1)
      have q1 := (hbw.cell (p := ⟨g, o + k * 2 + 1, none⟩) hgw).trans ((hc 1 _ rfl).1)
      clear hc hx
      have hgr : g < wr.heap.size := by omega
      have hgn : ¬ g = wr.heap.size := by omega
      have hki : ((k : Int) < (n : Int)) := by omega
      have hzr := cset_cache hn hkx
      have hnl5 := cache_len hzr
      have hnlk : k + 1 ≤ 1048577 := by omega
      obtain ⟨m, hxm⟩ : ∃ m, x.caches[k].entries.length = m := ⟨_, rfl⟩
      have HM := Lib.hid hxm
      rw [hxm] at hcp5 hnl5 q1
      clear hxm
      unfold maxLen at hm5
      clear HB
      go_wp2
      generalize hV : World.alloc _ _ = V
      have hVs : V.heap.size = wr.heap.size + 2 := by rw [← hV]; clear hV; simp
      have hbV : Below wr.heap.size wr V := by rw [← hV]; exact (by repeat (first | with_reducible exact Below.refl _ _ | with_reducible assumption | with_reducible refine bel_alloc ?_ _ | with_reducible refine bel_drew ?_ | with_reducible refine bel_drewN ?_ _ | (with_reducible refine bel_set ?_ ?_ _; rotate_left; ((try simp); (try omega)))))
      have y0 : V.cell? ⟨wr.heap.size + 1, 0, none⟩ = some (.int .i64 x.caches[k].ver) := by rw [← hV]; clear hV; go_simp
      have y1 : V.cell? ⟨wr.heap.size + 1, 1, none⟩ = some (.slice none 0 0) := by rw [← hV]; clear hV; go_simp
      have z1 : V.frozen? ⟨wr.heap.size + 1, 1, none⟩ = false := by rw [← hV]; clear hV; go_simp
      clear hV
      have HY := Lib.hid (And.intro y0 (And.intro y1 z1))
      clear y0 y1 z1
      obtain ⟨wo, rfl⟩ : ∃ wo : World, wo = wr := ⟨_, rfl⟩
      go_loopw [23] (fun i wi => ∃ j : Nat, j ≤ m ∧ i = .int .i64 j ∧ BoxRow cCached 129 V wi (wo.heap.size + 1) 1 (x.caches[k].entries.take j)) (fun i _ => m - (intOf i).toNat)
      case atStart => exact ⟨0, Nat.zero_le _, rfl, BoxRow.start HY.out.2.1⟩
      case round =>
        obtain ⟨j, hj, rfl, vX, FiX, HX⟩ := hrel
        obtain ⟨Ax, cx, hvx⟩ := HX.own.slice
        subst hvx
        have hlj : (x.caches[k].entries.take j).length = j := by rw [List.length_take, HM.out]; omega
        rw [hlj] at HX
        clear hlj
        have hX1 := HX.cell
        have hfx := (HX.fz 1).trans HY.out.2.2
        have hX0 := (HX.oth 0 (by decide)).trans HY.out.1
        have hzi := HX.only.size
        have hbi : Below wo.heap.size wo wr := hbV.trans ((HX.only.bel wo.heap.size (by omega) (fun y hy => by simp at hy; omega)).mono (Nat.le_refl _))
        have hbwi : Below w.heap.size w wr := bel_then hbw hbi
        have hwsi : wo.heap.size + 1 < wr.heap.size := by omega
        have hwsj : w.heap.size + 1 + 1 < wr.heap.size := by omega
        have hHX := Lib.hid HX
        by_cases hltj : j < m
        · have hjx : j < x.caches[k].entries.length := by rw [HM.out]; exact hltj
          obtain ⟨g2, o2, vs2, F5, rfl, hgF2, hx2, -, hc2⟩ := cL_get (hw := by decide) (hw2 := by decide) m5 hjx
          obtain ⟨v7, F7, rfl, -, hok7, m7⟩ := TCached.out hx2
          obtain ⟨A7, c7, e7⟩ := cL_form m7
          subst e7
          have hgw2 : g2 < w.heap.size := Cod.lt _ m5 g2 hgF2
          have r0 := (hbwi.cell (p := ⟨g2, o2 + j * 7, none⟩) hgw2).trans ((hc2 0 _ rfl).1)
          have r1 := (hbwi.cell (p := ⟨g2, o2 + j * 7 + 1, none⟩) hgw2).trans ((hc2 1 _ rfl).1)
          have r2 := (hbwi.cell (p := ⟨g2, o2 + j * 7 + 2, none⟩) hgw2).trans ((hc2 2 _ rfl).1)
          have r3 := (hbwi.cell (p := ⟨g2, o2 + j * 7 + 3, none⟩) hgw2).trans ((hc2 3 _ rfl).1)
          have r4 := (hbwi.cell (p := ⟨g2, o2 + j * 7 + 4, none⟩) hgw2).trans ((hc2 4 _ rfl).1)
          have r5 := (hbwi.cell (p := ⟨g2, o2 + j * 7 + 5, none⟩) hgw2).trans ((hc2 5 _ rfl).1)
          have r6 := (hbwi.cell (p := ⟨g2, o2 + j * 7 + 6, none⟩) hgw2).trans ((hc2 6 _ rfl).1)
          clear hc2 hx2
          have hgr2 : g2 < wr.heap.size := by omega
          have hgn2 : ¬ g2 = wr.heap.size := by omega
          have hji : ((j : Int) < (m : Int)) := by omega
          have hokr := TCached.sub hok7
          have hzr2 := cache_resp hzr hjx
          clear HX hX0
          go_wp2_with fail
          refine (implCopyResp_any _ x.caches[k].entries[j].resp _ _ (by exact TResp.mk_ hokr (Cod.bel m7 (by repeat (first | with_reducible exact Below.refl _ _ | with_reducible assumption | with_reducible refine bel_alloc ?_ _ | with_reducible refine bel_drew ?_ | with_reducible refine bel_drewN ?_ _ | (with_reducible refine bel_set ?_ ?_ _; rotate_left; ((try simp); (try omega))))))) hzr2).mono ?_
          rintro e w1 ⟨vs1, G1, rfl, hb1, hrep1, hf1⟩
          obtain ⟨v6, _, rfl, rfl, hok6, n6⟩ := TResp.outA hrep1
          obtain ⟨B6, d6, rfl⟩ := cL_form n6
          have hzz := hb1.size
          (try simp at hzz)
          have hs1 : wr.heap.size < w1.heap.size := by omega
          obtain ⟨hc1, hff1, -⟩ := bcell hb1
          have hbr1 : Below wr.heap.size wr w1 := bel_then (by repeat (first | with_reducible exact Below.refl _ _ | with_reducible assumption | with_reducible refine bel_alloc ?_ _ | with_reducible refine bel_drew ?_ | with_reducible refine bel_drewN ?_ _ | (with_reducible refine bel_set ?_ ?_ _; rotate_left; ((try simp); (try omega))))) hb1
          have hnb : ∀ b, b ∈ G1 → wr.heap.size + 1 ≤ b ∧ b < w1.heap.size := fun b hb => ⟨by have := hf1.1 b hb; (try simp at this); omega, Cod.lt _ n6 b hb⟩
          have hE1 : w1.cell? ⟨wo.heap.size + 1, 1, none⟩ = some (.slice Ax j cx) := (hbr1.cell (p := ⟨wo.heap.size + 1, 1, none⟩) hwsi).trans hX1
          have hfr1 : w1.frozen? ⟨wo.heap.size + 1, 1, none⟩ = false := (hbr1.frozen (p := ⟨wo.heap.size + 1, 1, none⟩) hwsi).trans hfx
          have hwn : ¬ wr.heap.size = wo.heap.size + 1 := by omega
          have hwn2 : ¬ wo.heap.size + 1 = wr.heap.size := by omega
          have hws3 : wo.heap.size + 1 < w1.heap.size := by omega
          have hnlj : j + 1 ≤ 1048577 := by omega
          clear hb1 hrep1
          go_wp2_with (at_builtin; refine stop_ ?_)
          refine Stop.go ?_
          refine wpList_box (c := cCached) (ys := [x.caches[k].entries[j]]) (G := G1) rfl _ _ _ rfl j0 _ _ Try.underlying123 hj0 jz0 jz1 jz2 rfl (by decide) rfl (.slice (some ⟨w1.heap.size, 0, none⟩) 1 1) rfl (by omega) hHX.out ?hbel (hf1.mono (by (try simp); (try omega))) ?hGl ?hsrc (j + 1) ?hm9 ?h1 ?h2 ?h3
          case hbel => exact (by repeat (first | with_reducible exact Below.refl _ _ | with_reducible assumption | with_reducible refine bel_alloc ?_ _ | with_reducible refine bel_drew ?_ | with_reducible refine bel_drewN ?_ _ | (with_reducible refine bel_set ?_ ?_ _; rotate_left; ((try simp); (try omega)))))
          case hGl => (intro b hb; have h9 := hnb b hb; (try simp); omega)
          case hsrc => exact src_new _ _ (by simp) (TCached.mk_ (x := x.caches[k].entries[j]) hok7 (by repeat (first | with_reducible exact n6 | with_reducible refine Cod.allocA ?_ _ | with_reducible refine Cod.drewA ?_ | with_reducible refine Cod.drewNA ?_ _ | ((with_reducible refine Cod.setA ?_ ?_ _); rotate_left; ((intro hm9; have hm8 := hnb _ hm9; (try simp at hm8); (try omega)))))))
          case hm9 => (have h9 := HM.out; simp only [List.length_append, List.length_take, List.length_singleton]; omega)
          case h1 => (unfold maxLen; omega)
          case h2 => omega
          intro A2 c2 w2 HA
          rw [take_next hjx] at HA
          have hX := HA.cell
          have hXf := (HA.fz 1).trans HY.out.2.2
          have hs4 := HA.size
          (try simp at hs4)
          have HR := Lib.hid HA.row
          clear HA
          have hsz2 : wo.heap.size + 1 < w2.heap.size := by omega
          go_wp2_with fail
          go_roundw
          case rel => exact ⟨j + 1, by omega, by go_num, HR.out⟩
          case measure => simp [intOf]; omega
        · obtain rfl : j = m := by omega
          have htl : x.caches[k].entries.take j = x.caches[k].entries := List.take_of_length_le (by rw [HM.out]; exact Nat.le_refl _)
          have hownX := HX.own
          rw [htl] at hownX
          obtain ⟨hrepX, hffX⟩ := hownX.toO (hw2 := by decide) HX.fresh HX.ne
          have hltX := Cod.lt _ hrepX
          have hEi : wr.cell? ⟨w.heap.size + 1 + 1, 0, none⟩ = some (.slice Ae k ce) := (hbi.cell (p := ⟨w.heap.size + 1 + 1, 0, none⟩) hws2).trans hE
          have hfi : wr.frozen? ⟨w.heap.size + 1 + 1, 0, none⟩ = false := (hbi.frozen (p := ⟨w.heap.size + 1 + 1, 0, none⟩) hws2).trans hfr
          have HRX := Lib.hid hrepX
          clear HX hownX hrepX htl
          go_wp2_with (at_builtin; refine stop_ ?_)
          refine Stop.go ?_
          refine wpList_box (c := cCacheO) (ys := [x.caches[k]]) (G := ownL (.slice Ax j cx) ++ FiX) rfl _ _ _ rfl i0 _ _ Try.underlying70 hi0 hz0 hz1 hz2 rfl (by decide) rfl (.slice (some ⟨wr.heap.size, 0, none⟩) 1 1) rfl (by omega) hHB.out ?hbel2 (hffX.mono (by omega)) ?hGl2 ?hsrc2 (k + 1) ?hm92 ?h12 ?h22 ?h32
          case hbel2 => exact bel_then hbi (by repeat (first | with_reducible exact Below.refl _ _ | with_reducible assumption | with_reducible refine bel_alloc ?_ _ | with_reducible refine bel_drew ?_ | with_reducible refine bel_drewN ?_ _ | (with_reducible refine bel_set ?_ ?_ _; rotate_left; ((try simp); (try omega)))))
          case hGl2 => (intro b hb; have h9 := hltX b hb; (try simp); omega)
          case hsrc2 => exact src_new (vs := #[_, _]) _ _ rfl (TCache.mkO hok5 HRX.out)
          case hm92 => (have h9 := HN.out; simp only [List.length_append, List.length_take, List.length_singleton]; omega)
          case h12 => (unfold maxLen; omega)
          case h22 => omega
          intro A2 c2 w2 HA
          rw [take_next hkx] at HA
          have hX := HA.cell
          have hXf := (HA.fz 0).trans hfz
          have hs4 := HA.size
          (try simp at hs4)
          have HR := Lib.hid HA.row
          clear HA
          have hsz2 : w.heap.size + 1 + 1 < w2.heap.size := by omega
          go_wp2_with fail
          go_roundw
          case rel => exact ⟨k + 1, by omega, by go_num, HR.out⟩
          case measure => simp [intOf]; omega
    · obtain rfl : k = n := by omega
      have hb9 := HB.only.block (w.heap.size + 1) (by omega) (by simp)
      have d0 : wr.cell? ⟨w.heap.size + 1, 0, none⟩ = some (.slice none 0 0) := (World.cell?_of_block hb9).trans HK.out.2.1
      have f0 : wr.frozen? ⟨w.heap.size + 1, 0, none⟩ = false := (World.frozen?_of_block hb9).trans HZ0
      have hws1 : w.heap.size + 1 < wr.heap.size := by omega
      have htl : x.caches.take k = x.caches := List.take_of_length_le (by rw [HN.out]; exact Nat.le_refl _)
      have hown := HB.own
      rw [htl] at hown
      obtain ⟨hrep, hff⟩ := hown.toO (hw2 := by decide) HB.fresh HB.ne
      have hlow : ∀ b, b ∈ ownL (.slice Ae k ce) ++ Fi → W.heap.size ≤ b := hff.1
      have HRP := Lib.hid hrep
      clear HB hown hrep htl hb9
      go_wp2_with fail
      refine bodyPost_ret (v := .agg #[.slice Ae k ce]) (by simp [results, Try.results92, go_sem, *]) rfl ?_
      have hfin : cCachesO.rep wr [.slice Ae k ce] x.caches (ownL (.slice Ae k ce) ++ Fi) := HRP.out
      exact ⟨_, _, rfl, (by repeat (first | with_reducible exact Below.refl _ _ | with_reducible assumption | with_reducible refine bel_alloc ?_ _ | with_reducible refine bel_drew ?_ | with_reducible refine bel_drewN ?_ _ | (with_reducible refine bel_set ?_ ?_ _; rotate_left; ((try simp); (try omega))))), TCSet.mkO (by repeat (first | with_reducible exact hfin | with_reducible refine Cod.allocA ?_ _ | with_reducible refine Cod.drewA ?_ | with_reducible refine Cod.drewNA ?_ _ | ((with_reducible refine Cod.setA ?_ ?_ _); rotate_left; ((intro hm9; have hm8 := hlow _ hm9; (try simp at hm8); (try omega)))))), hff.mono (by omega)⟩
end Go.Proofs.Ytlicnppfgfjkgaa
