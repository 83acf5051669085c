/-
  A set of caches copied: l17Copy of the reference. No conditions.
-/
import Derived.Test.YtlicnppfgfjkgaaZCopyCache
import Derived.Test.YtlicnppfgfjkgaaZRegT
namespace Go.Proofs.Ytlicnppfgfjkgaa
open Go.ChangeShapes Go.WideShapes Go.RowKit
set_option linter.unusedVariables false

theorem infoCache : (Try.prog.info? 125).map (fun i => (i.zero, i.size, i.bytes)) = some (some (Value.agg #[.int .i64 0, .slice none 0 0]), 2, 32) := by kernel_rfl
theorem cset_len {x : TCSet} (hn : cCSet.sz x ≤ 1048576) : x.caches.length ≤ 1048576 := by
  have h1 := Cod.len_le cCache x.caches
  have h3 : cCSet.sz x = Cod.szs cCache x.caches := rfl
  omega
theorem cset_cache {x : TCSet} (hn : cCSet.sz x ≤ 1048576) {k : Nat} (hk : k < x.caches.length) : cCache.sz x.caches[k] ≤ 1048576 := by
  have h1 := Cod.sz_mem cCache x.caches _ (List.getElem_mem hk)
  have h3 : cCSet.sz x = Cod.szs cCache x.caches := rfl
  omega
set_option maxRecDepth 100000 in
set_option maxHeartbeats 2000000 in
theorem specCopySet_any (vs : Array Value) (x : TCSet) (F : List Nat) (w : World) (h : cCSet.rep w vs.toList x F) (hn : cCSet.sz x ≤ 1048576) :
    Calls Try.prog 95 #[.agg vs] w (GivesR cCSetO w x) := by
  obtain ⟨i0, hi0, hz0, hz1, hz2⟩ := info_parts infoCache
  obtain ⟨v1, F1, rfl, -, -, m1⟩ := TCSet.outA h
  obtain ⟨A, cp, rfl⟩ := cL_form m1
  obtain ⟨-, hcp, hm⟩ := cL_len m1
  have hnl := cset_len hn
  clear h
  obtain ⟨n, hxn⟩ : ∃ n, x.caches.length = n := ⟨_, rfl⟩
  have HN := Lib.hid hxn
  rw [hxn] at hcp hnl ⊢
  clear hxn
  unfold maxLen at hm
  go_enter Try.func95, Try.ntmps95
  go_wp2
  generalize hW : World.alloc _ _ = W
  have hWs : W.heap.size = w.heap.size + 3 := by rw [← hW]; clear hW; simp
  have hbW : Below w.heap.size w W := by rw [← hW]; exact (by repeat (first | with_reducible exact Below.refl _ _ | with_reducible assumption | with_reducible refine bel_alloc ?_ _ | with_reducible refine bel_drew ?_ | with_reducible refine bel_drewN ?_ _ | (with_reducible refine bel_set ?_ ?_ _; rotate_left; ((try simp); (try omega)))))
  have HK := Lib.hid (show W.cell? ⟨w.heap.size, 0, none⟩ = some (.slice A n cp) ∧ W.cell? ⟨w.heap.size + 1, 0, none⟩ = some (.slice none 0 0) ∧ W.cell? ⟨w.heap.size + 1 + 1, 0, none⟩ = some (.slice none 0 0) from by refine ⟨?_, ?_, ?_⟩ <;> (rw [← hW]; clear hW; go_simp))
  have HZ0 : W.frozen? ⟨w.heap.size + 1, 0, none⟩ = false := by rw [← hW]; clear hW; go_simp
  have HZ1 : W.frozen? ⟨w.heap.size + 1 + 1, 0, none⟩ = false := by rw [← hW]; clear hW; go_simp
  clear hW
  have hfz : W.frozen? ⟨w.heap.size + 1 + 1, 0, none⟩ = false := HZ1
  go_loopw [4] (fun i wr => ∃ k : Nat, k ≤ n ∧ i = .int .i64 k ∧ BoxRow cCacheO 125 W wr (w.heap.size + 1 + 1) 0 (x.caches.take k)) (fun i _ => n - (intOf i).toNat)
  case atStart => exact ⟨0, Nat.zero_le _, rfl, BoxRow.start HK.out.2.2⟩
  case round =>
    obtain ⟨k, hk, rfl, vE, Fi, HB⟩ := hrel
    obtain ⟨Ae, ce, hve⟩ := HB.own.slice
    subst hve
    have hlk : (x.caches.take k).length = k := by rw [List.length_take, HN.out]; omega
    rw [hlk] at HB
    clear hlk
    have hE := HB.cell
    have hfr := (HB.fz 0).trans hfz
    have hz9 := HB.only.size
    have hbw : Below w.heap.size w wr := hbW.trans ((HB.only.bel w.heap.size (by omega) (fun y hy => by simp at hy; omega)).mono (Nat.le_refl _))
    have b0 : wr.cell? ⟨w.heap.size, 0, none⟩ = some (.slice A n cp) := (World.cell?_of_block (HB.only.block w.heap.size (by omega) (by intro hm9; simp at hm9; omega))).trans HK.out.1
    have hws : w.heap.size < wr.heap.size := by omega
    have hws2 : w.heap.size + 1 + 1 < wr.heap.size := by omega
    have hHB := Lib.hid HB
    by_cases hlt : k < n
    · have hkx : k < x.caches.length := by rw [HN.out]; exact hlt
      obtain ⟨g, o, vs, F3, rfl, hgF, hx, -, hc⟩ := cL_get (hw := by decide) (hw2 := by decide) m1 hkx
      obtain ⟨v5, F4, rfl, -, hok5, m5⟩ := TCache.out hx
      obtain ⟨A5, c5, e5⟩ := cL_form m5
      subst e5
      have hgw : g < w.heap.size := Cod.lt _ m1 g hgF
      have q0 := (hbw.cell (p := ⟨g, o + k * 2, none⟩) hgw).trans ((hc 0 _ rfl).1)
      have q1 := (hbw.cell (p := ⟨g, o + k * 2 + 1, none⟩) hgw).trans ((hc 1 _ rfl).1)
      clear hc hx
      have hgr : g < wr.heap.size := by omega
      have hki : ((k : Int) < (n : Int)) := by omega
      have hzr := cset_cache hn hkx
      have hS : ∀ w9, Below wr.heap.size wr w9 → Below wr.heap.size wr w9 ∧ w9.cell? ⟨w.heap.size + 1 + 1, 0, none⟩ = some (.slice Ae k ce) ∧ w9.cell? ⟨w.heap.size, 0, none⟩ = some (.slice (some ⟨g, o, none⟩) n cp) ∧ w9.cell? ⟨g, o + k * 2, none⟩ = some (.int .i64 x.caches[k].ver) ∧ w9.cell? ⟨g, o + k * 2 + 1, none⟩ = some (.slice A5 x.caches[k].entries.length c5) :=
        fun w9 hb => ⟨hb, (hb.cell (p := ⟨w.heap.size + 1 + 1, 0, none⟩) hws2).trans hE, (hb.cell (p := ⟨w.heap.size, 0, none⟩) hws).trans b0, (hb.cell (p := ⟨g, o + k * 2, none⟩) hgr).trans q0, (hb.cell (p := ⟨g, o + k * 2 + 1, none⟩) hgr).trans q1⟩
      have hnlk : k + 1 ≤ 1048577 := by omega
      clear HB hE
      go_wp2_with fail
      refine wp_regionT (S := (fun w9 => Below wr.heap.size wr w9 ∧ w9.cell? ⟨w.heap.size + 1 + 1, 0, none⟩ = some (.slice Ae k ce) ∧ w9.cell? ⟨w.heap.size, 0, none⟩ = some (.slice (some ⟨g, o, none⟩) n cp) ∧ w9.cell? ⟨g, o + k * 2, none⟩ = some (.int .i64 x.caches[k].ver) ∧ w9.cell? ⟨g, o + k * 2 + 1, none⟩ = some (.slice A5 x.caches[k].entries.length c5))) [9, 10, 11] (by kernel_rfl) (by (try dsimp only); exact hS _ (by repeat (first | with_reducible exact Below.refl _ _ | with_reducible assumption | with_reducible refine bel_alloc ?_ _ | with_reducible refine bel_drew ?_ | with_reducible refine bel_drewN ?_ _ | (with_reducible refine bel_set ?_ ?_ _; rotate_left; ((try simp); (try omega)))))) (fun hHeld => ?_)
      refine takeT_read (i := 0) 12 13 (v := ?v0) rfl rfl (by kernel_rfl) (by kernel_rfl) (by kernel_rfl) (by kernel_rfl) (by kernel_rfl) (by kernel_rfl) (fun _ _ _ h => h) (by rfl) ?hy0 (by assumption) ?rest0
      case hy0 => (intro w hSw; (try dsimp only at hSw); go_simp; (try with_reducible rfl))
      try simp only [Act.put, List.setIfInBounds_toArray, List.set_cons_zero, List.set_cons_succ]
      refine takeT_read (i := 1) 12 14 (v := ?v1) rfl rfl (by kernel_rfl) (by kernel_rfl) (by kernel_rfl) (by kernel_rfl) (by kernel_rfl) (by kernel_rfl) (fun _ _ _ h => h) (by rfl) ?hy1 (by assumption) ?rest1
      case hy1 => (intro w hSw; (try dsimp only at hSw); go_simp; (try with_reducible rfl))
      try simp only [Act.put, List.setIfInBounds_toArray, List.set_cons_zero, List.set_cons_succ]
      refine takeT_read (i := 2) 12 15 (v := ?v2) rfl rfl (by kernel_rfl) (by kernel_rfl) (by kernel_rfl) (by kernel_rfl) (by kernel_rfl) (by kernel_rfl) (fun _ _ _ h => h) (by rfl) ?hy2 (by assumption) ?rest2
      case hy2 => (intro w hSw; (try dsimp only at hSw); go_simp; (try with_reducible rfl))
      try simp only [Act.put, List.setIfInBounds_toArray, List.set_cons_zero, List.set_cons_succ]
      refine takeT_read (i := 3) 12 16 (v := ?v3) rfl rfl (by kernel_rfl) (by kernel_rfl) (by kernel_rfl) (by kernel_rfl) (by kernel_rfl) (by kernel_rfl) (fun _ _ _ h => h) (by rfl) ?hy3 (by assumption) ?rest3
      case hy3 => (intro w hSw; (try dsimp only at hSw); go_simp; (try with_reducible rfl))
      try simp only [Act.put, List.setIfInBounds_toArray, List.set_cons_zero, List.set_cons_succ]
      refine takeT_read (i := 4) 12 17 (v := ?v4) rfl rfl (by kernel_rfl) (by kernel_rfl) (by kernel_rfl) (by kernel_rfl) (by kernel_rfl) (by kernel_rfl) (fun _ _ _ h => h) (by rfl) ?hy4 (by assumption) ?rest4
      case hy4 => (intro w hSw; (try dsimp only at hSw); go_simp; (try with_reducible rfl))
      try simp only [Act.put, List.setIfInBounds_toArray, List.set_cons_zero, List.set_cons_succ]
      refine takeT_read (i := 5) 12 18 (v := ?v5) rfl rfl (by kernel_rfl) (by kernel_rfl) (by kernel_rfl) (by kernel_rfl) (by kernel_rfl) (by kernel_rfl) (fun _ _ _ h => h) (by rfl) ?hy5 (by assumption) ?rest5
      case hy5 => (intro w hSw; (try dsimp only at hSw); go_simp; (try with_reducible rfl))
      try simp only [Act.put, List.setIfInBounds_toArray, List.set_cons_zero, List.set_cons_succ]
      refine takeT_read (i := 6) 12 19 (v := ?v6) rfl rfl (by kernel_rfl) (by kernel_rfl) (by kernel_rfl) (by kernel_rfl) (by kernel_rfl) (by kernel_rfl) (fun _ _ _ h => h) (by rfl) ?hy6 (by assumption) ?rest6
      case hy6 => (intro w hSw; (try dsimp only at hSw); go_simp; (try with_reducible rfl))
      try simp only [Act.put, List.setIfInBounds_toArray, List.set_cons_zero, List.set_cons_succ]
      refine stepT 7 (by kernel_rfl) rfl (fun K hK => ?_)
      go_simp
      (go_at_call 141; refine (specCopyCache_any _ x.caches[k] _ _ (by exact TCache.mk_ hok5 (Cod.bel m5 (bel_then hbw (by repeat (first | with_reducible exact Below.refl _ _ | with_reducible assumption | with_reducible refine bel_alloc ?_ _ | with_reducible refine bel_drew ?_ | with_reducible refine bel_drewN ?_ _ | (with_reducible refine bel_set ?_ ?_ _; rotate_left; ((try simp); (try omega)))))))) hzr).mono ?_; rintro e w1 ⟨vs1, G1, rfl, hb1, hrep1, hf1⟩; obtain ⟨B6, d6, e6, hok6, n6⟩ := TCache.outO hrep1; obtain rfl := Array.toList_inj.1 (e6 : _ = (#[_, _] : Array Value).toList); have hbr1 : Below wr.heap.size wr w1 := bel_then (by repeat (first | with_reducible exact Below.refl _ _ | with_reducible assumption | with_reducible refine bel_alloc ?_ _ | with_reducible refine bel_drew ?_ | with_reducible refine bel_drewN ?_ _ | (with_reducible refine bel_set ?_ ?_ _; rotate_left; ((try simp); (try omega))))) hb1)
      try go_wp2_with fail
      refine hK.out _ _ ?_ (fun hHeld => ?_)
      · (try dsimp only)
        exact hS _ (by repeat (first | with_reducible exact Below.refl _ _ | with_reducible assumption | with_reducible refine bel_alloc ?_ _ | with_reducible refine bel_drew ?_ | with_reducible refine bel_drewN ?_ _ | (with_reducible refine bel_set ?_ ?_ _; rotate_left; ((try simp); (try omega)))))
      clear hK K
      refine stepT 8 (by kernel_rfl) rfl (fun K hK => ?_)
      first | (go_at_call 141; refine (specCopyCache_any _ x.caches[k] _ _ (by exact TCache.mk_ hok5 (Cod.bel m5 (bel_then hbw (by repeat (first | with_reducible exact Below.refl _ _ | with_reducible assumption | with_reducible refine bel_alloc ?_ _ | with_reducible refine bel_drew ?_ | with_reducible refine bel_drewN ?_ _ | (with_reducible refine bel_set ?_ ?_ _; rotate_left; ((try simp); (try omega)))))))) hzr).mono ?_; rintro e w1 ⟨vs1, G1, rfl, hb1, hrep1, hf1⟩; obtain ⟨B6, d6, e6, hok6, n6⟩ := TCache.outO hrep1; obtain rfl := Array.toList_inj.1 (e6 : _ = (#[_, _] : Array Value).toList); have hbr1 : Below wr.heap.size wr w1 := bel_then (by repeat (first | with_reducible exact Below.refl _ _ | with_reducible assumption | with_reducible refine bel_alloc ?_ _ | with_reducible refine bel_drew ?_ | with_reducible refine bel_drewN ?_ _ | (with_reducible refine bel_set ?_ ?_ _; rotate_left; ((try simp); (try omega))))) hb1) | go_simp
      refine hK.out _ _ ?_ (fun hHeld => ?_)
      · (try dsimp only)
        exact hS _ (by repeat (first | with_reducible exact Below.refl _ _ | with_reducible assumption | with_reducible refine bel_alloc ?_ _ | with_reducible refine bel_drew ?_ | with_reducible refine bel_drewN ?_ _ | (with_reducible refine bel_set ?_ ?_ _; rotate_left; ((try simp); (try omega)))))
      clear hK K
      refine stepT_end 9 (by kernel_rfl) rfl (by kernel_rfl) (fun K hK => ?_)
      (refine step_box (c := cCacheO) (ys := [x.caches[k]]) (G := G1) rfl _ _ _ rfl i0 _ _ Try.underlying70 hi0 hz0 hz1 hz2 rfl (by decide) rfl (.slice (some ⟨w1.heap.size, 0, none⟩) 1 1) rfl (by omega) hHB.out (by repeat (first | with_reducible exact Below.refl _ _ | with_reducible assumption | with_reducible refine bel_alloc ?_ _ | with_reducible refine bel_drew ?_ | with_reducible refine bel_drewN ?_ _ | (with_reducible refine bel_set ?_ ?_ _; rotate_left; ((try simp); (try omega))))) (hf1.mono (by (try simp); (try omega))) (fun b hb => by have h9 := Cod.lt _ n6 b hb; (try simp); omega) (src_new (vs := #[_, _]) _ _ (by simp) (TCache.mkO hok6 n6)) (k + 1) (by have h9 := HN.out; simp only [List.length_append, List.length_take, List.length_singleton]; omega) (by unfold maxLen; omega) (by omega) ?_; intro A2 c2 w2 HA; rw [take_next hkx] at HA; have hX := HA.cell; have hXf := (HA.fz 0).trans hfz; have HR := Lib.hid HA.row; clear HA)
      refine hK.out _ _ ?_
      clear hK K
      refine stepT_end 10 (by kernel_rfl) rfl (by kernel_rfl) (fun K hK => ?_)
      go_simp
      refine hK.out _ _ ?_
      clear hK K
      refine stepT_end 11 (by kernel_rfl) rfl (by kernel_rfl) (fun K hK => ?_)
      go_simp
      refine hK.out _ _ ?_
      clear hK K
      refine doneT (by kernel_rfl) ?_ _
      go_wp2_with fail
      go_roundw
      case rel => exact ⟨k + 1, by omega, by go_num, HR.out⟩
      case measure => simp [intOf]; omega
    · obtain rfl : k = n := by omega
      have hb9 := HB.only.block (w.heap.size + 1) (by omega) (by simp)
      have d0 : wr.cell? ⟨w.heap.size + 1, 0, none⟩ = some (.slice none 0 0) := (World.cell?_of_block hb9).trans HK.out.2.1
      have f0 : wr.frozen? ⟨w.heap.size + 1, 0, none⟩ = false := (World.frozen?_of_block hb9).trans HZ0
      have hws1 : w.heap.size + 1 < wr.heap.size := by omega
      have htl : x.caches.take k = x.caches := List.take_of_length_le (by rw [HN.out]; exact Nat.le_refl _)
      have hown := HB.own
      rw [htl] at hown
      obtain ⟨hrep, hff⟩ := hown.toO (hw2 := by decide) HB.fresh HB.ne
      have hlow : ∀ b, b ∈ ownL (.slice Ae k ce) ++ Fi → W.heap.size ≤ b := hff.1
      have HRP := Lib.hid hrep
      clear HB hown hrep htl hb9
      go_wp2_with fail
      refine bodyPost_ret (v := .agg #[.slice Ae k ce]) (by simp [results, Try.results95, go_sem, *]) rfl ?_
      have hfin : cCachesO.rep wr [.slice Ae k ce] x.caches (ownL (.slice Ae k ce) ++ Fi) := HRP.out
      exact ⟨_, _, rfl, (by repeat (first | with_reducible exact Below.refl _ _ | with_reducible assumption | with_reducible refine bel_alloc ?_ _ | with_reducible refine bel_drew ?_ | with_reducible refine bel_drewN ?_ _ | (with_reducible refine bel_set ?_ ?_ _; rotate_left; ((try simp); (try omega))))), TCSet.mkO (by repeat (first | with_reducible exact hfin | with_reducible refine Cod.allocA ?_ _ | with_reducible refine Cod.drewA ?_ | with_reducible refine Cod.drewNA ?_ _ | ((with_reducible refine Cod.setA ?_ ?_ _); rotate_left; ((intro hm9; have hm8 := hlow _ hm9; (try simp at hm8); (try omega)))))), hff.mono (by omega)⟩
end Go.Proofs.Ytlicnppfgfjkgaa
