/-
  ServesVersion, VersionFor, Max and l1Next of the program and of the reference. No conditions.
-/
import Derived.Test.YtlicnppfgfjkgaaZSiteOk
import Derived.Test.YtlicnppfgfjkgaaZTReg
import Derived.Test.YtlicnppfgfjkgaaZB
namespace Go.Proofs.Ytlicnppfgfjkgaa
open Go.ChangeShapes Go.WideShapes Go.RowKit
set_option linter.unusedVariables false

def maxI (a b : Int) : Int := if a < b then b else a
theorem specMax_any (a b : Int) (w : World) : Calls Try.prog 84 #[.int .i64 a, .int .i64 b] w fun e w' => e = .returned (.int .i64 (maxI a b)) ∧ w = w' := by
  by_cases h : a < b
  · have HM := Lib.hid (show maxI a b = b by simp [maxI, h])
    go_enter Try.func84, Try.ntmps84
    go_wp2
    go_ret
    exact ⟨by rw [HM.out]; rfl, rfl⟩
  · have HM := Lib.hid (show maxI a b = a by simp [maxI, h])
    go_enter Try.func84, Try.ntmps84
    go_wp2
    go_ret
    exact ⟨by rw [HM.out]; rfl, rfl⟩
theorem serves_ints (a v : Int) : inR v (maxI 1 (a - 1)) a = (decide (a - 2 < v) && decide (v ≤ a) && decide (1 ≤ v)) := by
  have h : maxI 1 (a - 1) ≤ v ↔ (a - 2 < v ∧ 1 ≤ v) := by
    unfold maxI
    split
    · exact ⟨fun h => ⟨by omega, by omega⟩, fun h => by omega⟩
    · exact ⟨fun h => ⟨by omega, by omega⟩, fun h => by omega⟩
  rw [Bool.eq_iff_iff]
  simp only [inR, Bool.and_eq_true, decide_eq_true_eq, h]
  exact ⟨fun h => ⟨⟨h.1.1, h.2⟩, h.1.2⟩, fun h => ⟨⟨h.1.1, h.2⟩, h.1.2⟩⟩
def servesVersion (x : TSite) (v : Int) : Bool := isSite x && inR v (maxI 1 (x.ver - 1)) x.ver
theorem isSite_ver {x : TSite} (h : isSite x = true) : 1 ≤ x.ver ∧ x.ver ≤ 1000000000000 := by
  simp only [isSite, Bool.and_eq_true] at h
  exact inR_true h.1.2
set_option maxRecDepth 100000 in
set_option maxHeartbeats 4000000 in
theorem implServesVersion_any (vs : Array Value) (x : TSite) (F : List Nat) (v : Int) (w : World) (h : cSite.rep w vs.toList x F) (hn : cSite.sz x ≤ 1048576) (hv : -9223372036854775808 ≤ v ∧ v ≤ 9223372036854775807) :
    Calls Try.prog 29 #[.agg vs, .int .i64 v] w (Gives w (.bool (servesVersion x v))) := by
  have hr := h
  obtain ⟨v2, F2, rfl, -, hok, m2⟩ := TSite.outA h
  clear h
  obtain ⟨A, cp, e2⟩ := cL_form m2
  subst e2
  clear m2
  cases hsite : isSite x
  · have HE := Lib.hid (show servesVersion x v = false by simp [servesVersion, hsite])
    go_enter Try.func29, Try.ntmps29
    go_wp2_with (first | (go_at_call 77; refine (implIsSite_any _ x _ _ (by exact Cod.bel hr (by repeat (first | with_reducible exact Below.refl _ _ | with_reducible assumption | with_reducible refine bel_alloc ?_ _ | with_reducible refine bel_drew ?_ | with_reducible refine bel_drewN ?_ _ | (with_reducible refine bel_set ?_ ?_ _; rotate_left; ((try simp); (try omega)))))) hn).mono ?_; rintro e w1 ⟨rfl, hb1⟩; obtain ⟨hc1, hf1, hz1⟩ := bcell hb1; (try simp at hz1); have hs0 : w.heap.size < w1.heap.size := (by omega); have hB1 : Below w.heap.size w w1 := (bel_then (by repeat (first | with_reducible exact Below.refl _ _ | with_reducible assumption | with_reducible refine bel_alloc ?_ _ | with_reducible refine bel_drew ?_ | with_reducible refine bel_drewN ?_ _ | (with_reducible refine bel_set ?_ ?_ _; rotate_left; ((try simp); (try omega))))) hb1); clear hb1))
    go_ret
    exact ⟨by rw [HE.out]; rfl, (by repeat (first | with_reducible exact Below.refl _ _ | with_reducible assumption | with_reducible refine bel_alloc ?_ _ | with_reducible refine bel_drew ?_ | with_reducible refine bel_drewN ?_ _ | (with_reducible refine bel_set ?_ ?_ _; rotate_left; ((try simp); (try omega)))))⟩
  · have hb := isSite_ver hsite
    have HE := Lib.hid (show servesVersion x v = (decide (x.ver - 2 < v) && decide (v ≤ x.ver) && decide (1 ≤ v)) by rw [← serves_ints]; simp [servesVersion, hsite])
    go_enter Try.func29, Try.ntmps29
    go_wp2_with (first | (go_at_call 77; refine (implIsSite_any _ x _ _ (by exact Cod.bel hr (by repeat (first | with_reducible exact Below.refl _ _ | with_reducible assumption | with_reducible refine bel_alloc ?_ _ | with_reducible refine bel_drew ?_ | with_reducible refine bel_drewN ?_ _ | (with_reducible refine bel_set ?_ ?_ _; rotate_left; ((try simp); (try omega)))))) hn).mono ?_; rintro e w1 ⟨rfl, hb1⟩; obtain ⟨hc1, hf1, hz1⟩ := bcell hb1; (try simp at hz1); have hs0 : w.heap.size < w1.heap.size := (by omega); have hB1 : Below w.heap.size w w1 := (bel_then (by repeat (first | with_reducible exact Below.refl _ _ | with_reducible assumption | with_reducible refine bel_alloc ?_ _ | with_reducible refine bel_drew ?_ | with_reducible refine bel_drewN ?_ _ | (with_reducible refine bel_set ?_ ?_ _; rotate_left; ((try simp); (try omega))))) hb1); clear hb1))
    all_goals go_ret
    all_goals exact ⟨ret_bool (by rw [HE.out]; simp [*]; try omega), (by repeat (first | with_reducible exact Below.refl _ _ | with_reducible assumption | with_reducible refine bel_alloc ?_ _ | with_reducible refine bel_drew ?_ | with_reducible refine bel_drewN ?_ _ | (with_reducible refine bel_set ?_ ?_ _; rotate_left; ((try simp); (try omega)))))⟩
set_option maxRecDepth 100000 in
set_option maxHeartbeats 4000000 in
theorem specServesVersion_any (vs : Array Value) (x : TSite) (F : List Nat) (v : Int) (w : World) (h : cSite.rep w vs.toList x F) (hn : cSite.sz x ≤ 1048576) (hv : -9223372036854775808 ≤ v ∧ v ≤ 9223372036854775807) :
    Calls Try.prog 30 #[.agg vs, .int .i64 v] w (Gives w (.bool (servesVersion x v))) := by
  have hr := h
  obtain ⟨v2, F2, rfl, -, hok, m2⟩ := TSite.outA h
  clear h
  obtain ⟨A, cp, e2⟩ := cL_form m2
  subst e2
  clear m2
  cases hsite : isSite x
  · have HE := Lib.hid (show servesVersion x v = false by simp [servesVersion, hsite])
    have hcs := fun W hb => specIsSite_any _ x _ W (Cod.bel hr hb) hn
    rw [hsite] at hcs
    go_enter Try.func30, Try.ntmps30
    go_wp2_with fail
    generalize hW : World.alloc _ _ = W
    have hWs : W.heap.size = w.heap.size + 1 := by rw [← hW]; clear hW; simp
    have hbW : Below w.heap.size w W := by rw [← hW]; exact (by repeat (first | with_reducible exact Below.refl _ _ | with_reducible assumption | with_reducible refine bel_alloc ?_ _ | with_reducible refine bel_drew ?_ | with_reducible refine bel_drewN ?_ _ | (with_reducible refine bel_set ?_ ?_ _; rotate_left; ((try simp); (try omega)))))
    have HK := Lib.hid (show W.cell? ⟨w.heap.size, 0, none⟩ = some (.string x.name) ∧ W.cell? ⟨w.heap.size, 1, none⟩ = some (.int .i64 x.ver) ∧ W.cell? ⟨w.heap.size, 2, none⟩ = some (.slice A x.files.length cp) ∧ W.cell? ⟨w.heap.size, 3, none⟩ = some (.bool x.shared) from by refine ⟨?_, ?_, ?_, ?_⟩ <;> (rw [← hW]; clear hW; go_simp))
    clear hW
    have hS : ∀ w9, Below W.heap.size W w9 → Below W.heap.size W w9 ∧ w9.cell? ⟨w.heap.size, 0, none⟩ = some (.string x.name) ∧ w9.cell? ⟨w.heap.size, 1, none⟩ = some (.int .i64 x.ver) ∧ w9.cell? ⟨w.heap.size, 2, none⟩ = some (.slice A x.files.length cp) ∧ w9.cell? ⟨w.heap.size, 3, none⟩ = some (.bool x.shared) := fun w9 hb => ⟨hb, (hb.cell (p := ⟨w.heap.size, 0, none⟩) (by (try simp); (try omega))).trans HK.out.1, (hb.cell (p := ⟨w.heap.size, 1, none⟩) (by (try simp); (try omega))).trans HK.out.2.1, (hb.cell (p := ⟨w.heap.size, 2, none⟩) (by (try simp); (try omega))).trans HK.out.2.2.1, (hb.cell (p := ⟨w.heap.size, 3, none⟩) (by (try simp); (try omega))).trans HK.out.2.2.2⟩
    have hwb : Below W.heap.size W W := Below.refl _ _
    refine wp_region_held_drew (S := (fun w9 => Below W.heap.size W w9 ∧ w9.cell? ⟨w.heap.size, 0, none⟩ = some (.string x.name) ∧ w9.cell? ⟨w.heap.size, 1, none⟩ = some (.int .i64 x.ver) ∧ w9.cell? ⟨w.heap.size, 2, none⟩ = some (.slice A x.files.length cp) ∧ w9.cell? ⟨w.heap.size, 3, none⟩ = some (.bool x.shared))) (by kernel_rfl) (by (try dsimp only); exact hS _ (by repeat (first | with_reducible exact Below.refl _ _ | with_reducible assumption | with_reducible refine bel_alloc ?_ _ | with_reducible refine bel_drew ?_ | with_reducible refine bel_drewN ?_ _ | (with_reducible refine bel_set ?_ ?_ _; rotate_left; ((try simp); (try omega)))))) (fun hHeld => ?_)
    refine take_read (i := 0) 5 (v := ?v0) rfl rfl (by kernel_rfl) (by kernel_rfl) (by kernel_rfl) (fun _ _ _ h => h) (by rfl) ?hy0 (by assumption) ?rest0
    case hy0 => (intro w hSw; (try dsimp only at hSw); go_simp; (try with_reducible rfl))
    try simp only [Act.put, List.setIfInBounds_toArray, List.set_cons_zero, List.set_cons_succ]
    refine wpAnyH_ready (rs := [1]) (by kernel_rfl) (by simp) ?_
    refine AllReadyH.cons rfl (fun K hK => ?_) AllReadyH.nil
    go_simp
    (go_at_call 81; refine (hcs _ (bel_then hbW (by repeat (first | with_reducible exact Below.refl _ _ | with_reducible assumption | with_reducible refine bel_alloc ?_ _ | with_reducible refine bel_drew ?_ | with_reducible refine bel_drewN ?_ _ | (with_reducible refine bel_set ?_ ?_ _; rotate_left; ((try simp); (try omega))))))).mono ?_; rintro e w1 ⟨rfl, hb1⟩; have hbw1 : Below W.heap.size W w1 := bel_then (by repeat (first | with_reducible exact Below.refl _ _ | with_reducible assumption | with_reducible refine bel_alloc ?_ _ | with_reducible refine bel_drew ?_ | with_reducible refine bel_drewN ?_ _ | (with_reducible refine bel_set ?_ ?_ _; rotate_left; ((try simp); (try omega))))) hb1)
    try go_wp2_with fail
    refine hK.out _ _ ?_ (fun hHeld => ?_)
    · (try dsimp only)
      exact hS _ (by repeat (first | with_reducible exact Below.refl _ _ | with_reducible assumption | with_reducible refine bel_alloc ?_ _ | with_reducible refine bel_drew ?_ | with_reducible refine bel_drewN ?_ _ | (with_reducible refine bel_set ?_ ?_ _; rotate_left; ((try simp); (try omega)))))
    clear hK K
    try simp only [Act.put, List.setIfInBounds_toArray, List.set_cons_zero, List.set_cons_succ]
    refine take_read (i := 2) 7 (v := ?v2) rfl rfl (by kernel_rfl) (by kernel_rfl) (by kernel_rfl) (fun _ _ _ h => h) (by rfl) ?hy2 (by assumption) ?rest2
    case hy2 => (intro w hSw; (try dsimp only at hSw); go_simp; (try with_reducible rfl))
    try simp only [Act.put, List.setIfInBounds_toArray, List.set_cons_zero, List.set_cons_succ]
    refine take_skip (i := 3) 8 rfl rfl (by kernel_rfl) (by kernel_rfl) (by kernel_rfl) (fun _ _ _ h => h) (by rfl) (by assumption) ?_
    try simp only [Act.put, List.setIfInBounds_toArray, List.set_cons_zero, List.set_cons_succ]
    refine take_skip (i := 4) 9 rfl rfl (by kernel_rfl) (by kernel_rfl) (by kernel_rfl) (fun _ _ _ h => h) (by rfl) (by assumption) ?_
    try simp only [Act.put, List.setIfInBounds_toArray, List.set_cons_zero, List.set_cons_succ]
    refine take_skip (i := 5) 10 rfl rfl (by kernel_rfl) (by kernel_rfl) (by kernel_rfl) (fun _ _ _ h => h) (by rfl) (by assumption) ?_
    try simp only [Act.put, List.setIfInBounds_toArray, List.set_cons_zero, List.set_cons_succ]
    refine take_skip (i := 6) 11 rfl rfl (by kernel_rfl) (by kernel_rfl) (by kernel_rfl) (fun _ _ _ h => h) (by rfl) (by assumption) ?_
    try simp only [Act.put, List.setIfInBounds_toArray, List.set_cons_zero, List.set_cons_succ]
    refine take_skip (i := 7) 12 rfl rfl (by kernel_rfl) (by kernel_rfl) (by kernel_rfl) (fun _ _ _ h => h) (by rfl) (by assumption) ?_
    try simp only [Act.put, List.setIfInBounds_toArray, List.set_cons_zero, List.set_cons_succ]
    refine take_skip (i := 8) 13 rfl rfl (by kernel_rfl) (by kernel_rfl) (by kernel_rfl) (fun _ _ _ h => h) (by rfl) (by assumption) ?_
    try simp only [Act.put, List.setIfInBounds_toArray, List.set_cons_zero, List.set_cons_succ]
    refine take_skip (i := 9) 14 rfl rfl (by kernel_rfl) (by kernel_rfl) (by kernel_rfl) (fun _ _ _ h => h) (by rfl) (by assumption) ?_
    try simp only [Act.put, List.setIfInBounds_toArray, List.set_cons_zero, List.set_cons_succ]
    refine take_skip (i := 10) 15 rfl rfl (by kernel_rfl) (by kernel_rfl) (by kernel_rfl) (fun _ _ _ h => h) (by rfl) (by assumption) ?_
    try simp only [Act.put, List.setIfInBounds_toArray, List.set_cons_zero, List.set_cons_succ]
    refine take_skip (i := 11) 16 rfl rfl (by kernel_rfl) (by kernel_rfl) (by kernel_rfl) (fun _ _ _ h => h) (by rfl) (by assumption) ?_
    try simp only [Act.put, List.setIfInBounds_toArray, List.set_cons_zero, List.set_cons_succ]
    refine take_read (i := 12) 17 (v := ?v12) rfl rfl (by kernel_rfl) (by kernel_rfl) (by kernel_rfl) (fun _ _ _ h => h) (by rfl) ?hy12 (by assumption) ?rest12
    case hy12 => (intro w hSw; (try dsimp only at hSw); go_simp; (try with_reducible rfl))
    try simp only [Act.put, List.setIfInBounds_toArray, List.set_cons_zero, List.set_cons_succ]
    refine take_read (i := 13) 4 (v := ?v13) rfl rfl (by kernel_rfl) (by kernel_rfl) (by kernel_rfl) (fun _ _ _ h => h) (by rfl) ?hy13 (by assumption) ?rest13
    case hy13 => (intro w hSw; (try dsimp only at hSw); go_simp; (try with_reducible rfl))
    try simp only [Act.put, List.setIfInBounds_toArray, List.set_cons_zero, List.set_cons_succ]
    refine wpAnyH_done (by kernel_rfl) ?_ _
    go_wp2_with fail
    go_ret
    exact ⟨by rw [HE.out]; rfl, bel_then hbW (by repeat (first | with_reducible exact Below.refl _ _ | with_reducible assumption | with_reducible refine bel_alloc ?_ _ | with_reducible refine bel_drew ?_ | with_reducible refine bel_drewN ?_ _ | (with_reducible refine bel_set ?_ ?_ _; rotate_left; ((try simp); (try omega)))))⟩
  · have hb := isSite_ver hsite
    have HE := Lib.hid (show servesVersion x v = inR v (maxI 1 (x.ver - 1)) x.ver by simp [servesVersion, hsite])
    have hcs := fun W hb => specIsSite_any _ x _ W (Cod.bel hr hb) hn
    rw [hsite] at hcs
    have HX := Lib.hid (show IntKind.i64.wrap (IntKind.i64.wrap (x.ver - 2) + 1) = x.ver - 1 by rw [show IntKind.i64.wrap (x.ver - 2) = x.ver - 2 from IntWalk.i64_in _ (by omega), show IntKind.i64.wrap (x.ver - 2 + 1) = x.ver - 2 + 1 from IntWalk.i64_in _ (by omega)]; omega)
    go_enter Try.func30, Try.ntmps30
    go_wp2_with fail
    generalize hW : World.alloc _ _ = W
    have hWs : W.heap.size = w.heap.size + 1 := by rw [← hW]; clear hW; simp
    have hbW : Below w.heap.size w W := by rw [← hW]; exact (by repeat (first | with_reducible exact Below.refl _ _ | with_reducible assumption | with_reducible refine bel_alloc ?_ _ | with_reducible refine bel_drew ?_ | with_reducible refine bel_drewN ?_ _ | (with_reducible refine bel_set ?_ ?_ _; rotate_left; ((try simp); (try omega)))))
    have HK := Lib.hid (show W.cell? ⟨w.heap.size, 0, none⟩ = some (.string x.name) ∧ W.cell? ⟨w.heap.size, 1, none⟩ = some (.int .i64 x.ver) ∧ W.cell? ⟨w.heap.size, 2, none⟩ = some (.slice A x.files.length cp) ∧ W.cell? ⟨w.heap.size, 3, none⟩ = some (.bool x.shared) from by refine ⟨?_, ?_, ?_, ?_⟩ <;> (rw [← hW]; clear hW; go_simp))
    clear hW
    have hS : ∀ w9, Below W.heap.size W w9 → Below W.heap.size W w9 ∧ w9.cell? ⟨w.heap.size, 0, none⟩ = some (.string x.name) ∧ w9.cell? ⟨w.heap.size, 1, none⟩ = some (.int .i64 x.ver) ∧ w9.cell? ⟨w.heap.size, 2, none⟩ = some (.slice A x.files.length cp) ∧ w9.cell? ⟨w.heap.size, 3, none⟩ = some (.bool x.shared) := fun w9 hb => ⟨hb, (hb.cell (p := ⟨w.heap.size, 0, none⟩) (by (try simp); (try omega))).trans HK.out.1, (hb.cell (p := ⟨w.heap.size, 1, none⟩) (by (try simp); (try omega))).trans HK.out.2.1, (hb.cell (p := ⟨w.heap.size, 2, none⟩) (by (try simp); (try omega))).trans HK.out.2.2.1, (hb.cell (p := ⟨w.heap.size, 3, none⟩) (by (try simp); (try omega))).trans HK.out.2.2.2⟩
    have hwb : Below W.heap.size W W := Below.refl _ _
    first | (go_region_held3 (fun w9 => Below W.heap.size W w9 ∧ w9.cell? ⟨w.heap.size, 0, none⟩ = some (.string x.name) ∧ w9.cell? ⟨w.heap.size, 1, none⟩ = some (.int .i64 x.ver) ∧ w9.cell? ⟨w.heap.size, 2, none⟩ = some (.slice A x.files.length cp) ∧ w9.cell? ⟨w.heap.size, 3, none⟩ = some (.bool x.shared)) (exact hS _ (by repeat (first | with_reducible exact Below.refl _ _ | with_reducible assumption | with_reducible refine bel_alloc ?_ _ | with_reducible refine bel_drew ?_ | with_reducible refine bel_drewN ?_ _ | (with_reducible refine bel_set ?_ ?_ _; rotate_left; ((try simp); (try omega)))))) (first | (go_at_call 81; refine (hcs _ (bel_then hbW (by repeat (first | with_reducible exact Below.refl _ _ | with_reducible assumption | with_reducible refine bel_alloc ?_ _ | with_reducible refine bel_drew ?_ | with_reducible refine bel_drewN ?_ _ | (with_reducible refine bel_set ?_ ?_ _; rotate_left; ((try simp); (try omega))))))).mono ?_; rintro e w1 ⟨rfl, hb1⟩; have hbw1 : Below W.heap.size W w1 := bel_then (by repeat (first | with_reducible exact Below.refl _ _ | with_reducible assumption | with_reducible refine bel_alloc ?_ _ | with_reducible refine bel_drew ?_ | with_reducible refine bel_drewN ?_ _ | (with_reducible refine bel_set ?_ ?_ _; rotate_left; ((try simp); (try omega))))) hb1) | (go_at_call 84; refine (specMax_any _ _ _).mono ?_; rintro e w1 ⟨rfl, rfl⟩) | (go_at_call 83; refine (l1In_any _ _ _ _).mono ?_; rintro e w1 ⟨rfl, rfl⟩))) | fail
    go_wp2_with fail
    go_ret
    exact ⟨by rw [HE.out, ← HX.out]; rfl, bel_then hbW (by repeat (first | with_reducible exact Below.refl _ _ | with_reducible assumption | with_reducible refine bel_alloc ?_ _ | with_reducible refine bel_drew ?_ | with_reducible refine bel_drewN ?_ _ | (with_reducible refine bel_set ?_ ?_ _; rotate_left; ((try simp); (try omega)))))⟩

def versionFor (r : TReg) (x : TSite) (online : Bool) : Int := bif r.act != 0 then r.act else bif online then x.ver else 0
end Go.Proofs.Ytlicnppfgfjkgaa
