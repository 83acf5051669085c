/-
  The law FnExactIsCacheSet: for all arguments the program's IsCacheSet returns what the reference's returns. No conditions.
-/
import Derived.Test.YtamcoplnpoddbaaRows
import Derived.Deep.RegionHeld3
import Derived.Test.YtamcoplnpoddbaaCsOk
import Derived.Test.YtamcoplnpoddbaaEqCSet
import Derived.Test.YtamcoplnpoddbaaToCSet
namespace Go.Proofs.Ytamcoplnpoddbaa
open Go.ChangeShapes Go.WideShapes Go.RowKit
open Go.ChangeMaps (open_string shut_string)
set_option linter.unusedVariables false

set_option maxRecDepth 100000 in
set_option maxHeartbeats 4000000 in
theorem lawIsCacheSet_any (a0 : Array Value) (p0 : TCSet) (F0 : List Nat) (w : World) (h0 : cCSet.rep w a0.toList p0 F0) :
    Calls Try.prog 9 #[.agg a0] w (Gives w (.bool true)) := by
  have r0 := h0
  obtain ⟨v0_0, E0_0, rfl, -, -, m0_0⟩ := TCSet.outA r0
  obtain ⟨A0_0, c0_0, e0_0⟩ := cL_form m0_0
  subst e0_0
  clear m0_0
  clear r0
  go_enter Try.func9, Try.ntmps9
  go_wp2_with fail
  by_cases l0 : (1048576 - (cCSet.sz p0 : Nat) : Int) < 0
  · have HV := Lib.hid (leftOf_neg l0)
    refine (szCacheSet_any _ p0 _ _ _ (by exact Cod.bel h0 (by repeat (first | with_reducible exact Below.refl _ _ | with_reducible assumption | with_reducible refine bel_alloc ?_ _ | with_reducible refine bel_drew ?_ | with_reducible refine bel_drewN ?_ _ | (with_reducible refine bel_set ?_ ?_ _; rotate_left; ((try simp); (try omega)))))) (by omega) (by omega)).mono ?_
    rintro e w1 ⟨rfl, hbw1⟩
    rw [HV.out]
    have hBw1 : Below w.heap.size w w1 := bel_then (by repeat (first | with_reducible exact Below.refl _ _ | with_reducible assumption | with_reducible refine bel_alloc ?_ _ | with_reducible refine bel_drew ?_ | with_reducible refine bel_drewN ?_ _ | (with_reducible refine bel_set ?_ ?_ _; rotate_left; ((try simp); (try omega))))) hbw1
    go_wp2_with fail
    go_ret
    exact ⟨rfl, hBw1⟩
  · have HV := Lib.hid (leftOf_pos l0)
    have pz0 : 0 ≤ (1048576 - (cCSet.sz p0 : Nat) : Int) := by omega
    have z0 : cCSet.sz p0 ≤ 1048576 := by omega
    refine (szCacheSet_any _ p0 _ _ _ (by exact Cod.bel h0 (by repeat (first | with_reducible exact Below.refl _ _ | with_reducible assumption | with_reducible refine bel_alloc ?_ _ | with_reducible refine bel_drew ?_ | with_reducible refine bel_drewN ?_ _ | (with_reducible refine bel_set ?_ ?_ _; rotate_left; ((try simp); (try omega)))))) (by omega) (by omega)).mono ?_
    rintro e w1 ⟨rfl, hbw1⟩
    rw [HV.out]
    clear HV
    have hsw1 := hbw1.size
    (try simp at hsw1)
    have hzw1_0 : w.heap.size < w1.heap.size := by omega
    have hBw1 : Below w.heap.size w w1 := bel_then (by repeat (first | with_reducible exact Below.refl _ _ | with_reducible assumption | with_reducible refine bel_alloc ?_ _ | with_reducible refine bel_drew ?_ | with_reducible refine bel_drewN ?_ _ | (with_reducible refine bel_set ?_ ?_ _; rotate_left; ((try simp); (try omega))))) hbw1
    obtain ⟨hcw1, hfzw1, -⟩ := bcell hbw1
    clear hbw1
    go_wp2_with fail
    refine (toCacheSet_any _ p0 _ _ (by exact Cod.bel h0 (by repeat (first | with_reducible exact Below.refl _ _ | with_reducible assumption | with_reducible refine bel_alloc ?_ _ | with_reducible refine bel_drew ?_ | with_reducible refine bel_drewN ?_ _ | (with_reducible refine bel_set ?_ ?_ _; rotate_left; ((try simp); (try omega)))))) z0).mono ?_
    rintro e w2 ⟨uw2, Gw2, rfl, hbw2, hrw2, hfw2⟩
    have drw2 := hrw2
    obtain ⟨vrw2_0, Erw2_0, rfl, -, -, mrw2_0⟩ := TCSet.outA drw2
    obtain ⟨Arw2_0, crw2_0, erw2_0⟩ := cL_form mrw2_0
    subst erw2_0
    clear mrw2_0 drw2
    have hsw2 := hbw2.size
    (try simp at hsw2)
    have hzw2_0 : w.heap.size < w2.heap.size := by omega
    have hBw2 : Below w.heap.size w w2 := bel_then (by repeat (first | with_reducible exact Below.refl _ _ | with_reducible assumption | with_reducible refine bel_alloc ?_ _ | with_reducible refine bel_drew ?_ | with_reducible refine bel_drewN ?_ _ | (with_reducible refine bel_set ?_ ?_ _; rotate_left; ((try simp); (try omega))))) hbw2
    have hlrw2 : ∀ b, b ∈ Gw2 → b < w2.heap.size := fun b hb => Cod.lt _ hrw2 b hb
    obtain ⟨hcw2, hfzw2, -⟩ := bcell hbw2
    clear hbw2
    go_wp2_with fail
    refine (specIsCacheSet_any _ p0 _ _ (by exact Cod.bel hrw2 (by repeat (first | with_reducible exact Below.refl _ _ | with_reducible assumption | with_reducible refine bel_alloc ?_ _ | with_reducible refine bel_drew ?_ | with_reducible refine bel_drewN ?_ _ | (with_reducible refine bel_set ?_ ?_ _; rotate_left; ((try simp); (try omega)))))) z0).mono ?_
    rintro e w3 ⟨rfl, hbw3⟩
    have hsw3 := hbw3.size
    (try simp at hsw3)
    have hzw3_0 : w.heap.size < w3.heap.size := by omega
    have hBw3 : Below w.heap.size w w3 := bel_then (by repeat (first | with_reducible exact Below.refl _ _ | with_reducible assumption | with_reducible refine bel_alloc ?_ _ | with_reducible refine bel_drew ?_ | with_reducible refine bel_drewN ?_ _ | (with_reducible refine bel_set ?_ ?_ _; rotate_left; ((try simp); (try omega))))) hbw3
    replace hrw2 := Cod.bel hrw2 (show Below _ _ w3 from bel_then (by repeat (first | with_reducible exact Below.refl _ _ | with_reducible assumption | with_reducible refine bel_alloc ?_ _ | with_reducible refine bel_drew ?_ | with_reducible refine bel_drewN ?_ _ | (with_reducible refine bel_set ?_ ?_ _; rotate_left; ((try simp); (try omega))))) hbw3)
    obtain ⟨hcw3, hfzw3, -⟩ := bcell hbw3
    clear hbw3
    go_wp2_with fail
    refine (toCacheSet_any _ p0 _ _ (by exact Cod.bel h0 (by repeat (first | with_reducible exact Below.refl _ _ | with_reducible assumption | with_reducible refine bel_alloc ?_ _ | with_reducible refine bel_drew ?_ | with_reducible refine bel_drewN ?_ _ | (with_reducible refine bel_set ?_ ?_ _; rotate_left; ((try simp); (try omega)))))) z0).mono ?_
    rintro e w4 ⟨uw4, Gw4, rfl, hbw4, hrw4, hfw4⟩
    have drw4 := hrw4
    obtain ⟨vrw4_0, Erw4_0, rfl, -, -, mrw4_0⟩ := TCSet.outA drw4
    obtain ⟨Arw4_0, crw4_0, erw4_0⟩ := cL_form mrw4_0
    subst erw4_0
    clear mrw4_0 drw4
    have hsw4 := hbw4.size
    (try simp at hsw4)
    have hzw4_0 : w.heap.size < w4.heap.size := by omega
    have hBw4 : Below w.heap.size w w4 := bel_then (by repeat (first | with_reducible exact Below.refl _ _ | with_reducible assumption | with_reducible refine bel_alloc ?_ _ | with_reducible refine bel_drew ?_ | with_reducible refine bel_drewN ?_ _ | (with_reducible refine bel_set ?_ ?_ _; rotate_left; ((try simp); (try omega))))) hbw4
    replace hrw2 := Cod.bel hrw2 (show Below _ _ w4 from bel_then (by repeat (first | with_reducible exact Below.refl _ _ | with_reducible assumption | with_reducible refine bel_alloc ?_ _ | with_reducible refine bel_drew ?_ | with_reducible refine bel_drewN ?_ _ | (with_reducible refine bel_set ?_ ?_ _; rotate_left; ((try simp); (try omega))))) hbw4)
    have hlrw4 : ∀ b, b ∈ Gw4 → b < w4.heap.size := fun b hb => Cod.lt _ hrw4 b hb
    obtain ⟨hcw4, hfzw4, -⟩ := bcell hbw4
    clear hbw4
    go_wp2_with fail
    refine (implIsCacheSet_any _ p0 _ _ (by exact Cod.bel hrw4 (by repeat (first | with_reducible exact Below.refl _ _ | with_reducible assumption | with_reducible refine bel_alloc ?_ _ | with_reducible refine bel_drew ?_ | with_reducible refine bel_drewN ?_ _ | (with_reducible refine bel_set ?_ ?_ _; rotate_left; ((try simp); (try omega)))))) z0).mono ?_
    rintro e w5 ⟨rfl, hbw5⟩
    have hsw5 := hbw5.size
    (try simp at hsw5)
    have hzw5_0 : w.heap.size < w5.heap.size := by omega
    have hzw5_1 : w4.heap.size < w5.heap.size := by omega
    have hBw5 : Below w.heap.size w w5 := bel_then (by repeat (first | with_reducible exact Below.refl _ _ | with_reducible assumption | with_reducible refine bel_alloc ?_ _ | with_reducible refine bel_drew ?_ | with_reducible refine bel_drewN ?_ _ | (with_reducible refine bel_set ?_ ?_ _; rotate_left; ((try simp); (try omega))))) hbw5
    replace hrw2 := Cod.bel hrw2 (show Below _ _ w5 from bel_then (by repeat (first | with_reducible exact Below.refl _ _ | with_reducible assumption | with_reducible refine bel_alloc ?_ _ | with_reducible refine bel_drew ?_ | with_reducible refine bel_drewN ?_ _ | (with_reducible refine bel_set ?_ ?_ _; rotate_left; ((try simp); (try omega))))) hbw5)
    replace hrw4 := Cod.bel hrw4 (show Below _ _ w5 from bel_then (by repeat (first | with_reducible exact Below.refl _ _ | with_reducible assumption | with_reducible refine bel_alloc ?_ _ | with_reducible refine bel_drew ?_ | with_reducible refine bel_drewN ?_ _ | (with_reducible refine bel_set ?_ ?_ _; rotate_left; ((try simp); (try omega))))) hbw5)
    obtain ⟨hcw5, hfzw5, -⟩ := bcell hbw5
    clear hbw5
    go_wp2_with fail
    have kw7_0 : w5.cell? ⟨w4.heap.size, 0, none⟩ = some (.slice Arw4_0 p0.caches.length crw4_0) := by go_simp
    have kw7_1 : w5.cell? ⟨w.heap.size, 0, none⟩ = some (.slice A0_0 p0.caches.length c0_0) := by go_simp
    have hS : ∀ wS, Below w5.heap.size w5 wS → Below w5.heap.size w5 wS ∧ wS.cell? ⟨w4.heap.size, 0, none⟩ = some (.slice Arw4_0 p0.caches.length crw4_0) ∧ wS.cell? ⟨w.heap.size, 0, none⟩ = some (.slice A0_0 p0.caches.length c0_0) := fun wS hb => ⟨hb, (hb.cell (p := ⟨w4.heap.size, 0, none⟩) (by simpa using hzw5_1)).trans kw7_0, (hb.cell (p := ⟨w.heap.size, 0, none⟩) (by simpa using hzw5_0)).trans kw7_1⟩
    have hwb : Below w5.heap.size w5 w5 := Below.refl _ _
    clear kw7_0 kw7_1
    go_region_held3 (fun wS => Below w5.heap.size w5 wS ∧ wS.cell? ⟨w4.heap.size, 0, none⟩ = some (.slice Arw4_0 p0.caches.length crw4_0) ∧ wS.cell? ⟨w.heap.size, 0, none⟩ = some (.slice A0_0 p0.caches.length c0_0)) (exact hS _ (by repeat (first | with_reducible exact Below.refl _ _ | with_reducible assumption | with_reducible refine bel_alloc ?_ _ | with_reducible refine bel_drew ?_ | with_reducible refine bel_drewN ?_ _ | (with_reducible refine bel_set ?_ ?_ _; rotate_left; ((try simp); (try omega)))))) (first | (go_at_call 34; refine (toCacheSet_any _ p0 _ _ (by exact Cod.bel h0 (bel_then hBw5 (by repeat (first | with_reducible exact Below.refl _ _ | with_reducible assumption | with_reducible refine bel_alloc ?_ _ | with_reducible refine bel_drew ?_ | with_reducible refine bel_drewN ?_ _ | (with_reducible refine bel_set ?_ ?_ _; rotate_left; ((try simp); (try omega))))))) z0).mono ?_; rintro e w6 ⟨uw6, Gw6, rfl, hbw6, hrw6, hfw6⟩; have hbww6 : Below w5.heap.size w5 w6 := bel_then (by repeat (first | with_reducible exact Below.refl _ _ | with_reducible assumption | with_reducible refine bel_alloc ?_ _ | with_reducible refine bel_drew ?_ | with_reducible refine bel_drewN ?_ _ | (with_reducible refine bel_set ?_ ?_ _; rotate_left; ((try simp); (try omega))))) hbw6; clear hfw6) | (go_at_call 36; refine (eqCacheSet_any _ _ p0 _ _ _ (by exact Cod.bel hrw4 (by repeat (first | with_reducible exact Below.refl _ _ | with_reducible assumption | with_reducible refine bel_alloc ?_ _ | with_reducible refine bel_drew ?_ | with_reducible refine bel_drewN ?_ _ | (with_reducible refine bel_set ?_ ?_ _; rotate_left; ((try simp); (try omega)))))) (by exact Cod.bel hrw6 (by repeat (first | with_reducible exact Below.refl _ _ | with_reducible assumption | with_reducible refine bel_alloc ?_ _ | with_reducible refine bel_drew ?_ | with_reducible refine bel_drewN ?_ _ | (with_reducible refine bel_set ?_ ?_ _; rotate_left; ((try simp); (try omega))))))).mono ?_; rintro e w7 ⟨rfl, hbw7⟩; have hbww7 : Below w5.heap.size w5 w7 := bel_then (by repeat (first | with_reducible exact Below.refl _ _ | with_reducible assumption | with_reducible refine bel_alloc ?_ _ | with_reducible refine bel_drew ?_ | with_reducible refine bel_drewN ?_ _ | (with_reducible refine bel_set ?_ ?_ _; rotate_left; ((try simp); (try omega))))) hbw7))
    have hbZw7 := hbww7
    have hsw7 := hbZw7.size
    (try simp at hsw7)
    have hzw7_0 : w.heap.size < w7.heap.size := by omega
    have hzw7_1 : w4.heap.size < w7.heap.size := by omega
    have hBw7 : Below w.heap.size w w7 := bel_then (by repeat (first | with_reducible exact Below.refl _ _ | with_reducible assumption | with_reducible refine bel_alloc ?_ _ | with_reducible refine bel_drew ?_ | with_reducible refine bel_drewN ?_ _ | (with_reducible refine bel_set ?_ ?_ _; rotate_left; ((try simp); (try omega))))) hbZw7
    replace hrw2 := Cod.bel hrw2 (show Below _ _ w7 from bel_then (by repeat (first | with_reducible exact Below.refl _ _ | with_reducible assumption | with_reducible refine bel_alloc ?_ _ | with_reducible refine bel_drew ?_ | with_reducible refine bel_drewN ?_ _ | (with_reducible refine bel_set ?_ ?_ _; rotate_left; ((try simp); (try omega))))) hbZw7)
    replace hrw4 := Cod.bel hrw4 (show Below _ _ w7 from bel_then (by repeat (first | with_reducible exact Below.refl _ _ | with_reducible assumption | with_reducible refine bel_alloc ?_ _ | with_reducible refine bel_drew ?_ | with_reducible refine bel_drewN ?_ _ | (with_reducible refine bel_set ?_ ?_ _; rotate_left; ((try simp); (try omega))))) hbZw7)
    obtain ⟨hcw7, hfzw7, -⟩ := bcell hbZw7
    clear hbZw7
    go_wp2_with fail
    go_ret
    exact ⟨rfl, (by repeat (first | with_reducible exact Below.refl _ _ | with_reducible assumption | with_reducible refine bel_alloc ?_ _ | with_reducible refine bel_drew ?_ | with_reducible refine bel_drewN ?_ _ | (with_reducible refine bel_set ?_ ?_ _; rotate_left; ((try simp); (try omega)))))⟩

set_option maxRecDepth 100000 in
theorem lawIsCacheSet_walk (H : Type) (enc : TypeId × Value → H) (W : World) (base : Nat) (args : Array Value) (ds : List (DataW H)) (p : List MemPlace)
    (hval : ∀ (j : Nat) t v, Try.f9.params[j]? = some t → args[j]? = some v → Value.okWide Try.prog W .any base t v)
    (hA : DataW.TrodAll enc Try.prog W 0 (fun _ => true) true Try.f9.params.toList args.toList ds p) (hf : W.noneFrozen p) :
    Calls Try.prog 9 args W (Gives W (.bool true)) := by
  rw [Try.params9] at hA hval
  obtain ⟨v0, vs0, d0, ds0, q0, s0, hargs, rfl, rfl, k0, t0⟩ := trodAll_cons hA
  obtain ⟨rfl, rfl, rfl⟩ := trodAll_nil t0
  obtain rfl : args = #[v0] := by cases args; simp_all
  obtain ⟨cs0, x0, F0, rfl, hx0⟩ := opens_lCSet.struct_ Try.underlying46 (hval 0 _ _ rfl rfl) k0 (noneFrozen_mono hf fun y hy => by simp [hy])
  exact lawIsCacheSet_any cs0 x0 F0 W hx0

set_option maxRecDepth 100000 in
theorem lawIsCacheSet_lifted (os : Os) (started : os.Started) (H : Type) (enc : TypeId × Value → H) :
    ReturnsInHanded {} Try.checked os 9 .any (Rows.fnExactIsCacheSetSpec.pre6 enc Try.prog Try.f9 Rows.fnExactIsCacheSetRow.domain false) (Rows.fnExactIsCacheSetSpec.post enc Try.prog Try.f9 false true false false) := by
  refine returnsInHanded_of_change (C := Try.checked) (by kernel_rfl) started (by kernel_rfl) Try.func9
    (ChangeSpec.witness6 (enc := enc) (C := Try.checked) false ⟨#[], #[.agg #[.slice none 0 0]], []⟩ 16 (by kernel_rfl) (by kernel_rfl) (by kernel_rfl) (by kernel_rfl)) ?_
  intro W base args ds gs before hval hW _ _
  have hW' := hW
  obtain ⟨p, q, hA, hV, rfl, hfz, hnd⟩ := hW
  refine (lawIsCacheSet_walk H enc W base args ds p hval hA (noneFrozen_mono hfz fun y hy => by simp [hy])).mono fun e W' ⟨he, hb⟩ => ⟨_, he, ?_⟩
  exact law_post (by kernel_rfl) rfl (by kernel_rfl) Try.underlying4 (by kernel_rfl) (fun ds h => by
    match ds, h with
    | [d0], _ => exact ⟨rfl, rfl, rfl⟩) hW' hb
theorem lawIsCacheSet_over : Rows.fnExactIsCacheSetRow.holds Try.pinned (OpenSpec.ofChange Rows.fnExactIsCacheSetSpec) :=
  OpenClaim.holds_of_wide 9 Try.f9 rfl rfl rfl rfl rfl rfl rfl ⟨rfl, rfl, rfl, rfl, rfl⟩ rfl rfl rfl rfl rfl (by kernel_rfl) Try.func9 (by kernel_rfl)
    (of_decide_eq_true (by kernel_rfl)) (by unfold Func.isWrapper; rw [if_neg (of_decide_eq_false (by kernel_rfl))]; exact ⟨rfl, rfl⟩)
    (fun os started H enc _ => lawIsCacheSet_lifted os started H enc)
/-- THE STATEMENT -/
theorem lawIsCacheSet_holds : Rows.FnExactIsCacheSetSaid := lawIsCacheSet_over

end Go.Proofs.Ytamcoplnpoddbaa
