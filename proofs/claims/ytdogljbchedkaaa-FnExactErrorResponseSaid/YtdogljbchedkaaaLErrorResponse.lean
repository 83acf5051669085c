/-
  The law FnExactErrorResponse: for all arguments the program's ErrorResponse returns what the reference's returns. No conditions.
-/
import Derived.Test.YtdogljbchedkaaaRows
import Derived.Deep.RegionHeld3
import Derived.Test.YtdogljbchedkaaaEqResp
import Derived.Test.YtdogljbchedkaaaMkResp
import Derived.Test.YtdogljbchedkaaaRespEq
namespace Go.Proofs.Ytdogljbchedkaaa
open Go.ChangeShapes Go.WideShapes Go.RowKit
open Go.ChangeMaps (open_string shut_string)
set_option linter.unusedVariables false

set_option maxRecDepth 100000 in
set_option maxHeartbeats 4000000 in
theorem lawErrorResponse_any  (w : World)  :
    Calls Try.prog 7 #[] w (Gives w (.bool true)) := by
  go_enter Try.func7, Try.ntmps7
  go_wp2_with fail
  refine (specErrorResponse_any  _ ).mono ?_
  rintro e w1 ⟨uw1, Gw1, rfl, hbw1, hrw1, hfw1⟩
  have drw1 := hrw1
  obtain ⟨vrw1_3, Erw1_3, rfl, -, -, mrw1_3⟩ := TResp.outA drw1
  obtain ⟨Arw1_3, crw1_3, erw1_3⟩ := cL_form mrw1_3
  subst erw1_3
  clear mrw1_3 drw1
  have hsw1 := hbw1.size
  (try simp at hsw1)
  have hBw1 : Below w.heap.size w w1 := bel_then (by repeat (first | with_reducible exact Below.refl _ _ | with_reducible assumption | with_reducible refine bel_alloc ?_ _ | with_reducible refine bel_drew ?_ | with_reducible refine bel_drewN ?_ _ | (with_reducible refine bel_set ?_ ?_ _; rotate_left; ((try simp); (try omega))))) hbw1
  have hlrw1 : ∀ b, b ∈ Gw1 → b < w1.heap.size := fun b hb => Cod.lt _ hrw1 b hb
  obtain ⟨hcw1, hfzw1, -⟩ := bcell hbw1
  clear hbw1
  go_wp2_with fail
  refine (implErrorResponse_any  _ ).mono ?_
  rintro e w2 ⟨uw2, Gw2, rfl, hbw2, hrw2, hfw2⟩
  have drw2 := hrw2
  obtain ⟨vrw2_3, Erw2_3, rfl, -, -, mrw2_3⟩ := TResp.outA drw2
  obtain ⟨Arw2_3, crw2_3, erw2_3⟩ := cL_form mrw2_3
  subst erw2_3
  clear mrw2_3 drw2
  have hsw2 := hbw2.size
  (try simp at hsw2)
  have hzw2_0 : w1.heap.size < w2.heap.size := by omega
  have hBw2 : Below w.heap.size w w2 := bel_then (by repeat (first | with_reducible exact Below.refl _ _ | with_reducible assumption | with_reducible refine bel_alloc ?_ _ | with_reducible refine bel_drew ?_ | with_reducible refine bel_drewN ?_ _ | (with_reducible refine bel_set ?_ ?_ _; rotate_left; ((try simp); (try omega))))) hbw2
  replace hrw1 := Cod.bel hrw1 (show Below _ _ w2 from bel_then (by repeat (first | with_reducible exact Below.refl _ _ | with_reducible assumption | with_reducible refine bel_alloc ?_ _ | with_reducible refine bel_drew ?_ | with_reducible refine bel_drewN ?_ _ | (with_reducible refine bel_set ?_ ?_ _; rotate_left; ((try simp); (try omega))))) hbw2)
  have hlrw2 : ∀ b, b ∈ Gw2 → b < w2.heap.size := fun b hb => Cod.lt _ hrw2 b hb
  have zr : cResp.sz (errorResponse) ≤ 8000000 := (by decide)
  obtain ⟨hcw2, hfzw2, -⟩ := bcell hbw2
  clear hbw2
  go_wp2_with fail
  refine (eqResponse_any _ _ (errorResponse) _ _ _ (by exact Cod.bel hrw2 (by repeat (first | with_reducible exact Below.refl _ _ | with_reducible assumption | with_reducible refine bel_alloc ?_ _ | with_reducible refine bel_drew ?_ | with_reducible refine bel_drewN ?_ _ | (with_reducible refine bel_set ?_ ?_ _; rotate_left; ((try simp); (try omega)))))) (by exact Cod.bel hrw1 (by repeat (first | with_reducible exact Below.refl _ _ | with_reducible assumption | with_reducible refine bel_alloc ?_ _ | with_reducible refine bel_drew ?_ | with_reducible refine bel_drewN ?_ _ | (with_reducible refine bel_set ?_ ?_ _; rotate_left; ((try simp); (try omega))))))).mono ?_
  rintro e w3 ⟨rfl, hbw3⟩
  have hsw3 := hbw3.size
  (try simp at hsw3)
  have hzw3_0 : w1.heap.size < w3.heap.size := by omega
  have hzw3_1 : w2.heap.size < w3.heap.size := by omega
  have hBw3 : Below w.heap.size w w3 := bel_then (by repeat (first | with_reducible exact Below.refl _ _ | with_reducible assumption | with_reducible refine bel_alloc ?_ _ | with_reducible refine bel_drew ?_ | with_reducible refine bel_drewN ?_ _ | (with_reducible refine bel_set ?_ ?_ _; rotate_left; ((try simp); (try omega))))) hbw3
  replace hrw1 := Cod.bel hrw1 (show Below _ _ w3 from bel_then (by repeat (first | with_reducible exact Below.refl _ _ | with_reducible assumption | with_reducible refine bel_alloc ?_ _ | with_reducible refine bel_drew ?_ | with_reducible refine bel_drewN ?_ _ | (with_reducible refine bel_set ?_ ?_ _; rotate_left; ((try simp); (try omega))))) hbw3)
  replace hrw2 := Cod.bel hrw2 (show Below _ _ w3 from bel_then (by repeat (first | with_reducible exact Below.refl _ _ | with_reducible assumption | with_reducible refine bel_alloc ?_ _ | with_reducible refine bel_drew ?_ | with_reducible refine bel_drewN ?_ _ | (with_reducible refine bel_set ?_ ?_ _; rotate_left; ((try simp); (try omega))))) hbw3)
  obtain ⟨hcw3, hfzw3, -⟩ := bcell hbw3
  clear hbw3
  go_wp2_with fail
  have ctw4 : ((TResp.tcn (errorResponse) : Nat) : Int) ≤ 899999999 := (by have h1 := TResp.tcn_le (errorResponse); have h2 := zr; omega)
  refine (markResponse_any _ (errorResponse) _ _ _ (by exact Cod.bel hrw2 (by repeat (first | with_reducible exact Below.refl _ _ | with_reducible assumption | with_reducible refine bel_alloc ?_ _ | with_reducible refine bel_drew ?_ | with_reducible refine bel_drewN ?_ _ | (with_reducible refine bel_set ?_ ?_ _; rotate_left; ((try simp); (try omega)))))) hfw2.2 (by omega) (by omega)).mono ?_
  rintro e w4 ⟨rfl, how4, hmw4⟩
  have hsw4 := how4.size
  (try simp at hsw4)
  have hzw4_0 : w1.heap.size < w4.heap.size := by omega
  have hzw4_1 : w2.heap.size < w4.heap.size := by omega
  have hnw4_0 : w1.heap.size ∉ Gw2 := fun hm => by have h1 := hfw2.1 _ hm; have h2 := hlrw2 _ hm; (try simp at h1); omega
  have hcw4_0 : ∀ o : Nat, w4.cell? ⟨w1.heap.size, o, none⟩ = _ := fun o => World.cell?_of_block (a := ⟨w1.heap.size, o, none⟩) (how4.block (w1.heap.size) (by (try simp); (try omega)) hnw4_0)
  clear hnw4_0
  have hnw4_1 : w2.heap.size ∉ Gw2 := fun hm => by have h1 := hfw2.1 _ hm; have h2 := hlrw2 _ hm; (try simp at h1); omega
  have hcw4_1 : ∀ o : Nat, w4.cell? ⟨w2.heap.size, o, none⟩ = _ := fun o => World.cell?_of_block (a := ⟨w2.heap.size, o, none⟩) (how4.block (w2.heap.size) (by (try simp); (try omega)) hnw4_1)
  clear hnw4_1
  have hBw4 : Below w.heap.size w w4 := Below.trans (show Below w.heap.size w _ from (by repeat (first | with_reducible exact Below.refl _ _ | with_reducible assumption | with_reducible refine bel_alloc ?_ _ | with_reducible refine bel_drew ?_ | with_reducible refine bel_drewN ?_ _ | (with_reducible refine bel_set ?_ ?_ _; rotate_left; ((try simp); (try omega)))))) (how4.bel _ (by have := hBw3.size; (try simp); (try omega)) (fun b hb => by have h1 := hfw2.1 _ hb; have := hBw3.size; (try simp at h1); omega))
  replace hrw1 := Cod.only (Cod.bel hrw1 (by repeat (first | with_reducible exact Below.refl _ _ | with_reducible assumption | with_reducible refine bel_alloc ?_ _ | with_reducible refine bel_drew ?_ | with_reducible refine bel_drewN ?_ _ | (with_reducible refine bel_set ?_ ?_ _; rotate_left; ((try simp); (try omega)))))) how4 (fun b h1 h2 => by have e1 := hlrw1 b h1; have e2 := hfw2.1 b h2; (try simp at e2); omega)
  clear hrw2
  have hrw2 := hmw4
  clear how4
  go_wp2_with fail
  refine (heldResponse_any _ (errorResponse) _ _ _ (by exact Cod.bel hrw2 (by repeat (first | with_reducible exact Below.refl _ _ | with_reducible assumption | with_reducible refine bel_alloc ?_ _ | with_reducible refine bel_drew ?_ | with_reducible refine bel_drewN ?_ _ | (with_reducible refine bel_set ?_ ?_ _; rotate_left; ((try simp); (try omega)))))) (by omega) (by omega)).mono ?_
  rintro e w5 ⟨rfl, hbw5⟩
  have hsw5 := hbw5.size
  (try simp at hsw5)
  have hzw5_0 : w1.heap.size < w5.heap.size := by omega
  have hzw5_1 : w2.heap.size < w5.heap.size := by omega
  have hBw5 : Below w.heap.size w w5 := bel_then (by repeat (first | with_reducible exact Below.refl _ _ | with_reducible assumption | with_reducible refine bel_alloc ?_ _ | with_reducible refine bel_drew ?_ | with_reducible refine bel_drewN ?_ _ | (with_reducible refine bel_set ?_ ?_ _; rotate_left; ((try simp); (try omega))))) hbw5
  replace hrw1 := Cod.bel hrw1 (show Below _ _ w5 from bel_then (by repeat (first | with_reducible exact Below.refl _ _ | with_reducible assumption | with_reducible refine bel_alloc ?_ _ | with_reducible refine bel_drew ?_ | with_reducible refine bel_drewN ?_ _ | (with_reducible refine bel_set ?_ ?_ _; rotate_left; ((try simp); (try omega))))) hbw5)
  replace hrw2 := Cod.bel hrw2 (show Below _ _ w5 from bel_then (by repeat (first | with_reducible exact Below.refl _ _ | with_reducible assumption | with_reducible refine bel_alloc ?_ _ | with_reducible refine bel_drew ?_ | with_reducible refine bel_drewN ?_ _ | (with_reducible refine bel_set ?_ ?_ _; rotate_left; ((try simp); (try omega))))) hbw5)
  obtain ⟨hcw5, hfzw5, -⟩ := bcell hbw5
  clear hbw5
  go_wp2_with fail
  refine (implErrorResponse_any  _ ).mono ?_
  rintro e w6 ⟨uw6, Gw6, rfl, hbw6, hrw6, hfw6⟩
  have drw6 := hrw6
  obtain ⟨vrw6_3, Erw6_3, rfl, -, -, mrw6_3⟩ := TResp.outA drw6
  obtain ⟨Arw6_3, crw6_3, erw6_3⟩ := cL_form mrw6_3
  subst erw6_3
  clear mrw6_3 drw6
  have hsw6 := hbw6.size
  (try simp at hsw6)
  have hzw6_0 : w1.heap.size < w6.heap.size := by omega
  have hzw6_1 : w2.heap.size < w6.heap.size := by omega
  have hBw6 : Below w.heap.size w w6 := bel_then (by repeat (first | with_reducible exact Below.refl _ _ | with_reducible assumption | with_reducible refine bel_alloc ?_ _ | with_reducible refine bel_drew ?_ | with_reducible refine bel_drewN ?_ _ | (with_reducible refine bel_set ?_ ?_ _; rotate_left; ((try simp); (try omega))))) hbw6
  replace hrw1 := Cod.bel hrw1 (show Below _ _ w6 from bel_then (by repeat (first | with_reducible exact Below.refl _ _ | with_reducible assumption | with_reducible refine bel_alloc ?_ _ | with_reducible refine bel_drew ?_ | with_reducible refine bel_drewN ?_ _ | (with_reducible refine bel_set ?_ ?_ _; rotate_left; ((try simp); (try omega))))) hbw6)
  replace hrw2 := Cod.bel hrw2 (show Below _ _ w6 from bel_then (by repeat (first | with_reducible exact Below.refl _ _ | with_reducible assumption | with_reducible refine bel_alloc ?_ _ | with_reducible refine bel_drew ?_ | with_reducible refine bel_drewN ?_ _ | (with_reducible refine bel_set ?_ ?_ _; rotate_left; ((try simp); (try omega))))) hbw6)
  have hlrw6 : ∀ b, b ∈ Gw6 → b < w6.heap.size := fun b hb => Cod.lt _ hrw6 b hb
  obtain ⟨hcw6, hfzw6, -⟩ := bcell hbw6
  clear hbw6
  go_wp2_with fail
  refine (eqResponse_any _ _ (errorResponse) _ _ _ (by exact Cod.bel hrw6 (by repeat (first | with_reducible exact Below.refl _ _ | with_reducible assumption | with_reducible refine bel_alloc ?_ _ | with_reducible refine bel_drew ?_ | with_reducible refine bel_drewN ?_ _ | (with_reducible refine bel_set ?_ ?_ _; rotate_left; ((try simp); (try omega)))))) (by exact Cod.bel hrw1 (by repeat (first | with_reducible exact Below.refl _ _ | with_reducible assumption | with_reducible refine bel_alloc ?_ _ | with_reducible refine bel_drew ?_ | with_reducible refine bel_drewN ?_ _ | (with_reducible refine bel_set ?_ ?_ _; rotate_left; ((try simp); (try omega))))))).mono ?_
  rintro e w7 ⟨rfl, hbw7⟩
  have hsw7 := hbw7.size
  (try simp at hsw7)
  have hzw7_0 : w1.heap.size < w7.heap.size := by omega
  have hzw7_1 : w2.heap.size < w7.heap.size := by omega
  have hzw7_2 : w6.heap.size < w7.heap.size := by omega
  have hBw7 : Below w.heap.size w w7 := bel_then (by repeat (first | with_reducible exact Below.refl _ _ | with_reducible assumption | with_reducible refine bel_alloc ?_ _ | with_reducible refine bel_drew ?_ | with_reducible refine bel_drewN ?_ _ | (with_reducible refine bel_set ?_ ?_ _; rotate_left; ((try simp); (try omega))))) hbw7
  replace hrw1 := Cod.bel hrw1 (show Below _ _ w7 from bel_then (by repeat (first | with_reducible exact Below.refl _ _ | with_reducible assumption | with_reducible refine bel_alloc ?_ _ | with_reducible refine bel_drew ?_ | with_reducible refine bel_drewN ?_ _ | (with_reducible refine bel_set ?_ ?_ _; rotate_left; ((try simp); (try omega))))) hbw7)
  replace hrw2 := Cod.bel hrw2 (show Below _ _ w7 from bel_then (by repeat (first | with_reducible exact Below.refl _ _ | with_reducible assumption | with_reducible refine bel_alloc ?_ _ | with_reducible refine bel_drew ?_ | with_reducible refine bel_drewN ?_ _ | (with_reducible refine bel_set ?_ ?_ _; rotate_left; ((try simp); (try omega))))) hbw7)
  replace hrw6 := Cod.bel hrw6 (show Below _ _ w7 from bel_then (by repeat (first | with_reducible exact Below.refl _ _ | with_reducible assumption | with_reducible refine bel_alloc ?_ _ | with_reducible refine bel_drew ?_ | with_reducible refine bel_drewN ?_ _ | (with_reducible refine bel_set ?_ ?_ _; rotate_left; ((try simp); (try omega))))) hbw7)
  obtain ⟨hcw7, hfzw7, -⟩ := bcell hbw7
  clear hbw7
  go_wp2_with fail
  refine (heldResponse_any _ (errorResponse) _ _ _ (by exact Cod.bel hrw2 (by repeat (first | with_reducible exact Below.refl _ _ | with_reducible assumption | with_reducible refine bel_alloc ?_ _ | with_reducible refine bel_drew ?_ | with_reducible refine bel_drewN ?_ _ | (with_reducible refine bel_set ?_ ?_ _; rotate_left; ((try simp); (try omega)))))) (by omega) (by omega)).mono ?_
  rintro e w8 ⟨rfl, hbw8⟩
  have hsw8 := hbw8.size
  (try simp at hsw8)
  have hzw8_0 : w1.heap.size < w8.heap.size := by omega
  have hzw8_1 : w2.heap.size < w8.heap.size := by omega
  have hzw8_2 : w6.heap.size < w8.heap.size := by omega
  have hBw8 : Below w.heap.size w w8 := bel_then (by repeat (first | with_reducible exact Below.refl _ _ | with_reducible assumption | with_reducible refine bel_alloc ?_ _ | with_reducible refine bel_drew ?_ | with_reducible refine bel_drewN ?_ _ | (with_reducible refine bel_set ?_ ?_ _; rotate_left; ((try simp); (try omega))))) hbw8
  replace hrw1 := Cod.bel hrw1 (show Below _ _ w8 from bel_then (by repeat (first | with_reducible exact Below.refl _ _ | with_reducible assumption | with_reducible refine bel_alloc ?_ _ | with_reducible refine bel_drew ?_ | with_reducible refine bel_drewN ?_ _ | (with_reducible refine bel_set ?_ ?_ _; rotate_left; ((try simp); (try omega))))) hbw8)
  replace hrw2 := Cod.bel hrw2 (show Below _ _ w8 from bel_then (by repeat (first | with_reducible exact Below.refl _ _ | with_reducible assumption | with_reducible refine bel_alloc ?_ _ | with_reducible refine bel_drew ?_ | with_reducible refine bel_drewN ?_ _ | (with_reducible refine bel_set ?_ ?_ _; rotate_left; ((try simp); (try omega))))) hbw8)
  replace hrw6 := Cod.bel hrw6 (show Below _ _ w8 from bel_then (by repeat (first | with_reducible exact Below.refl _ _ | with_reducible assumption | with_reducible refine bel_alloc ?_ _ | with_reducible refine bel_drew ?_ | with_reducible refine bel_drewN ?_ _ | (with_reducible refine bel_set ?_ ?_ _; rotate_left; ((try simp); (try omega))))) hbw8)
  obtain ⟨hcw8, hfzw8, -⟩ := bcell hbw8
  clear hbw8
  go_wp2_with fail
  go_ret
  exact ⟨rfl, (by repeat (first | with_reducible exact Below.refl _ _ | with_reducible assumption | with_reducible refine bel_alloc ?_ _ | with_reducible refine bel_drew ?_ | with_reducible refine bel_drewN ?_ _ | (with_reducible refine bel_set ?_ ?_ _; rotate_left; ((try simp); (try omega)))))⟩

theorem lawErrorResponse_walk (H : Type) (enc : TypeId × Value → H) (W : World) (base : Nat) (args : Array Value) (ds : List (DataW H)) (p : List MemPlace)
    (hval : ∀ (j : Nat) t v, Try.f7.params[j]? = some t → args[j]? = some v → Value.okWide Try.prog W .any base t v)
    (hA : DataW.TrodAll enc Try.prog W 0 (fun _ => true) true Try.f7.params.toList args.toList ds p) (hf : W.noneFrozen p) :
    Calls Try.prog 7 args W (Gives W (.bool true)) := by
  rw [Try.params7] at hA hval
  obtain ⟨hargs, rfl, rfl⟩ := trodAll_nil hA
  obtain rfl : args = #[] := by cases args; simp_all
  exact lawErrorResponse_any  W 

set_option maxRecDepth 100000 in
theorem lawErrorResponse_lifted (os : Os) (started : os.Started) (H : Type) (enc : TypeId × Value → H) :
    ReturnsInHanded {} Try.checked os 7 .any (Rows.fnExactErrorResponseSpec.pre6 enc Try.prog Try.f7 Rows.fnExactErrorResponseRow.domain false) (Rows.fnExactErrorResponseSpec.post enc Try.prog Try.f7 false true false false) := by
  refine returnsInHanded_of_change (C := Try.checked) (by kernel_rfl) started (by kernel_rfl) Try.func7
    (ChangeSpec.witness6 (enc := enc) (C := Try.checked) false ⟨#[], #[], []⟩ 16 (by kernel_rfl) (by kernel_rfl) (by kernel_rfl) (by kernel_rfl)) ?_
  intro W base args ds gs before hval hW _ _
  have hW' := hW
  obtain ⟨p, q, hA, hV, rfl, hfz, hnd⟩ := hW
  refine (lawErrorResponse_walk H enc W base args ds p hval hA (noneFrozen_mono hfz fun y hy => by simp [hy])).mono fun e W' ⟨he, hb⟩ => ⟨_, he, ?_⟩
  exact law_post (by kernel_rfl) rfl (by kernel_rfl) Try.underlying4 (by kernel_rfl) (fun ds h => by
    match ds, h with
    | [], _ => exact ⟨rfl, rfl, rfl⟩) hW' hb
theorem lawErrorResponse_over : Rows.fnExactErrorResponseRow.holds Try.pinned (OpenSpec.ofChange Rows.fnExactErrorResponseSpec) :=
  OpenClaim.holds_of_wide 7 Try.f7 rfl rfl rfl rfl rfl rfl rfl ⟨rfl, rfl, rfl, rfl, rfl⟩ rfl rfl rfl rfl rfl (by kernel_rfl) Try.func7 (by kernel_rfl)
    (of_decide_eq_true (by kernel_rfl)) (by unfold Func.isWrapper; rw [if_neg (of_decide_eq_false (by kernel_rfl))]; exact ⟨rfl, rfl⟩)
    (fun os started H enc _ => lawErrorResponse_lifted os started H enc)
/-- THE STATEMENT -/
theorem lawErrorResponse_holds : Rows.FnExactErrorResponseSaid := lawErrorResponse_over

end Go.Proofs.Ytdogljbchedkaaa
