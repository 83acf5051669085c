/-
  The law FnExactIsRegistration: for every registration the program's IsRegistration returns what the reference's returns. No conditions.
-/
import Derived.Test.YtdogljbchedkaaaRegOk
namespace Go.Proofs.Ytdogljbchedkaaa
open Go.ChangeShapes Go.WideShapes Go.RowKit

set_option maxHeartbeats 400000 in
theorem isRegistration_law (x : TReg) (w : World) (hx : x.site.size ≤ maxLen) : Calls Try.prog 6 #[x.val] w (Gives w (.bool true)) := by
  unfold TReg.val
  by_cases hlt : (1048576 : Int) - x.site.size < 0
  · have hv := Lib.hid (leftOf_neg hlt)
    go_enter Try.func6, Try.ntmps6
    go_wp2_with fail
    refine (szRegistration_any x _ _ hx (by omega) (by omega)).mono ?_
    rintro e w1 ⟨rfl, hb1⟩
    rw [hv.out]
    have hB1 : Below w.heap.size w w1 := bel_then (by repeat (first | exact Below.refl _ _ | assumption | refine bel_alloc ?_ _ | refine bel_drew ?_ | refine bel_drewN ?_ _ | refine bel_set ?_ (by simp; try omega) _)) hb1
    go_wp2_with fail
    go_ret
    exact ⟨rfl, hB1⟩
  · have hv := Lib.hid (leftOf_pos hlt)
    go_enter Try.func6, Try.ntmps6
    go_wp2_with fail
    refine (szRegistration_any x _ _ hx (by omega) (by omega)).mono ?_
    rintro e w1 ⟨rfl, hb1⟩
    rw [hv.out]
    obtain ⟨hc1, hf1, hz1⟩ := bcell hb1
    have hs1 : w.heap.size < w1.heap.size := (by (try simp only [World.size_alloc] at hz1); omega)
    have hB1 : Below w.heap.size w w1 := bel_then (by repeat (first | exact Below.refl _ _ | assumption | refine bel_alloc ?_ _ | refine bel_drew ?_ | refine bel_drewN ?_ _ | refine bel_set ?_ (by simp; try omega) _)) hb1
    clear hb1
    go_wp2_with (first
      | (go_at_call 17; refine (toRegistration_any x _).mono ?_; rintro e w1 ⟨rfl, hb1⟩; obtain ⟨hc1, hf1, hz1⟩ := bcell hb1; have hs1 : w.heap.size < w1.heap.size := (by (try simp only [World.size_alloc] at hz1); omega); have hB1 : Below w.heap.size w w1 := (bel_then (by repeat (first | exact Below.refl _ _ | assumption | refine bel_alloc ?_ _ | refine bel_drew ?_ | refine bel_drewN ?_ _ | refine bel_set ?_ (by simp; try omega) _)) hb1))
      | (go_at_call 28; refine (specRegOk_any x _ hx).mono ?_; rintro e w1 ⟨rfl, hb1⟩; obtain ⟨hc1, hf1, hz1⟩ := bcell hb1; have hs1 : w.heap.size < w1.heap.size := (by (try simp only [World.size_alloc] at hz1); omega); have hB1 : Below w.heap.size w w1 := (bel_then (by repeat (first | exact Below.refl _ _ | assumption | refine bel_alloc ?_ _ | refine bel_drew ?_ | refine bel_drewN ?_ _ | refine bel_set ?_ (by simp; try omega) _)) hb1))
      | (go_at_call 29; refine (implRegOk_any x _ hx).mono ?_; rintro e w1 ⟨rfl, hb1⟩; obtain ⟨hc1, hf1, hz1⟩ := bcell hb1; have hs1 : w.heap.size < w1.heap.size := (by (try simp only [World.size_alloc] at hz1); omega); have hB1 : Below w.heap.size w w1 := (bel_then (by repeat (first | exact Below.refl _ _ | assumption | refine bel_alloc ?_ _ | refine bel_drew ?_ | refine bel_drewN ?_ _ | refine bel_set ?_ (by simp; try omega) _)) hb1)))
    go_ret
    exact ⟨rfl, (by repeat (first | exact Below.refl _ _ | assumption | refine bel_alloc ?_ _ | refine bel_drew ?_ | refine bel_drewN ?_ _ | refine bel_set ?_ (by simp; try omega) _))⟩

theorem isRegistration_walk (H : Type) (enc : TypeId × Value → H) (W : World) (base : Nat) (args : Array Value) (ds : List (DataW H)) (p : List MemPlace)
    (hval : ∀ (j : Nat) t v, Try.f6.params[j]? = some t → args[j]? = some v → Value.okWide Try.prog W .any base t v)
    (hA : DataW.TrodAll enc Try.prog W 0 (fun _ => true) true Try.f6.params.toList args.toList ds p) (hf : W.noneFrozen p) :
    Calls Try.prog 6 args W (Gives W (.bool true)) := by
  rw [Try.params6] at hA hval
  obtain ⟨v0, vs0, d0, ds0, p0, q0, hargs, rfl, rfl, h0, r0⟩ := trodAll_cons hA
  obtain ⟨rfl, rfl, rfl⟩ := trodAll_nil r0
  obtain rfl : args = #[v0] := by cases args; simp_all
  obtain ⟨cs, x, F, rfl, hx⟩ := opens_lReg.struct_ Try.underlying23 (hval 0 _ _ rfl rfl) h0 (noneFrozen_mono hf fun y hy => by simp [hy])
  rw [TReg.val_of hx]
  exact isRegistration_law x W (TReg.out hx).2.2.1

set_option maxRecDepth 100000 in
theorem isRegistration_lifted (os : Os) (started : os.Started) (H : Type) (enc : TypeId × Value → H) :
    ReturnsInHanded {} Try.checked os 6 .any (Rows.fnExactIsRegistrationSpec.pre6 enc Try.prog Try.f6 Rows.fnExactIsRegistrationRow.domain false) (Rows.fnExactIsRegistrationSpec.post enc Try.prog Try.f6 false true false false) := by
  refine returnsInHanded_of_change (C := Try.checked) (by kernel_rfl) started (by kernel_rfl) Try.func6
    (ChangeSpec.witness6 (enc := enc) (C := Try.checked) false ⟨#[], #[.agg #[.string ByteArray.empty, .int .i64 0, .int .i64 0, .int .i64 0]], []⟩ 16 (by kernel_rfl) (by kernel_rfl) (by kernel_rfl) (by kernel_rfl)) ?_
  intro W base args ds gs before hval hW _ _
  have hW' := hW
  obtain ⟨p, q, hA, hV, rfl, hfz, hnd⟩ := hW
  refine (isRegistration_walk H enc W base args ds p hval hA (noneFrozen_mono hfz fun y hy => by simp [hy])).mono fun e W' ⟨he, hb⟩ => ⟨_, he, ?_⟩
  exact law_post (by kernel_rfl) rfl (by kernel_rfl) Try.underlying4 (by kernel_rfl) (fun ds h => by
    match ds, h with
    | [d], _ => exact ⟨rfl, rfl, rfl⟩) hW' hb
theorem isRegistration_over : Rows.fnExactIsRegistrationRow.holds Try.pinned (OpenSpec.ofChange Rows.fnExactIsRegistrationSpec) :=
  OpenClaim.holds_of_wide 6 Try.f6 rfl rfl rfl rfl rfl rfl rfl ⟨rfl, rfl, rfl, rfl, rfl⟩ rfl rfl rfl rfl rfl (by kernel_rfl) Try.func6 (by kernel_rfl)
    (of_decide_eq_true (by kernel_rfl)) (by unfold Func.isWrapper; rw [if_neg (of_decide_eq_false (by kernel_rfl))]; exact ⟨rfl, rfl⟩)
    (fun os started H enc _ => isRegistration_lifted os started H enc)
/-- THE STATEMENT -/
theorem isRegistration_holds : Rows.FnExactIsRegistrationSaid := isRegistration_over

end Go.Proofs.Ytdogljbchedkaaa
