/-
  The law FnExactIsRequest: for every request the program's IsRequest returns what the reference's returns. No conditions.
-/
import Derived.Test.YtdogljbchedkaaaReq
namespace Go.Proofs.Ytdogljbchedkaaa
open Go.ChangeShapes Go.WideShapes Go.RowKit

set_option maxHeartbeats 400000 in
theorem isRequest_law (x : TReq) (w : World) (hx : x.Ok) : Calls Try.prog 5 #[x.val] w (Gives w (.bool true)) := by
  unfold TReq.val
  by_cases hlt : (1048576 : Int) - (x.frm.size + x.dst.size + x.path.size) < 0
  · have hv := Lib.hid (leftOf_neg hlt)
    go_enter Try.func5, Try.ntmps5
    go_wp2_with fail
    refine (szRequest_any x _ _ hx (by omega) (by omega)).mono ?_
    rintro e w1 ⟨rfl, hb1⟩
    rw [hv.out]
    have hB1 : Below w.heap.size w w1 := bel_then (by repeat (first | exact Below.refl _ _ | assumption | refine bel_alloc ?_ _ | refine bel_drew ?_ | refine bel_drewN ?_ _ | refine bel_set ?_ (by simp; try omega) _)) hb1
    go_wp2_with fail
    go_ret
    exact ⟨rfl, hB1⟩
  · have hv := Lib.hid (leftOf_pos hlt)
    go_enter Try.func5, Try.ntmps5
    go_wp2_with fail
    refine (szRequest_any x _ _ hx (by omega) (by omega)).mono ?_
    rintro e w1 ⟨rfl, hb1⟩
    rw [hv.out]
    obtain ⟨hc1, hf1, hz1⟩ := bcell hb1
    have hs1 : w.heap.size < w1.heap.size := (by (try simp only [World.size_alloc] at hz1); omega)
    have hB1 : Below w.heap.size w w1 := bel_then (by repeat (first | exact Below.refl _ _ | assumption | refine bel_alloc ?_ _ | refine bel_drew ?_ | refine bel_drewN ?_ _ | refine bel_set ?_ (by simp; try omega) _)) hb1
    clear hb1
    go_wp2_with (first
      | (go_at_call 26; refine (toRequest_any x _).mono ?_; rintro e w1 ⟨rfl, hb1⟩; obtain ⟨hc1, hf1, hz1⟩ := bcell hb1; have hs1 : w.heap.size < w1.heap.size := (by (try simp only [World.size_alloc] at hz1); omega); have hB1 : Below w.heap.size w w1 := (bel_then (by repeat (first | exact Below.refl _ _ | assumption | refine bel_alloc ?_ _ | refine bel_drew ?_ | refine bel_drewN ?_ _ | refine bel_set ?_ (by simp; try omega) _)) hb1))
      | (go_at_call 25; refine (specRequest_any x _ hx).mono ?_; rintro e w1 ⟨rfl, hb1⟩; obtain ⟨hc1, hf1, hz1⟩ := bcell hb1; have hs1 : w.heap.size < w1.heap.size := (by (try simp only [World.size_alloc] at hz1); omega); have hB1 : Below w.heap.size w w1 := (bel_then (by repeat (first | exact Below.refl _ _ | assumption | refine bel_alloc ?_ _ | refine bel_drew ?_ | refine bel_drewN ?_ _ | refine bel_set ?_ (by simp; try omega) _)) hb1))
      | (go_at_call 27; refine (implRequest_any x _ hx).mono ?_; rintro e w1 ⟨rfl, hb1⟩; obtain ⟨hc1, hf1, hz1⟩ := bcell hb1; have hs1 : w.heap.size < w1.heap.size := (by (try simp only [World.size_alloc] at hz1); omega); have hB1 : Below w.heap.size w w1 := (bel_then (by repeat (first | exact Below.refl _ _ | assumption | refine bel_alloc ?_ _ | refine bel_drew ?_ | refine bel_drewN ?_ _ | refine bel_set ?_ (by simp; try omega) _)) hb1)))
    go_ret
    exact ⟨rfl, (by repeat (first | exact Below.refl _ _ | assumption | refine bel_alloc ?_ _ | refine bel_drew ?_ | refine bel_drewN ?_ _ | refine bel_set ?_ (by simp; try omega) _))⟩

theorem isRequest_walk (H : Type) (enc : TypeId × Value → H) (W : World) (base : Nat) (args : Array Value) (ds : List (DataW H)) (p : List MemPlace)
    (hval : ∀ (j : Nat) t v, Try.f5.params[j]? = some t → args[j]? = some v → Value.okWide Try.prog W .any base t v)
    (hA : DataW.TrodAll enc Try.prog W 0 (fun _ => true) true Try.f5.params.toList args.toList ds p) (hf : W.noneFrozen p) :
    Calls Try.prog 5 args W (Gives W (.bool true)) := by
  rw [Try.params5] at hA hval
  obtain ⟨v0, vs0, d0, ds0, p0, q0, hargs, rfl, rfl, h0, r0⟩ := trodAll_cons hA
  obtain ⟨rfl, rfl, rfl⟩ := trodAll_nil r0
  obtain rfl : args = #[v0] := by cases args; simp_all
  obtain ⟨cs, x, F, rfl, hx⟩ := opens_lReq.struct_ Try.underlying40 (hval 0 _ _ rfl rfl) h0 (noneFrozen_mono hf fun y hy => by simp [hy])
  rw [TReq.val_of hx]
  exact isRequest_law x W (TReq.out hx).2.2

set_option maxRecDepth 100000 in
theorem isRequest_lifted (os : Os) (started : os.Started) (H : Type) (enc : TypeId × Value → H) :
    ReturnsInHanded {} Try.checked os 5 .any (Rows.fnExactIsRequestSpec.pre6 enc Try.prog Try.f5 Rows.fnExactIsRequestRow.domain false) (Rows.fnExactIsRequestSpec.post enc Try.prog Try.f5 false true false false) := by
  refine returnsInHanded_of_change (C := Try.checked) (by kernel_rfl) started (by kernel_rfl) Try.func5
    (ChangeSpec.witness6 (enc := enc) (C := Try.checked) false ⟨#[], #[.agg #[.string ByteArray.empty, .string ByteArray.empty, .string ByteArray.empty, .int .i64 0]], []⟩ 16 (by kernel_rfl) (by kernel_rfl) (by kernel_rfl) (by kernel_rfl)) ?_
  intro W base args ds gs before hval hW _ _
  have hW' := hW
  obtain ⟨p, q, hA, hV, rfl, hfz, hnd⟩ := hW
  refine (isRequest_walk H enc W base args ds p hval hA (noneFrozen_mono hfz fun y hy => by simp [hy])).mono fun e W' ⟨he, hb⟩ => ⟨_, he, ?_⟩
  exact law_post (by kernel_rfl) rfl (by kernel_rfl) Try.underlying4 (by kernel_rfl) (fun ds h => by
    match ds, h with
    | [d], _ => exact ⟨rfl, rfl, rfl⟩) hW' hb
theorem isRequest_over : Rows.fnExactIsRequestRow.holds Try.pinned (OpenSpec.ofChange Rows.fnExactIsRequestSpec) :=
  OpenClaim.holds_of_wide 5 Try.f5 rfl rfl rfl rfl rfl rfl rfl ⟨rfl, rfl, rfl, rfl, rfl⟩ rfl rfl rfl rfl rfl (by kernel_rfl) Try.func5 (by kernel_rfl)
    (of_decide_eq_true (by kernel_rfl)) (by unfold Func.isWrapper; rw [if_neg (of_decide_eq_false (by kernel_rfl))]; exact ⟨rfl, rfl⟩)
    (fun os started H enc _ => isRequest_lifted os started H enc)
/-- THE STATEMENT -/
theorem isRequest_holds : Rows.FnExactIsRequestSaid := isRequest_over

end Go.Proofs.Ytdogljbchedkaaa
