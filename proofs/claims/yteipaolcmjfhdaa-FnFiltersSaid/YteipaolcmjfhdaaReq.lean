/-
  IsRequest of the program and of the reference. No conditions.
-/
import Derived.Test.YteipaolcmjfhdaaTReq
import Derived.Test.YteipaolcmjfhdaaName
namespace Go.Proofs.Yteipaolcmjfhdaa
open Go.ChangeShapes Go.WideShapes Go.RowKit

def isRequest (x : TReq) : Bool := isName x.frm && isName x.dst && isName x.path && inR x.mode 1 3
set_option maxHeartbeats 400000 in
theorem implRequest_any (x : TReq) (w : World) (hx : x.Ok) : Calls Try.prog 72 #[x.val] w (Gives w (.bool (isRequest x))) := by
  obtain ⟨a1, a2, a3, -⟩ := hx
  unfold TReq.val
  go_enter Try.func72, Try.ntmps72
  go_wp2_with (first
    | (go_at_call 89; refine (implName_any _ _ (by assumption)).mono ?_; rintro e w1 ⟨rfl, rfl⟩)
    | (go_at_call 85; refine (inRange_any _ _ _ _).mono ?_; rintro e w1 ⟨rfl, rfl⟩))
  all_goals go_ret
  all_goals exact ⟨ret_bool (by simp [isRequest, *]), (by repeat (first | with_reducible exact Below.refl _ _ | with_reducible assumption | with_reducible refine bel_alloc ?_ _ | with_reducible refine bel_drew ?_ | with_reducible refine bel_drewN ?_ _ | (with_reducible refine bel_set ?_ ?_ _; rotate_left; ((try simp); (try omega)))))⟩
set_option maxHeartbeats 400000 in
theorem specRequest_any (x : TReq) (w : World) (hx : x.Ok) : Calls Try.prog 21 #[x.val] w (Gives w (.bool (isRequest x))) := by
  obtain ⟨a1, a2, a3, -⟩ := hx
  unfold TReq.val
  go_enter Try.func21, Try.ntmps21
  go_wp2_with (first
    | (go_at_call 78; refine (specName_any _ _ (by assumption)).mono ?_; rintro e w1 ⟨rfl, rfl⟩)
    | (go_at_call 79; refine (l1In_any _ _ _ _).mono ?_; rintro e w1 ⟨rfl, rfl⟩))
  all_goals go_ret
  all_goals exact ⟨ret_bool (by simp [isRequest, *]), (by repeat (first | with_reducible exact Below.refl _ _ | with_reducible assumption | with_reducible refine bel_alloc ?_ _ | with_reducible refine bel_drew ?_ | with_reducible refine bel_drewN ?_ _ | (with_reducible refine bel_set ?_ ?_ _; rotate_left; ((try simp); (try omega)))))⟩
theorem implIsRequest_any (vs : Array Value) (x : TReq) (F : List Nat) (w : World) (h : cReq.rep w vs.toList x F) (_hn : cReq.sz x ≤ 1048576) :
    Calls Try.prog 72 #[.agg vs] w (Gives w (.bool (isRequest x))) := by
  rw [TReq.val_of h]
  exact implRequest_any x w (TReq.out h).2.2
theorem specIsRequest_any (vs : Array Value) (x : TReq) (F : List Nat) (w : World) (h : cReq.rep w vs.toList x F) (_hn : cReq.sz x ≤ 1048576) :
    Calls Try.prog 21 #[.agg vs] w (Gives w (.bool (isRequest x))) := by
  rw [TReq.val_of h]
  exact specRequest_any x w (TReq.out h).2.2
end Go.Proofs.Yteipaolcmjfhdaa
