/-
  Responses: IsResponse, StoredSize, ErrorResponse of the program and of the reference. No conditions.
-/
import Derived.Test.YtlicnppfgfjkgaaZA
namespace Go.Proofs.Ytlicnppfgfjkgaa
open Go.ChangeShapes Go.WideShapes Go.RowKit
set_option linter.unusedVariables false

def isResponse (x : TResp) : Bool := inR x.type 1 4 && inR x.status 0 999 && inR x.ver 0 1000000000000 && decide ((x.body.length : Int) ≤ 60)
set_option maxHeartbeats 1000000 in
theorem implIsResponseN_any (vs : Array Value) (x : TResp) (F : List Nat) (w : World) (h : cResp.rep w vs.toList x F) : Calls Try.prog 103 #[.agg vs] w (Gives w (.bool (isResponse x))) := by
  obtain ⟨v3, F3, rfl, -, -, m3⟩ := TResp.outA h
  obtain ⟨A3, c3, rfl⟩ := cL_form m3
  clear m3 h
  go_enter Try.func103, Try.ntmps103
  go_wp2_with (first | (go_at_call 66; refine (inRange_any _ _ _ _).mono ?_; rintro e w1 ⟨rfl, rfl⟩))
  all_goals go_ret
  all_goals exact ⟨ret_bool (by simp [isResponse, *]), (by repeat (first | with_reducible exact Below.refl _ _ | with_reducible assumption | with_reducible refine bel_alloc ?_ _ | with_reducible refine bel_drew ?_ | with_reducible refine bel_drewN ?_ _ | (with_reducible refine bel_set ?_ ?_ _; rotate_left; ((try simp); (try omega)))))⟩
theorem implIsResponse_any (vs : Array Value) (x : TResp) (F : List Nat) (w : World) (h : cResp.rep w vs.toList x F) (hn : cResp.sz x ≤ 1048576) : Calls Try.prog 103 #[.agg vs] w (Gives w (.bool (isResponse x))) := implIsResponseN_any vs x F w h
set_option maxHeartbeats 1000000 in
theorem specIsResponseN_any (vs : Array Value) (x : TResp) (F : List Nat) (w : World) (h : cResp.rep w vs.toList x F) : Calls Try.prog 163 #[.agg vs] w (Gives w (.bool (isResponse x))) := by
  obtain ⟨v3, F3, rfl, -, -, m3⟩ := TResp.outA h
  obtain ⟨A3, c3, rfl⟩ := cL_form m3
  clear m3 h
  go_enter Try.func163, Try.ntmps163
  go_wp2_with (first | (go_at_call 83; refine (l1In_any _ _ _ _).mono ?_; rintro e w1 ⟨rfl, rfl⟩))
  all_goals go_ret
  all_goals exact ⟨ret_bool (by simp [isResponse, *]), (by repeat (first | with_reducible exact Below.refl _ _ | with_reducible assumption | with_reducible refine bel_alloc ?_ _ | with_reducible refine bel_drew ?_ | with_reducible refine bel_drewN ?_ _ | (with_reducible refine bel_set ?_ ?_ _; rotate_left; ((try simp); (try omega)))))⟩
theorem specIsResponse_any (vs : Array Value) (x : TResp) (F : List Nat) (w : World) (h : cResp.rep w vs.toList x F) (hn : cResp.sz x ≤ 1048576) : Calls Try.prog 163 #[.agg vs] w (Gives w (.bool (isResponse x))) := specIsResponseN_any vs x F w h

def storedSize (x : TResp) (hidden : Bool) : Int := bif hidden then 76 else 16 + x.body.length
set_option maxHeartbeats 1000000 in
theorem implStoredSize_any (vs : Array Value) (x : TResp) (F : List Nat) (hidden : Bool) (w : World) (h : cResp.rep w vs.toList x F) (hn : cResp.sz x ≤ 1048576) : Calls Try.prog 104 #[.agg vs, .bool hidden] w (Gives w (.int .i64 (storedSize x hidden))) := by
  have hl : x.body.length ≤ 1048576 := Nat.le_trans (Cod.len_le cU x.body) (by have : cResp.sz x = 0 + (0 + (0 + (cU.szs x.body + 0))) := rfl; omega)
  obtain ⟨v3, F3, rfl, -, -, m3⟩ := TResp.outA h
  obtain ⟨A3, c3, rfl⟩ := cL_form m3
  clear m3 h
  cases hidden
  all_goals
    go_enter Try.func104, Try.ntmps104
    go_wp2
    go_ret
    exact ⟨ret_int (by simp [storedSize]), (by repeat (first | with_reducible exact Below.refl _ _ | with_reducible assumption | with_reducible refine bel_alloc ?_ _ | with_reducible refine bel_drew ?_ | with_reducible refine bel_drewN ?_ _ | (with_reducible refine bel_set ?_ ?_ _; rotate_left; ((try simp); (try omega)))))⟩
end Go.Proofs.Ytlicnppfgfjkgaa
