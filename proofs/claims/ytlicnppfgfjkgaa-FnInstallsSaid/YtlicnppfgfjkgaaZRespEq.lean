/-
  ErrorResponse and EqualResponses of the program and of the reference. No conditions.
-/
import Derived.Test.YtlicnppfgfjkgaaZA
import Derived.Test.YtlicnppfgfjkgaaZBytes
namespace Go.Proofs.Ytlicnppfgfjkgaa
open Go.ChangeShapes Go.WideShapes Go.RowKit
set_option linter.unusedVariables false

def errorResponse : TResp := ⟨4, 0, 0, [], false⟩
theorem implErrorResponse_any (w : World) : Calls Try.prog 78 #[] w (GivesR cResp w errorResponse) := by
  go_enter Try.func78, Try.ntmps78
  go_wp2
  refine bodyPost_ret (v := .agg #[.int .i64 4, .int .i64 0, .int .i64 0, .slice none 0 0, .bool false]) (by simp [results, Try.results78, go_sem, *]) rfl ?_
  exact ⟨_, [], rfl, (by repeat (first | with_reducible exact Below.refl _ _ | with_reducible assumption | with_reducible refine bel_alloc ?_ _ | with_reducible refine bel_drew ?_ | with_reducible refine bel_drewN ?_ _ | (with_reducible refine bel_set ?_ ?_ _; rotate_left; ((try simp); (try omega))))), TResp.mk_ (x := errorResponse) ⟨by decide, by decide, by decide⟩ ⟨none, 0, rfl, by decide, by decide, .inl ⟨rfl, rfl⟩⟩, Fresh.nil _⟩
theorem specErrorResponse_any (w : World) : Calls Try.prog 82 #[] w (GivesR cResp w errorResponse) := by
  go_enter Try.func82, Try.ntmps82
  go_wp2
  refine bodyPost_ret (v := .agg #[.int .i64 4, .int .i64 0, .int .i64 0, .slice none 0 0, .bool false]) (by simp [results, Try.results82, go_sem, *]) rfl ?_
  exact ⟨_, [], rfl, (by repeat (first | with_reducible exact Below.refl _ _ | with_reducible assumption | with_reducible refine bel_alloc ?_ _ | with_reducible refine bel_drew ?_ | with_reducible refine bel_drewN ?_ _ | (with_reducible refine bel_set ?_ ?_ _; rotate_left; ((try simp); (try omega))))), TResp.mk_ (x := errorResponse) ⟨by decide, by decide, by decide⟩ ⟨none, 0, rfl, by decide, by decide, .inl ⟨rfl, rfl⟩⟩, Fresh.nil _⟩

def equalResponses (a b : TResp) : Bool := a.type == b.type && a.status == b.status && a.ver == b.ver && bytesEq a.body b.body && a.shares == b.shares
set_option maxHeartbeats 2000000 in
theorem implEqualResponses_any (vs : Array Value) (x : TResp) (F : List Nat) (vs2 : Array Value) (y : TResp) (F2 : List Nat) (w : World) (h : cResp.rep w vs.toList x F) (hn : cResp.sz x ≤ 1048576) (h2 : cResp.rep w vs2.toList y F2) (hn2 : cResp.sz y ≤ 1048576) :
    Calls Try.prog 27 #[.agg vs, .agg vs2] w (Gives w (.bool (equalResponses x y))) := by
  obtain ⟨v3, F3, rfl, -, -, m3⟩ := TResp.outA h
  obtain ⟨A3, c3, rfl⟩ := cL_form m3
  obtain ⟨v4, F4, rfl, -, -, m4⟩ := TResp.outA h2
  obtain ⟨A4, c4, rfl⟩ := cL_form m4
  clear h h2
  cases e1 : (x.type == y.type)
  all_goals cases e2 : (x.status == y.status)
  all_goals cases e3 : (x.ver == y.ver)
  all_goals cases e5 : (x.shares == y.shares)
  all_goals
    have HE := Lib.hid e5
    go_enter Try.func27, Try.ntmps27
    go_wp2_with (first | (go_at_call 80; refine (implEqualBytes_any _ _ x.body y.body _ _ _ (by exact Cod.bel m3 (by repeat (first | with_reducible exact Below.refl _ _ | with_reducible assumption | with_reducible refine bel_alloc ?_ _ | with_reducible refine bel_drew ?_ | with_reducible refine bel_drewN ?_ _ | (with_reducible refine bel_set ?_ ?_ _; rotate_left; ((try simp); (try omega)))))) (by exact Cod.bel m4 (by repeat (first | with_reducible exact Below.refl _ _ | with_reducible assumption | with_reducible refine bel_alloc ?_ _ | with_reducible refine bel_drew ?_ | with_reducible refine bel_drewN ?_ _ | (with_reducible refine bel_set ?_ ?_ _; rotate_left; ((try simp); (try omega))))))).mono ?_; rintro e w1 ⟨rfl, hb1⟩; obtain ⟨hc1, hf1, hz1⟩ := bcell hb1; (try simp at hz1); have hs0 : w.heap.size < w1.heap.size := (by omega); have hB1 : Below w.heap.size w w1 := (bel_then (by repeat (first | with_reducible exact Below.refl _ _ | with_reducible assumption | with_reducible refine bel_alloc ?_ _ | with_reducible refine bel_drew ?_ | with_reducible refine bel_drewN ?_ _ | (with_reducible refine bel_set ?_ ?_ _; rotate_left; ((try simp); (try omega))))) hb1); clear hb1))
    all_goals go_ret
    all_goals exact ⟨ret_bool (by simp [equalResponses, *]), (by repeat (first | with_reducible exact Below.refl _ _ | with_reducible assumption | with_reducible refine bel_alloc ?_ _ | with_reducible refine bel_drew ?_ | with_reducible refine bel_drewN ?_ _ | (with_reducible refine bel_set ?_ ?_ _; rotate_left; ((try simp); (try omega)))))⟩
end Go.Proofs.Ytlicnppfgfjkgaa
