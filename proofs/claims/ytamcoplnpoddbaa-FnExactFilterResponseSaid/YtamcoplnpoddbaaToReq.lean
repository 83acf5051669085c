/-
  Request: sz and to. No conditions but the budget of the laws.
-/
import Derived.Test.YtamcoplnpoddbaaRows
import Derived.Test.YtamcoplnpoddbaaMem
import Derived.LoopTactic
import Derived.Test.YtamcoplnpoddbaaTReq
namespace Go.Proofs.Ytamcoplnpoddbaa
open Go.ChangeShapes Go.WideShapes Go.RowKit
set_option linter.unusedVariables false

set_option maxHeartbeats 1000000 in
theorem szRequest_any (vs : Array Value) (x : TReq) (F : List Nat) (n : Int) (w : World) (h : cReq.rep w vs.toList x F) (h0 : 0 ≤ n) (h1 : n ≤ 1048576) :
    Calls Try.prog 15 #[.agg vs, .int .i64 n] w (Gives w (.int .i64 (leftOf n (cReq.sz x)))) := by
  obtain ⟨e, rfl, hok⟩ := TReq.out h
  obtain rfl : vs = #[Value.string x.frm, .string x.dst, .string x.path, .int .i64 x.mode] := Array.toList_inj.1 e
  have hsz : cReq.sz x = x.frm.size + (x.dst.size + (x.path.size + (0))) := rfl
  have hm0 := hok.h0
  unfold maxLen at hm0
  have hm1 := hok.h1
  unfold maxLen at hm1
  have hm2 := hok.h2
  unfold maxLen at hm2
  have HZ := Lib.hid (And.intro hsz trivial)
  clear hsz
  by_cases l0 : n - (x.frm.size : Int) < 0
  · go_enter Try.func15, Try.ntmps15
    go_wp2_with fail
    go_ret
    exact ⟨ret_int (leftOf_neg (by have hh := HZ.out; omega)).symm, (by repeat (first | with_reducible exact Below.refl _ _ | with_reducible assumption | with_reducible refine bel_alloc ?_ _ | with_reducible refine bel_drew ?_ | with_reducible refine bel_drewN ?_ _ | (with_reducible refine bel_set ?_ ?_ _; rotate_left; ((try simp); (try omega)))))⟩
  · have p0 : 0 ≤ n - (x.frm.size : Int) := by omega
    by_cases l1 : n - (x.frm.size : Int) - (x.dst.size : Int) < 0
    · go_enter Try.func15, Try.ntmps15
      go_wp2_with fail
      go_ret
      exact ⟨ret_int (leftOf_neg (by have hh := HZ.out; omega)).symm, (by repeat (first | with_reducible exact Below.refl _ _ | with_reducible assumption | with_reducible refine bel_alloc ?_ _ | with_reducible refine bel_drew ?_ | with_reducible refine bel_drewN ?_ _ | (with_reducible refine bel_set ?_ ?_ _; rotate_left; ((try simp); (try omega)))))⟩
    · have p1 : 0 ≤ n - (x.frm.size : Int) - (x.dst.size : Int) := by omega
      by_cases l2 : n - (x.frm.size : Int) - (x.dst.size : Int) - (x.path.size : Int) < 0
      · go_enter Try.func15, Try.ntmps15
        go_wp2_with fail
        go_ret
        exact ⟨ret_int (leftOf_neg (by have hh := HZ.out; omega)).symm, (by repeat (first | with_reducible exact Below.refl _ _ | with_reducible assumption | with_reducible refine bel_alloc ?_ _ | with_reducible refine bel_drew ?_ | with_reducible refine bel_drewN ?_ _ | (with_reducible refine bel_set ?_ ?_ _; rotate_left; ((try simp); (try omega)))))⟩
      · have p2 : 0 ≤ n - (x.frm.size : Int) - (x.dst.size : Int) - (x.path.size : Int) := by omega
        go_enter Try.func15, Try.ntmps15
        go_wp2_with fail
        go_ret
        exact ⟨ret_int (by have hh := HZ.out; rw [leftOf_pos (by omega)]; omega), (by repeat (first | with_reducible exact Below.refl _ _ | with_reducible assumption | with_reducible refine bel_alloc ?_ _ | with_reducible refine bel_drew ?_ | with_reducible refine bel_drewN ?_ _ | (with_reducible refine bel_set ?_ ?_ _; rotate_left; ((try simp); (try omega)))))⟩

set_option maxHeartbeats 1000000 in
theorem toRequest_any (vs : Array Value) (x : TReq) (F : List Nat) (w : World) (h : cReq.rep w vs.toList x F) (hn : cReq.sz x ≤ 1048576) :
    Calls Try.prog 18 #[.agg vs] w (GivesR cReq w x) := by
  obtain ⟨e, rfl, hok⟩ := TReq.out h
  obtain rfl : vs = #[Value.string x.frm, .string x.dst, .string x.path, .int .i64 x.mode] := Array.toList_inj.1 e
  go_enter Try.func18, Try.ntmps18
  go_wp2
  exact bodyPost_ret (v := .agg #[Value.string x.frm, .string x.dst, .string x.path, .int .i64 x.mode]) (by simp [results, Try.results18, go_sem]) rfl ⟨_, [], rfl, (by repeat (first | with_reducible exact Below.refl _ _ | with_reducible assumption | with_reducible refine bel_alloc ?_ _ | with_reducible refine bel_drew ?_ | with_reducible refine bel_drewN ?_ _ | (with_reducible refine bel_set ?_ ?_ _; rotate_left; ((try simp); (try omega))))), TReq.mk_ hok, Fresh.nil _⟩

end Go.Proofs.Ytamcoplnpoddbaa
