/-
  Loaded: sz and to. No conditions but the budget of the laws.
-/
import Derived.Test.YthmlgflnefellaaRows
import Derived.Test.YthmlgflnefellaaMem
import Derived.LoopTactic
import Derived.Test.YthmlgflnefellaaTLoaded
namespace Go.Proofs.Ythmlgflnefellaa
open Go.ChangeShapes Go.WideShapes Go.RowKit
set_option linter.unusedVariables false

set_option maxHeartbeats 1000000 in
theorem szLoaded_any (vs : Array Value) (x : TLoaded) (F : List Nat) (n : Int) (w : World) (h : cLoaded.rep w vs.toList x F) (h0 : 0 ≤ n) (h1 : n ≤ 1048576) :
    Calls Try.prog 90 #[.agg vs, .int .i64 n] w (Gives w (.int .i64 (leftOf n (cLoaded.sz x)))) := by
  obtain ⟨e, rfl, hok⟩ := TLoaded.out h
  obtain rfl : vs = #[Value.string x.path, .int .i64 x.ver] := Array.toList_inj.1 e
  have hsz : cLoaded.sz x = x.path.size + (0) := rfl
  have hm0 := hok.h0
  unfold maxLen at hm0
  have HZ := Lib.hid (And.intro hsz trivial)
  clear hsz
  by_cases l0 : n - (x.path.size : Int) < 0
  · go_enter Try.func90, Try.ntmps90
    go_wp2_with fail
    go_ret
    exact ⟨ret_int (leftOf_neg (by have hh := HZ.out; omega)).symm, (by repeat (first | with_reducible exact Below.refl _ _ | with_reducible assumption | with_reducible refine bel_alloc ?_ _ | with_reducible refine bel_drew ?_ | with_reducible refine bel_drewN ?_ _ | (with_reducible refine bel_set ?_ ?_ _; rotate_left; ((try simp); (try omega)))))⟩
  · have p0 : 0 ≤ n - (x.path.size : Int) := by omega
    go_enter Try.func90, Try.ntmps90
    go_wp2_with fail
    go_ret
    exact ⟨ret_int (by have hh := HZ.out; rw [leftOf_pos (by omega)]; omega), (by repeat (first | with_reducible exact Below.refl _ _ | with_reducible assumption | with_reducible refine bel_alloc ?_ _ | with_reducible refine bel_drew ?_ | with_reducible refine bel_drewN ?_ _ | (with_reducible refine bel_set ?_ ?_ _; rotate_left; ((try simp); (try omega)))))⟩

set_option maxHeartbeats 1000000 in
theorem toLoaded_any (vs : Array Value) (x : TLoaded) (F : List Nat) (w : World) (h : cLoaded.rep w vs.toList x F) (hn : cLoaded.sz x ≤ 1048576) :
    Calls Try.prog 91 #[.agg vs] w (GivesR cLoaded w x) := by
  obtain ⟨e, rfl, hok⟩ := TLoaded.out h
  obtain rfl : vs = #[Value.string x.path, .int .i64 x.ver] := Array.toList_inj.1 e
  go_enter Try.func91, Try.ntmps91
  go_wp2
  exact bodyPost_ret (v := .agg #[Value.string x.path, .int .i64 x.ver]) (by simp [results, Try.results91, go_sem]) rfl ⟨_, [], rfl, (by repeat (first | with_reducible exact Below.refl _ _ | with_reducible assumption | with_reducible refine bel_alloc ?_ _ | with_reducible refine bel_drew ?_ | with_reducible refine bel_drewN ?_ _ | (with_reducible refine bel_set ?_ ?_ _; rotate_left; ((try simp); (try omega))))), TLoaded.mk_ hok, Fresh.nil _⟩

end Go.Proofs.Ythmlgflnefellaa
