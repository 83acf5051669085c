/-
  Loaded: eq. No conditions but the budget of the laws.
-/
import Derived.Test.YthmlgflnefellaaRows
import Derived.Test.YthmlgflnefellaaMem
import Derived.LoopTactic
import Derived.Test.YthmlgflnefellaaTLoaded
namespace Go.Proofs.Ythmlgflnefellaa
open Go.ChangeShapes Go.WideShapes Go.RowKit
set_option linter.unusedVariables false

set_option maxHeartbeats 1000000 in
theorem eqLoaded_any (vs1 vs2 : Array Value) (x : TLoaded) (F1 F2 : List Nat) (w : World) (h1 : cLoaded.rep w vs1.toList x F1) (h2 : cLoaded.rep w vs2.toList x F2) :
    Calls Try.prog 93 #[.agg vs1, .agg vs2] w (Gives w (.bool true)) := by
  obtain ⟨e1, rfl, hok⟩ := TLoaded.out h1
  obtain rfl : vs1 = #[Value.string x.path, .int .i64 x.ver] := Array.toList_inj.1 e1
  obtain ⟨e2, rfl, -⟩ := TLoaded.out h2
  obtain rfl : vs2 = #[Value.string x.path, .int .i64 x.ver] := Array.toList_inj.1 e2
  go_enter Try.func93, Try.ntmps93
  go_wp2_with fail
  go_ret
  exact ⟨rfl, (by repeat (first | with_reducible exact Below.refl _ _ | with_reducible assumption | with_reducible refine bel_alloc ?_ _ | with_reducible refine bel_drew ?_ | with_reducible refine bel_drewN ?_ _ | (with_reducible refine bel_set ?_ ?_ _; rotate_left; ((try simp); (try omega)))))⟩

end Go.Proofs.Ythmlgflnefellaa
