/-
  Instr: eq. No conditions but the budget of the laws.
-/
import Derived.Test.YtlicnppfgfjkgaaDoorRows
import Derived.Test.YtlicnppfgfjkgaaDoorZA
import Derived.LoopTactic
namespace Go.Proofs.YtlicnppfgfjkgaaDoor
open Go.ChangeShapes Go.WideShapes Go.RowKit
set_option linter.unusedVariables false

set_option maxHeartbeats 1000000 in
theorem eqInstr_any (vs1 vs2 : Array Value) (x : TIns) (F1 F2 : List Nat) (w : World) (h1 : cIns.rep w vs1.toList x F1) (h2 : cIns.rep w vs2.toList x F2) :
    Calls Tryd.prog 22 #[.agg vs1, .agg vs2] w (Gives w (.bool true)) := by
  obtain ⟨e1, rfl, hok⟩ := TIns.out h1
  obtain rfl : vs1 = #[Value.int .i64 x.kind, .int .i64 x.r, .int .i64 x.n, .string x.text] := Array.toList_inj.1 e1
  obtain ⟨e2, rfl, -⟩ := TIns.out h2
  obtain rfl : vs2 = #[Value.int .i64 x.kind, .int .i64 x.r, .int .i64 x.n, .string x.text] := Array.toList_inj.1 e2
  go_enter Tryd.func22, Tryd.ntmps22
  go_wp2_with fail
  go_ret
  exact ⟨rfl, (by repeat (first | with_reducible exact Below.refl _ _ | with_reducible assumption | with_reducible refine bel_alloc ?_ _ | with_reducible refine bel_drew ?_ | with_reducible refine bel_drewN ?_ _ | (with_reducible refine bel_set ?_ ?_ _; rotate_left; ((try simp); (try omega)))))⟩

end Go.Proofs.YtlicnppfgfjkgaaDoor
