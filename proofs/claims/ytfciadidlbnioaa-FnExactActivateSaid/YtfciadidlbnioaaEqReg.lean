/-
  Registration: eq. No conditions but the budget of the laws.
-/
import Derived.Test.YtfciadidlbnioaaRows
import Derived.Test.YtfciadidlbnioaaMem
import Derived.LoopTactic
import Derived.Test.YtfciadidlbnioaaTReg
namespace Go.Proofs.Ytfciadidlbnioaa
open Go.ChangeShapes Go.WideShapes Go.RowKit
set_option linter.unusedVariables false

set_option maxHeartbeats 1000000 in
theorem eqRegistration_any (vs1 vs2 : Array Value) (x : TReg) (F1 F2 : List Nat) (w : World) (h1 : cReg.rep w vs1.toList x F1) (h2 : cReg.rep w vs2.toList x F2) :
    Calls Try.prog 18 #[.agg vs1, .agg vs2] w (Gives w (.bool true)) := by
  obtain ⟨e1, rfl, hok⟩ := TReg.out h1
  obtain rfl : vs1 = #[Value.string x.site, .int .i64 x.ins, .int .i64 x.wai, .int .i64 x.act] := Array.toList_inj.1 e1
  obtain ⟨e2, rfl, -⟩ := TReg.out h2
  obtain rfl : vs2 = #[Value.string x.site, .int .i64 x.ins, .int .i64 x.wai, .int .i64 x.act] := Array.toList_inj.1 e2
  go_enter Try.func18, Try.ntmps18
  go_wp2_with fail
  go_ret
  exact ⟨rfl, (by repeat (first | with_reducible exact Below.refl _ _ | with_reducible assumption | with_reducible refine bel_alloc ?_ _ | with_reducible refine bel_drew ?_ | with_reducible refine bel_drewN ?_ _ | (with_reducible refine bel_set ?_ ?_ _; rotate_left; ((try simp); (try omega)))))⟩

end Go.Proofs.Ytfciadidlbnioaa
