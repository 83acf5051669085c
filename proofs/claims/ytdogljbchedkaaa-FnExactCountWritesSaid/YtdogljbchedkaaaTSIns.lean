/-
  Slices of Instr: how they read. No conditions but the budget of the laws.
-/
import Derived.Test.YtdogljbchedkaaaRows
import Derived.Test.YtdogljbchedkaaaMem
import Derived.LoopTactic
import Derived.Test.YtdogljbchedkaaaTIns
namespace Go.Proofs.Ytdogljbchedkaaa
open Go.ChangeShapes Go.WideShapes Go.RowKit
set_option linter.unusedVariables false

def cInsS : Cod (List TIns) := cL cIns (by decide) (by decide)
theorem opens_lInsS : Opens Try.prog 68 cInsS := opens_slice Try.underlying68 opens_lIns (by kernel_rfl)

end Go.Proofs.Ytdogljbchedkaaa
