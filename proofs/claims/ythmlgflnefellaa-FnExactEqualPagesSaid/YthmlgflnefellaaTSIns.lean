/-
  Slices of Instr: how they read. No conditions but the budget of the laws.
-/
import Derived.Test.YthmlgflnefellaaRows
import Derived.Test.YthmlgflnefellaaMem
import Derived.LoopTactic
import Derived.Test.YthmlgflnefellaaTIns
namespace Go.Proofs.Ythmlgflnefellaa
open Go.ChangeShapes Go.WideShapes Go.RowKit
set_option linter.unusedVariables false

def cInsS : Cod (List TIns) := cL cIns (by decide) (by decide)
theorem opens_lInsS : Opens Try.prog 36 cInsS := opens_slice Try.underlying36 opens_lIns (by kernel_rfl)

end Go.Proofs.Ythmlgflnefellaa
