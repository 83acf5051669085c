/-
  Slices of Loaded: how they read. No conditions but the budget of the laws.
-/
import Derived.Test.YthmlgflnefellaaRows
import Derived.Test.YthmlgflnefellaaMem
import Derived.LoopTactic
import Derived.Test.YthmlgflnefellaaTLoaded
namespace Go.Proofs.Ythmlgflnefellaa
open Go.ChangeShapes Go.WideShapes Go.RowKit
set_option linter.unusedVariables false

def cLoadedS : Cod (List TLoaded) := cL cLoaded (by decide) (by decide)
theorem opens_lLoadedS : Opens Try.prog 67 cLoadedS := opens_slice Try.underlying67 opens_lLoaded (by kernel_rfl)

end Go.Proofs.Ythmlgflnefellaa
