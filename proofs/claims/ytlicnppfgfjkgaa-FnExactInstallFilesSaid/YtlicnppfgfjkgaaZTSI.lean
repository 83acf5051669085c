/-
  Slices of int: how they read. No conditions but the budget of the laws.
-/
import Derived.Test.YtlicnppfgfjkgaaRows
import Derived.Test.YtlicnppfgfjkgaaZA
import Derived.LoopTactic
namespace Go.Proofs.Ytlicnppfgfjkgaa
open Go.ChangeShapes Go.WideShapes Go.RowKit
set_option linter.unusedVariables false

def cIS : Cod (List Int) := cL cI (by decide) (by decide)
theorem opens_IS : Opens Try.prog 26 cIS := opens_slice Try.underlying26 (opens_int Try.underlying3 (by kernel_rfl)) (by kernel_rfl)

end Go.Proofs.Ytlicnppfgfjkgaa
