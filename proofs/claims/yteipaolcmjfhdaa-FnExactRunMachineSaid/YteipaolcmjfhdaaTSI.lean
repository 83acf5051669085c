/-
  Slices of int: how they read. No conditions but the budget of the laws.
-/
import Derived.Test.YteipaolcmjfhdaaRows
import Derived.Test.YteipaolcmjfhdaaMem
import Derived.LoopTactic
namespace Go.Proofs.Yteipaolcmjfhdaa
open Go.ChangeShapes Go.WideShapes Go.RowKit
set_option linter.unusedVariables false

def cIS : Cod (List Int) := cL cI (by decide) (by decide)
theorem opens_IS : Opens Try.prog 24 cIS := opens_slice Try.underlying24 (opens_int Try.underlying3 (by kernel_rfl)) (by kernel_rfl)

end Go.Proofs.Yteipaolcmjfhdaa
