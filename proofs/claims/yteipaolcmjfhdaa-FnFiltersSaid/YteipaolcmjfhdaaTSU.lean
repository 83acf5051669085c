/-
  Slices of uint8: how they read. No conditions but the budget of the laws.
-/
import Derived.Test.YteipaolcmjfhdaaRows
import Derived.Test.YteipaolcmjfhdaaMem
import Derived.LoopTactic
namespace Go.Proofs.Yteipaolcmjfhdaa
open Go.ChangeShapes Go.WideShapes Go.RowKit
set_option linter.unusedVariables false

def cUS : Cod (List UInt8) := cL cU (by decide) (by decide)
theorem opens_US : Opens Try.prog 22 cUS := opens_slice Try.underlying22 (opens_u8 Try.underlying5 (by kernel_rfl)) (by kernel_rfl)

end Go.Proofs.Yteipaolcmjfhdaa
