/-
  Slices of string: how they read. No conditions but the budget of the laws.
-/
import Derived.Test.YteipaolcmjfhdaaRows
import Derived.Test.YteipaolcmjfhdaaMem
import Derived.LoopTactic
namespace Go.Proofs.Yteipaolcmjfhdaa
open Go.ChangeShapes Go.WideShapes Go.RowKit
set_option linter.unusedVariables false

def cStS : Cod (List ByteArray) := cL cS (by decide) (by decide)
theorem opens_StS : Opens Try.prog 72 cStS := opens_slice Try.underlying72 (opens_string Try.underlying9 (by kernel_rfl)) (by kernel_rfl)

end Go.Proofs.Yteipaolcmjfhdaa
