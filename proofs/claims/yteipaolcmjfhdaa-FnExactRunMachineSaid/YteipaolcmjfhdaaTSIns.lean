/-
  Slices of Instr: how they read. No conditions but the budget of the laws.
-/
import Derived.Test.YteipaolcmjfhdaaRows
import Derived.Test.YteipaolcmjfhdaaMem
import Derived.LoopTactic
import Derived.Test.YteipaolcmjfhdaaTIns
namespace Go.Proofs.Yteipaolcmjfhdaa
open Go.ChangeShapes Go.WideShapes Go.RowKit
set_option linter.unusedVariables false

def cInsS : Cod (List TIns) := cL cIns (by decide) (by decide)
theorem opens_lInsS : Opens Try.prog 91 cInsS := opens_slice Try.underlying91 opens_lIns (by kernel_rfl)

end Go.Proofs.Yteipaolcmjfhdaa
