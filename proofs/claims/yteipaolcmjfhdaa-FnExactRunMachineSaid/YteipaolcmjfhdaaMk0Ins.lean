/-
  Instr: marked. No conditions but the budget of the laws.
-/
import Derived.Test.YteipaolcmjfhdaaRows
import Derived.Test.YteipaolcmjfhdaaMem
import Derived.LoopTactic
import Derived.Test.YteipaolcmjfhdaaTIns
namespace Go.Proofs.Yteipaolcmjfhdaa
open Go.ChangeShapes Go.WideShapes Go.RowKit
set_option linter.unusedVariables false

theorem TIns.mrk_eq (k : Int) (x : TIns) : cIns.mrk k x = ⟨k, k + 1, k + 1 + 1, markText (k + 1 + 1 + 1)⟩ := rfl
theorem TIns.cn_eq (x : TIns) : ((cIns.cn x : Nat) : Int) = 1 + 1 + 1 + 1 := by
  have h : cIns.cn x = 1 + (1 + (1 + (1))) := rfl
  omega

end Go.Proofs.Yteipaolcmjfhdaa
