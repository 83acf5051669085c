/-
  Machine: marked. No conditions but the budget of the laws.
-/
import Derived.Test.YteipaolcmjfhdaaRows
import Derived.Test.YteipaolcmjfhdaaMem
import Derived.LoopTactic
import Derived.Test.YteipaolcmjfhdaaTMach
namespace Go.Proofs.Yteipaolcmjfhdaa
open Go.ChangeShapes Go.WideShapes Go.RowKit
set_option linter.unusedVariables false

theorem TMach.mrk_eq (k : Int) (x : TMach) : cMach.mrk k x = ⟨cInsS.mrk (k) x.script, k + ((cInsS.cn x.script : Nat) : Int), cIS.mrk (k + ((cInsS.cn x.script : Nat) : Int) + 1) x.regs, k + ((cInsS.cn x.script : Nat) : Int) + 1 + ((cIS.cn x.regs : Nat) : Int), (k + ((cInsS.cn x.script : Nat) : Int) + 1 + ((cIS.cn x.regs : Nat) : Int) + 1) % 3 == 0, (k + ((cInsS.cn x.script : Nat) : Int) + 1 + ((cIS.cn x.regs : Nat) : Int) + 1 + 1) % 3 == 0⟩ := rfl
theorem TMach.cn_eq (x : TMach) : ((cMach.cn x : Nat) : Int) = ((cInsS.cn x.script : Nat) : Int) + 1 + ((cIS.cn x.regs : Nat) : Int) + 1 + 1 + 1 := by
  have h : cMach.cn x = cInsS.cn x.script + (1 + (cIS.cn x.regs + (1 + (1 + (1))))) := rfl
  omega
/-- what markX of laws does to a value: its slices are marked -/
def TMach.top (k : Int) (x : TMach) : TMach := ⟨cInsS.mrk (k) x.script, x.pc, cIS.mrk (k + ((cInsS.cn x.script : Nat) : Int)) x.regs, x.steps, x.done, x.wait⟩
def TMach.tcn (x : TMach) : Nat := cInsS.cn x.script + cIS.cn x.regs
theorem TMach.tcn_le (x : TMach) : TMach.tcn x ≤ 32 * cMach.sz x := by
  have h : cMach.sz x = cInsS.sz x.script + (0 + (cIS.sz x.regs + (0 + (0 + (0))))) := rfl
  have h0 : cInsS.cn x.script ≤ 32 * cInsS.sz x.script := Cod.cns_le cIns (by decide) x.script
  have h2 : cIS.cn x.regs ≤ 32 * cIS.sz x.regs := Cod.cns_le cI (by decide) x.regs
  unfold TMach.tcn
  omega

end Go.Proofs.Yteipaolcmjfhdaa
