/-
  Loop: marked. No conditions but the budget of the laws.
-/
import Derived.Test.YthmlgflnefellaaRows
import Derived.Test.YthmlgflnefellaaMem
import Derived.LoopTactic
import Derived.Test.YthmlgflnefellaaTLoop
namespace Go.Proofs.Ythmlgflnefellaa
open Go.ChangeShapes Go.WideShapes Go.RowKit
set_option linter.unusedVariables false

theorem TLoop.mrk_eq (k : Int) (x : TLoop) : cLoop.mrk k x = ⟨cIS.mrk (k) x.tasks, cIS.mrk (k + ((cIS.cn x.tasks : Nat) : Int)) x.micro⟩ := rfl
theorem TLoop.cn_eq (x : TLoop) : ((cLoop.cn x : Nat) : Int) = ((cIS.cn x.tasks : Nat) : Int) + ((cIS.cn x.micro : Nat) : Int) := by
  have h : cLoop.cn x = cIS.cn x.tasks + (cIS.cn x.micro) := rfl
  omega
/-- what markX of laws does to a value: its slices are marked -/
def TLoop.top (k : Int) (x : TLoop) : TLoop := ⟨cIS.mrk (k) x.tasks, cIS.mrk (k + ((cIS.cn x.tasks : Nat) : Int)) x.micro⟩
def TLoop.tcn (x : TLoop) : Nat := cIS.cn x.tasks + cIS.cn x.micro
theorem TLoop.tcn_le (x : TLoop) : TLoop.tcn x ≤ 32 * cLoop.sz x := by
  have h : cLoop.sz x = cIS.sz x.tasks + (cIS.sz x.micro) := rfl
  have h0 : cIS.cn x.tasks ≤ 32 * cIS.sz x.tasks := Cod.cns_le cI (by decide) x.tasks
  have h1 : cIS.cn x.micro ≤ 32 * cIS.sz x.micro := Cod.cns_le cI (by decide) x.micro
  unfold TLoop.tcn
  omega

end Go.Proofs.Ythmlgflnefellaa
