/-
  Response: marked. No conditions but the budget of the laws.
-/
import Derived.Test.YteipaolcmjfhdaaRows
import Derived.Test.YteipaolcmjfhdaaMem
import Derived.LoopTactic
import Derived.Test.YteipaolcmjfhdaaTResp
namespace Go.Proofs.Yteipaolcmjfhdaa
open Go.ChangeShapes Go.WideShapes Go.RowKit
set_option linter.unusedVariables false

theorem TResp.mrk_eq (k : Int) (x : TResp) : cResp.mrk k x = ⟨k, k + 1, k + 1 + 1, cUS.mrk (k + 1 + 1 + 1) x.body, (k + 1 + 1 + 1 + ((cUS.cn x.body : Nat) : Int)) % 3 == 0⟩ := rfl
theorem TResp.cn_eq (x : TResp) : ((cResp.cn x : Nat) : Int) = 1 + 1 + 1 + ((cUS.cn x.body : Nat) : Int) + 1 := by
  have h : cResp.cn x = 1 + (1 + (1 + (cUS.cn x.body + (1)))) := rfl
  omega
/-- what markX of laws does to a value: its slices are marked -/
def TResp.top (k : Int) (x : TResp) : TResp := ⟨x.type, x.status, x.ver, cUS.mrk (k) x.body, x.shares⟩
def TResp.tcn (x : TResp) : Nat := cUS.cn x.body
theorem TResp.tcn_le (x : TResp) : TResp.tcn x ≤ 32 * cResp.sz x := by
  have h : cResp.sz x = 0 + (0 + (0 + (cUS.sz x.body + (0)))) := rfl
  have h3 : cUS.cn x.body ≤ 32 * cUS.sz x.body := Cod.cns_le cU (by decide) x.body
  unfold TResp.tcn
  omega

end Go.Proofs.Yteipaolcmjfhdaa
