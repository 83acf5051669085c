/-
  Cached: marked. No conditions but the budget of the laws.
-/
import Derived.Test.YtlicnppfgfjkgaaRows
import Derived.Test.YtlicnppfgfjkgaaZA
import Derived.LoopTactic
namespace Go.Proofs.Ytlicnppfgfjkgaa
open Go.ChangeShapes Go.WideShapes Go.RowKit
set_option linter.unusedVariables false

theorem TCached.mrk_eq (k : Int) (x : TCached) : cCached.mrk k x = ⟨markText (k), markText (k + 1), ⟨k + 1 + 1, k + 1 + 1 + 1, k + 1 + 1 + 1 + 1, cUS.mrk (k + 1 + 1 + 1 + 1 + 1) x.resp.body, (k + 1 + 1 + 1 + 1 + 1 + ((cUS.cn x.resp.body : Nat) : Int)) % 3 == 0⟩⟩ := rfl
theorem TCached.cn_eq (x : TCached) : ((cCached.cn x : Nat) : Int) = 1 + 1 + 1 + 1 + 1 + ((cUS.cn x.resp.body : Nat) : Int) + 1 := by
  have h : cCached.cn x = 1 + (1 + (1 + (1 + (1 + (cUS.cn x.resp.body + (1)))))) := rfl
  omega
/-- what markX of laws does to a value: its slices are marked -/
def TCached.top (k : Int) (x : TCached) : TCached := ⟨x.site, x.path, ⟨x.resp.type, x.resp.status, x.resp.ver, cUS.mrk (k) x.resp.body, x.resp.shares⟩⟩
def TCached.tcn (x : TCached) : Nat := cUS.cn x.resp.body
theorem TCached.tcn_le (x : TCached) : TCached.tcn x ≤ 32 * cCached.sz x := by
  have h : cCached.sz x = x.site.size + (x.path.size + (0 + (0 + (0 + (cUS.sz x.resp.body + (0)))))) := rfl
  have h5 : cUS.cn x.resp.body ≤ 32 * cUS.sz x.resp.body := Cod.cns_le cU (by decide) x.resp.body
  unfold TCached.tcn
  omega

end Go.Proofs.Ytlicnppfgfjkgaa
