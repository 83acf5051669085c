/-
  Site: marked. No conditions but the budget of the laws.
-/
import Derived.Test.YtlicnppfgfjkgaaRows
import Derived.Test.YtlicnppfgfjkgaaZA
import Derived.LoopTactic
namespace Go.Proofs.Ytlicnppfgfjkgaa
open Go.ChangeShapes Go.WideShapes Go.RowKit
set_option linter.unusedVariables false

theorem TSite.mrk_eq (k : Int) (x : TSite) : cSite.mrk k x = ⟨markText (k), k + 1, cStS.mrk (k + 1 + 1) x.files, (k + 1 + 1 + ((cStS.cn x.files : Nat) : Int)) % 3 == 0⟩ := rfl
theorem TSite.cn_eq (x : TSite) : ((cSite.cn x : Nat) : Int) = 1 + 1 + ((cStS.cn x.files : Nat) : Int) + 1 := by
  have h : cSite.cn x = 1 + (1 + (cStS.cn x.files + (1))) := rfl
  omega
/-- what markX of laws does to a value: its slices are marked -/
def TSite.top (k : Int) (x : TSite) : TSite := ⟨x.name, x.ver, cStS.mrk (k) x.files, x.shared⟩
def TSite.tcn (x : TSite) : Nat := cStS.cn x.files
theorem TSite.tcn_le (x : TSite) : TSite.tcn x ≤ 32 * cSite.sz x := by
  have h : cSite.sz x = x.name.size + (0 + (cStS.sz x.files + (0))) := rfl
  have h2 : cStS.cn x.files ≤ 32 * cStS.sz x.files := Cod.cns_le cS (by decide) x.files
  unfold TSite.tcn
  omega

end Go.Proofs.Ytlicnppfgfjkgaa
