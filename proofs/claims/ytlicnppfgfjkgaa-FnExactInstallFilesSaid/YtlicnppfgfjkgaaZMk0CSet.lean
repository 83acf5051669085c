/-
  CacheSet: marked. No conditions but the budget of the laws.
-/
import Derived.Test.YtlicnppfgfjkgaaRows
import Derived.Test.YtlicnppfgfjkgaaZA
import Derived.LoopTactic
namespace Go.Proofs.Ytlicnppfgfjkgaa
open Go.ChangeShapes Go.WideShapes Go.RowKit
set_option linter.unusedVariables false

theorem TCSet.mrk_eq (k : Int) (x : TCSet) : cCSet.mrk k x = ⟨cCacheS.mrk (k) x.caches⟩ := rfl
theorem TCSet.cn_eq (x : TCSet) : ((cCSet.cn x : Nat) : Int) = ((cCacheS.cn x.caches : Nat) : Int) := by
  have h : cCSet.cn x = cCacheS.cn x.caches := rfl
  omega
/-- what markX of laws does to a value: its slices are marked -/
def TCSet.top (k : Int) (x : TCSet) : TCSet := ⟨cCacheS.mrk (k) x.caches⟩
def TCSet.tcn (x : TCSet) : Nat := cCacheS.cn x.caches
theorem TCSet.tcn_le (x : TCSet) : TCSet.tcn x ≤ 32 * cCSet.sz x := by
  have h : cCSet.sz x = cCacheS.sz x.caches := rfl
  have h0 : cCacheS.cn x.caches ≤ 32 * cCacheS.sz x.caches := Cod.cns_le cCache (by decide) x.caches
  unfold TCSet.tcn
  omega

end Go.Proofs.Ytlicnppfgfjkgaa
