/-
  Cache: marked. No conditions but the budget of the laws.
-/
import Derived.Test.YtlicnppfgfjkgaaRows
import Derived.Test.YtlicnppfgfjkgaaZA
import Derived.LoopTactic
namespace Go.Proofs.Ytlicnppfgfjkgaa
open Go.ChangeShapes Go.WideShapes Go.RowKit
set_option linter.unusedVariables false

theorem TCache.mrk_eq (k : Int) (x : TCache) : cCache.mrk k x = ⟨k, cCachedS.mrk (k + 1) x.entries⟩ := rfl
theorem TCache.cn_eq (x : TCache) : ((cCache.cn x : Nat) : Int) = 1 + ((cCachedS.cn x.entries : Nat) : Int) := by
  have h : cCache.cn x = 1 + (cCachedS.cn x.entries) := rfl
  omega
/-- what markX of laws does to a value: its slices are marked -/
def TCache.top (k : Int) (x : TCache) : TCache := ⟨x.ver, cCachedS.mrk (k) x.entries⟩
def TCache.tcn (x : TCache) : Nat := cCachedS.cn x.entries
theorem TCache.tcn_le (x : TCache) : TCache.tcn x ≤ 32 * cCache.sz x := by
  have h : cCache.sz x = 0 + (cCachedS.sz x.entries) := rfl
  have h1 : cCachedS.cn x.entries ≤ 32 * cCachedS.sz x.entries := Cod.cns_le cCached (by decide) x.entries
  unfold TCache.tcn
  omega

end Go.Proofs.Ytlicnppfgfjkgaa
