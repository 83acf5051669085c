/-
  Slices of Cache: how they read. No conditions but the budget of the laws.
-/
import Derived.Test.YtlicnppfgfjkgaaRows
import Derived.Test.YtlicnppfgfjkgaaZA
import Derived.LoopTactic
import Derived.Test.YtlicnppfgfjkgaaZTCache
namespace Go.Proofs.Ytlicnppfgfjkgaa
open Go.ChangeShapes Go.WideShapes Go.RowKit
set_option linter.unusedVariables false

def cCacheS : Cod (List TCache) := cL cCache (by decide) (by decide)
theorem opens_lCacheS : Opens Try.prog 84 cCacheS := opens_slice Try.underlying84 opens_lCache (by kernel_rfl)

end Go.Proofs.Ytlicnppfgfjkgaa
