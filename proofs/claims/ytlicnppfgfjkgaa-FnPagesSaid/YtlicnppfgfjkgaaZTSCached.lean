/-
  Slices of Cached: how they read. No conditions but the budget of the laws.
-/
import Derived.Test.YtlicnppfgfjkgaaRows
import Derived.Test.YtlicnppfgfjkgaaZA
import Derived.LoopTactic
import Derived.Test.YtlicnppfgfjkgaaZTCached
namespace Go.Proofs.Ytlicnppfgfjkgaa
open Go.ChangeShapes Go.WideShapes Go.RowKit
set_option linter.unusedVariables false

def cCachedS : Cod (List TCached) := cL cCached (by decide) (by decide)
theorem opens_lCachedS : Opens Try.prog 169 cCachedS := opens_slice Try.underlying169 opens_lCached (by kernel_rfl)

end Go.Proofs.Ytlicnppfgfjkgaa
