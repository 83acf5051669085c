/-
  Slices of Cache: how they read. No conditions but the budget of the laws.
-/
import Derived.Test.YtamcoplnpoddbaaRows
import Derived.Test.YtamcoplnpoddbaaMem
import Derived.LoopTactic
import Derived.Test.YtamcoplnpoddbaaTCache
namespace Go.Proofs.Ytamcoplnpoddbaa
open Go.ChangeShapes Go.WideShapes Go.RowKit
set_option linter.unusedVariables false

def cCacheS : Cod (List TCache) := cL cCache (by decide) (by decide)
theorem opens_lCacheS : Opens Try.prog 44 cCacheS := opens_slice Try.underlying44 opens_lCache (by kernel_rfl)

end Go.Proofs.Ytamcoplnpoddbaa
