/-
  Slices of Cached: how they read. No conditions but the budget of the laws.
-/
import Derived.Test.YtamcoplnpoddbaaRows
import Derived.Test.YtamcoplnpoddbaaMem
import Derived.LoopTactic
import Derived.Test.YtamcoplnpoddbaaTCached
namespace Go.Proofs.Ytamcoplnpoddbaa
open Go.ChangeShapes Go.WideShapes Go.RowKit
set_option linter.unusedVariables false

def cCachedS : Cod (List TCached) := cL cCached (by decide) (by decide)
theorem opens_lCachedS : Opens Try.prog 110 cCachedS := opens_slice Try.underlying110 opens_lCached (by kernel_rfl)

end Go.Proofs.Ytamcoplnpoddbaa
