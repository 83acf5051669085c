/-
  Slices of string: held. No conditions but the budget of the laws.
-/
import Derived.Test.YtlicnppfgfjkgaaRows
import Derived.Test.YtlicnppfgfjkgaaZA
import Derived.LoopTactic
import Derived.Deep.RegionHeld3
import Derived.Test.YtlicnppfgfjkgaaZMark
namespace Go.Proofs.Ytlicnppfgfjkgaa
open Go.ChangeShapes Go.WideShapes Go.RowKit
set_option linter.unusedVariables false


end Go.Proofs.Ytlicnppfgfjkgaa
