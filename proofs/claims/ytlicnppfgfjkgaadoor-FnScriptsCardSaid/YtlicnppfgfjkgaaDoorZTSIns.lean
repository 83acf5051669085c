/-
  Slices of Instr: how they read. No conditions but the budget of the laws.
-/
import Derived.Test.YtlicnppfgfjkgaaDoorRows
import Derived.Test.YtlicnppfgfjkgaaDoorZA
import Derived.LoopTactic
namespace Go.Proofs.YtlicnppfgfjkgaaDoor
open Go.ChangeShapes Go.WideShapes Go.RowKit
set_option linter.unusedVariables false

def cInsS : Cod (List TIns) := cL cIns (by decide) (by decide)

end Go.Proofs.YtlicnppfgfjkgaaDoor
