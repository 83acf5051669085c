/-
  Loops: copies of a loop, PostTask, PostMicro and NextTask of the program and of the reference. No conditions.
-/
import Derived.Test.YtlicnppfgfjkgaaZTLoop
import Derived.Test.YtlicnppfgfjkgaaZA
import Derived.Deep.RegionHeld3
namespace Go.Proofs.Ytlicnppfgfjkgaa
open Go.ChangeShapes Go.WideShapes Go.RowKit
set_option linter.unusedVariables false

theorem infoInt : (Try.prog.info? 3).map (fun i => (i.zero, i.size, i.bytes)) = some (some (Value.int .i64 0), 1, 8) := by kernel_rfl

/-- A loop whose two rows are the call's own. -/
def OwnLoop (w : World) (x : TLoop) (e : Ending) (w' : World) : Prop :=
  ∃ v0 v1, e = .returned (.agg #[v0, v1]) ∧ Below w.heap.size w w' ∧ Own cI 3 w.heap.size w' v0 x.tasks [] ∧ Own cI 3 w.heap.size w' v1 x.micro [] ∧ ∀ g, ownB v0 = some g → ownB v1 ≠ some g

end Go.Proofs.Ytlicnppfgfjkgaa
