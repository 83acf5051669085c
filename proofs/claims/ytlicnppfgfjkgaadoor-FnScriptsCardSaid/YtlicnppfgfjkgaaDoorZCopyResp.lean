/-
  Copies of bytes and of a response. No conditions.
-/
import Derived.Test.YtlicnppfgfjkgaaDoorZA
import Derived.Test.YtlicnppfgfjkgaaDoorZSets
namespace Go.Proofs.YtlicnppfgfjkgaaDoor
open Go.ChangeShapes Go.WideShapes Go.RowKit
set_option linter.unusedVariables false

theorem infoU8 : (Tryd.prog.info? 5).map (fun i => (i.zero, i.size, i.bytes)) = some (some (Value.int .u8 0), 1, 1) := by kernel_rfl
theorem TResp.len {x : TResp} (hn : cResp.sz x ≤ 1048576) : x.body.length ≤ 1048576 := by
  have h1 := Cod.len_le cU x.body
  have : cResp.sz x = 0 + (0 + (0 + (cU.szs x.body + 0))) := rfl
  omega
end Go.Proofs.YtlicnppfgfjkgaaDoor
