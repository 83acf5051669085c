/-
  No cell of these rows narrows 'for every input' (looked for: loops, veiled, ifaces, maps, wideKeys, modest, calm, conditions, laid).
  DERIVED. THE GIVEN ROWS OF THIS SEAT. 7 by the template 'for every input the law returns true; each argument reads behind the call as it read before'; 0 by the template 'total and deterministic' (their statements: YtlicnppfgfjkgaaTotals.lean).
  GIVEN WITH THE SEED: the statements are not yours to turn. If you find one false, say at which input.
  Laid BY PROGRAM, IN A SANDBOX (cutbox-rows.mjs): the forced cells as the released guide's own fill.sh prints them over the translation 83d8053d529d8628… (all of the seat's roots in one cut). By AI agents, Wed Nov 11 2026. No macro, syntax, notation, axiom, sorry.
-/
import Derived.Test.YtlicnppfgfjkgaaChecked
import GoSem.Claim
import GoSem.ClaimJoined
import GoSem.ClaimMapViews
import Derived.JoinedTies
import Derived.KernelRfl
namespace Go.Proofs.Ytlicnppfgfjkgaa
/- THE CELL 'sum', in the pinned program and in every row, IS THE sha256 OF THE DUMP (.gsa) THAT YtlicnppfgfjkgaaProg.lean LOADS. Nothing in Lean hashes anything: it is a label: what it is worth is what the hold of that sum in a sandbox is worth. -/
noncomputable def Try.pinned : Pinned := { name := "ytlicnppfgfjkgaa", sum := "83d8053d529d8628074c13ac2f0e79f26251201b53b4416bc6dae7aadb8246c4", checked := Try.checked }
namespace Rows
def none {H : Type} : Left H := { results := [], args := [] }

/-- 'laws.FnMachines': WHATEVER THE INPUT: true; the input reads as it did. -/
def fnMachinesSpec : ChangeSpec := { name := "fnMachines", fn := fun _ => fun
  | [d] => { results := [.lit (.bool true)], args := [d] }
  | _ => none }
def fnMachinesRow : OpenClaim := { program := "ytlicnppfgfjkgaa", sum := "83d8053d529d8628074c13ac2f0e79f26251201b53b4416bc6dae7aadb8246c4", func := "loop.example/g00583/laws.FnMachines", spec := "fnMachines", apart := false }
def FnMachinesSaid : Prop := fnMachinesRow.holds Try.pinned (OpenSpec.ofChange fnMachinesSpec)

/-- ITS FALSE NEIGHBOUR: 'it returns false'. Refute it at one input. -/
def fnMachinesWrong : ChangeSpec := { name := "fnMachines", fn := fun _ => fun
  | [d] => { results := [.lit (.bool false)], args := [d] }
  | _ => none }
def FnMachinesWrongFalsely : Prop := fnMachinesRow.holds Try.pinned (OpenSpec.ofChange fnMachinesWrong)

/-- 'laws.FnPages': WHATEVER THE INPUT: true; the input reads as it did. -/
def fnPagesSpec : ChangeSpec := { name := "fnPages", fn := fun _ => fun
  | [d] => { results := [.lit (.bool true)], args := [d] }
  | _ => none }
def fnPagesRow : OpenClaim := { program := "ytlicnppfgfjkgaa", sum := "83d8053d529d8628074c13ac2f0e79f26251201b53b4416bc6dae7aadb8246c4", func := "loop.example/g00583/laws.FnPages", spec := "fnPages", apart := false }
def FnPagesSaid : Prop := fnPagesRow.holds Try.pinned (OpenSpec.ofChange fnPagesSpec)

/-- ITS FALSE NEIGHBOUR: 'it returns false'. Refute it at one input. -/
def fnPagesWrong : ChangeSpec := { name := "fnPages", fn := fun _ => fun
  | [d] => { results := [.lit (.bool false)], args := [d] }
  | _ => none }
def FnPagesWrongFalsely : Prop := fnPagesRow.holds Try.pinned (OpenSpec.ofChange fnPagesWrong)

/-- 'laws.FnSites': WHATEVER THE INPUT: true; the input reads as it did. -/
def fnSitesSpec : ChangeSpec := { name := "fnSites", fn := fun _ => fun
  | [d] => { results := [.lit (.bool true)], args := [d] }
  | _ => none }
def fnSitesRow : OpenClaim := { program := "ytlicnppfgfjkgaa", sum := "83d8053d529d8628074c13ac2f0e79f26251201b53b4416bc6dae7aadb8246c4", func := "loop.example/g00583/laws.FnSites", spec := "fnSites", apart := false }
def FnSitesSaid : Prop := fnSitesRow.holds Try.pinned (OpenSpec.ofChange fnSitesSpec)

/-- ITS FALSE NEIGHBOUR: 'it returns false'. Refute it at one input. -/
def fnSitesWrong : ChangeSpec := { name := "fnSites", fn := fun _ => fun
  | [d] => { results := [.lit (.bool false)], args := [d] }
  | _ => none }
def FnSitesWrongFalsely : Prop := fnSitesRow.holds Try.pinned (OpenSpec.ofChange fnSitesWrong)

/-- 'laws.FnCaches': WHATEVER THE INPUT: true; the input reads as it did. -/
def fnCachesSpec : ChangeSpec := { name := "fnCaches", fn := fun _ => fun
  | [d] => { results := [.lit (.bool true)], args := [d] }
  | _ => none }
def fnCachesRow : OpenClaim := { program := "ytlicnppfgfjkgaa", sum := "83d8053d529d8628074c13ac2f0e79f26251201b53b4416bc6dae7aadb8246c4", func := "loop.example/g00583/laws.FnCaches", spec := "fnCaches", unfollowed := true, recurses := true, apart := false }
def FnCachesSaid : Prop := fnCachesRow.holds Try.pinned (OpenSpec.ofChange fnCachesSpec)

/-- ITS FALSE NEIGHBOUR: 'it returns false'. Refute it at one input. -/
def fnCachesWrong : ChangeSpec := { name := "fnCaches", fn := fun _ => fun
  | [d] => { results := [.lit (.bool false)], args := [d] }
  | _ => none }
def FnCachesWrongFalsely : Prop := fnCachesRow.holds Try.pinned (OpenSpec.ofChange fnCachesWrong)

/-- 'laws.FnExactOpenCache': WHATEVER THE INPUT: true; the input reads as it did. -/
def fnExactOpenCacheSpec : ChangeSpec := { name := "fnExactOpenCache", fn := fun _ => fun
  | [d1, d2] => { results := [.lit (.bool true)], args := [d1, d2] }
  | _ => none }
def fnExactOpenCacheRow : OpenClaim := { program := "ytlicnppfgfjkgaa", sum := "83d8053d529d8628074c13ac2f0e79f26251201b53b4416bc6dae7aadb8246c4", func := "loop.example/g00583/laws.FnExactOpenCache", spec := "fnExactOpenCache", inPlace := ["slices.overlaps[loop.example/g00583/impl.Cache]"], unfollowed := true, recurses := true, apart := false }
def FnExactOpenCacheSaid : Prop := fnExactOpenCacheRow.holds Try.pinned (OpenSpec.ofChange fnExactOpenCacheSpec)

/-- ITS FALSE NEIGHBOUR: 'it returns false'. Refute it at one input. -/
def fnExactOpenCacheWrong : ChangeSpec := { name := "fnExactOpenCache", fn := fun _ => fun
  | [d1, d2] => { results := [.lit (.bool false)], args := [d1, d2] }
  | _ => none }
def FnExactOpenCacheWrongFalsely : Prop := fnExactOpenCacheRow.holds Try.pinned (OpenSpec.ofChange fnExactOpenCacheWrong)

/-- 'laws.FnInstalls': WHATEVER THE INPUT: true; the input reads as it did. -/
def fnInstallsSpec : ChangeSpec := { name := "fnInstalls", fn := fun _ => fun
  | [d] => { results := [.lit (.bool true)], args := [d] }
  | _ => none }
def fnInstallsRow : OpenClaim := { program := "ytlicnppfgfjkgaa", sum := "83d8053d529d8628074c13ac2f0e79f26251201b53b4416bc6dae7aadb8246c4", func := "loop.example/g00583/laws.FnInstalls", spec := "fnInstalls", inPlace := ["slices.overlaps[loop.example/g00583/impl.Cache]"], unfollowed := true, recurses := true, apart := false }
def FnInstallsSaid : Prop := fnInstallsRow.holds Try.pinned (OpenSpec.ofChange fnInstallsSpec)

/-- ITS FALSE NEIGHBOUR: 'it returns false'. Refute it at one input. -/
def fnInstallsWrong : ChangeSpec := { name := "fnInstalls", fn := fun _ => fun
  | [d] => { results := [.lit (.bool false)], args := [d] }
  | _ => none }
def FnInstallsWrongFalsely : Prop := fnInstallsRow.holds Try.pinned (OpenSpec.ofChange fnInstallsWrong)

/-- 'laws.FnExactInstallFiles': WHATEVER THE INPUT: true; the input reads as it did. -/
def fnExactInstallFilesSpec : ChangeSpec := { name := "fnExactInstallFiles", fn := fun _ => fun
  | [d1, d2, d3, d4] => { results := [.lit (.bool true)], args := [d1, d2, d3, d4] }
  | _ => none }
def fnExactInstallFilesRow : OpenClaim := { program := "ytlicnppfgfjkgaa", sum := "83d8053d529d8628074c13ac2f0e79f26251201b53b4416bc6dae7aadb8246c4", func := "loop.example/g00583/laws.FnExactInstallFiles", spec := "fnExactInstallFiles", inPlace := ["slices.overlaps[loop.example/g00583/impl.Cache]"], unfollowed := true, recurses := true, apart := false }
def FnExactInstallFilesSaid : Prop := fnExactInstallFilesRow.holds Try.pinned (OpenSpec.ofChange fnExactInstallFilesSpec)

/-- ITS FALSE NEIGHBOUR: 'it returns false'. Refute it at one input. -/
def fnExactInstallFilesWrong : ChangeSpec := { name := "fnExactInstallFiles", fn := fun _ => fun
  | [d1, d2, d3, d4] => { results := [.lit (.bool false)], args := [d1, d2, d3, d4] }
  | _ => none }
def FnExactInstallFilesWrongFalsely : Prop := fnExactInstallFilesRow.holds Try.pinned (OpenSpec.ofChange fnExactInstallFilesWrong)

/- THE SECOND FORM. 'bulk': how many values and letters a reading holds, each counted each time it is reached (what is shared counts as often as it is met; a slice's spare places count too). A statement '..UptoSaid' is the law's where the arguments, and the package variables that the reading takes, are together of bulk at most 1048576: NARROWER than '..Said'. Prove '..Said' where nothing that the law and all that it calls make is longer than what came in: it says more and counts as full. Else prove '..UptoSaid'. A law counts once. -/
mutual
def uptoBulk {H : Type} : DataW H → Nat
  | .lit (.string bytes) => bytes.length + 1
  | .lit _ => 1
  | .nil => 1
  | .ptr d => uptoBulk d + 1
  | .slice elems spare => uptoBulkAll elems + uptoBulkAll spare + 1
  | .agg parts => uptoBulkAll parts + 1
  | .iface _ d => uptoBulk d + 1
  | .map entries => uptoBulkEntries entries + 1
  | .held _ => 1
def uptoBulkAll {H : Type} : List (DataW H) → Nat
  | [] => 0
  | d :: r => uptoBulk d + uptoBulkAll r
def uptoBulkEntries {H : Type} : List (Lit × DataW H) → Nat
  | [] => 0
  | x :: r => uptoBulkEntry x + uptoBulkEntries r
def uptoBulkEntry {H : Type} : Lit × DataW H → Nat
  | (.string bytes, d) => bytes.length + uptoBulk d + 1
  | (_, d) => uptoBulk d + 1
 end
def uptoSmall : (H : Type) → List (DataW H) → Bool := fun _ ds => decide (uptoBulkAll ds ≤ 1048576)
def OpenSpec.upto (s : _root_.Go.ChangeSpec) : _root_.Go.OpenSpec := { _root_.Go.OpenSpec.ofChange s with cond := some uptoSmall }

/-- 'laws.FnMachines', WHERE WHAT IT READS IS OF BULK AT MOST 1048576: true; the input reads as it did. -/
def fnMachinesUptoRow : OpenClaim := { program := "ytlicnppfgfjkgaa", sum := "83d8053d529d8628074c13ac2f0e79f26251201b53b4416bc6dae7aadb8246c4", func := "loop.example/g00583/laws.FnMachines", spec := "fnMachines", apart := false, narrowed := true }
def FnMachinesUptoSaid : Prop := fnMachinesUptoRow.holds Try.pinned (OpenSpec.upto fnMachinesSpec)

/-- 'laws.FnPages', WHERE WHAT IT READS IS OF BULK AT MOST 1048576: true; the input reads as it did. -/
def fnPagesUptoRow : OpenClaim := { program := "ytlicnppfgfjkgaa", sum := "83d8053d529d8628074c13ac2f0e79f26251201b53b4416bc6dae7aadb8246c4", func := "loop.example/g00583/laws.FnPages", spec := "fnPages", apart := false, narrowed := true }
def FnPagesUptoSaid : Prop := fnPagesUptoRow.holds Try.pinned (OpenSpec.upto fnPagesSpec)

/-- 'laws.FnSites', WHERE WHAT IT READS IS OF BULK AT MOST 1048576: true; the input reads as it did. -/
def fnSitesUptoRow : OpenClaim := { program := "ytlicnppfgfjkgaa", sum := "83d8053d529d8628074c13ac2f0e79f26251201b53b4416bc6dae7aadb8246c4", func := "loop.example/g00583/laws.FnSites", spec := "fnSites", apart := false, narrowed := true }
def FnSitesUptoSaid : Prop := fnSitesUptoRow.holds Try.pinned (OpenSpec.upto fnSitesSpec)

/-- 'laws.FnCaches', WHERE WHAT IT READS IS OF BULK AT MOST 1048576: true; the input reads as it did. -/
def fnCachesUptoRow : OpenClaim := { program := "ytlicnppfgfjkgaa", sum := "83d8053d529d8628074c13ac2f0e79f26251201b53b4416bc6dae7aadb8246c4", func := "loop.example/g00583/laws.FnCaches", spec := "fnCaches", unfollowed := true, recurses := true, apart := false, narrowed := true }
def FnCachesUptoSaid : Prop := fnCachesUptoRow.holds Try.pinned (OpenSpec.upto fnCachesSpec)

/-- 'laws.FnExactOpenCache', WHERE WHAT IT READS IS OF BULK AT MOST 1048576: true; the input reads as it did. -/
def fnExactOpenCacheUptoRow : OpenClaim := { program := "ytlicnppfgfjkgaa", sum := "83d8053d529d8628074c13ac2f0e79f26251201b53b4416bc6dae7aadb8246c4", func := "loop.example/g00583/laws.FnExactOpenCache", spec := "fnExactOpenCache", inPlace := ["slices.overlaps[loop.example/g00583/impl.Cache]"], unfollowed := true, recurses := true, apart := false, narrowed := true }
def FnExactOpenCacheUptoSaid : Prop := fnExactOpenCacheUptoRow.holds Try.pinned (OpenSpec.upto fnExactOpenCacheSpec)

/-- 'laws.FnInstalls', WHERE WHAT IT READS IS OF BULK AT MOST 1048576: true; the input reads as it did. -/
def fnInstallsUptoRow : OpenClaim := { program := "ytlicnppfgfjkgaa", sum := "83d8053d529d8628074c13ac2f0e79f26251201b53b4416bc6dae7aadb8246c4", func := "loop.example/g00583/laws.FnInstalls", spec := "fnInstalls", inPlace := ["slices.overlaps[loop.example/g00583/impl.Cache]"], unfollowed := true, recurses := true, apart := false, narrowed := true }
def FnInstallsUptoSaid : Prop := fnInstallsUptoRow.holds Try.pinned (OpenSpec.upto fnInstallsSpec)

/-- 'laws.FnExactInstallFiles', WHERE WHAT IT READS IS OF BULK AT MOST 1048576: true; the input reads as it did. -/
def fnExactInstallFilesUptoRow : OpenClaim := { program := "ytlicnppfgfjkgaa", sum := "83d8053d529d8628074c13ac2f0e79f26251201b53b4416bc6dae7aadb8246c4", func := "loop.example/g00583/laws.FnExactInstallFiles", spec := "fnExactInstallFiles", inPlace := ["slices.overlaps[loop.example/g00583/impl.Cache]"], unfollowed := true, recurses := true, apart := false, narrowed := true }
def FnExactInstallFilesUptoSaid : Prop := fnExactInstallFilesUptoRow.holds Try.pinned (OpenSpec.upto fnExactInstallFilesSpec)

end Rows
end Go.Proofs.Ytlicnppfgfjkgaa
