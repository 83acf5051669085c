/-
  No cell of these rows narrows 'for every input' (looked for: loops, veiled, ifaces, maps, wideKeys, modest, calm, conditions, laid).
  DERIVED. THE GIVEN ROWS OF THIS SEAT. 11 by the template 'for every input the law returns true; each argument reads behind the call as it read before'; 0 by the template 'total and deterministic' (their statements: YtfciadidlbnioaaTotals.lean).
  GIVEN WITH THE SEED: the statements are not yours to turn. If you find one false, say at which input.
  Laid BY PROGRAM, IN A SANDBOX (cutbox-rows.mjs): the forced cells as the released guide's own fill.sh prints them over the translation 9052d09c033ed095… (all of the seat's roots in one cut). By AI agents, Wed Nov 11 2026. No macro, syntax, notation, axiom, sorry.
-/
import Derived.Test.YtfciadidlbnioaaChecked
import GoSem.Claim
import GoSem.ClaimJoined
import GoSem.ClaimMapViews
import Derived.JoinedTies
import Derived.KernelRfl
namespace Go.Proofs.Ytfciadidlbnioaa
/- THE CELL 'sum', in the pinned program and in every row, IS THE sha256 OF THE DUMP (.gsa) THAT YtfciadidlbnioaaProg.lean LOADS. Nothing in Lean hashes anything: it is a label: what it is worth is what the hold of that sum in a sandbox is worth. -/
noncomputable def Try.pinned : Pinned := { name := "ytfciadidlbnioaa", sum := "9052d09c033ed095d6149a55aa1fc12f025970689a4ce8ead6d47e9cfb6916b7", checked := Try.checked }
namespace Rows
def none {H : Type} : Left H := { results := [], args := [] }

/-- 'laws.FnExactEndInstall': WHATEVER THE INPUT: true; the input reads as it did. -/
def fnExactEndInstallSpec : ChangeSpec := { name := "fnExactEndInstall", fn := fun _ => fun
  | [d1, d2] => { results := [.lit (.bool true)], args := [d1, d2] }
  | _ => none }
def fnExactEndInstallRow : OpenClaim := { program := "ytfciadidlbnioaa", sum := "9052d09c033ed095d6149a55aa1fc12f025970689a4ce8ead6d47e9cfb6916b7", func := "loop.example/g00583/laws.FnExactEndInstall", spec := "fnExactEndInstall", apart := false }
def FnExactEndInstallSaid : Prop := fnExactEndInstallRow.holds Try.pinned (OpenSpec.ofChange fnExactEndInstallSpec)

/-- ITS FALSE NEIGHBOUR: 'it returns false'. Refute it at one input. -/
def fnExactEndInstallWrong : ChangeSpec := { name := "fnExactEndInstall", fn := fun _ => fun
  | [d1, d2] => { results := [.lit (.bool false)], args := [d1, d2] }
  | _ => none }
def FnExactEndInstallWrongFalsely : Prop := fnExactEndInstallRow.holds Try.pinned (OpenSpec.ofChange fnExactEndInstallWrong)

/-- 'laws.FnExactCanActivate': WHATEVER THE INPUT: true; the input reads as it did. -/
def fnExactCanActivateSpec : ChangeSpec := { name := "fnExactCanActivate", fn := fun _ => fun
  | [d1, d2] => { results := [.lit (.bool true)], args := [d1, d2] }
  | _ => none }
def fnExactCanActivateRow : OpenClaim := { program := "ytfciadidlbnioaa", sum := "9052d09c033ed095d6149a55aa1fc12f025970689a4ce8ead6d47e9cfb6916b7", func := "loop.example/g00583/laws.FnExactCanActivate", spec := "fnExactCanActivate", apart := false }
def FnExactCanActivateSaid : Prop := fnExactCanActivateRow.holds Try.pinned (OpenSpec.ofChange fnExactCanActivateSpec)

/-- ITS FALSE NEIGHBOUR: 'it returns false'. Refute it at one input. -/
def fnExactCanActivateWrong : ChangeSpec := { name := "fnExactCanActivate", fn := fun _ => fun
  | [d1, d2] => { results := [.lit (.bool false)], args := [d1, d2] }
  | _ => none }
def FnExactCanActivateWrongFalsely : Prop := fnExactCanActivateRow.holds Try.pinned (OpenSpec.ofChange fnExactCanActivateWrong)

/-- 'laws.FnExactVersionFor': WHATEVER THE INPUT: true; the input reads as it did. -/
def fnExactVersionForSpec : ChangeSpec := { name := "fnExactVersionFor", fn := fun _ => fun
  | [d1, d2, d3] => { results := [.lit (.bool true)], args := [d1, d2, d3] }
  | _ => none }
def fnExactVersionForRow : OpenClaim := { program := "ytfciadidlbnioaa", sum := "9052d09c033ed095d6149a55aa1fc12f025970689a4ce8ead6d47e9cfb6916b7", func := "loop.example/g00583/laws.FnExactVersionFor", spec := "fnExactVersionFor", apart := false }
def FnExactVersionForSaid : Prop := fnExactVersionForRow.holds Try.pinned (OpenSpec.ofChange fnExactVersionForSpec)

/-- ITS FALSE NEIGHBOUR: 'it returns false'. Refute it at one input. -/
def fnExactVersionForWrong : ChangeSpec := { name := "fnExactVersionFor", fn := fun _ => fun
  | [d1, d2, d3] => { results := [.lit (.bool false)], args := [d1, d2, d3] }
  | _ => none }
def FnExactVersionForWrongFalsely : Prop := fnExactVersionForRow.holds Try.pinned (OpenSpec.ofChange fnExactVersionForWrong)

/-- 'laws.FnExactIsSite': WHATEVER THE INPUT: true; the input reads as it did. -/
def fnExactIsSiteSpec : ChangeSpec := { name := "fnExactIsSite", fn := fun _ => fun
  | [d] => { results := [.lit (.bool true)], args := [d] }
  | _ => none }
def fnExactIsSiteRow : OpenClaim := { program := "ytfciadidlbnioaa", sum := "9052d09c033ed095d6149a55aa1fc12f025970689a4ce8ead6d47e9cfb6916b7", func := "loop.example/g00583/laws.FnExactIsSite", spec := "fnExactIsSite", apart := false }
def FnExactIsSiteSaid : Prop := fnExactIsSiteRow.holds Try.pinned (OpenSpec.ofChange fnExactIsSiteSpec)

/-- ITS FALSE NEIGHBOUR: 'it returns false'. Refute it at one input. -/
def fnExactIsSiteWrong : ChangeSpec := { name := "fnExactIsSite", fn := fun _ => fun
  | [d] => { results := [.lit (.bool false)], args := [d] }
  | _ => none }
def FnExactIsSiteWrongFalsely : Prop := fnExactIsSiteRow.holds Try.pinned (OpenSpec.ofChange fnExactIsSiteWrong)

/-- 'laws.FnExactServesVersion': WHATEVER THE INPUT: true; the input reads as it did. -/
def fnExactServesVersionSpec : ChangeSpec := { name := "fnExactServesVersion", fn := fun _ => fun
  | [d1, d2] => { results := [.lit (.bool true)], args := [d1, d2] }
  | _ => none }
def fnExactServesVersionRow : OpenClaim := { program := "ytfciadidlbnioaa", sum := "9052d09c033ed095d6149a55aa1fc12f025970689a4ce8ead6d47e9cfb6916b7", func := "loop.example/g00583/laws.FnExactServesVersion", spec := "fnExactServesVersion", apart := false }
def FnExactServesVersionSaid : Prop := fnExactServesVersionRow.holds Try.pinned (OpenSpec.ofChange fnExactServesVersionSpec)

/-- ITS FALSE NEIGHBOUR: 'it returns false'. Refute it at one input. -/
def fnExactServesVersionWrong : ChangeSpec := { name := "fnExactServesVersion", fn := fun _ => fun
  | [d1, d2] => { results := [.lit (.bool false)], args := [d1, d2] }
  | _ => none }
def FnExactServesVersionWrongFalsely : Prop := fnExactServesVersionRow.holds Try.pinned (OpenSpec.ofChange fnExactServesVersionWrong)

/-- 'laws.FnExactActivate': WHATEVER THE INPUT: true; the input reads as it did. -/
def fnExactActivateSpec : ChangeSpec := { name := "fnExactActivate", fn := fun _ => fun
  | [d1, d2] => { results := [.lit (.bool true)], args := [d1, d2] }
  | _ => none }
def fnExactActivateRow : OpenClaim := { program := "ytfciadidlbnioaa", sum := "9052d09c033ed095d6149a55aa1fc12f025970689a4ce8ead6d47e9cfb6916b7", func := "loop.example/g00583/laws.FnExactActivate", spec := "fnExactActivate", apart := false }
def FnExactActivateSaid : Prop := fnExactActivateRow.holds Try.pinned (OpenSpec.ofChange fnExactActivateSpec)

/-- ITS FALSE NEIGHBOUR: 'it returns false'. Refute it at one input. -/
def fnExactActivateWrong : ChangeSpec := { name := "fnExactActivate", fn := fun _ => fun
  | [d1, d2] => { results := [.lit (.bool false)], args := [d1, d2] }
  | _ => none }
def FnExactActivateWrongFalsely : Prop := fnExactActivateRow.holds Try.pinned (OpenSpec.ofChange fnExactActivateWrong)

/-- 'laws.FnExactRelease': WHATEVER THE INPUT: true; the input reads as it did. -/
def fnExactReleaseSpec : ChangeSpec := { name := "fnExactRelease", fn := fun _ => fun
  | [d] => { results := [.lit (.bool true)], args := [d] }
  | _ => none }
def fnExactReleaseRow : OpenClaim := { program := "ytfciadidlbnioaa", sum := "9052d09c033ed095d6149a55aa1fc12f025970689a4ce8ead6d47e9cfb6916b7", func := "loop.example/g00583/laws.FnExactRelease", spec := "fnExactRelease", apart := false }
def FnExactReleaseSaid : Prop := fnExactReleaseRow.holds Try.pinned (OpenSpec.ofChange fnExactReleaseSpec)

/-- ITS FALSE NEIGHBOUR: 'it returns false'. Refute it at one input. -/
def fnExactReleaseWrong : ChangeSpec := { name := "fnExactRelease", fn := fun _ => fun
  | [d] => { results := [.lit (.bool false)], args := [d] }
  | _ => none }
def FnExactReleaseWrongFalsely : Prop := fnExactReleaseRow.holds Try.pinned (OpenSpec.ofChange fnExactReleaseWrong)

/-- 'laws.FnWorkers': WHATEVER THE INPUT: true; the input reads as it did. -/
def fnWorkersSpec : ChangeSpec := { name := "fnWorkers", fn := fun _ => fun
  | [d] => { results := [.lit (.bool true)], args := [d] }
  | _ => none }
def fnWorkersRow : OpenClaim := { program := "ytfciadidlbnioaa", sum := "9052d09c033ed095d6149a55aa1fc12f025970689a4ce8ead6d47e9cfb6916b7", func := "loop.example/g00583/laws.FnWorkers", spec := "fnWorkers", apart := false }
def FnWorkersSaid : Prop := fnWorkersRow.holds Try.pinned (OpenSpec.ofChange fnWorkersSpec)

/-- ITS FALSE NEIGHBOUR: 'it returns false'. Refute it at one input. -/
def fnWorkersWrong : ChangeSpec := { name := "fnWorkers", fn := fun _ => fun
  | [d] => { results := [.lit (.bool false)], args := [d] }
  | _ => none }
def FnWorkersWrongFalsely : Prop := fnWorkersRow.holds Try.pinned (OpenSpec.ofChange fnWorkersWrong)

/-- 'laws.FnExactBodyOf': WHATEVER THE INPUT: true; the input reads as it did. -/
def fnExactBodyOfSpec : ChangeSpec := { name := "fnExactBodyOf", fn := fun _ => fun
  | [d1, d2, d3] => { results := [.lit (.bool true)], args := [d1, d2, d3] }
  | _ => none }
def fnExactBodyOfRow : OpenClaim := { program := "ytfciadidlbnioaa", sum := "9052d09c033ed095d6149a55aa1fc12f025970689a4ce8ead6d47e9cfb6916b7", func := "loop.example/g00583/laws.FnExactBodyOf", spec := "fnExactBodyOf", apart := false }
def FnExactBodyOfSaid : Prop := fnExactBodyOfRow.holds Try.pinned (OpenSpec.ofChange fnExactBodyOfSpec)

/-- ITS FALSE NEIGHBOUR: 'it returns false'. Refute it at one input. -/
def fnExactBodyOfWrong : ChangeSpec := { name := "fnExactBodyOf", fn := fun _ => fun
  | [d1, d2, d3] => { results := [.lit (.bool false)], args := [d1, d2, d3] }
  | _ => none }
def FnExactBodyOfWrongFalsely : Prop := fnExactBodyOfRow.holds Try.pinned (OpenSpec.ofChange fnExactBodyOfWrong)

/-- 'laws.FnSites': WHATEVER THE INPUT: true; the input reads as it did. -/
def fnSitesSpec : ChangeSpec := { name := "fnSites", fn := fun _ => fun
  | [d] => { results := [.lit (.bool true)], args := [d] }
  | _ => none }
def fnSitesRow : OpenClaim := { program := "ytfciadidlbnioaa", sum := "9052d09c033ed095d6149a55aa1fc12f025970689a4ce8ead6d47e9cfb6916b7", func := "loop.example/g00583/laws.FnSites", spec := "fnSites", apart := false }
def FnSitesSaid : Prop := fnSitesRow.holds Try.pinned (OpenSpec.ofChange fnSitesSpec)

/-- ITS FALSE NEIGHBOUR: 'it returns false'. Refute it at one input. -/
def fnSitesWrong : ChangeSpec := { name := "fnSites", fn := fun _ => fun
  | [d] => { results := [.lit (.bool false)], args := [d] }
  | _ => none }
def FnSitesWrongFalsely : Prop := fnSitesRow.holds Try.pinned (OpenSpec.ofChange fnSitesWrong)

/-- 'laws.FnExactServeFile': WHATEVER THE INPUT: true; the input reads as it did. -/
def fnExactServeFileSpec : ChangeSpec := { name := "fnExactServeFile", fn := fun _ => fun
  | [d1, d2, d3] => { results := [.lit (.bool true)], args := [d1, d2, d3] }
  | _ => none }
def fnExactServeFileRow : OpenClaim := { program := "ytfciadidlbnioaa", sum := "9052d09c033ed095d6149a55aa1fc12f025970689a4ce8ead6d47e9cfb6916b7", func := "loop.example/g00583/laws.FnExactServeFile", spec := "fnExactServeFile", apart := false }
def FnExactServeFileSaid : Prop := fnExactServeFileRow.holds Try.pinned (OpenSpec.ofChange fnExactServeFileSpec)

/-- ITS FALSE NEIGHBOUR: 'it returns false'. Refute it at one input. -/
def fnExactServeFileWrong : ChangeSpec := { name := "fnExactServeFile", fn := fun _ => fun
  | [d1, d2, d3] => { results := [.lit (.bool false)], args := [d1, d2, d3] }
  | _ => none }
def FnExactServeFileWrongFalsely : Prop := fnExactServeFileRow.holds Try.pinned (OpenSpec.ofChange fnExactServeFileWrong)

/- THE SECOND FORM. 'bulk': how many values and letters a reading holds, each counted each time it is reached (what is shared counts as often as it is met; a slice's spare places count too). A statement '..UptoSaid' is the law's where the arguments, and the package variables that the reading takes, are together of bulk at most 1048576: NARROWER than '..Said'. Prove '..Said' where nothing that the law and all that it calls make is longer than what came in: it says more and counts as full. Else prove '..UptoSaid'. A law counts once. -/
mutual
def uptoBulk {H : Type} : DataW H → Nat
  | .lit (.string bytes) => bytes.length + 1
  | .lit _ => 1
  | .nil => 1
  | .ptr d => uptoBulk d + 1
  | .slice elems spare => uptoBulkAll elems + uptoBulkAll spare + 1
  | .agg parts => uptoBulkAll parts + 1
  | .iface _ d => uptoBulk d + 1
  | .map entries => uptoBulkEntries entries + 1
  | .held _ => 1
def uptoBulkAll {H : Type} : List (DataW H) → Nat
  | [] => 0
  | d :: r => uptoBulk d + uptoBulkAll r
def uptoBulkEntries {H : Type} : List (Lit × DataW H) → Nat
  | [] => 0
  | x :: r => uptoBulkEntry x + uptoBulkEntries r
def uptoBulkEntry {H : Type} : Lit × DataW H → Nat
  | (.string bytes, d) => bytes.length + uptoBulk d + 1
  | (_, d) => uptoBulk d + 1
 end
def uptoSmall : (H : Type) → List (DataW H) → Bool := fun _ ds => decide (uptoBulkAll ds ≤ 1048576)
def OpenSpec.upto (s : _root_.Go.ChangeSpec) : _root_.Go.OpenSpec := { _root_.Go.OpenSpec.ofChange s with cond := some uptoSmall }

/-- 'laws.FnExactEndInstall', WHERE WHAT IT READS IS OF BULK AT MOST 1048576: true; the input reads as it did. -/
def fnExactEndInstallUptoRow : OpenClaim := { program := "ytfciadidlbnioaa", sum := "9052d09c033ed095d6149a55aa1fc12f025970689a4ce8ead6d47e9cfb6916b7", func := "loop.example/g00583/laws.FnExactEndInstall", spec := "fnExactEndInstall", apart := false, narrowed := true }
def FnExactEndInstallUptoSaid : Prop := fnExactEndInstallUptoRow.holds Try.pinned (OpenSpec.upto fnExactEndInstallSpec)

/-- 'laws.FnExactCanActivate', WHERE WHAT IT READS IS OF BULK AT MOST 1048576: true; the input reads as it did. -/
def fnExactCanActivateUptoRow : OpenClaim := { program := "ytfciadidlbnioaa", sum := "9052d09c033ed095d6149a55aa1fc12f025970689a4ce8ead6d47e9cfb6916b7", func := "loop.example/g00583/laws.FnExactCanActivate", spec := "fnExactCanActivate", apart := false, narrowed := true }
def FnExactCanActivateUptoSaid : Prop := fnExactCanActivateUptoRow.holds Try.pinned (OpenSpec.upto fnExactCanActivateSpec)

/-- 'laws.FnExactVersionFor', WHERE WHAT IT READS IS OF BULK AT MOST 1048576: true; the input reads as it did. -/
def fnExactVersionForUptoRow : OpenClaim := { program := "ytfciadidlbnioaa", sum := "9052d09c033ed095d6149a55aa1fc12f025970689a4ce8ead6d47e9cfb6916b7", func := "loop.example/g00583/laws.FnExactVersionFor", spec := "fnExactVersionFor", apart := false, narrowed := true }
def FnExactVersionForUptoSaid : Prop := fnExactVersionForUptoRow.holds Try.pinned (OpenSpec.upto fnExactVersionForSpec)

/-- 'laws.FnExactIsSite', WHERE WHAT IT READS IS OF BULK AT MOST 1048576: true; the input reads as it did. -/
def fnExactIsSiteUptoRow : OpenClaim := { program := "ytfciadidlbnioaa", sum := "9052d09c033ed095d6149a55aa1fc12f025970689a4ce8ead6d47e9cfb6916b7", func := "loop.example/g00583/laws.FnExactIsSite", spec := "fnExactIsSite", apart := false, narrowed := true }
def FnExactIsSiteUptoSaid : Prop := fnExactIsSiteUptoRow.holds Try.pinned (OpenSpec.upto fnExactIsSiteSpec)

/-- 'laws.FnExactServesVersion', WHERE WHAT IT READS IS OF BULK AT MOST 1048576: true; the input reads as it did. -/
def fnExactServesVersionUptoRow : OpenClaim := { program := "ytfciadidlbnioaa", sum := "9052d09c033ed095d6149a55aa1fc12f025970689a4ce8ead6d47e9cfb6916b7", func := "loop.example/g00583/laws.FnExactServesVersion", spec := "fnExactServesVersion", apart := false, narrowed := true }
def FnExactServesVersionUptoSaid : Prop := fnExactServesVersionUptoRow.holds Try.pinned (OpenSpec.upto fnExactServesVersionSpec)

/-- 'laws.FnExactActivate', WHERE WHAT IT READS IS OF BULK AT MOST 1048576: true; the input reads as it did. -/
def fnExactActivateUptoRow : OpenClaim := { program := "ytfciadidlbnioaa", sum := "9052d09c033ed095d6149a55aa1fc12f025970689a4ce8ead6d47e9cfb6916b7", func := "loop.example/g00583/laws.FnExactActivate", spec := "fnExactActivate", apart := false, narrowed := true }
def FnExactActivateUptoSaid : Prop := fnExactActivateUptoRow.holds Try.pinned (OpenSpec.upto fnExactActivateSpec)

/-- 'laws.FnExactRelease', WHERE WHAT IT READS IS OF BULK AT MOST 1048576: true; the input reads as it did. -/
def fnExactReleaseUptoRow : OpenClaim := { program := "ytfciadidlbnioaa", sum := "9052d09c033ed095d6149a55aa1fc12f025970689a4ce8ead6d47e9cfb6916b7", func := "loop.example/g00583/laws.FnExactRelease", spec := "fnExactRelease", apart := false, narrowed := true }
def FnExactReleaseUptoSaid : Prop := fnExactReleaseUptoRow.holds Try.pinned (OpenSpec.upto fnExactReleaseSpec)

/-- 'laws.FnWorkers', WHERE WHAT IT READS IS OF BULK AT MOST 1048576: true; the input reads as it did. -/
def fnWorkersUptoRow : OpenClaim := { program := "ytfciadidlbnioaa", sum := "9052d09c033ed095d6149a55aa1fc12f025970689a4ce8ead6d47e9cfb6916b7", func := "loop.example/g00583/laws.FnWorkers", spec := "fnWorkers", apart := false, narrowed := true }
def FnWorkersUptoSaid : Prop := fnWorkersUptoRow.holds Try.pinned (OpenSpec.upto fnWorkersSpec)

/-- 'laws.FnExactBodyOf', WHERE WHAT IT READS IS OF BULK AT MOST 1048576: true; the input reads as it did. -/
def fnExactBodyOfUptoRow : OpenClaim := { program := "ytfciadidlbnioaa", sum := "9052d09c033ed095d6149a55aa1fc12f025970689a4ce8ead6d47e9cfb6916b7", func := "loop.example/g00583/laws.FnExactBodyOf", spec := "fnExactBodyOf", apart := false, narrowed := true }
def FnExactBodyOfUptoSaid : Prop := fnExactBodyOfUptoRow.holds Try.pinned (OpenSpec.upto fnExactBodyOfSpec)

/-- 'laws.FnSites', WHERE WHAT IT READS IS OF BULK AT MOST 1048576: true; the input reads as it did. -/
def fnSitesUptoRow : OpenClaim := { program := "ytfciadidlbnioaa", sum := "9052d09c033ed095d6149a55aa1fc12f025970689a4ce8ead6d47e9cfb6916b7", func := "loop.example/g00583/laws.FnSites", spec := "fnSites", apart := false, narrowed := true }
def FnSitesUptoSaid : Prop := fnSitesUptoRow.holds Try.pinned (OpenSpec.upto fnSitesSpec)

/-- 'laws.FnExactServeFile', WHERE WHAT IT READS IS OF BULK AT MOST 1048576: true; the input reads as it did. -/
def fnExactServeFileUptoRow : OpenClaim := { program := "ytfciadidlbnioaa", sum := "9052d09c033ed095d6149a55aa1fc12f025970689a4ce8ead6d47e9cfb6916b7", func := "loop.example/g00583/laws.FnExactServeFile", spec := "fnExactServeFile", apart := false, narrowed := true }
def FnExactServeFileUptoSaid : Prop := fnExactServeFileUptoRow.holds Try.pinned (OpenSpec.upto fnExactServeFileSpec)

end Rows
end Go.Proofs.Ytfciadidlbnioaa
