/-
  No cell of these rows narrows 'for every input' (looked for: loops, veiled, ifaces, maps, wideKeys, modest, calm, conditions, laid).
  DERIVED. THE GIVEN ROWS OF THIS SEAT. 8 by the template 'for every input the law returns true; each argument reads behind the call as it read before'; 0 by the template 'total and deterministic' (their statements: YteipaolcmjfhdaaTotals.lean).
  GIVEN WITH THE SEED: the statements are not yours to turn. If you find one false, say at which input.
  Laid BY PROGRAM, IN A SANDBOX (cutbox-rows.mjs): the forced cells as the released guide's own fill.sh prints them over the translation 714655d548890682… (all of the seat's roots in one cut). By AI agents, Wed Nov 11 2026. No macro, syntax, notation, axiom, sorry.
-/
import Derived.Test.YteipaolcmjfhdaaChecked
import GoSem.Claim
import GoSem.ClaimJoined
import GoSem.ClaimMapViews
import Derived.JoinedTies
import Derived.KernelRfl
namespace Go.Proofs.Yteipaolcmjfhdaa
/- THE CELL 'sum', in the pinned program and in every row, IS THE sha256 OF THE DUMP (.gsa) THAT YteipaolcmjfhdaaProg.lean LOADS. Nothing in Lean hashes anything: it is a label: what it is worth is what the hold of that sum in a sandbox is worth. -/
noncomputable def Try.pinned : Pinned := { name := "yteipaolcmjfhdaa", sum := "714655d548890682d218d5dcf5eca87b973dde247d62dd2d1811ec96161f475b", checked := Try.checked }
namespace Rows
def none {H : Type} : Left H := { results := [], args := [] }

/-- 'laws.FnLoops': WHATEVER THE INPUT: true; the input reads as it did. -/
def fnLoopsSpec : ChangeSpec := { name := "fnLoops", fn := fun _ => fun
  | [d] => { results := [.lit (.bool true)], args := [d] }
  | _ => none }
def fnLoopsRow : OpenClaim := { program := "yteipaolcmjfhdaa", sum := "714655d548890682d218d5dcf5eca87b973dde247d62dd2d1811ec96161f475b", func := "loop.example/g00583/laws.FnLoops", spec := "fnLoops", apart := false }
def FnLoopsSaid : Prop := fnLoopsRow.holds Try.pinned (OpenSpec.ofChange fnLoopsSpec)

/-- ITS FALSE NEIGHBOUR: 'it returns false'. Refute it at one input. -/
def fnLoopsWrong : ChangeSpec := { name := "fnLoops", fn := fun _ => fun
  | [d] => { results := [.lit (.bool false)], args := [d] }
  | _ => none }
def FnLoopsWrongFalsely : Prop := fnLoopsRow.holds Try.pinned (OpenSpec.ofChange fnLoopsWrong)

/-- 'laws.FnFilters': WHATEVER THE INPUT: true; the input reads as it did. -/
def fnFiltersSpec : ChangeSpec := { name := "fnFilters", fn := fun _ => fun
  | [d] => { results := [.lit (.bool true)], args := [d] }
  | _ => none }
def fnFiltersRow : OpenClaim := { program := "yteipaolcmjfhdaa", sum := "714655d548890682d218d5dcf5eca87b973dde247d62dd2d1811ec96161f475b", func := "loop.example/g00583/laws.FnFilters", spec := "fnFilters", apart := false }
def FnFiltersSaid : Prop := fnFiltersRow.holds Try.pinned (OpenSpec.ofChange fnFiltersSpec)

/-- ITS FALSE NEIGHBOUR: 'it returns false'. Refute it at one input. -/
def fnFiltersWrong : ChangeSpec := { name := "fnFilters", fn := fun _ => fun
  | [d] => { results := [.lit (.bool false)], args := [d] }
  | _ => none }
def FnFiltersWrongFalsely : Prop := fnFiltersRow.holds Try.pinned (OpenSpec.ofChange fnFiltersWrong)

/-- 'laws.FnMachines': WHATEVER THE INPUT: true; the input reads as it did. -/
def fnMachinesSpec : ChangeSpec := { name := "fnMachines", fn := fun _ => fun
  | [d] => { results := [.lit (.bool true)], args := [d] }
  | _ => none }
def fnMachinesRow : OpenClaim := { program := "yteipaolcmjfhdaa", sum := "714655d548890682d218d5dcf5eca87b973dde247d62dd2d1811ec96161f475b", func := "loop.example/g00583/laws.FnMachines", spec := "fnMachines", apart := false }
def FnMachinesSaid : Prop := fnMachinesRow.holds Try.pinned (OpenSpec.ofChange fnMachinesSpec)

/-- ITS FALSE NEIGHBOUR: 'it returns false'. Refute it at one input. -/
def fnMachinesWrong : ChangeSpec := { name := "fnMachines", fn := fun _ => fun
  | [d] => { results := [.lit (.bool false)], args := [d] }
  | _ => none }
def FnMachinesWrongFalsely : Prop := fnMachinesRow.holds Try.pinned (OpenSpec.ofChange fnMachinesWrong)

/-- 'laws.FnWorkers': WHATEVER THE INPUT: true; the input reads as it did. -/
def fnWorkersSpec : ChangeSpec := { name := "fnWorkers", fn := fun _ => fun
  | [d] => { results := [.lit (.bool true)], args := [d] }
  | _ => none }
def fnWorkersRow : OpenClaim := { program := "yteipaolcmjfhdaa", sum := "714655d548890682d218d5dcf5eca87b973dde247d62dd2d1811ec96161f475b", func := "loop.example/g00583/laws.FnWorkers", spec := "fnWorkers", apart := false }
def FnWorkersSaid : Prop := fnWorkersRow.holds Try.pinned (OpenSpec.ofChange fnWorkersSpec)

/-- ITS FALSE NEIGHBOUR: 'it returns false'. Refute it at one input. -/
def fnWorkersWrong : ChangeSpec := { name := "fnWorkers", fn := fun _ => fun
  | [d] => { results := [.lit (.bool false)], args := [d] }
  | _ => none }
def FnWorkersWrongFalsely : Prop := fnWorkersRow.holds Try.pinned (OpenSpec.ofChange fnWorkersWrong)

/-- 'laws.FnExactBodyOf': WHATEVER THE INPUT: true; the input reads as it did. -/
def fnExactBodyOfSpec : ChangeSpec := { name := "fnExactBodyOf", fn := fun _ => fun
  | [d1, d2, d3] => { results := [.lit (.bool true)], args := [d1, d2, d3] }
  | _ => none }
def fnExactBodyOfRow : OpenClaim := { program := "yteipaolcmjfhdaa", sum := "714655d548890682d218d5dcf5eca87b973dde247d62dd2d1811ec96161f475b", func := "loop.example/g00583/laws.FnExactBodyOf", spec := "fnExactBodyOf", apart := false }
def FnExactBodyOfSaid : Prop := fnExactBodyOfRow.holds Try.pinned (OpenSpec.ofChange fnExactBodyOfSpec)

/-- ITS FALSE NEIGHBOUR: 'it returns false'. Refute it at one input. -/
def fnExactBodyOfWrong : ChangeSpec := { name := "fnExactBodyOf", fn := fun _ => fun
  | [d1, d2, d3] => { results := [.lit (.bool false)], args := [d1, d2, d3] }
  | _ => none }
def FnExactBodyOfWrongFalsely : Prop := fnExactBodyOfRow.holds Try.pinned (OpenSpec.ofChange fnExactBodyOfWrong)

/-- 'laws.FnSites': WHATEVER THE INPUT: true; the input reads as it did. -/
def fnSitesSpec : ChangeSpec := { name := "fnSites", fn := fun _ => fun
  | [d] => { results := [.lit (.bool true)], args := [d] }
  | _ => none }
def fnSitesRow : OpenClaim := { program := "yteipaolcmjfhdaa", sum := "714655d548890682d218d5dcf5eca87b973dde247d62dd2d1811ec96161f475b", func := "loop.example/g00583/laws.FnSites", spec := "fnSites", apart := false }
def FnSitesSaid : Prop := fnSitesRow.holds Try.pinned (OpenSpec.ofChange fnSitesSpec)

/-- ITS FALSE NEIGHBOUR: 'it returns false'. Refute it at one input. -/
def fnSitesWrong : ChangeSpec := { name := "fnSites", fn := fun _ => fun
  | [d] => { results := [.lit (.bool false)], args := [d] }
  | _ => none }
def FnSitesWrongFalsely : Prop := fnSitesRow.holds Try.pinned (OpenSpec.ofChange fnSitesWrong)

/-- 'laws.FnExactServeFile': WHATEVER THE INPUT: true; the input reads as it did. -/
def fnExactServeFileSpec : ChangeSpec := { name := "fnExactServeFile", fn := fun _ => fun
  | [d1, d2, d3] => { results := [.lit (.bool true)], args := [d1, d2, d3] }
  | _ => none }
def fnExactServeFileRow : OpenClaim := { program := "yteipaolcmjfhdaa", sum := "714655d548890682d218d5dcf5eca87b973dde247d62dd2d1811ec96161f475b", func := "loop.example/g00583/laws.FnExactServeFile", spec := "fnExactServeFile", apart := false }
def FnExactServeFileSaid : Prop := fnExactServeFileRow.holds Try.pinned (OpenSpec.ofChange fnExactServeFileSpec)

/-- ITS FALSE NEIGHBOUR: 'it returns false'. Refute it at one input. -/
def fnExactServeFileWrong : ChangeSpec := { name := "fnExactServeFile", fn := fun _ => fun
  | [d1, d2, d3] => { results := [.lit (.bool false)], args := [d1, d2, d3] }
  | _ => none }
def FnExactServeFileWrongFalsely : Prop := fnExactServeFileRow.holds Try.pinned (OpenSpec.ofChange fnExactServeFileWrong)

/-- 'laws.FnExactRunMachine': WHATEVER THE INPUT: true; the input reads as it did. -/
def fnExactRunMachineSpec : ChangeSpec := { name := "fnExactRunMachine", fn := fun _ => fun
  | [d] => { results := [.lit (.bool true)], args := [d] }
  | _ => none }
def fnExactRunMachineRow : OpenClaim := { program := "yteipaolcmjfhdaa", sum := "714655d548890682d218d5dcf5eca87b973dde247d62dd2d1811ec96161f475b", func := "loop.example/g00583/laws.FnExactRunMachine", spec := "fnExactRunMachine", apart := false }
def FnExactRunMachineSaid : Prop := fnExactRunMachineRow.holds Try.pinned (OpenSpec.ofChange fnExactRunMachineSpec)

/-- ITS FALSE NEIGHBOUR: 'it returns false'. Refute it at one input. -/
def fnExactRunMachineWrong : ChangeSpec := { name := "fnExactRunMachine", fn := fun _ => fun
  | [d] => { results := [.lit (.bool false)], args := [d] }
  | _ => none }
def FnExactRunMachineWrongFalsely : Prop := fnExactRunMachineRow.holds Try.pinned (OpenSpec.ofChange fnExactRunMachineWrong)

/- THE SECOND FORM. 'bulk': how many values and letters a reading holds, each counted each time it is reached (what is shared counts as often as it is met; a slice's spare places count too). A statement '..UptoSaid' is the law's where the arguments, and the package variables that the reading takes, are together of bulk at most 1048576: NARROWER than '..Said'. Prove '..Said' where nothing that the law and all that it calls make is longer than what came in: it says more and counts as full. Else prove '..UptoSaid'. A law counts once. -/
mutual
def uptoBulk {H : Type} : DataW H → Nat
  | .lit (.string bytes) => bytes.length + 1
  | .lit _ => 1
  | .nil => 1
  | .ptr d => uptoBulk d + 1
  | .slice elems spare => uptoBulkAll elems + uptoBulkAll spare + 1
  | .agg parts => uptoBulkAll parts + 1
  | .iface _ d => uptoBulk d + 1
  | .map entries => uptoBulkEntries entries + 1
  | .held _ => 1
def uptoBulkAll {H : Type} : List (DataW H) → Nat
  | [] => 0
  | d :: r => uptoBulk d + uptoBulkAll r
def uptoBulkEntries {H : Type} : List (Lit × DataW H) → Nat
  | [] => 0
  | x :: r => uptoBulkEntry x + uptoBulkEntries r
def uptoBulkEntry {H : Type} : Lit × DataW H → Nat
  | (.string bytes, d) => bytes.length + uptoBulk d + 1
  | (_, d) => uptoBulk d + 1
 end
def uptoSmall : (H : Type) → List (DataW H) → Bool := fun _ ds => decide (uptoBulkAll ds ≤ 1048576)
def OpenSpec.upto (s : _root_.Go.ChangeSpec) : _root_.Go.OpenSpec := { _root_.Go.OpenSpec.ofChange s with cond := some uptoSmall }

/-- 'laws.FnLoops', WHERE WHAT IT READS IS OF BULK AT MOST 1048576: true; the input reads as it did. -/
def fnLoopsUptoRow : OpenClaim := { program := "yteipaolcmjfhdaa", sum := "714655d548890682d218d5dcf5eca87b973dde247d62dd2d1811ec96161f475b", func := "loop.example/g00583/laws.FnLoops", spec := "fnLoops", apart := false, narrowed := true }
def FnLoopsUptoSaid : Prop := fnLoopsUptoRow.holds Try.pinned (OpenSpec.upto fnLoopsSpec)

/-- 'laws.FnFilters', WHERE WHAT IT READS IS OF BULK AT MOST 1048576: true; the input reads as it did. -/
def fnFiltersUptoRow : OpenClaim := { program := "yteipaolcmjfhdaa", sum := "714655d548890682d218d5dcf5eca87b973dde247d62dd2d1811ec96161f475b", func := "loop.example/g00583/laws.FnFilters", spec := "fnFilters", apart := false, narrowed := true }
def FnFiltersUptoSaid : Prop := fnFiltersUptoRow.holds Try.pinned (OpenSpec.upto fnFiltersSpec)

/-- 'laws.FnMachines', WHERE WHAT IT READS IS OF BULK AT MOST 1048576: true; the input reads as it did. -/
def fnMachinesUptoRow : OpenClaim := { program := "yteipaolcmjfhdaa", sum := "714655d548890682d218d5dcf5eca87b973dde247d62dd2d1811ec96161f475b", func := "loop.example/g00583/laws.FnMachines", spec := "fnMachines", apart := false, narrowed := true }
def FnMachinesUptoSaid : Prop := fnMachinesUptoRow.holds Try.pinned (OpenSpec.upto fnMachinesSpec)

/-- 'laws.FnWorkers', WHERE WHAT IT READS IS OF BULK AT MOST 1048576: true; the input reads as it did. -/
def fnWorkersUptoRow : OpenClaim := { program := "yteipaolcmjfhdaa", sum := "714655d548890682d218d5dcf5eca87b973dde247d62dd2d1811ec96161f475b", func := "loop.example/g00583/laws.FnWorkers", spec := "fnWorkers", apart := false, narrowed := true }
def FnWorkersUptoSaid : Prop := fnWorkersUptoRow.holds Try.pinned (OpenSpec.upto fnWorkersSpec)

/-- 'laws.FnExactBodyOf', WHERE WHAT IT READS IS OF BULK AT MOST 1048576: true; the input reads as it did. -/
def fnExactBodyOfUptoRow : OpenClaim := { program := "yteipaolcmjfhdaa", sum := "714655d548890682d218d5dcf5eca87b973dde247d62dd2d1811ec96161f475b", func := "loop.example/g00583/laws.FnExactBodyOf", spec := "fnExactBodyOf", apart := false, narrowed := true }
def FnExactBodyOfUptoSaid : Prop := fnExactBodyOfUptoRow.holds Try.pinned (OpenSpec.upto fnExactBodyOfSpec)

/-- 'laws.FnSites', WHERE WHAT IT READS IS OF BULK AT MOST 1048576: true; the input reads as it did. -/
def fnSitesUptoRow : OpenClaim := { program := "yteipaolcmjfhdaa", sum := "714655d548890682d218d5dcf5eca87b973dde247d62dd2d1811ec96161f475b", func := "loop.example/g00583/laws.FnSites", spec := "fnSites", apart := false, narrowed := true }
def FnSitesUptoSaid : Prop := fnSitesUptoRow.holds Try.pinned (OpenSpec.upto fnSitesSpec)

/-- 'laws.FnExactServeFile', WHERE WHAT IT READS IS OF BULK AT MOST 1048576: true; the input reads as it did. -/
def fnExactServeFileUptoRow : OpenClaim := { program := "yteipaolcmjfhdaa", sum := "714655d548890682d218d5dcf5eca87b973dde247d62dd2d1811ec96161f475b", func := "loop.example/g00583/laws.FnExactServeFile", spec := "fnExactServeFile", apart := false, narrowed := true }
def FnExactServeFileUptoSaid : Prop := fnExactServeFileUptoRow.holds Try.pinned (OpenSpec.upto fnExactServeFileSpec)

/-- 'laws.FnExactRunMachine', WHERE WHAT IT READS IS OF BULK AT MOST 1048576: true; the input reads as it did. -/
def fnExactRunMachineUptoRow : OpenClaim := { program := "yteipaolcmjfhdaa", sum := "714655d548890682d218d5dcf5eca87b973dde247d62dd2d1811ec96161f475b", func := "loop.example/g00583/laws.FnExactRunMachine", spec := "fnExactRunMachine", apart := false, narrowed := true }
def FnExactRunMachineUptoSaid : Prop := fnExactRunMachineUptoRow.holds Try.pinned (OpenSpec.upto fnExactRunMachineSpec)

end Rows
end Go.Proofs.Yteipaolcmjfhdaa
