/-
  No cell of these rows narrows 'for every input' (looked for: loops, veiled, ifaces, maps, wideKeys, modest, calm, conditions, laid).
  DERIVED. THE GIVEN ROWS OF THIS SEAT. 11 by the template 'for every input the law returns true; each argument reads behind the call as it read before'; 0 by the template 'total and deterministic' (their statements: YthmlgflnefellaaTotals.lean).
  GIVEN WITH THE SEED: the statements are not yours to turn. If you find one false, say at which input.
  Laid BY PROGRAM, IN A SANDBOX (cutbox-rows.mjs): the forced cells as the released guide's own fill.sh prints them over the translation 5603b2082f20dbaa… (all of the seat's roots in one cut). By AI agents, Wed Nov 11 2026. No macro, syntax, notation, axiom, sorry.
-/
import Derived.Test.YthmlgflnefellaaChecked
import GoSem.Claim
import GoSem.ClaimJoined
import GoSem.ClaimMapViews
import Derived.JoinedTies
import Derived.KernelRfl
namespace Go.Proofs.Ythmlgflnefellaa
/- THE CELL 'sum', in the pinned program and in every row, IS THE sha256 OF THE DUMP (.gsa) THAT YthmlgflnefellaaProg.lean LOADS. Nothing in Lean hashes anything: it is a label: what it is worth is what the hold of that sum in a sandbox is worth. -/
noncomputable def Try.pinned : Pinned := { name := "ythmlgflnefellaa", sum := "5603b2082f20dbaa51834060856bc8aa575b1ab914fb5e438dc20b40f628ab62", checked := Try.checked }
namespace Rows
def none {H : Type} : Left H := { results := [], args := [] }

/-- 'laws.FnExactPostMicro': WHATEVER THE INPUT: true; the input reads as it did. -/
def fnExactPostMicroSpec : ChangeSpec := { name := "fnExactPostMicro", fn := fun _ => fun
  | [d1, d2] => { results := [.lit (.bool true)], args := [d1, d2] }
  | _ => none }
def fnExactPostMicroRow : OpenClaim := { program := "ythmlgflnefellaa", sum := "5603b2082f20dbaa51834060856bc8aa575b1ab914fb5e438dc20b40f628ab62", func := "loop.example/g00583/laws.FnExactPostMicro", spec := "fnExactPostMicro", apart := false }
def FnExactPostMicroSaid : Prop := fnExactPostMicroRow.holds Try.pinned (OpenSpec.ofChange fnExactPostMicroSpec)

/-- ITS FALSE NEIGHBOUR: 'it returns false'. Refute it at one input. -/
def fnExactPostMicroWrong : ChangeSpec := { name := "fnExactPostMicro", fn := fun _ => fun
  | [d1, d2] => { results := [.lit (.bool false)], args := [d1, d2] }
  | _ => none }
def FnExactPostMicroWrongFalsely : Prop := fnExactPostMicroRow.holds Try.pinned (OpenSpec.ofChange fnExactPostMicroWrong)

/-- 'laws.FnExactPostTask': WHATEVER THE INPUT: true; the input reads as it did. -/
def fnExactPostTaskSpec : ChangeSpec := { name := "fnExactPostTask", fn := fun _ => fun
  | [d1, d2] => { results := [.lit (.bool true)], args := [d1, d2] }
  | _ => none }
def fnExactPostTaskRow : OpenClaim := { program := "ythmlgflnefellaa", sum := "5603b2082f20dbaa51834060856bc8aa575b1ab914fb5e438dc20b40f628ab62", func := "loop.example/g00583/laws.FnExactPostTask", spec := "fnExactPostTask", apart := false }
def FnExactPostTaskSaid : Prop := fnExactPostTaskRow.holds Try.pinned (OpenSpec.ofChange fnExactPostTaskSpec)

/-- ITS FALSE NEIGHBOUR: 'it returns false'. Refute it at one input. -/
def fnExactPostTaskWrong : ChangeSpec := { name := "fnExactPostTask", fn := fun _ => fun
  | [d1, d2] => { results := [.lit (.bool false)], args := [d1, d2] }
  | _ => none }
def FnExactPostTaskWrongFalsely : Prop := fnExactPostTaskRow.holds Try.pinned (OpenSpec.ofChange fnExactPostTaskWrong)

/-- 'laws.FnExactNextTask': WHATEVER THE INPUT: true; the input reads as it did. -/
def fnExactNextTaskSpec : ChangeSpec := { name := "fnExactNextTask", fn := fun _ => fun
  | [d] => { results := [.lit (.bool true)], args := [d] }
  | _ => none }
def fnExactNextTaskRow : OpenClaim := { program := "ythmlgflnefellaa", sum := "5603b2082f20dbaa51834060856bc8aa575b1ab914fb5e438dc20b40f628ab62", func := "loop.example/g00583/laws.FnExactNextTask", spec := "fnExactNextTask", apart := false }
def FnExactNextTaskSaid : Prop := fnExactNextTaskRow.holds Try.pinned (OpenSpec.ofChange fnExactNextTaskSpec)

/-- ITS FALSE NEIGHBOUR: 'it returns false'. Refute it at one input. -/
def fnExactNextTaskWrong : ChangeSpec := { name := "fnExactNextTask", fn := fun _ => fun
  | [d] => { results := [.lit (.bool false)], args := [d] }
  | _ => none }
def FnExactNextTaskWrongFalsely : Prop := fnExactNextTaskRow.holds Try.pinned (OpenSpec.ofChange fnExactNextTaskWrong)

/-- 'laws.FnExactIsScript': WHATEVER THE INPUT: true; the input reads as it did. -/
def fnExactIsScriptSpec : ChangeSpec := { name := "fnExactIsScript", fn := fun _ => fun
  | [d] => { results := [.lit (.bool true)], args := [d] }
  | _ => none }
def fnExactIsScriptRow : OpenClaim := { program := "ythmlgflnefellaa", sum := "5603b2082f20dbaa51834060856bc8aa575b1ab914fb5e438dc20b40f628ab62", func := "loop.example/g00583/laws.FnExactIsScript", spec := "fnExactIsScript", apart := false }
def FnExactIsScriptSaid : Prop := fnExactIsScriptRow.holds Try.pinned (OpenSpec.ofChange fnExactIsScriptSpec)

/-- ITS FALSE NEIGHBOUR: 'it returns false'. Refute it at one input. -/
def fnExactIsScriptWrong : ChangeSpec := { name := "fnExactIsScript", fn := fun _ => fun
  | [d] => { results := [.lit (.bool false)], args := [d] }
  | _ => none }
def FnExactIsScriptWrongFalsely : Prop := fnExactIsScriptRow.holds Try.pinned (OpenSpec.ofChange fnExactIsScriptWrong)

/-- 'laws.FnExactEqualMachines': WHATEVER THE INPUT: true; the input reads as it did. -/
def fnExactEqualMachinesSpec : ChangeSpec := { name := "fnExactEqualMachines", fn := fun _ => fun
  | [d1, d2] => { results := [.lit (.bool true)], args := [d1, d2] }
  | _ => none }
def fnExactEqualMachinesRow : OpenClaim := { program := "ythmlgflnefellaa", sum := "5603b2082f20dbaa51834060856bc8aa575b1ab914fb5e438dc20b40f628ab62", func := "loop.example/g00583/laws.FnExactEqualMachines", spec := "fnExactEqualMachines", apart := false }
def FnExactEqualMachinesSaid : Prop := fnExactEqualMachinesRow.holds Try.pinned (OpenSpec.ofChange fnExactEqualMachinesSpec)

/-- ITS FALSE NEIGHBOUR: 'it returns false'. Refute it at one input. -/
def fnExactEqualMachinesWrong : ChangeSpec := { name := "fnExactEqualMachines", fn := fun _ => fun
  | [d1, d2] => { results := [.lit (.bool false)], args := [d1, d2] }
  | _ => none }
def FnExactEqualMachinesWrongFalsely : Prop := fnExactEqualMachinesRow.holds Try.pinned (OpenSpec.ofChange fnExactEqualMachinesWrong)

/-- 'laws.FnMachines': WHATEVER THE INPUT: true; the input reads as it did. -/
def fnMachinesSpec : ChangeSpec := { name := "fnMachines", fn := fun _ => fun
  | [d] => { results := [.lit (.bool true)], args := [d] }
  | _ => none }
def fnMachinesRow : OpenClaim := { program := "ythmlgflnefellaa", sum := "5603b2082f20dbaa51834060856bc8aa575b1ab914fb5e438dc20b40f628ab62", func := "loop.example/g00583/laws.FnMachines", spec := "fnMachines", apart := false }
def FnMachinesSaid : Prop := fnMachinesRow.holds Try.pinned (OpenSpec.ofChange fnMachinesSpec)

/-- ITS FALSE NEIGHBOUR: 'it returns false'. Refute it at one input. -/
def fnMachinesWrong : ChangeSpec := { name := "fnMachines", fn := fun _ => fun
  | [d] => { results := [.lit (.bool false)], args := [d] }
  | _ => none }
def FnMachinesWrongFalsely : Prop := fnMachinesRow.holds Try.pinned (OpenSpec.ofChange fnMachinesWrong)

/-- 'laws.FnExactAnswerMachine': WHATEVER THE INPUT: true; the input reads as it did. -/
def fnExactAnswerMachineSpec : ChangeSpec := { name := "fnExactAnswerMachine", fn := fun _ => fun
  | [d1, d2, d3] => { results := [.lit (.bool true)], args := [d1, d2, d3] }
  | _ => none }
def fnExactAnswerMachineRow : OpenClaim := { program := "ythmlgflnefellaa", sum := "5603b2082f20dbaa51834060856bc8aa575b1ab914fb5e438dc20b40f628ab62", func := "loop.example/g00583/laws.FnExactAnswerMachine", spec := "fnExactAnswerMachine", apart := false }
def FnExactAnswerMachineSaid : Prop := fnExactAnswerMachineRow.holds Try.pinned (OpenSpec.ofChange fnExactAnswerMachineSpec)

/-- ITS FALSE NEIGHBOUR: 'it returns false'. Refute it at one input. -/
def fnExactAnswerMachineWrong : ChangeSpec := { name := "fnExactAnswerMachine", fn := fun _ => fun
  | [d1, d2, d3] => { results := [.lit (.bool false)], args := [d1, d2, d3] }
  | _ => none }
def FnExactAnswerMachineWrongFalsely : Prop := fnExactAnswerMachineRow.holds Try.pinned (OpenSpec.ofChange fnExactAnswerMachineWrong)

/-- 'laws.FnExactNewMachine': WHATEVER THE INPUT: true; the input reads as it did. -/
def fnExactNewMachineSpec : ChangeSpec := { name := "fnExactNewMachine", fn := fun _ => fun
  | [d] => { results := [.lit (.bool true)], args := [d] }
  | _ => none }
def fnExactNewMachineRow : OpenClaim := { program := "ythmlgflnefellaa", sum := "5603b2082f20dbaa51834060856bc8aa575b1ab914fb5e438dc20b40f628ab62", func := "loop.example/g00583/laws.FnExactNewMachine", spec := "fnExactNewMachine", apart := false }
def FnExactNewMachineSaid : Prop := fnExactNewMachineRow.holds Try.pinned (OpenSpec.ofChange fnExactNewMachineSpec)

/-- ITS FALSE NEIGHBOUR: 'it returns false'. Refute it at one input. -/
def fnExactNewMachineWrong : ChangeSpec := { name := "fnExactNewMachine", fn := fun _ => fun
  | [d] => { results := [.lit (.bool false)], args := [d] }
  | _ => none }
def FnExactNewMachineWrongFalsely : Prop := fnExactNewMachineRow.holds Try.pinned (OpenSpec.ofChange fnExactNewMachineWrong)

/-- 'laws.FnExactIsPage': WHATEVER THE INPUT: true; the input reads as it did. -/
def fnExactIsPageSpec : ChangeSpec := { name := "fnExactIsPage", fn := fun _ => fun
  | [d] => { results := [.lit (.bool true)], args := [d] }
  | _ => none }
def fnExactIsPageRow : OpenClaim := { program := "ythmlgflnefellaa", sum := "5603b2082f20dbaa51834060856bc8aa575b1ab914fb5e438dc20b40f628ab62", func := "loop.example/g00583/laws.FnExactIsPage", spec := "fnExactIsPage", apart := false }
def FnExactIsPageSaid : Prop := fnExactIsPageRow.holds Try.pinned (OpenSpec.ofChange fnExactIsPageSpec)

/-- ITS FALSE NEIGHBOUR: 'it returns false'. Refute it at one input. -/
def fnExactIsPageWrong : ChangeSpec := { name := "fnExactIsPage", fn := fun _ => fun
  | [d] => { results := [.lit (.bool false)], args := [d] }
  | _ => none }
def FnExactIsPageWrongFalsely : Prop := fnExactIsPageRow.holds Try.pinned (OpenSpec.ofChange fnExactIsPageWrong)

/-- 'laws.FnExactEqualPages': WHATEVER THE INPUT: true; the input reads as it did. -/
def fnExactEqualPagesSpec : ChangeSpec := { name := "fnExactEqualPages", fn := fun _ => fun
  | [d1, d2] => { results := [.lit (.bool true)], args := [d1, d2] }
  | _ => none }
def fnExactEqualPagesRow : OpenClaim := { program := "ythmlgflnefellaa", sum := "5603b2082f20dbaa51834060856bc8aa575b1ab914fb5e438dc20b40f628ab62", func := "loop.example/g00583/laws.FnExactEqualPages", spec := "fnExactEqualPages", apart := false }
def FnExactEqualPagesSaid : Prop := fnExactEqualPagesRow.holds Try.pinned (OpenSpec.ofChange fnExactEqualPagesSpec)

/-- ITS FALSE NEIGHBOUR: 'it returns false'. Refute it at one input. -/
def fnExactEqualPagesWrong : ChangeSpec := { name := "fnExactEqualPages", fn := fun _ => fun
  | [d1, d2] => { results := [.lit (.bool false)], args := [d1, d2] }
  | _ => none }
def FnExactEqualPagesWrongFalsely : Prop := fnExactEqualPagesRow.holds Try.pinned (OpenSpec.ofChange fnExactEqualPagesWrong)

/-- 'laws.FnExactRunMachine': WHATEVER THE INPUT: true; the input reads as it did. -/
def fnExactRunMachineSpec : ChangeSpec := { name := "fnExactRunMachine", fn := fun _ => fun
  | [d] => { results := [.lit (.bool true)], args := [d] }
  | _ => none }
def fnExactRunMachineRow : OpenClaim := { program := "ythmlgflnefellaa", sum := "5603b2082f20dbaa51834060856bc8aa575b1ab914fb5e438dc20b40f628ab62", func := "loop.example/g00583/laws.FnExactRunMachine", spec := "fnExactRunMachine", apart := false }
def FnExactRunMachineSaid : Prop := fnExactRunMachineRow.holds Try.pinned (OpenSpec.ofChange fnExactRunMachineSpec)

/-- ITS FALSE NEIGHBOUR: 'it returns false'. Refute it at one input. -/
def fnExactRunMachineWrong : ChangeSpec := { name := "fnExactRunMachine", fn := fun _ => fun
  | [d] => { results := [.lit (.bool false)], args := [d] }
  | _ => none }
def FnExactRunMachineWrongFalsely : Prop := fnExactRunMachineRow.holds Try.pinned (OpenSpec.ofChange fnExactRunMachineWrong)

/- THE SECOND FORM. 'bulk': how many values and letters a reading holds, each counted each time it is reached (what is shared counts as often as it is met; a slice's spare places count too). A statement '..UptoSaid' is the law's where the arguments, and the package variables that the reading takes, are together of bulk at most 1048576: NARROWER than '..Said'. Prove '..Said' where nothing that the law and all that it calls make is longer than what came in: it says more and counts as full. Else prove '..UptoSaid'. A law counts once. -/
mutual
def uptoBulk {H : Type} : DataW H → Nat
  | .lit (.string bytes) => bytes.length + 1
  | .lit _ => 1
  | .nil => 1
  | .ptr d => uptoBulk d + 1
  | .slice elems spare => uptoBulkAll elems + uptoBulkAll spare + 1
  | .agg parts => uptoBulkAll parts + 1
  | .iface _ d => uptoBulk d + 1
  | .map entries => uptoBulkEntries entries + 1
  | .held _ => 1
def uptoBulkAll {H : Type} : List (DataW H) → Nat
  | [] => 0
  | d :: r => uptoBulk d + uptoBulkAll r
def uptoBulkEntries {H : Type} : List (Lit × DataW H) → Nat
  | [] => 0
  | x :: r => uptoBulkEntry x + uptoBulkEntries r
def uptoBulkEntry {H : Type} : Lit × DataW H → Nat
  | (.string bytes, d) => bytes.length + uptoBulk d + 1
  | (_, d) => uptoBulk d + 1
 end
def uptoSmall : (H : Type) → List (DataW H) → Bool := fun _ ds => decide (uptoBulkAll ds ≤ 1048576)
def OpenSpec.upto (s : _root_.Go.ChangeSpec) : _root_.Go.OpenSpec := { _root_.Go.OpenSpec.ofChange s with cond := some uptoSmall }

/-- 'laws.FnExactPostMicro', WHERE WHAT IT READS IS OF BULK AT MOST 1048576: true; the input reads as it did. -/
def fnExactPostMicroUptoRow : OpenClaim := { program := "ythmlgflnefellaa", sum := "5603b2082f20dbaa51834060856bc8aa575b1ab914fb5e438dc20b40f628ab62", func := "loop.example/g00583/laws.FnExactPostMicro", spec := "fnExactPostMicro", apart := false, narrowed := true }
def FnExactPostMicroUptoSaid : Prop := fnExactPostMicroUptoRow.holds Try.pinned (OpenSpec.upto fnExactPostMicroSpec)

/-- 'laws.FnExactPostTask', WHERE WHAT IT READS IS OF BULK AT MOST 1048576: true; the input reads as it did. -/
def fnExactPostTaskUptoRow : OpenClaim := { program := "ythmlgflnefellaa", sum := "5603b2082f20dbaa51834060856bc8aa575b1ab914fb5e438dc20b40f628ab62", func := "loop.example/g00583/laws.FnExactPostTask", spec := "fnExactPostTask", apart := false, narrowed := true }
def FnExactPostTaskUptoSaid : Prop := fnExactPostTaskUptoRow.holds Try.pinned (OpenSpec.upto fnExactPostTaskSpec)

/-- 'laws.FnExactNextTask', WHERE WHAT IT READS IS OF BULK AT MOST 1048576: true; the input reads as it did. -/
def fnExactNextTaskUptoRow : OpenClaim := { program := "ythmlgflnefellaa", sum := "5603b2082f20dbaa51834060856bc8aa575b1ab914fb5e438dc20b40f628ab62", func := "loop.example/g00583/laws.FnExactNextTask", spec := "fnExactNextTask", apart := false, narrowed := true }
def FnExactNextTaskUptoSaid : Prop := fnExactNextTaskUptoRow.holds Try.pinned (OpenSpec.upto fnExactNextTaskSpec)

/-- 'laws.FnExactIsScript', WHERE WHAT IT READS IS OF BULK AT MOST 1048576: true; the input reads as it did. -/
def fnExactIsScriptUptoRow : OpenClaim := { program := "ythmlgflnefellaa", sum := "5603b2082f20dbaa51834060856bc8aa575b1ab914fb5e438dc20b40f628ab62", func := "loop.example/g00583/laws.FnExactIsScript", spec := "fnExactIsScript", apart := false, narrowed := true }
def FnExactIsScriptUptoSaid : Prop := fnExactIsScriptUptoRow.holds Try.pinned (OpenSpec.upto fnExactIsScriptSpec)

/-- 'laws.FnExactEqualMachines', WHERE WHAT IT READS IS OF BULK AT MOST 1048576: true; the input reads as it did. -/
def fnExactEqualMachinesUptoRow : OpenClaim := { program := "ythmlgflnefellaa", sum := "5603b2082f20dbaa51834060856bc8aa575b1ab914fb5e438dc20b40f628ab62", func := "loop.example/g00583/laws.FnExactEqualMachines", spec := "fnExactEqualMachines", apart := false, narrowed := true }
def FnExactEqualMachinesUptoSaid : Prop := fnExactEqualMachinesUptoRow.holds Try.pinned (OpenSpec.upto fnExactEqualMachinesSpec)

/-- 'laws.FnMachines', WHERE WHAT IT READS IS OF BULK AT MOST 1048576: true; the input reads as it did. -/
def fnMachinesUptoRow : OpenClaim := { program := "ythmlgflnefellaa", sum := "5603b2082f20dbaa51834060856bc8aa575b1ab914fb5e438dc20b40f628ab62", func := "loop.example/g00583/laws.FnMachines", spec := "fnMachines", apart := false, narrowed := true }
def FnMachinesUptoSaid : Prop := fnMachinesUptoRow.holds Try.pinned (OpenSpec.upto fnMachinesSpec)

/-- 'laws.FnExactAnswerMachine', WHERE WHAT IT READS IS OF BULK AT MOST 1048576: true; the input reads as it did. -/
def fnExactAnswerMachineUptoRow : OpenClaim := { program := "ythmlgflnefellaa", sum := "5603b2082f20dbaa51834060856bc8aa575b1ab914fb5e438dc20b40f628ab62", func := "loop.example/g00583/laws.FnExactAnswerMachine", spec := "fnExactAnswerMachine", apart := false, narrowed := true }
def FnExactAnswerMachineUptoSaid : Prop := fnExactAnswerMachineUptoRow.holds Try.pinned (OpenSpec.upto fnExactAnswerMachineSpec)

/-- 'laws.FnExactNewMachine', WHERE WHAT IT READS IS OF BULK AT MOST 1048576: true; the input reads as it did. -/
def fnExactNewMachineUptoRow : OpenClaim := { program := "ythmlgflnefellaa", sum := "5603b2082f20dbaa51834060856bc8aa575b1ab914fb5e438dc20b40f628ab62", func := "loop.example/g00583/laws.FnExactNewMachine", spec := "fnExactNewMachine", apart := false, narrowed := true }
def FnExactNewMachineUptoSaid : Prop := fnExactNewMachineUptoRow.holds Try.pinned (OpenSpec.upto fnExactNewMachineSpec)

/-- 'laws.FnExactIsPage', WHERE WHAT IT READS IS OF BULK AT MOST 1048576: true; the input reads as it did. -/
def fnExactIsPageUptoRow : OpenClaim := { program := "ythmlgflnefellaa", sum := "5603b2082f20dbaa51834060856bc8aa575b1ab914fb5e438dc20b40f628ab62", func := "loop.example/g00583/laws.FnExactIsPage", spec := "fnExactIsPage", apart := false, narrowed := true }
def FnExactIsPageUptoSaid : Prop := fnExactIsPageUptoRow.holds Try.pinned (OpenSpec.upto fnExactIsPageSpec)

/-- 'laws.FnExactEqualPages', WHERE WHAT IT READS IS OF BULK AT MOST 1048576: true; the input reads as it did. -/
def fnExactEqualPagesUptoRow : OpenClaim := { program := "ythmlgflnefellaa", sum := "5603b2082f20dbaa51834060856bc8aa575b1ab914fb5e438dc20b40f628ab62", func := "loop.example/g00583/laws.FnExactEqualPages", spec := "fnExactEqualPages", apart := false, narrowed := true }
def FnExactEqualPagesUptoSaid : Prop := fnExactEqualPagesUptoRow.holds Try.pinned (OpenSpec.upto fnExactEqualPagesSpec)

/-- 'laws.FnExactRunMachine', WHERE WHAT IT READS IS OF BULK AT MOST 1048576: true; the input reads as it did. -/
def fnExactRunMachineUptoRow : OpenClaim := { program := "ythmlgflnefellaa", sum := "5603b2082f20dbaa51834060856bc8aa575b1ab914fb5e438dc20b40f628ab62", func := "loop.example/g00583/laws.FnExactRunMachine", spec := "fnExactRunMachine", apart := false, narrowed := true }
def FnExactRunMachineUptoSaid : Prop := fnExactRunMachineUptoRow.holds Try.pinned (OpenSpec.upto fnExactRunMachineSpec)

end Rows
end Go.Proofs.Ythmlgflnefellaa
