/-
  No cell of these rows narrows 'for every input' (looked for: loops, veiled, ifaces, maps, wideKeys, modest, calm, conditions, laid).
  DERIVED. THE GIVEN ROWS OF THIS SEAT. 12 by the template 'for every input the law returns true; each argument reads behind the call as it read before'; 0 by the template 'total and deterministic' (their statements: YtdogljbchedkaaaTotals.lean).
  GIVEN WITH THE SEED: the statements are not yours to turn. If you find one false, say at which input.
  Laid BY PROGRAM, IN A SANDBOX (cutbox-rows.mjs): the forced cells as the released guide's own fill.sh prints them over the translation 14c3843b713aaf03… (all of the seat's roots in one cut). By AI agents, Wed Nov 11 2026. No macro, syntax, notation, axiom, sorry.
-/
import Derived.Test.YtdogljbchedkaaaChecked
import GoSem.Claim
import GoSem.ClaimJoined
import GoSem.ClaimMapViews
import Derived.JoinedTies
import Derived.KernelRfl
namespace Go.Proofs.Ytdogljbchedkaaa
/- THE CELL 'sum', in the pinned program and in every row, IS THE sha256 OF THE DUMP (.gsa) THAT YtdogljbchedkaaaProg.lean LOADS. Nothing in Lean hashes anything: it is a label: what it is worth is what the hold of that sum in a sandbox is worth. -/
noncomputable def Try.pinned : Pinned := { name := "ytdogljbchedkaaa", sum := "14c3843b713aaf03cc33e28321d9c0f50fd9bf412d473608932ad2f35445ccb5", checked := Try.checked }
namespace Rows
def none {H : Type} : Left H := { results := [], args := [] }

/-- 'laws.FnExactNewestVersion': WHATEVER THE INPUT: true; the input reads as it did. -/
def fnExactNewestVersionSpec : ChangeSpec := { name := "fnExactNewestVersion", fn := fun _ => fun
  | [d] => { results := [.lit (.bool true)], args := [d] }
  | _ => none }
def fnExactNewestVersionRow : OpenClaim := { program := "ytdogljbchedkaaa", sum := "14c3843b713aaf03cc33e28321d9c0f50fd9bf412d473608932ad2f35445ccb5", func := "loop.example/g00583/laws.FnExactNewestVersion", spec := "fnExactNewestVersion", apart := false }
def FnExactNewestVersionSaid : Prop := fnExactNewestVersionRow.holds Try.pinned (OpenSpec.ofChange fnExactNewestVersionSpec)

/-- ITS FALSE NEIGHBOUR: 'it returns false'. Refute it at one input. -/
def fnExactNewestVersionWrong : ChangeSpec := { name := "fnExactNewestVersion", fn := fun _ => fun
  | [d] => { results := [.lit (.bool false)], args := [d] }
  | _ => none }
def FnExactNewestVersionWrongFalsely : Prop := fnExactNewestVersionRow.holds Try.pinned (OpenSpec.ofChange fnExactNewestVersionWrong)

/-- 'laws.FnLoops': WHATEVER THE INPUT: true; the input reads as it did. -/
def fnLoopsSpec : ChangeSpec := { name := "fnLoops", fn := fun _ => fun
  | [d] => { results := [.lit (.bool true)], args := [d] }
  | _ => none }
def fnLoopsRow : OpenClaim := { program := "ytdogljbchedkaaa", sum := "14c3843b713aaf03cc33e28321d9c0f50fd9bf412d473608932ad2f35445ccb5", func := "loop.example/g00583/laws.FnLoops", spec := "fnLoops", apart := false }
def FnLoopsSaid : Prop := fnLoopsRow.holds Try.pinned (OpenSpec.ofChange fnLoopsSpec)

/-- ITS FALSE NEIGHBOUR: 'it returns false'. Refute it at one input. -/
def fnLoopsWrong : ChangeSpec := { name := "fnLoops", fn := fun _ => fun
  | [d] => { results := [.lit (.bool false)], args := [d] }
  | _ => none }
def FnLoopsWrongFalsely : Prop := fnLoopsRow.holds Try.pinned (OpenSpec.ofChange fnLoopsWrong)

/-- 'laws.FnExactIsRequest': WHATEVER THE INPUT: true; the input reads as it did. -/
def fnExactIsRequestSpec : ChangeSpec := { name := "fnExactIsRequest", fn := fun _ => fun
  | [d] => { results := [.lit (.bool true)], args := [d] }
  | _ => none }
def fnExactIsRequestRow : OpenClaim := { program := "ytdogljbchedkaaa", sum := "14c3843b713aaf03cc33e28321d9c0f50fd9bf412d473608932ad2f35445ccb5", func := "loop.example/g00583/laws.FnExactIsRequest", spec := "fnExactIsRequest", apart := false }
def FnExactIsRequestSaid : Prop := fnExactIsRequestRow.holds Try.pinned (OpenSpec.ofChange fnExactIsRequestSpec)

/-- ITS FALSE NEIGHBOUR: 'it returns false'. Refute it at one input. -/
def fnExactIsRequestWrong : ChangeSpec := { name := "fnExactIsRequest", fn := fun _ => fun
  | [d] => { results := [.lit (.bool false)], args := [d] }
  | _ => none }
def FnExactIsRequestWrongFalsely : Prop := fnExactIsRequestRow.holds Try.pinned (OpenSpec.ofChange fnExactIsRequestWrong)

/-- 'laws.FnExactIsRegistration': WHATEVER THE INPUT: true; the input reads as it did. -/
def fnExactIsRegistrationSpec : ChangeSpec := { name := "fnExactIsRegistration", fn := fun _ => fun
  | [d] => { results := [.lit (.bool true)], args := [d] }
  | _ => none }
def fnExactIsRegistrationRow : OpenClaim := { program := "ytdogljbchedkaaa", sum := "14c3843b713aaf03cc33e28321d9c0f50fd9bf412d473608932ad2f35445ccb5", func := "loop.example/g00583/laws.FnExactIsRegistration", spec := "fnExactIsRegistration", apart := false }
def FnExactIsRegistrationSaid : Prop := fnExactIsRegistrationRow.holds Try.pinned (OpenSpec.ofChange fnExactIsRegistrationSpec)

/-- ITS FALSE NEIGHBOUR: 'it returns false'. Refute it at one input. -/
def fnExactIsRegistrationWrong : ChangeSpec := { name := "fnExactIsRegistration", fn := fun _ => fun
  | [d] => { results := [.lit (.bool false)], args := [d] }
  | _ => none }
def FnExactIsRegistrationWrongFalsely : Prop := fnExactIsRegistrationRow.holds Try.pinned (OpenSpec.ofChange fnExactIsRegistrationWrong)

/-- 'laws.FnExactErrorResponse': WHATEVER THE INPUT: true; the input reads as it did. -/
def fnExactErrorResponseSpec : ChangeSpec := { name := "fnExactErrorResponse", fn := fun _ => fun
  | [] => { results := [.lit (.bool true)], args := [] }
  | _ => none }
def fnExactErrorResponseRow : OpenClaim := { program := "ytdogljbchedkaaa", sum := "14c3843b713aaf03cc33e28321d9c0f50fd9bf412d473608932ad2f35445ccb5", func := "loop.example/g00583/laws.FnExactErrorResponse", spec := "fnExactErrorResponse", apart := false }
def FnExactErrorResponseSaid : Prop := fnExactErrorResponseRow.holds Try.pinned (OpenSpec.ofChange fnExactErrorResponseSpec)

/-- ITS FALSE NEIGHBOUR: 'it returns false'. Refute it at one input. -/
def fnExactErrorResponseWrong : ChangeSpec := { name := "fnExactErrorResponse", fn := fun _ => fun
  | [] => { results := [.lit (.bool false)], args := [] }
  | _ => none }
def FnExactErrorResponseWrongFalsely : Prop := fnExactErrorResponseRow.holds Try.pinned (OpenSpec.ofChange fnExactErrorResponseWrong)

/-- 'laws.FnExactIsResponse': WHATEVER THE INPUT: true; the input reads as it did. -/
def fnExactIsResponseSpec : ChangeSpec := { name := "fnExactIsResponse", fn := fun _ => fun
  | [d] => { results := [.lit (.bool true)], args := [d] }
  | _ => none }
def fnExactIsResponseRow : OpenClaim := { program := "ytdogljbchedkaaa", sum := "14c3843b713aaf03cc33e28321d9c0f50fd9bf412d473608932ad2f35445ccb5", func := "loop.example/g00583/laws.FnExactIsResponse", spec := "fnExactIsResponse", apart := false }
def FnExactIsResponseSaid : Prop := fnExactIsResponseRow.holds Try.pinned (OpenSpec.ofChange fnExactIsResponseSpec)

/-- ITS FALSE NEIGHBOUR: 'it returns false'. Refute it at one input. -/
def fnExactIsResponseWrong : ChangeSpec := { name := "fnExactIsResponse", fn := fun _ => fun
  | [d] => { results := [.lit (.bool false)], args := [d] }
  | _ => none }
def FnExactIsResponseWrongFalsely : Prop := fnExactIsResponseRow.holds Try.pinned (OpenSpec.ofChange fnExactIsResponseWrong)

/-- 'laws.FnExactStoredSize': WHATEVER THE INPUT: true; the input reads as it did. -/
def fnExactStoredSizeSpec : ChangeSpec := { name := "fnExactStoredSize", fn := fun _ => fun
  | [d1, d2] => { results := [.lit (.bool true)], args := [d1, d2] }
  | _ => none }
def fnExactStoredSizeRow : OpenClaim := { program := "ytdogljbchedkaaa", sum := "14c3843b713aaf03cc33e28321d9c0f50fd9bf412d473608932ad2f35445ccb5", func := "loop.example/g00583/laws.FnExactStoredSize", spec := "fnExactStoredSize", apart := false }
def FnExactStoredSizeSaid : Prop := fnExactStoredSizeRow.holds Try.pinned (OpenSpec.ofChange fnExactStoredSizeSpec)

/-- ITS FALSE NEIGHBOUR: 'it returns false'. Refute it at one input. -/
def fnExactStoredSizeWrong : ChangeSpec := { name := "fnExactStoredSize", fn := fun _ => fun
  | [d1, d2] => { results := [.lit (.bool false)], args := [d1, d2] }
  | _ => none }
def FnExactStoredSizeWrongFalsely : Prop := fnExactStoredSizeRow.holds Try.pinned (OpenSpec.ofChange fnExactStoredSizeWrong)

/-- 'laws.FnExactIsInstr': WHATEVER THE INPUT: true; the input reads as it did. -/
def fnExactIsInstrSpec : ChangeSpec := { name := "fnExactIsInstr", fn := fun _ => fun
  | [d1, d2] => { results := [.lit (.bool true)], args := [d1, d2] }
  | _ => none }
def fnExactIsInstrRow : OpenClaim := { program := "ytdogljbchedkaaa", sum := "14c3843b713aaf03cc33e28321d9c0f50fd9bf412d473608932ad2f35445ccb5", func := "loop.example/g00583/laws.FnExactIsInstr", spec := "fnExactIsInstr", apart := false }
def FnExactIsInstrSaid : Prop := fnExactIsInstrRow.holds Try.pinned (OpenSpec.ofChange fnExactIsInstrSpec)

/-- ITS FALSE NEIGHBOUR: 'it returns false'. Refute it at one input. -/
def fnExactIsInstrWrong : ChangeSpec := { name := "fnExactIsInstr", fn := fun _ => fun
  | [d1, d2] => { results := [.lit (.bool false)], args := [d1, d2] }
  | _ => none }
def FnExactIsInstrWrongFalsely : Prop := fnExactIsInstrRow.holds Try.pinned (OpenSpec.ofChange fnExactIsInstrWrong)

/-- 'laws.FnExactEqualResponses': WHATEVER THE INPUT: true; the input reads as it did. -/
def fnExactEqualResponsesSpec : ChangeSpec := { name := "fnExactEqualResponses", fn := fun _ => fun
  | [d1, d2] => { results := [.lit (.bool true)], args := [d1, d2] }
  | _ => none }
def fnExactEqualResponsesRow : OpenClaim := { program := "ytdogljbchedkaaa", sum := "14c3843b713aaf03cc33e28321d9c0f50fd9bf412d473608932ad2f35445ccb5", func := "loop.example/g00583/laws.FnExactEqualResponses", spec := "fnExactEqualResponses", apart := false }
def FnExactEqualResponsesSaid : Prop := fnExactEqualResponsesRow.holds Try.pinned (OpenSpec.ofChange fnExactEqualResponsesSpec)

/-- ITS FALSE NEIGHBOUR: 'it returns false'. Refute it at one input. -/
def fnExactEqualResponsesWrong : ChangeSpec := { name := "fnExactEqualResponses", fn := fun _ => fun
  | [d1, d2] => { results := [.lit (.bool false)], args := [d1, d2] }
  | _ => none }
def FnExactEqualResponsesWrongFalsely : Prop := fnExactEqualResponsesRow.holds Try.pinned (OpenSpec.ofChange fnExactEqualResponsesWrong)

/-- 'laws.FnExactCountWrites': WHATEVER THE INPUT: true; the input reads as it did. -/
def fnExactCountWritesSpec : ChangeSpec := { name := "fnExactCountWrites", fn := fun _ => fun
  | [d] => { results := [.lit (.bool true)], args := [d] }
  | _ => none }
def fnExactCountWritesRow : OpenClaim := { program := "ytdogljbchedkaaa", sum := "14c3843b713aaf03cc33e28321d9c0f50fd9bf412d473608932ad2f35445ccb5", func := "loop.example/g00583/laws.FnExactCountWrites", spec := "fnExactCountWrites", apart := false }
def FnExactCountWritesSaid : Prop := fnExactCountWritesRow.holds Try.pinned (OpenSpec.ofChange fnExactCountWritesSpec)

/-- ITS FALSE NEIGHBOUR: 'it returns false'. Refute it at one input. -/
def fnExactCountWritesWrong : ChangeSpec := { name := "fnExactCountWrites", fn := fun _ => fun
  | [d] => { results := [.lit (.bool false)], args := [d] }
  | _ => none }
def FnExactCountWritesWrongFalsely : Prop := fnExactCountWritesRow.holds Try.pinned (OpenSpec.ofChange fnExactCountWritesWrong)

/-- 'laws.FnExactHasFile': WHATEVER THE INPUT: true; the input reads as it did. -/
def fnExactHasFileSpec : ChangeSpec := { name := "fnExactHasFile", fn := fun _ => fun
  | [d1, d2] => { results := [.lit (.bool true)], args := [d1, d2] }
  | _ => none }
def fnExactHasFileRow : OpenClaim := { program := "ytdogljbchedkaaa", sum := "14c3843b713aaf03cc33e28321d9c0f50fd9bf412d473608932ad2f35445ccb5", func := "loop.example/g00583/laws.FnExactHasFile", spec := "fnExactHasFile", apart := false }
def FnExactHasFileSaid : Prop := fnExactHasFileRow.holds Try.pinned (OpenSpec.ofChange fnExactHasFileSpec)

/-- ITS FALSE NEIGHBOUR: 'it returns false'. Refute it at one input. -/
def fnExactHasFileWrong : ChangeSpec := { name := "fnExactHasFile", fn := fun _ => fun
  | [d1, d2] => { results := [.lit (.bool false)], args := [d1, d2] }
  | _ => none }
def FnExactHasFileWrongFalsely : Prop := fnExactHasFileRow.holds Try.pinned (OpenSpec.ofChange fnExactHasFileWrong)

/-- 'laws.FnExactBeginInstall': WHATEVER THE INPUT: true; the input reads as it did. -/
def fnExactBeginInstallSpec : ChangeSpec := { name := "fnExactBeginInstall", fn := fun _ => fun
  | [d1, d2] => { results := [.lit (.bool true)], args := [d1, d2] }
  | _ => none }
def fnExactBeginInstallRow : OpenClaim := { program := "ytdogljbchedkaaa", sum := "14c3843b713aaf03cc33e28321d9c0f50fd9bf412d473608932ad2f35445ccb5", func := "loop.example/g00583/laws.FnExactBeginInstall", spec := "fnExactBeginInstall", apart := false }
def FnExactBeginInstallSaid : Prop := fnExactBeginInstallRow.holds Try.pinned (OpenSpec.ofChange fnExactBeginInstallSpec)

/-- ITS FALSE NEIGHBOUR: 'it returns false'. Refute it at one input. -/
def fnExactBeginInstallWrong : ChangeSpec := { name := "fnExactBeginInstall", fn := fun _ => fun
  | [d1, d2] => { results := [.lit (.bool false)], args := [d1, d2] }
  | _ => none }
def FnExactBeginInstallWrongFalsely : Prop := fnExactBeginInstallRow.holds Try.pinned (OpenSpec.ofChange fnExactBeginInstallWrong)

/- THE SECOND FORM. 'bulk': how many values and letters a reading holds, each counted each time it is reached (what is shared counts as often as it is met; a slice's spare places count too). A statement '..UptoSaid' is the law's where the arguments, and the package variables that the reading takes, are together of bulk at most 1048576: NARROWER than '..Said'. Prove '..Said' where nothing that the law and all that it calls make is longer than what came in: it says more and counts as full. Else prove '..UptoSaid'. A law counts once. -/
mutual
def uptoBulk {H : Type} : DataW H → Nat
  | .lit (.string bytes) => bytes.length + 1
  | .lit _ => 1
  | .nil => 1
  | .ptr d => uptoBulk d + 1
  | .slice elems spare => uptoBulkAll elems + uptoBulkAll spare + 1
  | .agg parts => uptoBulkAll parts + 1
  | .iface _ d => uptoBulk d + 1
  | .map entries => uptoBulkEntries entries + 1
  | .held _ => 1
def uptoBulkAll {H : Type} : List (DataW H) → Nat
  | [] => 0
  | d :: r => uptoBulk d + uptoBulkAll r
def uptoBulkEntries {H : Type} : List (Lit × DataW H) → Nat
  | [] => 0
  | x :: r => uptoBulkEntry x + uptoBulkEntries r
def uptoBulkEntry {H : Type} : Lit × DataW H → Nat
  | (.string bytes, d) => bytes.length + uptoBulk d + 1
  | (_, d) => uptoBulk d + 1
 end
def uptoSmall : (H : Type) → List (DataW H) → Bool := fun _ ds => decide (uptoBulkAll ds ≤ 1048576)
def OpenSpec.upto (s : _root_.Go.ChangeSpec) : _root_.Go.OpenSpec := { _root_.Go.OpenSpec.ofChange s with cond := some uptoSmall }

/-- 'laws.FnExactNewestVersion', WHERE WHAT IT READS IS OF BULK AT MOST 1048576: true; the input reads as it did. -/
def fnExactNewestVersionUptoRow : OpenClaim := { program := "ytdogljbchedkaaa", sum := "14c3843b713aaf03cc33e28321d9c0f50fd9bf412d473608932ad2f35445ccb5", func := "loop.example/g00583/laws.FnExactNewestVersion", spec := "fnExactNewestVersion", apart := false, narrowed := true }
def FnExactNewestVersionUptoSaid : Prop := fnExactNewestVersionUptoRow.holds Try.pinned (OpenSpec.upto fnExactNewestVersionSpec)

/-- 'laws.FnLoops', WHERE WHAT IT READS IS OF BULK AT MOST 1048576: true; the input reads as it did. -/
def fnLoopsUptoRow : OpenClaim := { program := "ytdogljbchedkaaa", sum := "14c3843b713aaf03cc33e28321d9c0f50fd9bf412d473608932ad2f35445ccb5", func := "loop.example/g00583/laws.FnLoops", spec := "fnLoops", apart := false, narrowed := true }
def FnLoopsUptoSaid : Prop := fnLoopsUptoRow.holds Try.pinned (OpenSpec.upto fnLoopsSpec)

/-- 'laws.FnExactIsRequest', WHERE WHAT IT READS IS OF BULK AT MOST 1048576: true; the input reads as it did. -/
def fnExactIsRequestUptoRow : OpenClaim := { program := "ytdogljbchedkaaa", sum := "14c3843b713aaf03cc33e28321d9c0f50fd9bf412d473608932ad2f35445ccb5", func := "loop.example/g00583/laws.FnExactIsRequest", spec := "fnExactIsRequest", apart := false, narrowed := true }
def FnExactIsRequestUptoSaid : Prop := fnExactIsRequestUptoRow.holds Try.pinned (OpenSpec.upto fnExactIsRequestSpec)

/-- 'laws.FnExactIsRegistration', WHERE WHAT IT READS IS OF BULK AT MOST 1048576: true; the input reads as it did. -/
def fnExactIsRegistrationUptoRow : OpenClaim := { program := "ytdogljbchedkaaa", sum := "14c3843b713aaf03cc33e28321d9c0f50fd9bf412d473608932ad2f35445ccb5", func := "loop.example/g00583/laws.FnExactIsRegistration", spec := "fnExactIsRegistration", apart := false, narrowed := true }
def FnExactIsRegistrationUptoSaid : Prop := fnExactIsRegistrationUptoRow.holds Try.pinned (OpenSpec.upto fnExactIsRegistrationSpec)

/-- 'laws.FnExactErrorResponse', WHERE WHAT IT READS IS OF BULK AT MOST 1048576: true; the input reads as it did. -/
def fnExactErrorResponseUptoRow : OpenClaim := { program := "ytdogljbchedkaaa", sum := "14c3843b713aaf03cc33e28321d9c0f50fd9bf412d473608932ad2f35445ccb5", func := "loop.example/g00583/laws.FnExactErrorResponse", spec := "fnExactErrorResponse", apart := false, narrowed := true }
def FnExactErrorResponseUptoSaid : Prop := fnExactErrorResponseUptoRow.holds Try.pinned (OpenSpec.upto fnExactErrorResponseSpec)

/-- 'laws.FnExactIsResponse', WHERE WHAT IT READS IS OF BULK AT MOST 1048576: true; the input reads as it did. -/
def fnExactIsResponseUptoRow : OpenClaim := { program := "ytdogljbchedkaaa", sum := "14c3843b713aaf03cc33e28321d9c0f50fd9bf412d473608932ad2f35445ccb5", func := "loop.example/g00583/laws.FnExactIsResponse", spec := "fnExactIsResponse", apart := false, narrowed := true }
def FnExactIsResponseUptoSaid : Prop := fnExactIsResponseUptoRow.holds Try.pinned (OpenSpec.upto fnExactIsResponseSpec)

/-- 'laws.FnExactStoredSize', WHERE WHAT IT READS IS OF BULK AT MOST 1048576: true; the input reads as it did. -/
def fnExactStoredSizeUptoRow : OpenClaim := { program := "ytdogljbchedkaaa", sum := "14c3843b713aaf03cc33e28321d9c0f50fd9bf412d473608932ad2f35445ccb5", func := "loop.example/g00583/laws.FnExactStoredSize", spec := "fnExactStoredSize", apart := false, narrowed := true }
def FnExactStoredSizeUptoSaid : Prop := fnExactStoredSizeUptoRow.holds Try.pinned (OpenSpec.upto fnExactStoredSizeSpec)

/-- 'laws.FnExactIsInstr', WHERE WHAT IT READS IS OF BULK AT MOST 1048576: true; the input reads as it did. -/
def fnExactIsInstrUptoRow : OpenClaim := { program := "ytdogljbchedkaaa", sum := "14c3843b713aaf03cc33e28321d9c0f50fd9bf412d473608932ad2f35445ccb5", func := "loop.example/g00583/laws.FnExactIsInstr", spec := "fnExactIsInstr", apart := false, narrowed := true }
def FnExactIsInstrUptoSaid : Prop := fnExactIsInstrUptoRow.holds Try.pinned (OpenSpec.upto fnExactIsInstrSpec)

/-- 'laws.FnExactEqualResponses', WHERE WHAT IT READS IS OF BULK AT MOST 1048576: true; the input reads as it did. -/
def fnExactEqualResponsesUptoRow : OpenClaim := { program := "ytdogljbchedkaaa", sum := "14c3843b713aaf03cc33e28321d9c0f50fd9bf412d473608932ad2f35445ccb5", func := "loop.example/g00583/laws.FnExactEqualResponses", spec := "fnExactEqualResponses", apart := false, narrowed := true }
def FnExactEqualResponsesUptoSaid : Prop := fnExactEqualResponsesUptoRow.holds Try.pinned (OpenSpec.upto fnExactEqualResponsesSpec)

/-- 'laws.FnExactCountWrites', WHERE WHAT IT READS IS OF BULK AT MOST 1048576: true; the input reads as it did. -/
def fnExactCountWritesUptoRow : OpenClaim := { program := "ytdogljbchedkaaa", sum := "14c3843b713aaf03cc33e28321d9c0f50fd9bf412d473608932ad2f35445ccb5", func := "loop.example/g00583/laws.FnExactCountWrites", spec := "fnExactCountWrites", apart := false, narrowed := true }
def FnExactCountWritesUptoSaid : Prop := fnExactCountWritesUptoRow.holds Try.pinned (OpenSpec.upto fnExactCountWritesSpec)

/-- 'laws.FnExactHasFile', WHERE WHAT IT READS IS OF BULK AT MOST 1048576: true; the input reads as it did. -/
def fnExactHasFileUptoRow : OpenClaim := { program := "ytdogljbchedkaaa", sum := "14c3843b713aaf03cc33e28321d9c0f50fd9bf412d473608932ad2f35445ccb5", func := "loop.example/g00583/laws.FnExactHasFile", spec := "fnExactHasFile", apart := false, narrowed := true }
def FnExactHasFileUptoSaid : Prop := fnExactHasFileUptoRow.holds Try.pinned (OpenSpec.upto fnExactHasFileSpec)

/-- 'laws.FnExactBeginInstall', WHERE WHAT IT READS IS OF BULK AT MOST 1048576: true; the input reads as it did. -/
def fnExactBeginInstallUptoRow : OpenClaim := { program := "ytdogljbchedkaaa", sum := "14c3843b713aaf03cc33e28321d9c0f50fd9bf412d473608932ad2f35445ccb5", func := "loop.example/g00583/laws.FnExactBeginInstall", spec := "fnExactBeginInstall", apart := false, narrowed := true }
def FnExactBeginInstallUptoSaid : Prop := fnExactBeginInstallUptoRow.holds Try.pinned (OpenSpec.upto fnExactBeginInstallSpec)

end Rows
end Go.Proofs.Ytdogljbchedkaaa
