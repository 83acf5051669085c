/-
  The type Machine: how it reads. No conditions but the budget of the laws.
-/
import Derived.Test.YteipaolcmjfhdaaRows
import Derived.Test.YteipaolcmjfhdaaMem
import Derived.LoopTactic
import Derived.Test.YteipaolcmjfhdaaTSI
import Derived.Test.YteipaolcmjfhdaaTSIns
namespace Go.Proofs.Yteipaolcmjfhdaa
open Go.ChangeShapes Go.WideShapes Go.RowKit
set_option linter.unusedVariables false

structure TMach where
  script : List TIns
  pc : Int
  regs : List Int
  steps : Int
  done : Bool
  wait : Bool

def cMach : Cod TMach := cM (cP cInsS (cP cI (cP cIS (cP cI (cP cB cB))))) (fun x => (x.script, x.pc, x.regs, x.steps, x.done, x.wait)) (fun a => ⟨a.1, a.2.1, a.2.2.1, a.2.2.2.1, a.2.2.2.2.1, a.2.2.2.2.2⟩) (fun _ => rfl)

structure TMach.Ok (x : TMach) : Prop where
  h1 : -9223372036854775808 ≤ x.pc ∧ x.pc ≤ 9223372036854775807
  h3 : -9223372036854775808 ≤ x.steps ∧ x.steps ≤ 9223372036854775807

theorem TMach.out {w : World} {vs : List Value} {x : TMach} {F : List Nat} (h : cMach.rep w vs x F) :
    ∃ v0 v2 F0 F2, vs = [v0, .int .i64 x.pc, v2, .int .i64 x.steps, .bool x.done, .bool x.wait] ∧ F = F0 ++ F2 ∧ x.Ok ∧ cInsS.rep w [v0] x.script F0 ∧ cIS.rep w [v2] x.regs F2 := by

  obtain ⟨a0, b0, G0, H0, rfl, rfl, h0, a1, b1, G1, H1, rfl, rfl, ⟨rfl, rfl, h1⟩, a2, b2, G2, H2, rfl, rfl, h2, a3, b3, G3, H3, rfl, rfl, ⟨rfl, rfl, h3⟩, a4, b4, G4, H4, rfl, rfl, ⟨rfl, rfl⟩, rfl, rfl⟩ := h
  obtain ⟨A0, cp0, rfl, k0⟩ := h0
  obtain ⟨A2, cp2, rfl, k2⟩ := h2
  exact ⟨_, _, G0, G2, rfl, by simp, ⟨h1, h3⟩, ⟨A0, cp0, rfl, k0⟩, ⟨A2, cp2, rfl, k2⟩⟩

theorem TMach.mk_ {w : World} {x : TMach} {v0 : Value} {v2 : Value} {F0 : List Nat} {F2 : List Nat} (h : x.Ok) (k0 : cInsS.rep w [v0] x.script F0) (k2 : cIS.rep w [v2] x.regs F2) : cMach.rep w [v0, .int .i64 x.pc, v2, .int .i64 x.steps, .bool x.done, .bool x.wait] x (F0 ++ F2) := by

  exact ⟨[_], _, F0, F2, rfl, by simp, k0, ⟨[_], _, [], F2, rfl, by simp, ⟨rfl, rfl, h.h1⟩, ⟨[_], _, F2, [], rfl, by simp, k2, ⟨[_], _, [], [], rfl, by simp, ⟨rfl, rfl, h.h3⟩, ⟨[_], _, [], [], rfl, by simp, ⟨rfl, rfl⟩, ⟨rfl, rfl⟩⟩⟩⟩⟩⟩

theorem opens_lMach : Opens Try.prog 93 cMach := opens_map (opens_struct Try.underlying93 (by kernel_rfl) (opensFs_cons rfl opens_lInsS (opensFs_cons rfl (opens_int Try.underlying3 (by kernel_rfl)) (opensFs_cons rfl opens_IS (opensFs_cons rfl (opens_int Try.underlying3 (by kernel_rfl)) (opensFs_cons rfl (opens_bool Try.underlying4 (by kernel_rfl)) (opensFs_one rfl (opens_bool Try.underlying4 (by kernel_rfl)))))))))

theorem TMach.outA {w : World} {vs : Array Value} {x : TMach} {F : List Nat} (h : cMach.rep w vs.toList x F) :
    ∃ v0 v2 F0 F2, vs = #[v0, .int .i64 x.pc, v2, .int .i64 x.steps, .bool x.done, .bool x.wait] ∧ F = F0 ++ F2 ∧ x.Ok ∧ cInsS.rep w [v0] x.script F0 ∧ cIS.rep w [v2] x.regs F2 := by
  obtain ⟨a0, a1, a2, a3, e, f, r⟩ := TMach.out h
  exact ⟨a0, a1, a2, a3, Array.toList_inj.1 e, f, r⟩

end Go.Proofs.Yteipaolcmjfhdaa
