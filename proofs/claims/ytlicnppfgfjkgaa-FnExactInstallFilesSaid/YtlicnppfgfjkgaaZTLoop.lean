/-
  The type Loop: how it reads. No conditions but the budget of the laws.
-/
import Derived.Test.YtlicnppfgfjkgaaRows
import Derived.Test.YtlicnppfgfjkgaaZA
import Derived.LoopTactic
import Derived.Test.YtlicnppfgfjkgaaZTSI
namespace Go.Proofs.Ytlicnppfgfjkgaa
open Go.ChangeShapes Go.WideShapes Go.RowKit
set_option linter.unusedVariables false

structure TLoop where
  tasks : List Int
  micro : List Int

def cLoop : Cod TLoop := cM (cP cIS cIS) (fun x => (x.tasks, x.micro)) (fun a => ⟨a.1, a.2⟩) (fun _ => rfl)

def TLoop.Ok (_x : TLoop) : Prop := True

theorem TLoop.out {w : World} {vs : List Value} {x : TLoop} {F : List Nat} (h : cLoop.rep w vs x F) :
    ∃ v0 v1 F0 F1, vs = [v0, v1] ∧ F = F0 ++ F1 ∧ x.Ok ∧ cIS.rep w [v0] x.tasks F0 ∧ cIS.rep w [v1] x.micro F1 := by

  obtain ⟨a0, b0, G0, H0, rfl, rfl, h0, h1⟩ := h
  obtain ⟨A0, cp0, rfl, k0⟩ := h0
  obtain ⟨A1, cp1, rfl, k1⟩ := h1
  exact ⟨_, _, G0, H0, rfl, by simp, trivial, ⟨A0, cp0, rfl, k0⟩, ⟨A1, cp1, rfl, k1⟩⟩

theorem TLoop.mk_ {w : World} {x : TLoop} {v0 : Value} {v1 : Value} {F0 : List Nat} {F1 : List Nat} (h : x.Ok) (k0 : cIS.rep w [v0] x.tasks F0) (k1 : cIS.rep w [v1] x.micro F1) : cLoop.rep w [v0, v1] x (F0 ++ F1) := by

  clear h

  exact ⟨[_], _, F0, F1, rfl, by simp, k0, k1⟩


theorem TLoop.outA {w : World} {vs : Array Value} {x : TLoop} {F : List Nat} (h : cLoop.rep w vs.toList x F) :
    ∃ v0 v1 F0 F1, vs = #[v0, v1] ∧ F = F0 ++ F1 ∧ x.Ok ∧ cIS.rep w [v0] x.tasks F0 ∧ cIS.rep w [v1] x.micro F1 := by
  obtain ⟨a0, a1, a2, a3, e, f, r⟩ := TLoop.out h
  exact ⟨a0, a1, a2, a3, Array.toList_inj.1 e, f, r⟩

end Go.Proofs.Ytlicnppfgfjkgaa
