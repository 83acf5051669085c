/-
  The type Response: how it reads. No conditions but the budget of the laws.
-/
import Derived.Test.YtlicnppfgfjkgaaDoorRows
import Derived.Test.YtlicnppfgfjkgaaDoorZA
import Derived.LoopTactic
namespace Go.Proofs.YtlicnppfgfjkgaaDoor
open Go.ChangeShapes Go.WideShapes Go.RowKit
set_option linter.unusedVariables false

structure TResp where
  type : Int
  status : Int
  ver : Int
  body : List UInt8
  shares : Bool

def cResp : Cod TResp := cM (cP cI (cP cI (cP cI (cP cUS cB)))) (fun x => (x.type, x.status, x.ver, x.body, x.shares)) (fun a => ⟨a.1, a.2.1, a.2.2.1, a.2.2.2.1, a.2.2.2.2⟩) (fun _ => rfl)

structure TResp.Ok (x : TResp) : Prop where
  h0 : -9223372036854775808 ≤ x.type ∧ x.type ≤ 9223372036854775807
  h1 : -9223372036854775808 ≤ x.status ∧ x.status ≤ 9223372036854775807
  h2 : -9223372036854775808 ≤ x.ver ∧ x.ver ≤ 9223372036854775807

theorem TResp.out {w : World} {vs : List Value} {x : TResp} {F : List Nat} (h : cResp.rep w vs x F) :
    ∃ v3 F3, vs = [Value.int .i64 x.type, .int .i64 x.status, .int .i64 x.ver, v3, .bool x.shares] ∧ F = F3 ∧ x.Ok ∧ cUS.rep w [v3] x.body F3 := by

  obtain ⟨a0, b0, G0, H0, rfl, rfl, ⟨rfl, rfl, h0⟩, a1, b1, G1, H1, rfl, rfl, ⟨rfl, rfl, h1⟩, a2, b2, G2, H2, rfl, rfl, ⟨rfl, rfl, h2⟩, a3, b3, G3, H3, rfl, rfl, h3, rfl, rfl⟩ := h
  obtain ⟨A3, cp3, rfl, k3⟩ := h3
  exact ⟨_, G3, rfl, by simp, ⟨h0, h1, h2⟩, ⟨A3, cp3, rfl, k3⟩⟩

theorem TResp.mk_ {w : World} {x : TResp} {v3 : Value} {F3 : List Nat} (h : x.Ok) (k3 : cUS.rep w [v3] x.body F3) : cResp.rep w [Value.int .i64 x.type, .int .i64 x.status, .int .i64 x.ver, v3, .bool x.shares] x (F3) := by

  exact ⟨[_], _, [], F3, rfl, by simp, ⟨rfl, rfl, h.h0⟩, ⟨[_], _, [], F3, rfl, by simp, ⟨rfl, rfl, h.h1⟩, ⟨[_], _, [], F3, rfl, by simp, ⟨rfl, rfl, h.h2⟩, ⟨[_], _, F3, [], rfl, by simp, k3, ⟨rfl, rfl⟩⟩⟩⟩⟩


theorem TResp.outA {w : World} {vs : Array Value} {x : TResp} {F : List Nat} (h : cResp.rep w vs.toList x F) :
    ∃ v3 F3, vs = #[Value.int .i64 x.type, .int .i64 x.status, .int .i64 x.ver, v3, .bool x.shares] ∧ F = F3 ∧ x.Ok ∧ cUS.rep w [v3] x.body F3 := by
  obtain ⟨a0, a1, e, f, r⟩ := TResp.out h
  exact ⟨a0, a1, Array.toList_inj.1 e, f, r⟩

end Go.Proofs.YtlicnppfgfjkgaaDoor
