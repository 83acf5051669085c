/-
  The type Registration: how it reads. No conditions but the budget of the laws.
-/
import Derived.Test.YtlicnppfgfjkgaaRows
import Derived.Test.YtlicnppfgfjkgaaZA
import Derived.LoopTactic
namespace Go.Proofs.Ytlicnppfgfjkgaa
open Go.ChangeShapes Go.WideShapes Go.RowKit
set_option linter.unusedVariables false

structure TReg where
  site : ByteArray
  ins : Int
  wai : Int
  act : Int

def cReg : Cod TReg := cM (cP cS (cP cI (cP cI cI))) (fun x => (x.site, x.ins, x.wai, x.act)) (fun a => ⟨a.1, a.2.1, a.2.2.1, a.2.2.2⟩) (fun _ => rfl)

structure TReg.Ok (x : TReg) : Prop where
  h0 : x.site.size ≤ maxLen
  h1 : -9223372036854775808 ≤ x.ins ∧ x.ins ≤ 9223372036854775807
  h2 : -9223372036854775808 ≤ x.wai ∧ x.wai ≤ 9223372036854775807
  h3 : -9223372036854775808 ≤ x.act ∧ x.act ≤ 9223372036854775807

theorem TReg.out {w : World} {vs : List Value} {x : TReg} {F : List Nat} (h : cReg.rep w vs x F) :
    vs = [Value.string x.site, .int .i64 x.ins, .int .i64 x.wai, .int .i64 x.act] ∧ F = [] ∧ x.Ok := by

  obtain ⟨a0, b0, G0, H0, rfl, rfl, ⟨rfl, rfl, h0⟩, a1, b1, G1, H1, rfl, rfl, ⟨rfl, rfl, h1⟩, a2, b2, G2, H2, rfl, rfl, ⟨rfl, rfl, h2⟩, rfl, rfl, h3⟩ := h
  exact ⟨rfl, by simp, ⟨h0, h1, h2, h3⟩⟩

theorem TReg.mk_ {w : World} {x : TReg} (h : x.Ok) : cReg.rep w [Value.string x.site, .int .i64 x.ins, .int .i64 x.wai, .int .i64 x.act] x ([]) := by

  exact ⟨[_], _, [], [], rfl, by simp, ⟨rfl, rfl, h.h0⟩, ⟨[_], _, [], [], rfl, by simp, ⟨rfl, rfl, h.h1⟩, ⟨[_], _, [], [], rfl, by simp, ⟨rfl, rfl, h.h2⟩, ⟨rfl, rfl, h.h3⟩⟩⟩⟩


def TReg.val (x : TReg) : Value := .agg #[Value.string x.site, .int .i64 x.ins, .int .i64 x.wai, .int .i64 x.act]

theorem TReg.val_of {w : World} {cs : Array Value} {x : TReg} {F : List Nat} (h : cReg.rep w cs.toList x F) : Value.agg cs = x.val := by
  have := (TReg.out h).1
  unfold TReg.val
  rw [← Array.toList_inj.1 (show cs.toList = #[Value.string x.site, .int .i64 x.ins, .int .i64 x.wai, .int .i64 x.act].toList from this)]

end Go.Proofs.Ytlicnppfgfjkgaa
