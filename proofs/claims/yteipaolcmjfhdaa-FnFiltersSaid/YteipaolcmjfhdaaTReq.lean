/-
  The type Request: how it reads. No conditions but the budget of the laws.
-/
import Derived.Test.YteipaolcmjfhdaaRows
import Derived.Test.YteipaolcmjfhdaaMem
import Derived.LoopTactic
namespace Go.Proofs.Yteipaolcmjfhdaa
open Go.ChangeShapes Go.WideShapes Go.RowKit
set_option linter.unusedVariables false

structure TReq where
  frm : ByteArray
  dst : ByteArray
  path : ByteArray
  mode : Int

def cReq : Cod TReq := cM (cP cS (cP cS (cP cS cI))) (fun x => (x.frm, x.dst, x.path, x.mode)) (fun a => ⟨a.1, a.2.1, a.2.2.1, a.2.2.2⟩) (fun _ => rfl)

structure TReq.Ok (x : TReq) : Prop where
  h0 : x.frm.size ≤ maxLen
  h1 : x.dst.size ≤ maxLen
  h2 : x.path.size ≤ maxLen
  h3 : -9223372036854775808 ≤ x.mode ∧ x.mode ≤ 9223372036854775807

theorem TReq.out {w : World} {vs : List Value} {x : TReq} {F : List Nat} (h : cReq.rep w vs x F) :
    vs = [Value.string x.frm, .string x.dst, .string x.path, .int .i64 x.mode] ∧ F = [] ∧ x.Ok := by

  obtain ⟨a0, b0, G0, H0, rfl, rfl, ⟨rfl, rfl, h0⟩, a1, b1, G1, H1, rfl, rfl, ⟨rfl, rfl, h1⟩, a2, b2, G2, H2, rfl, rfl, ⟨rfl, rfl, h2⟩, rfl, rfl, h3⟩ := h
  exact ⟨rfl, by simp, ⟨h0, h1, h2, h3⟩⟩

theorem TReq.mk_ {w : World} {x : TReq} (h : x.Ok) : cReq.rep w [Value.string x.frm, .string x.dst, .string x.path, .int .i64 x.mode] x ([]) := by

  exact ⟨[_], _, [], [], rfl, by simp, ⟨rfl, rfl, h.h0⟩, ⟨[_], _, [], [], rfl, by simp, ⟨rfl, rfl, h.h1⟩, ⟨[_], _, [], [], rfl, by simp, ⟨rfl, rfl, h.h2⟩, ⟨rfl, rfl, h.h3⟩⟩⟩⟩


def TReq.val (x : TReq) : Value := .agg #[Value.string x.frm, .string x.dst, .string x.path, .int .i64 x.mode]

theorem TReq.val_of {w : World} {cs : Array Value} {x : TReq} {F : List Nat} (h : cReq.rep w cs.toList x F) : Value.agg cs = x.val := by
  have := (TReq.out h).1
  unfold TReq.val
  rw [← Array.toList_inj.1 (show cs.toList = #[Value.string x.frm, .string x.dst, .string x.path, .int .i64 x.mode].toList from this)]

end Go.Proofs.Yteipaolcmjfhdaa
