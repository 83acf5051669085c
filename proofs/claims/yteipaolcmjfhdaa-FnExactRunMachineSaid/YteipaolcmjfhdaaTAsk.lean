/-
  The type Ask: how it reads. No conditions but the budget of the laws.
-/
import Derived.Test.YteipaolcmjfhdaaRows
import Derived.Test.YteipaolcmjfhdaaMem
import Derived.LoopTactic
namespace Go.Proofs.Yteipaolcmjfhdaa
open Go.ChangeShapes Go.WideShapes Go.RowKit
set_option linter.unusedVariables false

structure TAsk where
  kind : Int
  r : Int
  n : Int
  text : ByteArray
  value : Int

def cAsk : Cod TAsk := cM (cP cI (cP cI (cP cI (cP cS cI)))) (fun x => (x.kind, x.r, x.n, x.text, x.value)) (fun a => ⟨a.1, a.2.1, a.2.2.1, a.2.2.2.1, a.2.2.2.2⟩) (fun _ => rfl)

structure TAsk.Ok (x : TAsk) : Prop where
  h0 : -9223372036854775808 ≤ x.kind ∧ x.kind ≤ 9223372036854775807
  h1 : -9223372036854775808 ≤ x.r ∧ x.r ≤ 9223372036854775807
  h2 : -9223372036854775808 ≤ x.n ∧ x.n ≤ 9223372036854775807
  h3 : x.text.size ≤ maxLen
  h4 : -9223372036854775808 ≤ x.value ∧ x.value ≤ 9223372036854775807

theorem TAsk.out {w : World} {vs : List Value} {x : TAsk} {F : List Nat} (h : cAsk.rep w vs x F) :
    vs = [Value.int .i64 x.kind, .int .i64 x.r, .int .i64 x.n, .string x.text, .int .i64 x.value] ∧ F = [] ∧ x.Ok := by

  obtain ⟨a0, b0, G0, H0, rfl, rfl, ⟨rfl, rfl, h0⟩, a1, b1, G1, H1, rfl, rfl, ⟨rfl, rfl, h1⟩, a2, b2, G2, H2, rfl, rfl, ⟨rfl, rfl, h2⟩, a3, b3, G3, H3, rfl, rfl, ⟨rfl, rfl, h3⟩, rfl, rfl, h4⟩ := h
  exact ⟨rfl, by simp, ⟨h0, h1, h2, h3, h4⟩⟩

theorem TAsk.mk_ {w : World} {x : TAsk} (h : x.Ok) : cAsk.rep w [Value.int .i64 x.kind, .int .i64 x.r, .int .i64 x.n, .string x.text, .int .i64 x.value] x ([]) := by

  exact ⟨[_], _, [], [], rfl, by simp, ⟨rfl, rfl, h.h0⟩, ⟨[_], _, [], [], rfl, by simp, ⟨rfl, rfl, h.h1⟩, ⟨[_], _, [], [], rfl, by simp, ⟨rfl, rfl, h.h2⟩, ⟨[_], _, [], [], rfl, by simp, ⟨rfl, rfl, h.h3⟩, ⟨rfl, rfl, h.h4⟩⟩⟩⟩⟩


def TAsk.val (x : TAsk) : Value := .agg #[Value.int .i64 x.kind, .int .i64 x.r, .int .i64 x.n, .string x.text, .int .i64 x.value]

theorem TAsk.val_of {w : World} {cs : Array Value} {x : TAsk} {F : List Nat} (h : cAsk.rep w cs.toList x F) : Value.agg cs = x.val := by
  have := (TAsk.out h).1
  unfold TAsk.val
  rw [← Array.toList_inj.1 (show cs.toList = #[Value.int .i64 x.kind, .int .i64 x.r, .int .i64 x.n, .string x.text, .int .i64 x.value].toList from this)]

end Go.Proofs.Yteipaolcmjfhdaa
