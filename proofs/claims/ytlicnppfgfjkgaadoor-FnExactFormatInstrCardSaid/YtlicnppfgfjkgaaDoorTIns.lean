/-
  The type Instr: how it reads. No conditions but the budget of the laws.
-/
import Derived.Test.YtlicnppfgfjkgaaDoorRows
import Derived.Test.YtlicnppfgfjkgaaDoorMem
import Derived.LoopTactic
namespace Go.Proofs.YtlicnppfgfjkgaaDoor
open Go.ChangeShapes Go.WideShapes Go.RowKit
set_option linter.unusedVariables false

structure TIns where
  kind : Int
  r : Int
  n : Int
  text : ByteArray

def cIns : Cod TIns := cM (cP cI (cP cI (cP cI cS))) (fun x => (x.kind, x.r, x.n, x.text)) (fun a => ⟨a.1, a.2.1, a.2.2.1, a.2.2.2⟩) (fun _ => rfl)

structure TIns.Ok (x : TIns) : Prop where
  h0 : -9223372036854775808 ≤ x.kind ∧ x.kind ≤ 9223372036854775807
  h1 : -9223372036854775808 ≤ x.r ∧ x.r ≤ 9223372036854775807
  h2 : -9223372036854775808 ≤ x.n ∧ x.n ≤ 9223372036854775807
  h3 : x.text.size ≤ maxLen

theorem TIns.out {w : World} {vs : List Value} {x : TIns} {F : List Nat} (h : cIns.rep w vs x F) :
    vs = [Value.int .i64 x.kind, .int .i64 x.r, .int .i64 x.n, .string x.text] ∧ F = [] ∧ x.Ok := by

  obtain ⟨a0, b0, G0, H0, rfl, rfl, ⟨rfl, rfl, h0⟩, a1, b1, G1, H1, rfl, rfl, ⟨rfl, rfl, h1⟩, a2, b2, G2, H2, rfl, rfl, ⟨rfl, rfl, h2⟩, rfl, rfl, h3⟩ := h
  exact ⟨rfl, by simp, ⟨h0, h1, h2, h3⟩⟩

theorem TIns.mk_ {w : World} {x : TIns} (h : x.Ok) : cIns.rep w [Value.int .i64 x.kind, .int .i64 x.r, .int .i64 x.n, .string x.text] x ([]) := by

  exact ⟨[_], _, [], [], rfl, by simp, ⟨rfl, rfl, h.h0⟩, ⟨[_], _, [], [], rfl, by simp, ⟨rfl, rfl, h.h1⟩, ⟨[_], _, [], [], rfl, by simp, ⟨rfl, rfl, h.h2⟩, ⟨rfl, rfl, h.h3⟩⟩⟩⟩

theorem opens_lIns : Opens Tryd.prog 37 cIns := opens_map (opens_struct Tryd.underlying37 (by kernel_rfl) (opensFs_cons rfl (opens_int Tryd.underlying3 (by kernel_rfl)) (opensFs_cons rfl (opens_int Tryd.underlying3 (by kernel_rfl)) (opensFs_cons rfl (opens_int Tryd.underlying3 (by kernel_rfl)) (opensFs_one rfl (opens_string Tryd.underlying9 (by kernel_rfl)))))))

def TIns.val (x : TIns) : Value := .agg #[Value.int .i64 x.kind, .int .i64 x.r, .int .i64 x.n, .string x.text]

theorem TIns.val_of {w : World} {cs : Array Value} {x : TIns} {F : List Nat} (h : cIns.rep w cs.toList x F) : Value.agg cs = x.val := by
  have := (TIns.out h).1
  unfold TIns.val
  rw [← Array.toList_inj.1 (show cs.toList = #[Value.int .i64 x.kind, .int .i64 x.r, .int .i64 x.n, .string x.text].toList from this)]

end Go.Proofs.YtlicnppfgfjkgaaDoor
