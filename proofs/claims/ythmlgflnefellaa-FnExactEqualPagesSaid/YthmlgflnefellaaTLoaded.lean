/-
  The type Loaded: how it reads. No conditions but the budget of the laws.
-/
import Derived.Test.YthmlgflnefellaaRows
import Derived.Test.YthmlgflnefellaaMem
import Derived.LoopTactic
namespace Go.Proofs.Ythmlgflnefellaa
open Go.ChangeShapes Go.WideShapes Go.RowKit
set_option linter.unusedVariables false

structure TLoaded where
  path : ByteArray
  ver : Int

def cLoaded : Cod TLoaded := cM (cP cS cI) (fun x => (x.path, x.ver)) (fun a => ⟨a.1, a.2⟩) (fun _ => rfl)

structure TLoaded.Ok (x : TLoaded) : Prop where
  h0 : x.path.size ≤ maxLen
  h1 : -9223372036854775808 ≤ x.ver ∧ x.ver ≤ 9223372036854775807

theorem TLoaded.out {w : World} {vs : List Value} {x : TLoaded} {F : List Nat} (h : cLoaded.rep w vs x F) :
    vs = [Value.string x.path, .int .i64 x.ver] ∧ F = [] ∧ x.Ok := by

  obtain ⟨a0, b0, G0, H0, rfl, rfl, ⟨rfl, rfl, h0⟩, rfl, rfl, h1⟩ := h
  exact ⟨rfl, by simp, ⟨h0, h1⟩⟩

theorem TLoaded.mk_ {w : World} {x : TLoaded} (h : x.Ok) : cLoaded.rep w [Value.string x.path, .int .i64 x.ver] x ([]) := by

  exact ⟨[_], _, [], [], rfl, by simp, ⟨rfl, rfl, h.h0⟩, ⟨rfl, rfl, h.h1⟩⟩

theorem opens_lLoaded : Opens Try.prog 110 cLoaded := opens_map (opens_struct Try.underlying110 (by kernel_rfl) (opensFs_cons rfl (opens_string Try.underlying9 (by kernel_rfl)) (opensFs_one rfl (opens_int Try.underlying3 (by kernel_rfl)))))

def TLoaded.val (x : TLoaded) : Value := .agg #[Value.string x.path, .int .i64 x.ver]

theorem TLoaded.val_of {w : World} {cs : Array Value} {x : TLoaded} {F : List Nat} (h : cLoaded.rep w cs.toList x F) : Value.agg cs = x.val := by
  have := (TLoaded.out h).1
  unfold TLoaded.val
  rw [← Array.toList_inj.1 (show cs.toList = #[Value.string x.path, .int .i64 x.ver].toList from this)]

end Go.Proofs.Ythmlgflnefellaa
