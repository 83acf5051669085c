/-
  The type CacheSet: how it reads. No conditions but the budget of the laws.
-/
import Derived.Test.YtlicnppfgfjkgaaRows
import Derived.Test.YtlicnppfgfjkgaaZA
import Derived.LoopTactic
import Derived.Test.YtlicnppfgfjkgaaZTSCache
namespace Go.Proofs.Ytlicnppfgfjkgaa
open Go.ChangeShapes Go.WideShapes Go.RowKit
set_option linter.unusedVariables false

structure TCSet where
  caches : List TCache

def cCSet : Cod TCSet := cM cCacheS (fun x => x.caches) (fun a => ⟨a⟩) (fun _ => rfl)

def TCSet.Ok (_x : TCSet) : Prop := True

theorem TCSet.out {w : World} {vs : List Value} {x : TCSet} {F : List Nat} (h : cCSet.rep w vs x F) :
    ∃ v0 F0, vs = [v0] ∧ F = F0 ∧ x.Ok ∧ cCacheS.rep w [v0] x.caches F0 := by

  obtain ⟨A, cp, rfl, h0⟩ := h
  exact ⟨_, F, rfl, rfl, trivial, A, cp, rfl, h0⟩

theorem TCSet.mk_ {w : World} {x : TCSet} {v0 : Value} {F0 : List Nat} (h : x.Ok) (k0 : cCacheS.rep w [v0] x.caches F0) : cCSet.rep w [v0] x (F0) := by

  clear h

  exact k0

theorem opens_lCSet : Opens Try.prog 86 cCSet := opens_map (opens_struct Try.underlying86 (by kernel_rfl) (opensFs_one rfl opens_lCacheS))

theorem TCSet.outA {w : World} {vs : Array Value} {x : TCSet} {F : List Nat} (h : cCSet.rep w vs.toList x F) :
    ∃ v0 F0, vs = #[v0] ∧ F = F0 ∧ x.Ok ∧ cCacheS.rep w [v0] x.caches F0 := by
  obtain ⟨a0, a1, e, f, r⟩ := TCSet.out h
  exact ⟨a0, a1, Array.toList_inj.1 e, f, r⟩

end Go.Proofs.Ytlicnppfgfjkgaa
