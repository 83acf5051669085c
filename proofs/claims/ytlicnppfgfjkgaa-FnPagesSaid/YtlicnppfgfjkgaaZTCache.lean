/-
  The type Cache: how it reads. No conditions but the budget of the laws.
-/
import Derived.Test.YtlicnppfgfjkgaaRows
import Derived.Test.YtlicnppfgfjkgaaZA
import Derived.LoopTactic
import Derived.Test.YtlicnppfgfjkgaaZTSCached
namespace Go.Proofs.Ytlicnppfgfjkgaa
open Go.ChangeShapes Go.WideShapes Go.RowKit
set_option linter.unusedVariables false

structure TCache where
  ver : Int
  entries : List TCached

def cCache : Cod TCache := cM (cP cI cCachedS) (fun x => (x.ver, x.entries)) (fun a => ⟨a.1, a.2⟩) (fun _ => rfl)

structure TCache.Ok (x : TCache) : Prop where
  h0 : -9223372036854775808 ≤ x.ver ∧ x.ver ≤ 9223372036854775807

theorem TCache.out {w : World} {vs : List Value} {x : TCache} {F : List Nat} (h : cCache.rep w vs x F) :
    ∃ v1 F1, vs = [Value.int .i64 x.ver, v1] ∧ F = F1 ∧ x.Ok ∧ cCachedS.rep w [v1] x.entries F1 := by

  obtain ⟨a0, b0, G0, H0, rfl, rfl, ⟨rfl, rfl, h0⟩, h1⟩ := h
  obtain ⟨A1, cp1, rfl, k1⟩ := h1
  exact ⟨_, H0, rfl, by simp, ⟨h0⟩, ⟨A1, cp1, rfl, k1⟩⟩

theorem TCache.mk_ {w : World} {x : TCache} {v1 : Value} {F1 : List Nat} (h : x.Ok) (k1 : cCachedS.rep w [v1] x.entries F1) : cCache.rep w [Value.int .i64 x.ver, v1] x (F1) := by

  exact ⟨[_], _, [], F1, rfl, by simp, ⟨rfl, rfl, h.h0⟩, k1⟩

theorem opens_lCache : Opens Try.prog 171 cCache := opens_map (opens_struct Try.underlying171 (by kernel_rfl) (opensFs_cons rfl (opens_int Try.underlying3 (by kernel_rfl)) (opensFs_one rfl opens_lCachedS)))

theorem TCache.outA {w : World} {vs : Array Value} {x : TCache} {F : List Nat} (h : cCache.rep w vs.toList x F) :
    ∃ v1 F1, vs = #[Value.int .i64 x.ver, v1] ∧ F = F1 ∧ x.Ok ∧ cCachedS.rep w [v1] x.entries F1 := by
  obtain ⟨a0, a1, e, f, r⟩ := TCache.out h
  exact ⟨a0, a1, Array.toList_inj.1 e, f, r⟩

end Go.Proofs.Ytlicnppfgfjkgaa
