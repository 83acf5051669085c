/-
  Caches whose rows are the call's own: how they read. No conditions.
-/
import Derived.Test.YtamcoplnpoddbaaTCSet
import Derived.Test.YtamcoplnpoddbaaOwnC
namespace Go.Proofs.Ytamcoplnpoddbaa
open Go.ChangeShapes Go.WideShapes Go.RowKit
set_option linter.unusedVariables false

def cCachedO : Cod (List TCached) := cO cCached 88 (by decide)
def cCacheO : Cod TCache := cM (cP cI cCachedO) (fun x => (x.ver, x.entries)) (fun a => ⟨a.1, a.2⟩) (fun _ => rfl)
def cCachesO : Cod (List TCache) := cO cCacheO 82 (by decide)
def cCSetO : Cod TCSet := cM cCachesO (fun x => x.caches) (fun a => ⟨a⟩) (fun _ => rfl)

theorem weak_cache : Weak cCacheO cCache := Weak.map (Weak.pair (Weak.refl _) (Weak.own (Weak.refl _)))
theorem weak_caches : Weak cCachesO cCacheS := Weak.own weak_cache
theorem weak_cset : Weak cCSetO cCSet := Weak.map weak_caches

theorem TCache.outO {w : World} {vs : List Value} {x : TCache} {F : List Nat} (h : cCacheO.rep w vs x F) :
    ∃ A cp, vs = [Value.int .i64 x.ver, .slice A x.entries.length cp] ∧ x.Ok ∧ cCachedO.rep w [.slice A x.entries.length cp] x.entries F := by
  obtain ⟨a0, b0, G0, H0, rfl, rfl, ⟨rfl, rfl, h0⟩, h1⟩ := h
  obtain ⟨v, Fi, rfl, ho, rfl⟩ := h1
  obtain ⟨A, cp, rfl⟩ := ho.slice
  exact ⟨A, cp, rfl, ⟨h0⟩, ⟨_, Fi, rfl, ho, rfl⟩⟩
theorem TCache.mkO {w : World} {x : TCache} {v1 : Value} {F1 : List Nat} (h : x.Ok) (k1 : cCachedO.rep w [v1] x.entries F1) : cCacheO.rep w [Value.int .i64 x.ver, v1] x F1 :=
  ⟨[_], _, [], F1, rfl, by simp, ⟨rfl, rfl, h.h0⟩, k1⟩
theorem TCSet.outO {w : World} {vs : Array Value} {x : TCSet} {F : List Nat} (h : cCSetO.rep w vs.toList x F) :
    ∃ A cp, vs = #[.slice A x.caches.length cp] ∧ cCachesO.rep w [.slice A x.caches.length cp] x.caches F := by
  obtain ⟨v, Fi, hv, ho, rfl⟩ := h
  obtain ⟨A, cp, rfl⟩ := ho.slice
  exact ⟨A, cp, Array.toList_inj.1 hv, ⟨_, Fi, rfl, ho, rfl⟩⟩
theorem TCSet.mkO {w : World} {x : TCSet} {v0 : Value} {F0 : List Nat} (k0 : cCachesO.rep w [v0] x.caches F0) : cCSetO.rep w [v0] x F0 := k0
end Go.Proofs.Ytamcoplnpoddbaa
