/-
  The entries of a cache in order, as a plain function. No conditions.
-/
import Derived.Test.YtlicnppfgfjkgaaZMatch
import Derived.Test.YtlicnppfgfjkgaaZResp
import Derived.Test.YtlicnppfgfjkgaaZA
import Derived.StillTailTactics
namespace Go.Proofs.Ytlicnppfgfjkgaa
open Go.ChangeShapes Go.WideShapes Go.RowKit
set_option linter.unusedVariables false

theorem idxP_none {α : Type} (p : α → Bool) : ∀ (xs : List α) (k : Nat), idxP p xs = k → noneTo p xs k = true
  | [], k, h => by (have h9 : (-1 : Int) = k := h); omega
  | x :: xs, 0, _ => noneTo_zero _ _
  | x :: xs, k + 1, h => by
    cases hp : p x
    · have e : idxP p (x :: xs) = if idxP p xs < 0 then -1 else idxP p xs + 1 := by simp [idxP, hp]
      rw [e] at h
      split at h
      · omega
      · have := idxP_none p xs k (by omega)
        unfold noneTo at this ⊢
        simp [hp, this]
    · have e : idxP p (x :: xs) = 0 := by simp [idxP, hp]
      rw [e] at h; omega
theorem idxP_is {α : Type} (p : α → Bool) (xs : List α) (k : Nat) (h : k < xs.length) (hp : p xs[k] = true) : (idxP p xs != k) = !noneTo p xs k := by
  cases hn : noneTo p xs k
  · have : idxP p xs ≠ k := fun e => by rw [idxP_none p xs k e] at hn; cases hn
    simpa using this
  · simp [idxP_hit p xs k h hn hp]
theorem sameEntry_refl (e : TCached) : sameEntry e e.site e.path = true := by simp [sameEntry, strEq]
def entryOk (es : List TCached) (k : Nat) : Bool :=
  match es[k]? with
  | some e => isName e.site && isName e.path && noneTo (fun y => sameEntry y e.site e.path) es k && isResponse e.resp
  | none => false
theorem entryOk_at {es : List TCached} {k : Nat} (h : k < es.length) : entryOk es k = (isName es[k].site && isName es[k].path && noneTo (fun y => sameEntry y es[k].site es[k].path) es k && isResponse es[k].resp) := by
  unfold entryOk; rw [List.getElem?_eq_getElem h]
def entriesOk (es : List TCached) : Bool := decide ((es.length : Int) ≤ 12) && allTo (entryOk es) es.length
def cacheOk (cs : List TCache) (k : Nat) : Bool :=
  match cs[k]? with
  | some c => inR c.ver 1 1000000000000 && (k == 0 || match cs[k - 1]? with | some d => decide (d.ver < c.ver) | none => false) && entriesOk c.entries
  | none => false
theorem cacheOk_zero {cs : List TCache} (h : 0 < cs.length) : cacheOk cs 0 = (inR cs[0].ver 1 1000000000000 && entriesOk cs[0].entries) := by
  unfold cacheOk; rw [List.getElem?_eq_getElem h]; simp
theorem cacheOk_succ {cs : List TCache} {k : Nat} (h : k + 1 < cs.length) (h1 : k < cs.length) : cacheOk cs (k + 1) = (inR cs[k + 1].ver 1 1000000000000 && decide (cs[k].ver < cs[k + 1].ver) && entriesOk cs[k + 1].entries) := by
  unfold cacheOk; rw [List.getElem?_eq_getElem h]; simp [List.getElem?_eq_getElem h1]
theorem cacheOk_range {cs : List TCache} {k : Nat} (h : k < cs.length) (hr : inR cs[k].ver 1 1000000000000 = false) : cacheOk cs k = false := by
  unfold cacheOk; rw [List.getElem?_eq_getElem h]; simp [hr]
theorem cacheOk_entries {cs : List TCache} {k : Nat} (h : k < cs.length) (hr : entriesOk cs[k].entries = false) : cacheOk cs k = false := by
  unfold cacheOk; rw [List.getElem?_eq_getElem h]; simp [hr]
def isCacheSet (s : TCSet) : Bool := allTo (cacheOk s.caches) s.caches.length && decide ((s.caches.length : Int) ≤ 4)
end Go.Proofs.Ytlicnppfgfjkgaa
