/-
  StoreResponse and OpenCache: what they compute; well-formed sets are small. No conditions.
-/
import Derived.Test.YtlicnppfgfjkgaaZDrop
import Derived.Test.YtlicnppfgfjkgaaZCsOk
import Derived.Test.YtlicnppfgfjkgaaZCsOkS
import Derived.Test.YtlicnppfgfjkgaaZOwnUpd2
namespace Go.Proofs.Ytlicnppfgfjkgaa
open Go.ChangeShapes Go.WideShapes Go.RowKit
set_option linter.unusedVariables false

theorem weak_caches_e : Weak cCachedO cCachedS := Weak.own (Weak.refl _)
def putEntry (es : List TCached) (e : TCached) (i : Int) : List TCached := if i < 0 then es ++ [e] else es.set i.toNat e
def storeOut (s : TCSet) (k : Nat) (e : TCached) : TCSet := match s.caches[k]? with
  | some c => ⟨s.caches.set k ⟨c.ver, putEntry c.entries e (entryIx c.entries e.site e.path)⟩⟩
  | none => s
def storeAt (s : TCSet) (k : Int) (e : TCached) : TCSet × Bool :=
  if k < 0 then (s, false) else bif isCacheSet s && isCacheSet (storeOut s k.toNat e) then (storeOut s k.toNat e, true) else (s, false)
def storeResponse (s : TCSet) (v : Int) (st pa : ByteArray) (x : TResp) : TCSet × Bool := storeAt s (findCache s v) ⟨st, pa, x⟩
theorem storeOut_at {s : TCSet} {k : Nat} (e : TCached) (h : k < s.caches.length) : storeOut s k e = ⟨s.caches.set k ⟨s.caches[k].ver, putEntry s.caches[k].entries e (entryIx s.caches[k].entries e.site e.path)⟩⟩ := by
  unfold storeOut; rw [List.getElem?_eq_getElem h]

theorem strEq_eq {a b : ByteArray} (h : strEq a b = true) : a = b := by
  unfold strEq at h
  rw [ByteArray.toList_eq, ByteArray.toList_eq] at h
  exact WideShapes.bytes_inj (by simpa using h)
theorem sameEntry_eq {e : TCached} {st pa : ByteArray} (h : sameEntry e st pa = true) : e.site = st ∧ e.path = pa := by
  unfold sameEntry at h
  rw [Bool.and_eq_true] at h
  exact ⟨strEq_eq h.1, strEq_eq h.2⟩

/-! ### Sizes of what is well-formed -/
theorem szs_le {α : Type} (c : Cod α) (M : Nat) : ∀ xs : List α, (∀ x, x ∈ xs → c.sz x ≤ M) → c.szs xs ≤ xs.length * (M + 1)
  | [], _ => by simp [Cod.szs]
  | x :: xs, h => by
    have h1 := h x (by simp)
    have h2 := szs_le c M xs fun y hy => h y (by simp [hy])
    simp only [Cod.szs, List.length_cons, Nat.add_mul]
    omega
theorem isResponse_sz {x : TResp} (h : isResponse x = true) : cResp.sz x ≤ 120 := by
  unfold isResponse at h
  simp only [Bool.and_eq_true, decide_eq_true_eq] at h
  have h1 : cResp.sz x = 0 + (0 + (0 + (cU.szs x.body + 0))) := rfl
  have h2 := szs_le cU 0 x.body (fun _ _ => Nat.le_refl _)
  omega
theorem entry_small {es : List TCached} (h : entriesOk es = true) : cCachedS.sz es ≤ 2000 := by
  unfold entriesOk at h
  simp only [Bool.and_eq_true, decide_eq_true_eq] at h
  have h2 := szs_le cCached 136 es (fun e he => by
    obtain ⟨k, hk, rfl⟩ := List.getElem_of_mem he
    have h3 := allTo_get h.2 hk
    rw [entryOk_at hk] at h3
    simp only [Bool.and_eq_true] at h3
    have a1 := isName_size h3.1.1.1
    have a2 := isName_size h3.1.1.2
    have a3 := isResponse_sz h3.2
    have a4 : cCached.sz es[k] = es[k].site.size + (es[k].path.size + cResp.sz es[k].resp) := rfl
    omega)
  have h3 : cCachedS.sz es = Cod.szs cCached es := rfl
  omega
theorem cacheOk_ent {cs : List TCache} {k : Nat} (h : k < cs.length) (hc : cacheOk cs k = true) : entriesOk cs[k].entries = true := by
  cases he : entriesOk cs[k].entries with
  | true => rfl
  | false => rw [cacheOk_entries h he] at hc; cases hc
theorem cset_small {s : TCSet} (h : isCacheSet s = true) : cCSet.sz s ≤ 9000 := by
  unfold isCacheSet at h
  simp only [Bool.and_eq_true, decide_eq_true_eq] at h
  have h2 := szs_le cCache 2000 s.caches (fun c hc => by
    obtain ⟨k, hk, rfl⟩ := List.getElem_of_mem hc
    have h3 := entry_small (cacheOk_ent hk (allTo_get h.1 hk))
    have h4 : cCache.sz s.caches[k] = 0 + cCachedS.sz s.caches[k].entries := rfl
    omega)
  have h3 : cCSet.sz s = Cod.szs cCache s.caches := rfl
  omega
theorem storeResponse_sz (s : TCSet) (v : Int) (st pa : ByteArray) (x : TResp) : cCSet.sz (storeResponse s v st pa x).1 ≤ cCSet.sz s + 9000 := by
  unfold storeResponse storeAt
  split
  · show cCSet.sz s ≤ _; omega
  · cases h : isCacheSet s && isCacheSet (storeOut s (findCache s v).toNat ⟨st, pa, x⟩) with
    | false => show cCSet.sz s ≤ _; omega
    | true =>
      rw [Bool.and_eq_true] at h
      have := cset_small h.2
      show cCSet.sz (storeOut s (findCache s v).toNat ⟨st, pa, x⟩) ≤ _
      omega

/-! ### OpenCache -/
/-- the place at which a version belongs -/
def atVer (v : Int) : List TCache → Nat
  | [] => 0
  | c :: cs => if c.ver < v then atVer v cs + 1 else 0
theorem atVer_le (v : Int) : ∀ cs : List TCache, atVer v cs ≤ cs.length
  | [] => Nat.le_refl _
  | c :: cs => by unfold atVer; split <;> simp; exact atVer_le v cs
theorem atVer_lt {v : Int} : ∀ {cs : List TCache} {j : Nat} (h : j < cs.length), j < atVer v cs → cs[j].ver < v
  | [], j, hl, h => by simp at hl
  | c :: cs, j, hl, h => by
    by_cases hc : c.ver < v
    · have e : atVer v (c :: cs) = atVer v cs + 1 := by simp [atVer, hc]
      cases j with
      | zero => simpa using hc
      | succ j => exact atVer_lt (cs := cs) (by simpa using hl) (by omega)
    · have e : atVer v (c :: cs) = 0 := by simp [atVer, hc]
      omega
theorem atVer_end {v : Int} : ∀ {cs : List TCache} (h : atVer v cs < cs.length), ¬ (cs[atVer v cs].ver < v)
  | [], h => by simp at h
  | c :: cs, h => by
    by_cases hc : c.ver < v
    · have e : atVer v (c :: cs) = atVer v cs + 1 := by simp [atVer, hc]
      simp only [e, List.getElem_cons_succ]
      exact atVer_end _
    · have e : atVer v (c :: cs) = 0 := by simp [atVer, hc]
      simp only [e, List.getElem_cons_zero]; exact hc
def openOut (s : TCSet) (v : Int) : TCSet := ⟨s.caches.take (atVer v s.caches) ++ ⟨v, []⟩ :: s.caches.drop (atVer v s.caches)⟩
def openCache (s : TCSet) (v : Int) : TCSet × Bool := bif isCacheSet s && isCacheSet (openOut s v) then (openOut s v, true) else (s, false)
theorem openCache_sz (s : TCSet) (v : Int) : cCSet.sz (openCache s v).1 ≤ cCSet.sz s + 9000 := by
  unfold openCache
  cases h : isCacheSet s && isCacheSet (openOut s v) with
  | false => show cCSet.sz s ≤ _; omega
  | true =>
    rw [Bool.and_eq_true] at h
    have := cset_small h.2
    show cCSet.sz (openOut s v) ≤ _
    omega
theorem entries_len {x : TCSet} (hn : cCSet.sz x ≤ 1048576) {k : Nat} (hk : k < x.caches.length) : x.caches[k].entries.length ≤ 1048576 := cache_len (cset_cache hn hk)
end Go.Proofs.Ytlicnppfgfjkgaa
