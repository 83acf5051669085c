/-
  Caches: what is stored is found in its version only; a dropped cache has none; an installed one has all files. No conditions.
-/
import Derived.Test.YtlicnppfgfjkgaaZInstPlain
import Derived.Test.YtlicnppfgfjkgaaZSizeCs
namespace Go.Proofs.Ytlicnppfgfjkgaa
open Go.ChangeShapes Go.WideShapes Go.RowKit
set_option linter.unusedVariables false

/-! ### The first element that serves -/
theorem idx_find {α : Type} (p : α → Bool) : ∀ xs : List α, (idxP p xs = -1 ∧ xs.find? p = none) ∨ ∃ k : Nat, ∃ h : k < xs.length, idxP p xs = k ∧ xs.find? p = some xs[k] ∧ p xs[k] = true
  | [] => .inl ⟨rfl, rfl⟩
  | x :: xs => by
    cases hp : p x
    · have e : idxP p (x :: xs) = if idxP p xs < 0 then -1 else idxP p xs + 1 := by simp [idxP, hp]
      have e2 : (x :: xs).find? p = xs.find? p := by simp [List.find?, hp]
      rcases idx_find p xs with ⟨h1, h2⟩ | ⟨k, h, h1, h2, h3⟩
      · exact .inl ⟨by rw [e, h1]; rfl, by rw [e2, h2]⟩
      · exact .inr ⟨k + 1, by simpa using h, by rw [e, h1, if_neg (by omega)]; rfl, by rw [e2, h2]; rfl, h3⟩
    · exact .inr ⟨0, by simp, by simp [idxP, hp], by simp [List.find?, hp], hp⟩
theorem find_set_miss {α : Type} (p : α → Bool) (e : α) : ∀ (xs : List α) (k : Nat) (h : k < xs.length), p xs[k] = false → p e = false → (xs.set k e).find? p = xs.find? p
  | x :: xs, 0, _, h1, h2 => by
    have h1 : p x = false := h1
    simp [List.find?, h1, h2]
  | x :: xs, k + 1, h, h1, h2 => by
    have := find_set_miss p e xs k (by simpa using h) h1 h2
    simp only [List.set_cons_succ, List.find?_cons, this]
theorem find_set_hit {α : Type} (p : α → Bool) (e : α) : ∀ (xs : List α) (k : Nat) (h : k < xs.length), idxP p xs = k → p e = true → (xs.set k e).find? p = some e
  | x :: xs, 0, _, _, h2 => by simp [h2]
  | x :: xs, k + 1, h, h1, h2 => by
    cases hp : p x
    · have e1 : idxP p (x :: xs) = if idxP p xs < 0 then -1 else idxP p xs + 1 := by simp [idxP, hp]
      rw [e1] at h1
      split at h1
      · omega
      · have := find_set_hit p e xs k (by simpa using h) (by omega) h2
        simp only [List.set_cons_succ, List.find?_cons, hp, this]
    · have e1 : idxP p (x :: xs) = 0 := by simp [idxP, hp]
      omega
theorem idx_set {α : Type} (p : α → Bool) (e : α) : ∀ (xs : List α) (k : Nat) (h : k < xs.length), p e = p xs[k] → idxP p (xs.set k e) = idxP p xs
  | x :: xs, 0, _, h1 => by
    have h1 : p e = p x := h1
    simp [idxP, h1]
  | x :: xs, k + 1, h, h1 => by
    have := idx_set p e xs k (by simpa using h) h1
    simp [idxP, this]
theorem idx_neg {α : Type} {p : α → Bool} {xs : List α} (h : ∀ x, x ∈ xs → p x = false) : idxP p xs = -1 := by
  rcases idx_find p xs with ⟨h1, -⟩ | ⟨k, hk, -, -, h3⟩
  · exact h1
  · rw [h _ (List.getElem_mem hk)] at h3; cases h3
theorem idx_mid {α : Type} {p : α → Bool} {x : α} {ys : List α} (hx : p x = true) : ∀ {xs : List α}, (∀ z, z ∈ xs → p z = false) → idxP p (xs ++ x :: ys) = xs.length
  | [], _ => by simp [idxP, hx]
  | z :: zs, h => by
    have h1 := idx_mid (ys := ys) hx (xs := zs) fun a ha => h a (by simp [ha])
    have h2 := h z (by simp)
    have e : idxP p (z :: (zs ++ x :: ys)) = if idxP p (zs ++ x :: ys) < 0 then -1 else idxP p (zs ++ x :: ys) + 1 := by simp [idxP, h2]
    rw [List.cons_append, e, h1, if_neg (by omega)]; rfl

/-! ### Entries -/
def look (es : List TCached) (st pa : ByteArray) : Option TCached := es.find? fun e => sameEntry e st pa
def gave : Option TCached → TResp × Bool
  | some e => (e.resp, true)
  | none => (errorResponse, false)
theorem matchIn_look (es : List TCached) (st pa : ByteArray) : matchIn es (entryIx es st pa) = gave (look es st pa) := by
  unfold look entryIx
  rcases idx_find (fun e => sameEntry e st pa) es with ⟨h1, h2⟩ | ⟨k, hk, h1, h2, -⟩
  · rw [h1, h2]; rfl
  · rw [h1, h2]
    unfold matchIn
    rw [if_neg (by omega), show ((k : Int).toNat) = k from rfl, List.getElem?_eq_getElem hk]; rfl
theorem look_put (es : List TCached) (e : TCached) : look (putEntry es e (entryIx es e.site e.path)) e.site e.path = some e := by
  unfold putEntry look entryIx
  rcases idx_find (fun y => sameEntry y e.site e.path) es with ⟨h1, h2⟩ | ⟨k, hk, h1, h2, h3⟩
  · rw [h1, if_pos (by omega), List.find?_append, h2]
    simp [List.find?, sameEntry_refl]
  · rw [h1, if_neg (by omega)]
    exact find_set_hit _ _ _ _ hk h1 (sameEntry_refl e)
theorem sameEntry_off {a e : TCached} {st pa : ByteArray} (h : ¬ (e.site = st ∧ e.path = pa)) (ha : sameEntry a e.site e.path = true) : sameEntry a st pa = false := by
  cases h2 : sameEntry a st pa with
  | false => rfl
  | true =>
    have h3 := sameEntry_eq ha
    have h4 := sameEntry_eq h2
    exact absurd ⟨h3.1.symm.trans h4.1, h3.2.symm.trans h4.2⟩ h
theorem look_put_off (es : List TCached) (e : TCached) {st pa : ByteArray} (h : ¬ (e.site = st ∧ e.path = pa)) : look (putEntry es e (entryIx es e.site e.path)) st pa = look es st pa := by
  have he : sameEntry e st pa = false := sameEntry_off h (sameEntry_refl e)
  unfold putEntry look entryIx
  rcases idx_find (fun y => sameEntry y e.site e.path) es with ⟨h1, h2⟩ | ⟨k, hk, h1, h2, h3⟩
  · rw [h1, if_pos (by omega), List.find?_append]
    cases es.find? fun e => sameEntry e st pa <;> simp [List.find?, he]
  · rw [h1, if_neg (by omega)]
    exact find_set_miss _ _ _ _ hk (sameEntry_off h h3) he

/-! ### Sets of caches -/
theorem match_find (s : TCSet) (v : Int) (st pa : ByteArray) : matchCache s v st pa = gave ((s.caches.find? fun c => c.ver == v).bind fun c => look c.entries st pa) := by
  unfold matchCache findCache
  rcases idx_find (fun c : TCache => c.ver == v) s.caches with ⟨h1, h2⟩ | ⟨k, hk, h1, h2, -⟩
  · rw [h1, h2]; rfl
  · rw [h1, h2]
    unfold matchAt
    rw [if_neg (by omega), show ((k : Int).toNat) = k from rfl, List.getElem?_eq_getElem hk]
    exact matchIn_look _ _ _

/-- what a response that was stored leaves -/
theorem store_parts {s : TCSet} {v : Int} {st pa : ByteArray} {x : TResp} (h : (storeResponse s v st pa x).2 = true) : ∃ k : Nat, ∃ hk : k < s.caches.length, findCache s v = k ∧ s.caches[k].ver = v ∧ (storeResponse s v st pa x).1 = ⟨s.caches.set k ⟨v, putEntry s.caches[k].entries ⟨st, pa, x⟩ (entryIx s.caches[k].entries st pa)⟩⟩ ∧ isCacheSet s = true ∧ isCacheSet (storeResponse s v st pa x).1 = true := by
  rcases idx_find (fun c : TCache => c.ver == v) s.caches with ⟨h1, -⟩ | ⟨k, hk, h1, -, h3⟩
  · have e : findCache s v = -1 := h1
    unfold storeResponse storeAt at h
    rw [e, if_pos (by omega)] at h; cases h
  · have e : findCache s v = k := h1
    have hv : s.caches[k].ver = v := by simpa using h3
    unfold storeResponse storeAt at h ⊢
    rw [e] at h ⊢
    rw [if_neg (by omega)] at h ⊢
    rw [show ((k : Int).toNat) = k from rfl] at h ⊢
    cases hc : isCacheSet s && isCacheSet (storeOut s k ⟨st, pa, x⟩) with
    | false => rw [hc] at h; cases h
    | true =>
      have hc2 := hc
      rw [Bool.and_eq_true] at hc
      refine ⟨k, hk, rfl, hv, ?_, hc.1, hc.2⟩
      show storeOut s k ⟨st, pa, x⟩ = _
      rw [storeOut_at _ hk, hv]
theorem store_match {s : TCSet} {v : Int} {st pa : ByteArray} {x : TResp} (h : (storeResponse s v st pa x).2 = true) : matchCache (storeResponse s v st pa x).1 v st pa = (x, true) := by
  obtain ⟨k, hk, h1, hv, h2, -, -⟩ := store_parts h
  rw [h2, match_find]
  show gave (((s.caches.set k _).find? _).bind _) = _
  rw [find_set_hit (fun c : TCache => c.ver == v) _ _ k hk h1 (by simp)]
  show gave (look (putEntry s.caches[k].entries ⟨st, pa, x⟩ (entryIx s.caches[k].entries st pa)) st pa) = _
  rw [show look (putEntry s.caches[k].entries ⟨st, pa, x⟩ (entryIx s.caches[k].entries st pa)) st pa = _ from look_put s.caches[k].entries ⟨st, pa, x⟩]; rfl
theorem store_match_off {s : TCSet} {v u : Int} {st pa : ByteArray} {x : TResp} (h : (storeResponse s v st pa x).2 = true) (hu : u ≠ v) (st2 pa2 : ByteArray) : matchCache (storeResponse s v st pa x).1 u st2 pa2 = matchCache s u st2 pa2 := by
  obtain ⟨k, hk, h1, hv, h2, -, -⟩ := store_parts h
  rw [h2, match_find, match_find]
  show gave (((s.caches.set k _).find? _).bind _) = _
  rw [find_set_miss (fun c : TCache => c.ver == u) _ _ k hk (by rw [hv]; simpa using fun e => hu e.symm) (by simpa using fun e => hu e.symm)]
theorem store_find {s : TCSet} {v : Int} {st pa : ByteArray} {x : TResp} (h : (storeResponse s v st pa x).2 = true) (u : Int) : findCache (storeResponse s v st pa x).1 u = findCache s u := by
  obtain ⟨k, hk, h1, hv, h2, -, -⟩ := store_parts h
  rw [h2]
  exact idx_set (fun c : TCache => c.ver == u) _ _ k hk (by rw [hv])
/-! ### Drops -/
theorem set_sorted {s : TCSet} (h : isCacheSet s = true) : ∀ (j i : Nat) (hj : j < s.caches.length) (hi : i < j), s.caches[i].ver < s.caches[j].ver := by
  unfold isCacheSet at h
  rw [Bool.and_eq_true] at h
  intro j
  induction j with
  | zero => intro i hj hi; omega
  | succ j ih =>
    intro i hj hi
    have h1 := allTo_get h.1 hj
    rw [cacheOk_succ hj (by omega)] at h1
    simp only [Bool.and_eq_true, decide_eq_true_eq] at h1
    rcases Nat.lt_or_eq_of_le (Nat.le_of_lt_succ hi) with h2 | h2
    · have := ih i (by omega) h2; omega
    · subst h2; exact h1.1.2
theorem drop_gone {s : TCSet} {v : Int} (h : isCacheSet s = true) (hd : (dropCache s v).2 = true) : findCache (dropCache s v).1 v = -1 := by
  rcases idx_find (fun c : TCache => c.ver == v) s.caches with ⟨h1, -⟩ | ⟨k, hk, h1, -, h3⟩
  · have e : findCache s v = -1 := h1
    unfold dropCache dropAt at hd
    rw [e, if_pos (by omega)] at hd; cases hd
  · have e : findCache s v = k := h1
    have hv : s.caches[k].ver = v := by simpa using h3
    unfold dropCache dropAt
    rw [e, if_neg (by omega)]
    refine idx_neg fun c hc => ?_
    rw [show ((k : Int).toNat) = k from rfl] at hc
    rcases List.mem_append.1 hc with hc | hc
    · obtain ⟨i, hi, rfl⟩ := List.getElem_of_mem hc
      rw [List.length_take] at hi
      have := set_sorted h k i hk (by omega)
      rw [List.getElem_take]
      simpa using (by omega : ¬ s.caches[i].ver = v)
    · obtain ⟨i, hi, rfl⟩ := List.getElem_of_mem hc
      rw [List.length_drop] at hi
      have := set_sorted h (k + 1 + i) k (by omega) (by omega)
      rw [List.getElem_drop]
      simpa using (by omega : ¬ s.caches[k + 1 + i].ver = v)
theorem find_none_match {s : TCSet} {v : Int} (h : findCache s v = -1) (st pa : ByteArray) : matchCache s v st pa = (errorResponse, false) := by
  unfold matchCache matchAt
  rw [h, if_pos (by omega)]
theorem sumBy_app {α : Type} (f : α → Int) : ∀ xs ys : List α, sumBy f (xs ++ ys) = sumBy f xs + sumBy f ys
  | [], ys => by simp [sumBy]
  | x :: xs, ys => by simp only [List.cons_append, sumBy, sumBy_app f xs ys]; omega
theorem drop_size {s : TCSet} {v : Int} (hd : (dropCache s v).2 = true) (he : ∀ c, c ∈ s.caches → c.ver = v → c.entries ≠ []) : sizeCaches (dropCache s v).1 < sizeCaches s := by
  rcases idx_find (fun c : TCache => c.ver == v) s.caches with ⟨h1, -⟩ | ⟨k, hk, h1, -, h3⟩
  · have e : findCache s v = -1 := h1
    unfold dropCache dropAt at hd
    rw [e, if_pos (by omega)] at hd; cases hd
  · have e : findCache s v = k := h1
    have hv : s.caches[k].ver = v := by simpa using h3
    unfold dropCache dropAt
    rw [e, if_neg (by omega), show ((k : Int).toNat) = k from rfl]
    show sumBy cacheSize (s.caches.take k ++ s.caches.drop (k + 1)) < sumBy cacheSize s.caches
    have h4 : sumBy cacheSize s.caches = sumBy cacheSize (s.caches.take k) + (cacheSize s.caches[k] + sumBy cacheSize (s.caches.drop (k + 1))) := by
      conv => lhs; rw [← List.take_append_drop k s.caches, List.drop_eq_getElem_cons hk]
      rw [sumBy_app]; rfl
    rw [h4, sumBy_app]
    have h5 : 0 < cacheSize s.caches[k] := by
      have h6 := he _ (List.getElem_mem hk) hv
      unfold cacheSize
      cases hes : s.caches[k].entries with
      | nil => exact absurd hes h6
      | cons e es =>
        have h7 : 0 < entrySize e := by
          unfold entrySize storedSize
          cases (e.resp.type == 3) <;> simp <;> omega
        have h8 := (sumBy_le entrySize (fun e => cCached.sz e) 76 (by omega) entrySize_le es).1
        show 0 < entrySize e + sumBy entrySize es
        omega
    omega
theorem cacheOk_any {cs : List TCache} {k : Nat} (h : k < cs.length) : cacheOk cs k = (inR cs[k].ver 1 1000000000000 && (k == 0 || match cs[k - 1]? with | some d => decide (d.ver < cs[k].ver) | none => false) && entriesOk cs[k].entries) := by
  unfold cacheOk; rw [List.getElem?_eq_getElem h]; rfl
theorem drop_ok {s : TCSet} {v : Int} (h : isCacheSet s = true) : isCacheSet (dropCache s v).1 = true := by
  unfold dropCache dropAt
  split
  · exact h
  · have hs := set_sorted h
    have h9 := h
    generalize (findCache s v).toNat = k
    show isCacheSet (⟨s.caches.take k ++ s.caches.drop (k + 1)⟩ : TCSet) = true
    unfold isCacheSet at h ⊢
    simp only
    rw [Bool.and_eq_true] at h ⊢
    have hall : ∀ (c : TCache), c ∈ s.caches → inR c.ver 1 1000000000000 = true ∧ entriesOk c.entries = true := by
      intro c hc
      obtain ⟨i, hi, rfl⟩ := List.getElem_of_mem hc
      have h1 := allTo_get h.1 hi
      rw [cacheOk_any hi] at h1
      simp only [Bool.and_eq_true] at h1
      exact ⟨h1.1.1, h1.2⟩
    have hP : (s.caches.take k ++ s.caches.drop (k + 1)).Pairwise (fun a b => a.ver < b.ver) := by
      have h1 : s.caches.Pairwise (fun a b => a.ver < b.ver) := List.pairwise_iff_getElem.2 fun i j hi hj hij => hs j i hj hij
      refine h1.sublist ?_
      conv => rhs; rw [← List.take_append_drop k s.caches]
      refine List.Sublist.append (List.Sublist.refl _) ?_
      rw [show s.caches.drop (k + 1) = (s.caches.drop k).drop 1 by rw [List.drop_drop]]
      exact List.drop_sublist _ _
    have hL : (s.caches.take k ++ s.caches.drop (k + 1)).length ≤ s.caches.length := by simp; omega
    have hmem : ∀ c, c ∈ s.caches.take k ++ s.caches.drop (k + 1) → c ∈ s.caches := fun c hc => by
      rcases List.mem_append.1 hc with hc | hc
      · exact List.mem_of_mem_take hc
      · exact List.mem_of_mem_drop hc
    generalize s.caches.take k ++ s.caches.drop (k + 1) = cs at *
    refine ⟨allTo_intro fun i hi => ?_, by have := h.2; simp only [decide_eq_true_eq] at this ⊢; omega⟩
    have h2 := hall _ (hmem _ (List.getElem_mem hi))
    rw [cacheOk_any hi, h2.1, h2.2]
    cases i with
    | zero => rfl
    | succ i =>
      have h3 := List.pairwise_iff_getElem.1 hP i (i + 1) (by omega) hi (by omega)
      rw [Nat.add_sub_cancel, List.getElem?_eq_getElem (show i < cs.length by omega)]
      simp [h3]
end Go.Proofs.Ytlicnppfgfjkgaa
