/-
  Installing: what is installed is found; dropping it gives the old set back. Sizes of what a store leaves. No conditions.
-/
import Derived.Test.YtlicnppfgfjkgaaZCachePlain
import Derived.Test.YtlicnppfgfjkgaaZEqCsI
namespace Go.Proofs.Ytlicnppfgfjkgaa
open Go.ChangeShapes Go.WideShapes Go.RowKit
set_option linter.unusedVariables false

theorem respEqSelf (x : TResp) : equalResponses x x = true := by simp [equalResponses, bytesEq_eq]
theorem eqBy_self {α : Type} (f : α → α → Bool) (h : ∀ x, f x x = true) : ∀ xs : List α, eqBy f xs xs = true
  | [] => rfl
  | x :: xs => by simp [eqBy, h x, eqBy_self f h xs]
theorem cachesEq_self (s : TCSet) : cachesEq s s = true := by
  refine eqBy_self _ (fun c => ?_) _
  simp only [cacheEq, beq_self_eq_true, Bool.true_and]
  refine eqBy_self _ (fun e => ?_) _
  simp [cachedEq, strEq, respEqSelf]
theorem store_match_path {s : TCSet} {v : Int} {st pa : ByteArray} {x : TResp} (h : (storeResponse s v st pa x).2 = true) {pa2 : ByteArray} (hp : pa ≠ pa2) : matchCache (storeResponse s v st pa x).1 v st pa2 = matchCache s v st pa2 := by
  obtain ⟨k, hk, h1, hv, h2, -, -⟩ := store_parts h
  rw [h2, match_find, match_find]
  show gave (((s.caches.set k _).find? _).bind _) = _
  rw [find_set_hit (fun c : TCache => c.ver == v) _ _ k hk h1 (by simp)]
  rcases idx_find (fun c : TCache => c.ver == v) s.caches with ⟨h3, -⟩ | ⟨k2, hk2, h3, h4, -⟩
  · have : findCache s v = -1 := h3
    omega
  · have h5 : findCache s v = k2 := h3
    obtain rfl : k2 = k := by omega
    rw [h4]
    show gave (look (putEntry s.caches[k2].entries ⟨st, pa, x⟩ (entryIx s.caches[k2].entries st pa)) st pa2) = gave (look s.caches[k2].entries st pa2)
    rw [show look (putEntry s.caches[k2].entries ⟨st, pa, x⟩ (entryIx s.caches[k2].entries st pa)) st pa2 = _ from look_put_off s.caches[k2].entries ⟨st, pa, x⟩ (fun h => hp h.2)]
theorem inst_found {x : TSite} {v : Int} {s0 : TCSet × Bool} : ∀ n, n ≤ x.files.length → (instAt x v s0 n).2 = true → ∀ (i : Nat) (hi : i < x.files.length), i < n → matchCache (instAt x v s0 n).1 v x.name x.files[i] = (serveFile x x.files[i] v, true)
  | 0, _, _, i, _, h => by omega
  | n + 1, hn, ho, i, hi, h => by
    cases hp : (instAt x v s0 n).2 with
    | false => rw [instAt_no hp, hp] at ho; cases ho
    | true =>
      have h1 := instAt_yes (by omega : n < x.files.length) hp
      rw [h1] at ho ⊢
      by_cases he : x.files[n] = x.files[i]
      · rw [← he]; exact store_match ho
      · rw [store_match_path ho he]
        have hne : i ≠ n := fun e => he (by subst e; rfl)
        exact inst_found n (by omega) hp i hi (by omega)
theorem serve_found {x : TSite} {pa : ByteArray} {n : Int} (h : servesVersion x n = true) (h2 : hasStr x.files pa = true) : serveFile x pa n = ⟨1, 200, n, bodyOf x pa n, x.shared⟩ := by
  have hi : isSite x = true := by
    unfold servesVersion at h
    simp only [Bool.and_eq_true] at h
    exact h.1
  unfold serveFile
  rw [hi, h, h2]; rfl
theorem inst_shape {s : TCSet} {x : TSite} {v : Int} (h0 : (openCache s v).2 = true) : ∀ n, (instAt x v (openCache s v) n).2 = true → ∃ es, (instAt x v (openCache s v) n).1 = ⟨s.caches.take (atVer v s.caches) ++ ⟨v, es⟩ :: s.caches.drop (atVer v s.caches)⟩
  | 0, _ => by
    refine ⟨[], ?_⟩
    show (openCache s v).1 = _
    unfold openCache at h0 ⊢
    cases hc : isCacheSet s && isCacheSet (openOut s v) with
    | false => rw [hc] at h0; cases h0
    | true => rfl
  | n + 1, ho => by
    cases hp : (instAt x v (openCache s v) n).2 with
    | false => rw [instAt_no hp, hp] at ho; cases ho
    | true =>
      obtain ⟨es, hes⟩ := inst_shape h0 n hp
      by_cases hn : n < x.files.length
      · have h1 := instAt_yes hn hp
        rw [h1] at ho ⊢
        obtain ⟨k, hk, h2, hv, h3, -, -⟩ := store_parts ho
        rw [h3]
        rw [hes] at h2
        simp only [hes]
        have hl : (s.caches.take (atVer v s.caches)).length = atVer v s.caches := by rw [List.length_take]; have := atVer_le v s.caches; omega
        have h4 : findCache ⟨s.caches.take (atVer v s.caches) ++ ⟨v, es⟩ :: s.caches.drop (atVer v s.caches)⟩ v = atVer v s.caches := by
          unfold findCache
          rw [idx_mid (by simp) (fun z hz => ?_), hl]
          obtain ⟨i, hi, rfl⟩ := List.getElem_of_mem hz
          have hi2 := hi
          rw [hl] at hi2
          rw [List.getElem_take]
          have hi3 : i < s.caches.length := by have := atVer_le v s.caches; omega
          have := atVer_lt hi3 hi2
          simpa using (by omega : ¬ s.caches[i].ver = v)
        obtain rfl : k = atVer v s.caches := by omega
        have hset : ∀ c : TCache, (s.caches.take (atVer v s.caches) ++ (⟨v, es⟩ : TCache) :: s.caches.drop (atVer v s.caches)).set (atVer v s.caches) c = s.caches.take (atVer v s.caches) ++ c :: s.caches.drop (atVer v s.caches) := fun c => by
          rw [List.set_append_right _ _ (by omega), hl, Nat.sub_self]; rfl
        exact ⟨_, congrArg TCSet.mk (hset ⟨v, _⟩)⟩
      · have e : instAt x v (openCache s v) (n + 1) = instAt x v (openCache s v) n := by
          simp only [instAt]
          rw [List.getElem?_eq_none (by omega)]
        rw [e]
        exact ⟨es, hes⟩
theorem install_parts {s : TCSet} {x : TSite} {v : Int} {on : Bool} (h : (installFiles s x v on).2 = true) : on = true ∧ servesVersion x v = true ∧ (openCache s v).2 = true ∧ (instAt x v (openCache s v) x.files.length).2 = true ∧ (installFiles s x v on).1 = (instAt x v (openCache s v) x.files.length).1 := by
  have ho : (openCache s v).2 = true := by
    cases ho : (openCache s v).2 with
    | true => rfl
    | false => rw [install_open ho] at h; cases h
  unfold installFiles at h ⊢
  cases hc : on && servesVersion x v && (instAt x v (openCache s v) x.files.length).2 with
  | false => rw [hc] at h; cases h
  | true =>
    simp only [Bool.and_eq_true] at hc
    exact ⟨hc.1.1, hc.1.2, ho, hc.2, rfl⟩
theorem install_drop {s : TCSet} {x : TSite} {v : Int} {on : Bool} (h : (installFiles s x v on).2 = true) : dropCache (installFiles s x v on).1 v = (s, true) := by
  obtain ⟨-, -, h0, h1, h2⟩ := install_parts h
  obtain ⟨es, hes⟩ := inst_shape h0 _ h1
  rw [h2, hes]
  have hl : (s.caches.take (atVer v s.caches)).length = atVer v s.caches := by rw [List.length_take]; have := atVer_le v s.caches; omega
  have h4 : findCache ⟨s.caches.take (atVer v s.caches) ++ ⟨v, es⟩ :: s.caches.drop (atVer v s.caches)⟩ v = atVer v s.caches := by
    unfold findCache
    rw [idx_mid (by simp) (fun z hz => ?_), hl]
    obtain ⟨i, hi, rfl⟩ := List.getElem_of_mem hz
    have hi2 := hi
    rw [hl] at hi2
    rw [List.getElem_take]
    have hi3 : i < s.caches.length := by have := atVer_le v s.caches; omega
    have := atVer_lt hi3 hi2
    simpa using (by omega : ¬ s.caches[i].ver = v)
  unfold dropCache dropAt
  rw [h4, if_neg (by omega), show ((atVer v s.caches : Int).toNat) = atVer v s.caches from rfl]
  simp only
  rw [List.take_append_of_le_length (by omega), List.take_of_length_le (by omega), show atVer v s.caches + 1 = (s.caches.take (atVer v s.caches)).length + 1 by omega, List.drop_append, List.drop_of_length_le (by omega), Nat.add_sub_cancel_left]
  simp
theorem install_found {s : TCSet} {x : TSite} {v : Int} {on : Bool} (h : (installFiles s x v on).2 = true) {i : Nat} (hi : i < x.files.length) : matchCache (installFiles s x v on).1 v x.name x.files[i] = (⟨1, 200, v, bodyOf x x.files[i] v, x.shared⟩, true) := by
  obtain ⟨-, h3, -, h1, h2⟩ := install_parts h
  rw [h2, inst_found _ (Nat.le_refl _) h1 i hi hi, serve_found h3 (List.any_eq_true.2 ⟨_, List.getElem_mem hi, by simp [strEq]⟩)]
theorem install_failed {s : TCSet} {x : TSite} {v : Int} {on : Bool} (h : (installFiles s x v on).2 = false) : (installFiles s x v on).1 = s := by
  unfold installFiles at h ⊢
  cases hc : on && servesVersion x v && (instAt x v (openCache s v) x.files.length).2 with
  | false => rfl
  | true => rw [hc] at h; cases h
theorem store_failed {s : TCSet} {v : Int} {st pa : ByteArray} {x : TResp} (h : (storeResponse s v st pa x).2 = false) : (storeResponse s v st pa x).1 = s := by
  unfold storeResponse storeAt at h ⊢
  split at h
  · rename_i hk; rw [if_pos hk]
  · rename_i hk
    rw [if_neg hk]
    cases hc : isCacheSet s && isCacheSet (storeOut s (findCache s v).toNat ⟨st, pa, x⟩) with
    | false => rfl
    | true => rw [hc] at h; cases h
/-- all that FnCaches asks of a store that went well -/
theorem store_law {s : TCSet} {v : Int} {st pa : ByteArray} {x : TResp} (h : (storeResponse s v st pa x).2 = true) :
    isCacheSet (storeResponse s v st pa x).1 = true ∧ (dropCache (storeResponse s v st pa x).1 v).2 = true ∧ isCacheSet (dropCache (storeResponse s v st pa x).1 v).1 = true ∧ findCache (dropCache (storeResponse s v st pa x).1 v).1 v = -1 ∧ (matchCache (dropCache (storeResponse s v st pa x).1 v).1 v st pa).2 = false ∧ sizeCaches (dropCache (storeResponse s v st pa x).1 v).1 < sizeCaches (storeResponse s v st pa x).1 := by
  have hm := store_match h
  have hf := store_find h v
  obtain ⟨k, hk, h1, hv, h2, -, h3⟩ := store_parts h
  have hd : (dropCache (storeResponse s v st pa x).1 v).2 = true := by
    unfold dropCache dropAt
    rw [hf, h1, if_neg (by omega)]
  have hg := drop_gone h3 hd
  refine ⟨h3, hd, drop_ok h3, hg, by rw [find_none_match hg], drop_size hd fun c hc hcv => ?_⟩
  have hs := set_sorted h3
  obtain ⟨i, hi, rfl⟩ := List.getElem_of_mem hc
  have hk2 : k < (storeResponse s v st pa x).1.caches.length := by rw [h2]; simpa using hk
  have hvk : (storeResponse s v st pa x).1.caches[k].ver = v := by simp only [h2, List.getElem_set_self]
  have hik : i = k := by
    rcases Nat.lt_trichotomy i k with h9 | h9 | h9
    · have := hs k i hk2 h9; omega
    · exact h9
    · have := hs i k hi h9; omega
  subst hik
  intro he
  have h8 : (storeResponse s v st pa x).1.caches[i].entries = putEntry s.caches[i].entries ⟨st, pa, x⟩ (entryIx s.caches[i].entries st pa) := by simp only [h2, List.getElem_set_self]
  rw [h8] at he
  have h7 := look_put s.caches[i].entries ⟨st, pa, x⟩
  simp only at h7
  rw [he] at h7
  cases h7
end Go.Proofs.Ytlicnppfgfjkgaa
