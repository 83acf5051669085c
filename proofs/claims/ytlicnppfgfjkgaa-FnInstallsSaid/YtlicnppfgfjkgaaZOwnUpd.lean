/-
  One element of a row of the call's own written anew. No conditions.
-/
import Derived.Test.YtlicnppfgfjkgaaZB
namespace Go.Proofs.Ytlicnppfgfjkgaa
open Go.RowKit
set_option linter.unusedVariables false
section
variable {α : Type} {c : Cod α} {e : TypeId} {B : Nat} {w : World} {A : Option Addr} {n cp : Nat} {xs : List α} {Fi : List Nat}
theorem Own.upd (hw : 0 < c.wd) (h : Own c e B w (.slice A n cp) xs Fi) {i : Nat} (hi : i < xs.length) :
    ∃ g cur vs F1 Fm F2, A = some ⟨g, 0, none⟩ ∧ 0 < cp ∧ n ≤ cp ∧ cp ≤ maxLen ∧ ownB (.slice A n cp) = some g ∧ B ≤ g ∧ Blk w g e cur ∧ Fi = F1 ++ (Fm ++ F2) ∧ c.rep w vs xs[i] Fm ∧ i * c.wd + c.wd ≤ cur.size ∧ (∀ j, j < c.wd → cur[i * c.wd + j]? = vs[j]?) ∧
      ∀ (w' : World) (cur' : Array Value) (vs' : List Value) (y' : α) (G' : List Nat), Blk w' g e cur' → cur'.size = cur.size → (∀ o, o < i * c.wd ∨ i * c.wd + c.wd ≤ o → cur'[o]? = cur[o]?) → (∀ j, j < c.wd → cur'[i * c.wd + j]? = vs'[j]?) → c.rep w' vs' y' G' →
        (∀ b, b ∈ F1 ∨ b ∈ F2 → w'.heap[b]? = w.heap[b]?) → Own c e B w' (.slice A n cp) (xs.set i y') (F1 ++ (G' ++ F2)) := by
  rcases h.form with ⟨rfl, -⟩ | ⟨g, cap, cur, us, hv, hB, hh, hnc, hcm, hsz, ht, ho, hr⟩
  · simp at hi
  · simp only [Value.slice.injEq] at hv
    obtain ⟨rfl, rfl, rfl⟩ := hv
    have hsp : xs = xs.take i ++ xs[i] :: xs.drop (i + 1) := by rw [← List.drop_eq_getElem_cons hi, List.take_append_drop]
    have hr' : c.reps w us (xs.take i ++ xs[i] :: xs.drop (i + 1)) Fi := by rw [← hsp]; exact hr
    obtain ⟨u1, u2, G1, G2, rfl, rfl, r1, v1, v2, H1, H2, rfl, rfl, hx, r2⟩ := Cod.reps_cut hr'
    have hu1 := Cod.reps_len r1
    rw [List.length_take, Nat.min_eq_left (by omega)] at hu1
    have hv1 := c.len hx
    have hul := Cod.reps_len hr
    have hile : i * c.wd + c.wd ≤ xs.length * c.wd := by
      have : (i + 1) * c.wd ≤ xs.length * c.wd := Nat.mul_le_mul_right _ hi
      rwa [Nat.add_mul, Nat.one_mul] at this
    have hcl : xs.length * c.wd ≤ cur.size := by rw [hsz]; exact Nat.mul_le_mul_right _ hnc
    have hcu : ∀ o, o < xs.length * c.wd → cur[o]? = (u1 ++ (v1 ++ v2))[o]? := fun o ho' => by
      rw [← ht, List.getElem?_take_of_lt ho', Array.getElem?_toList]
    refine ⟨g, cur, v1, G1, H1, H2, rfl, Nat.succ_pos _, hnc, hcm, rfl, hB, hh, rfl, hx, by omega, fun j hj => ?_, ?_⟩
    · rw [hcu _ (by omega), List.getElem?_append_right (by omega), hu1, Nat.add_sub_cancel_left, List.getElem?_append_left (by omega)]
    · intro w' cur' vs' y' G' hb' hs' hout hin hy hkeep
      have hvl := c.len hy
      have hlen : (xs.set i y').length = xs.length := List.length_set
      have hset : xs.set i y' = xs.take i ++ y' :: xs.drop (i + 1) := List.set_eq_take_append_cons_drop.trans (by rw [if_pos hi])
      have hul' : (u1 ++ (vs' ++ v2)).length = xs.length * c.wd := by
        rw [List.length_append, List.length_append] at hul ⊢; omega
      have htk : cur'.toList.take (xs.length * c.wd) = u1 ++ (vs' ++ v2) := by
        apply List.ext_getElem?
        intro o
        by_cases ho' : o < xs.length * c.wd
        · rw [List.getElem?_take_of_lt ho', Array.getElem?_toList]
          by_cases h1 : o < i * c.wd
          · rw [hout o (.inl h1), hcu o ho', List.getElem?_append_left (by omega), List.getElem?_append_left (by omega)]
          · by_cases h2 : i * c.wd + c.wd ≤ o
            · rw [hout o (.inr h2), hcu o ho', List.getElem?_append_right (by omega), List.getElem?_append_right (by omega), List.getElem?_append_right (by omega), List.getElem?_append_right (by omega), hvl, hv1]
            · have h3 := hin (o - i * c.wd) (by omega)
              rw [Nat.add_sub_cancel' (by omega)] at h3
              rw [h3, List.getElem?_append_right (by omega), hu1, List.getElem?_append_left (by omega)]
        · rw [List.getElem?_eq_none (by rw [List.length_take]; omega), List.getElem?_eq_none (by omega)]
      refine .inr ⟨u1 ++ (vs' ++ v2), ⟨by rw [hlen]; exact hul', .inr ⟨g, cap + 1, cur', by rw [hlen], hB, hb', by rw [hlen]; exact hnc, hcm, by rw [hs', hsz], by rw [hlen]; exact htk⟩⟩, ?_⟩
      rw [hset]
      exact Cod.reps_app (Cod.reps_keep r1 fun b hb => hkeep b (.inl hb)) ⟨vs', v2, G', H2, rfl, rfl, hy, Cod.reps_keep r2 fun b hb => hkeep b (.inr hb)⟩
end
end Go.Proofs.Ytlicnppfgfjkgaa
