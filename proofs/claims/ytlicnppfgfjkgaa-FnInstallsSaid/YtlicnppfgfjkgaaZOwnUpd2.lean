/-
  Rows written in place, as arrays. No conditions.
-/
import Derived.Test.YtlicnppfgfjkgaaZOwnUpd
namespace Go.Proofs.Ytlicnppfgfjkgaa
open Go.RowKit
set_option linter.unusedVariables false

theorem putRow_out : ∀ (cs : Array Value) (i : Nat) (vs : List Value) (o : Nat), o < i ∨ i + vs.length ≤ o → (putRow cs i vs)[o]? = cs[o]?
  | cs, i, [], o, _ => rfl
  | cs, i, v :: vs, o, h => by
    simp only [List.length_cons] at h
    unfold putRow
    rw [putRow_out _ (i + 1) vs o (by omega), Array.getElem?_setIfInBounds_ne (by omega)]
theorem putRow_in : ∀ (cs : Array Value) (i : Nat) (vs : List Value) (j : Nat), j < vs.length → i + vs.length ≤ cs.size → (putRow cs i vs)[i + j]? = vs[j]?
  | cs, i, v :: vs, 0, _, hs => by
    simp only [List.length_cons] at hs
    unfold putRow
    rw [putRow_out _ (i + 1) vs _ (.inl (by omega)), Array.getElem?_setIfInBounds, if_pos (by omega), if_pos (by omega)]
    rfl
  | cs, i, v :: vs, j + 1, hj, hs => by
    simp only [List.length_cons] at hs hj
    unfold putRow
    rw [show i + (j + 1) = i + 1 + j by omega, putRow_in _ (i + 1) vs j (by omega) (by simp; omega)]
    simp
theorem upd_put {cur : Array Value} {vs us : List Value} {i wd d : Nat} (hsz : i * wd + wd ≤ cur.size) (hcur : ∀ j, j < wd → cur[i * wd + j]? = vs[j]?) (hvl : vs.length = wd) (hd : d + us.length ≤ wd) :
    (putRow cur (i * wd + d) us).size = cur.size ∧ (∀ o, o < i * wd ∨ i * wd + wd ≤ o → (putRow cur (i * wd + d) us)[o]? = cur[o]?) ∧
    ∀ j, j < wd → (putRow cur (i * wd + d) us)[i * wd + j]? = (vs.take d ++ (us ++ vs.drop (d + us.length)))[j]? := by
  refine ⟨putRow_size _ _ _, fun o ho => putRow_out _ _ _ _ (by omega), fun j hj => ?_⟩
  by_cases h1 : j < d
  · rw [putRow_out _ _ _ _ (.inl (by omega)), hcur j hj, List.getElem?_append_left (by rw [List.length_take]; omega), List.getElem?_take_of_lt h1]
  · by_cases h2 : j < d + us.length
    · rw [show i * wd + j = i * wd + d + (j - d) by omega, putRow_in _ _ _ _ (by omega) (by omega), List.getElem?_append_right (by rw [List.length_take]; omega), List.length_take, Nat.min_eq_left (by omega), List.getElem?_append_left (by omega)]
    · rw [putRow_out _ _ _ _ (.inr (by omega)), hcur j hj, List.getElem?_append_right (by rw [List.length_take]; omega), List.length_take, Nat.min_eq_left (by omega), List.getElem?_append_right (by omega), List.getElem?_drop]
      congr 1; omega
theorem nodup_swap {P M S G : List Nat} {L : Nat} (h : (P ++ (M ++ S)).Nodup) (hl : ∀ b, b ∈ P ++ (M ++ S) → b < L) (hG : G.Nodup) (hGL : ∀ b, b ∈ G → L ≤ b) : (P ++ (G ++ S)).Nodup := by
  have h1 := List.nodup_append.1 h
  have h2 := List.nodup_append.1 h1.2.1
  refine List.nodup_append.2 ⟨h1.1, List.nodup_append.2 ⟨hG, h2.2.1, fun a ha b hb e => ?_⟩, fun a ha b hb e => ?_⟩
  · have := hGL a ha; have := hl b (by simp [hb]); omega
  · rcases List.mem_append.1 hb with hb | hb
    · have := hGL b hb; have := hl a (by simp [ha]); omega
    · exact h1.2.2 a ha b (by simp [hb]) e
theorem putCells_blk {g : Nat} : ∀ {w : World} (i : Nat) (vs : List Value) (b : Nat), b ≠ g → (putCells w g i vs).heap[b]? = w.heap[b]?
  | _, _, [], _, _ => rfl
  | w, i, v :: vs, b, h => (putCells_blk (i + 1) vs b h).trans (Below.heap_setCell _ _ _ _ h)
end Go.Proofs.Ytlicnppfgfjkgaa
