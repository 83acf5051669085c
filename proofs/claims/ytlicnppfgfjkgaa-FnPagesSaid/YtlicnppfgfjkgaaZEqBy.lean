/-
  Lists compared place by place, as a plain function. No conditions.
-/
import Derived.Test.YtlicnppfgfjkgaaZA
namespace Go.Proofs.Ytlicnppfgfjkgaa
set_option linter.unusedVariables false

section
variable {α : Type} (p : α → α → Bool)
def eqBy : List α → List α → Bool
  | [], [] => true
  | x :: xs, y :: ys => p x y && eqBy xs ys
  | _, _ => false
def sameTo (xs ys : List α) (k : Nat) : Prop := ∀ i (h1 : i < xs.length) (h2 : i < ys.length), i < k → p xs[i] ys[i] = true
theorem sameTo_zero (xs ys : List α) : sameTo p xs ys 0 := fun i _ _ h => absurd h (Nat.not_lt_zero _)
theorem sameTo_succ (xs ys : List α) (k : Nat) (h1 : k < xs.length) (h2 : k < ys.length) (h : sameTo p xs ys k) (e : p xs[k] ys[k] = true) : sameTo p xs ys (k + 1) := fun i a b c => by
  by_cases hi : i = k
  · subst hi; exact e
  · exact h i a b (by omega)
theorem eqBy_len : ∀ (xs ys : List α), xs.length ≠ ys.length → eqBy p xs ys = false
  | [], [], h => absurd rfl h
  | [], _ :: _, _ => rfl
  | _ :: _, [], _ => rfl
  | x :: xs, y :: ys, h => by
    have := eqBy_len xs ys (fun e => h (by simp [e]))
    simp [eqBy, this]
theorem eqBy_hit : ∀ (xs ys : List α), xs.length = ys.length → sameTo p xs ys xs.length → eqBy p xs ys = true
  | [], [], _, _ => rfl
  | [], _ :: _, h, _ => by simp at h
  | _ :: _, [], h, _ => by simp at h
  | x :: xs, y :: ys, h, k => by
    have h0 := k 0 (by simp) (by simp) (by simp)
    have := eqBy_hit xs ys (by simpa using h) (fun i a b c => by have := k (i + 1) (by simpa using a) (by simpa using b) (by simpa using c); simpa using this)
    simp only [List.getElem_cons_zero] at h0
    simp [eqBy, this, h0]
theorem eqBy_miss : ∀ (xs ys : List α) (k : Nat) (h1 : k < xs.length) (h2 : k < ys.length), p xs[k] ys[k] = false → eqBy p xs ys = false
  | [], _, _, h1, _, _ => by simp at h1
  | _ :: _, [], _, _, h2, _ => by simp at h2
  | x :: xs, y :: ys, 0, _, _, e => by simp only [List.getElem_cons_zero] at e; simp [eqBy, e]
  | x :: xs, y :: ys, k + 1, h1, h2, e => by
    have := eqBy_miss xs ys k (by simpa using h1) (by simpa using h2) (by simpa using e)
    simp [eqBy, this]
end
end Go.Proofs.Ytlicnppfgfjkgaa
