/-
  Searching a list from the front, as a plain function; texts compared. No conditions.
-/
import Derived.Test.YteipaolcmjfhdaaBase
namespace Go.Proofs.Yteipaolcmjfhdaa

def strEq (a b : ByteArray) : Bool := a.toList == b.toList
theorem strEq_comm (a b : ByteArray) : strEq a b = strEq b a := by
  unfold strEq; exact BEq.comm
theorem strEq_refl (a : ByteArray) : strEq a a = true := by simp [strEq]

section
variable {α : Type} (p : α → Bool)
def noneTo (xs : List α) (k : Nat) : Bool := (xs.take k).all fun y => !p y
theorem noneTo_zero (xs : List α) : noneTo p xs 0 = true := by simp [noneTo]
theorem noneTo_succ (xs : List α) (k : Nat) (h : k < xs.length) (h1 : noneTo p xs k = true) (h2 : p xs[k] = false) : noneTo p xs (k + 1) = true := by
  unfold noneTo at h1 ⊢
  rw [List.take_succ_eq_append_getElem h, List.all_append, h1]; simp [h2]
/-- the first place at which p holds, or -1 -/
def idxP : List α → Int
  | [] => -1
  | x :: xs => bif p x then 0 else if idxP xs < 0 then -1 else idxP xs + 1
theorem idxP_ge (xs : List α) : -1 ≤ idxP p xs := by
  induction xs with
  | nil => simp [idxP]
  | cons x xs ih =>
    simp only [idxP]
    cases p x
    · simp only [cond_false]; split <;> omega
    · simp
theorem idxP_lt (xs : List α) : idxP p xs < xs.length := by
  induction xs with
  | nil => simp [idxP]
  | cons x xs ih =>
    simp only [idxP, List.length_cons]
    cases p x
    · simp only [cond_false]; split <;> omega
    · simp only [cond_true]; omega
theorem idxP_hit : ∀ (xs : List α) (k : Nat) (h : k < xs.length), noneTo p xs k = true → p xs[k] = true → idxP p xs = k
  | x :: xs, 0, _, _, h2 => by
    simp only [List.getElem_cons_zero] at h2
    simp [idxP, h2]
  | x :: xs, k + 1, h, h1, h2 => by
    simp only [noneTo, List.take_succ_cons, List.all_cons, Bool.and_eq_true, Bool.not_eq_true'] at h1
    have := idxP_hit xs k (by simpa using h) h1.2 (by simpa using h2)
    simp only [idxP, h1.1, cond_false, this]
    rw [if_neg (by omega)]; omega
theorem idxP_miss : ∀ (xs : List α), noneTo p xs xs.length = true → idxP p xs = -1
  | [], _ => rfl
  | x :: xs, h => by
    simp only [noneTo, List.length_cons, List.take_succ_cons, List.all_cons, Bool.and_eq_true, Bool.not_eq_true'] at h
    have := idxP_miss xs h.2
    simp [idxP, h.1, this]
theorem idxP_any (xs : List α) : xs.any p = decide (0 ≤ idxP p xs) := by
  induction xs with
  | nil => simp [idxP]
  | cons x xs ih =>
    have hg := idxP_ge p xs
    cases hp : p x
    · have e : idxP p (x :: xs) = if idxP p xs < 0 then -1 else idxP p xs + 1 := by simp [idxP, hp]
      rw [List.any_cons, hp, ih, e, Bool.false_or]
      by_cases hn : idxP p xs < 0
      · rw [if_pos hn, decide_eq_false (by omega), decide_eq_false (by omega)]
      · rw [if_neg hn, decide_eq_true (by omega), decide_eq_true (by omega)]
    · have e : idxP p (x :: xs) = 0 := by simp [idxP, hp]
      rw [List.any_cons, hp, e]; rfl
theorem any_hit (xs : List α) (k : Nat) (h : k < xs.length) (h2 : p xs[k] = true) : xs.any p = true := List.any_eq_true.2 ⟨xs[k], List.getElem_mem h, h2⟩
theorem any_miss (xs : List α) (h : noneTo p xs xs.length = true) : xs.any p = false := by
  rw [idxP_any, idxP_miss p xs h]; rfl
end
end Go.Proofs.Yteipaolcmjfhdaa
