/-
  Plain: what activation, the begin and the end of an install say of a registration. No conditions.
-/
import Derived.Test.YteipaolcmjfhdaaAct2Fn
namespace Go.Proofs.Yteipaolcmjfhdaa
open Go.ChangeShapes Go.WideShapes Go.RowKit
set_option linter.unusedVariables false

theorem isReg_iff {s : ByteArray} {a b c : Int} : isReg ⟨s, a, b, c⟩ = true ↔ (0 ≤ c ∧ c ≤ 1000000000000) ∧ ((0 ≤ b ∧ b ≤ 1000000000000) ∧ (b = 0 ∨ c < b)) ∧ ((0 ≤ a ∧ a ≤ 1000000000000) ∧ (a = 0 ∨ c < a ∧ b < a)) ∧ isName s = true := by
  simp only [isReg, regFrom, inR, Bool.and_eq_true, decide_eq_true_eq, Bool.not_eq_true', Bool.and_eq_false_iff, decide_eq_false_iff_not, Bool.and_true]
  constructor
  · rintro ⟨⟨⟨h1, h2⟩, ⟨h3, h4⟩, h5, h6⟩, h7⟩
    refine ⟨?_, ⟨?_, ?_⟩, ⟨?_, ?_⟩, h7⟩ <;> omega
  · rintro ⟨h1, ⟨h2, h3⟩, ⟨h4, h5⟩, h7⟩
    refine ⟨⟨⟨?_, ?_⟩, ⟨?_, ?_⟩, ?_, ?_⟩, h7⟩ <;> omega
theorem activate_no {s : ByteArray} {a b c : Int} {us : List Int} (h : canActivate ⟨s, a, b, c⟩ us = false) : activate ⟨s, a, b, c⟩ us = (⟨s, a, b, c⟩, 0, false) := by simp [activate, h]
theorem activate_yes {s : ByteArray} {a b c : Int} {us : List Int} (h : canActivate ⟨s, a, b, c⟩ us = true) : activate ⟨s, a, b, c⟩ us = (⟨s, a, 0, b⟩, c, true) ∧ hasInt us c = false ∧ c < b ∧ isReg ⟨s, a, 0, b⟩ = true := by
  refine ⟨by simp [activate, h], ?_⟩
  simp only [canActivate, Bool.and_eq_true, Bool.not_eq_true', bne_iff_ne] at h
  obtain ⟨⟨h1, h2⟩, h3⟩ := h
  have h4 := isReg_iff.1 h1
  exact ⟨h3, by omega, isReg_iff.2 ⟨by omega, by omega, by omega, h4.2.2.2⟩⟩
theorem begin_yes {s : ByteArray} {a b c v : Int} (h : (beginInstall ⟨s, a, b, c⟩ v).2 = true) : a = 0 ∧ beginInstall ⟨s, a, b, c⟩ v = (⟨s, v, b, c⟩, true) ∧ c < v ∧ b < v ∧ 0 < v ∧
    endInstall ⟨s, v, b, c⟩ true = (⟨s, 0, v, c⟩, b) ∧ endInstall ⟨s, v, b, c⟩ false = (⟨s, 0, b, c⟩, v) ∧ isReg ⟨s, 0, v, c⟩ = true := by
  unfold beginInstall at h ⊢
  cases hc : (isReg ⟨s, a, b, c⟩ && !decide (v < 1) && a == 0 && isReg ⟨s, v, b, c⟩) with
  | false => simp only at h; rw [hc] at h; simp at h
  | true =>
    simp only [Bool.and_eq_true, Bool.not_eq_true', decide_eq_false_iff_not, beq_iff_eq] at hc
    obtain ⟨⟨⟨h1, h2⟩, h3⟩, h4⟩ := hc
    subst h3
    have h5 := isReg_iff.1 h4
    refine ⟨rfl, by simp only; rfl, by omega, by omega, by omega, ?_, ?_, isReg_iff.2 ⟨by omega, by omega, by omega, h5.2.2.2⟩⟩
    · simp [endInstall, h4, show (v != 0) = true by simp; omega]
    · simp [endInstall, h4, show (v != 0) = true by simp; omega]
theorem begin_no {s : ByteArray} {a b c v : Int} (h : (beginInstall ⟨s, a, b, c⟩ v).2 = false) : beginInstall ⟨s, a, b, c⟩ v = (⟨s, a, b, c⟩, false) := by
  unfold beginInstall at h ⊢
  cases hc : (isReg ⟨s, a, b, c⟩ && !decide (v < 1) && a == 0 && isReg ⟨s, v, b, c⟩) with
  | true => simp only at h; rw [hc] at h; simp at h
  | false => rfl
end Go.Proofs.Yteipaolcmjfhdaa
