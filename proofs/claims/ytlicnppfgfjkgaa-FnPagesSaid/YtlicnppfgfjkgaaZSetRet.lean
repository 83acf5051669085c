/-
  A struct's box that is stored whole, then read as the result. No conditions.
-/
import Derived.Test.YtlicnppfgfjkgaaZA
namespace Go.Proofs.Ytlicnppfgfjkgaa
open Go.ChangeShapes Go.WideShapes Go.RowKit
set_option linter.unusedVariables false

theorem sets4 {W : World} {q : Nat} {a b c d a' b' c' d' : Value} (k0 : W.cell? ⟨q, 0, none⟩ = some a') (k1 : W.cell? ⟨q, 1, none⟩ = some b') (k2 : W.cell? ⟨q, 2, none⟩ = some c') (k3 : W.cell? ⟨q, 3, none⟩ = some d') :
    ((((W.setCell ⟨q, 0, none⟩ a).setCell ⟨q, 1, none⟩ b).setCell ⟨q, 2, none⟩ c).setCell ⟨q, 3, none⟩ d).cell? ⟨q, 0, none⟩ = some a ∧ ((((W.setCell ⟨q, 0, none⟩ a).setCell ⟨q, 1, none⟩ b).setCell ⟨q, 2, none⟩ c).setCell ⟨q, 3, none⟩ d).cell? ⟨q, 1, none⟩ = some b ∧ ((((W.setCell ⟨q, 0, none⟩ a).setCell ⟨q, 1, none⟩ b).setCell ⟨q, 2, none⟩ c).setCell ⟨q, 3, none⟩ d).cell? ⟨q, 2, none⟩ = some c ∧ ((((W.setCell ⟨q, 0, none⟩ a).setCell ⟨q, 1, none⟩ b).setCell ⟨q, 2, none⟩ c).setCell ⟨q, 3, none⟩ d).cell? ⟨q, 3, none⟩ = some d := by
  have ne : ∀ (w : World) (i j : Nat) (v : Value), i ≠ j → (w.setCell ⟨q, i, none⟩ v).cell? ⟨q, j, none⟩ = w.cell? ⟨q, j, none⟩ := fun w i j v h => World.cell?_setCell_other w ⟨q, i, none⟩ ⟨q, j, none⟩ v (fun e => h (by injection e))
  refine ⟨?_, ?_, ?_, ?_⟩
  · rw [ne _ 3 0 _ (by decide), ne _ 2 0 _ (by decide), ne _ 1 0 _ (by decide)]; exact cell?_set_same k0
  · rw [ne _ 3 1 _ (by decide), ne _ 2 1 _ (by decide)]; exact cell?_set_same ((ne _ 0 1 _ (by decide)).trans k1)
  · rw [ne _ 3 2 _ (by decide)]; exact cell?_set_same ((ne _ 1 2 _ (by decide)).trans ((ne _ 0 2 _ (by decide)).trans k2))
  · exact cell?_set_same ((ne _ 2 3 _ (by decide)).trans ((ne _ 1 3 _ (by decide)).trans ((ne _ 0 3 _ (by decide)).trans k3)))
theorem sets_ret4 {P : Program} {fn : Func} {Q : Ending → World → Prop} {A : Act} {W : World} (q : Nat) {a b c d a' b' c' d' : Value} (k0 : W.cell? ⟨q, 0, none⟩ = some a') (k1 : W.cell? ⟨q, 1, none⟩ = some b') (k2 : W.cell? ⟨q, 2, none⟩ = some c') (k3 : W.cell? ⟨q, 3, none⟩ = some d')
    (h : ∀ W9, ((((W.setCell ⟨q, 0, none⟩ a).setCell ⟨q, 1, none⟩ b).setCell ⟨q, 2, none⟩ c).setCell ⟨q, 3, none⟩ d) = W9 → W9.cell? ⟨q, 0, none⟩ = some a → W9.cell? ⟨q, 1, none⟩ = some b → W9.cell? ⟨q, 2, none⟩ = some c → W9.cell? ⟨q, 3, none⟩ = some d → bodyPost P fn Q .ret A W9) :
    bodyPost P fn Q .ret A ((((W.setCell ⟨q, 0, none⟩ a).setCell ⟨q, 1, none⟩ b).setCell ⟨q, 2, none⟩ c).setCell ⟨q, 3, none⟩ d) := by
  have hs := sets4 (a := a) (b := b) (c := c) (d := d) k0 k1 k2 k3
  exact h _ rfl hs.1 hs.2.1 hs.2.2.1 hs.2.2.2
theorem sets5 {W : World} {q : Nat} {a b c d e a' b' c' d' e' : Value} (k0 : W.cell? ⟨q, 0, none⟩ = some a') (k1 : W.cell? ⟨q, 1, none⟩ = some b') (k2 : W.cell? ⟨q, 2, none⟩ = some c') (k3 : W.cell? ⟨q, 3, none⟩ = some d') (k4 : W.cell? ⟨q, 4, none⟩ = some e') :
    (((((W.setCell ⟨q, 0, none⟩ a).setCell ⟨q, 1, none⟩ b).setCell ⟨q, 2, none⟩ c).setCell ⟨q, 3, none⟩ d).setCell ⟨q, 4, none⟩ e).cell? ⟨q, 0, none⟩ = some a ∧ (((((W.setCell ⟨q, 0, none⟩ a).setCell ⟨q, 1, none⟩ b).setCell ⟨q, 2, none⟩ c).setCell ⟨q, 3, none⟩ d).setCell ⟨q, 4, none⟩ e).cell? ⟨q, 1, none⟩ = some b ∧ (((((W.setCell ⟨q, 0, none⟩ a).setCell ⟨q, 1, none⟩ b).setCell ⟨q, 2, none⟩ c).setCell ⟨q, 3, none⟩ d).setCell ⟨q, 4, none⟩ e).cell? ⟨q, 2, none⟩ = some c ∧ (((((W.setCell ⟨q, 0, none⟩ a).setCell ⟨q, 1, none⟩ b).setCell ⟨q, 2, none⟩ c).setCell ⟨q, 3, none⟩ d).setCell ⟨q, 4, none⟩ e).cell? ⟨q, 3, none⟩ = some d ∧ (((((W.setCell ⟨q, 0, none⟩ a).setCell ⟨q, 1, none⟩ b).setCell ⟨q, 2, none⟩ c).setCell ⟨q, 3, none⟩ d).setCell ⟨q, 4, none⟩ e).cell? ⟨q, 4, none⟩ = some e := by
  have ne : ∀ (w : World) (i j : Nat) (v : Value), i ≠ j → (w.setCell ⟨q, i, none⟩ v).cell? ⟨q, j, none⟩ = w.cell? ⟨q, j, none⟩ := fun w i j v h => World.cell?_setCell_other w ⟨q, i, none⟩ ⟨q, j, none⟩ v (fun e => h (by injection e))
  refine ⟨?_, ?_, ?_, ?_, ?_⟩
  · rw [ne _ 4 0 _ (by decide), ne _ 3 0 _ (by decide), ne _ 2 0 _ (by decide), ne _ 1 0 _ (by decide)]; exact cell?_set_same k0
  · rw [ne _ 4 1 _ (by decide), ne _ 3 1 _ (by decide), ne _ 2 1 _ (by decide)]; exact cell?_set_same ((ne _ 0 1 _ (by decide)).trans k1)
  · rw [ne _ 4 2 _ (by decide), ne _ 3 2 _ (by decide)]; exact cell?_set_same ((ne _ 1 2 _ (by decide)).trans ((ne _ 0 2 _ (by decide)).trans k2))
  · rw [ne _ 4 3 _ (by decide)]; exact cell?_set_same ((ne _ 2 3 _ (by decide)).trans ((ne _ 1 3 _ (by decide)).trans ((ne _ 0 3 _ (by decide)).trans k3)))
  · exact cell?_set_same ((ne _ 3 4 _ (by decide)).trans ((ne _ 2 4 _ (by decide)).trans ((ne _ 1 4 _ (by decide)).trans ((ne _ 0 4 _ (by decide)).trans k4))))
theorem sets_ret5 {P : Program} {fn : Func} {Q : Ending → World → Prop} {A : Act} {W : World} (q : Nat) {a b c d e a' b' c' d' e' : Value} (k0 : W.cell? ⟨q, 0, none⟩ = some a') (k1 : W.cell? ⟨q, 1, none⟩ = some b') (k2 : W.cell? ⟨q, 2, none⟩ = some c') (k3 : W.cell? ⟨q, 3, none⟩ = some d') (k4 : W.cell? ⟨q, 4, none⟩ = some e')
    (h : ∀ W9, (((((W.setCell ⟨q, 0, none⟩ a).setCell ⟨q, 1, none⟩ b).setCell ⟨q, 2, none⟩ c).setCell ⟨q, 3, none⟩ d).setCell ⟨q, 4, none⟩ e) = W9 → W9.cell? ⟨q, 0, none⟩ = some a → W9.cell? ⟨q, 1, none⟩ = some b → W9.cell? ⟨q, 2, none⟩ = some c → W9.cell? ⟨q, 3, none⟩ = some d → W9.cell? ⟨q, 4, none⟩ = some e → bodyPost P fn Q .ret A W9) :
    bodyPost P fn Q .ret A (((((W.setCell ⟨q, 0, none⟩ a).setCell ⟨q, 1, none⟩ b).setCell ⟨q, 2, none⟩ c).setCell ⟨q, 3, none⟩ d).setCell ⟨q, 4, none⟩ e) := by
  have hs := sets5 (a := a) (b := b) (c := c) (d := d) (e := e) k0 k1 k2 k3 k4
  exact h _ rfl hs.1 hs.2.1 hs.2.2.1 hs.2.2.2.1 hs.2.2.2.2
theorem sets6 {W : World} {q : Nat} {a b c d e f a' b' c' d' e' f' : Value} (k0 : W.cell? ⟨q, 0, none⟩ = some a') (k1 : W.cell? ⟨q, 1, none⟩ = some b') (k2 : W.cell? ⟨q, 2, none⟩ = some c') (k3 : W.cell? ⟨q, 3, none⟩ = some d') (k4 : W.cell? ⟨q, 4, none⟩ = some e') (k5 : W.cell? ⟨q, 5, none⟩ = some f') :
    ((((((W.setCell ⟨q, 0, none⟩ a).setCell ⟨q, 1, none⟩ b).setCell ⟨q, 2, none⟩ c).setCell ⟨q, 3, none⟩ d).setCell ⟨q, 4, none⟩ e).setCell ⟨q, 5, none⟩ f).cell? ⟨q, 0, none⟩ = some a ∧ ((((((W.setCell ⟨q, 0, none⟩ a).setCell ⟨q, 1, none⟩ b).setCell ⟨q, 2, none⟩ c).setCell ⟨q, 3, none⟩ d).setCell ⟨q, 4, none⟩ e).setCell ⟨q, 5, none⟩ f).cell? ⟨q, 1, none⟩ = some b ∧ ((((((W.setCell ⟨q, 0, none⟩ a).setCell ⟨q, 1, none⟩ b).setCell ⟨q, 2, none⟩ c).setCell ⟨q, 3, none⟩ d).setCell ⟨q, 4, none⟩ e).setCell ⟨q, 5, none⟩ f).cell? ⟨q, 2, none⟩ = some c ∧ ((((((W.setCell ⟨q, 0, none⟩ a).setCell ⟨q, 1, none⟩ b).setCell ⟨q, 2, none⟩ c).setCell ⟨q, 3, none⟩ d).setCell ⟨q, 4, none⟩ e).setCell ⟨q, 5, none⟩ f).cell? ⟨q, 3, none⟩ = some d ∧ ((((((W.setCell ⟨q, 0, none⟩ a).setCell ⟨q, 1, none⟩ b).setCell ⟨q, 2, none⟩ c).setCell ⟨q, 3, none⟩ d).setCell ⟨q, 4, none⟩ e).setCell ⟨q, 5, none⟩ f).cell? ⟨q, 4, none⟩ = some e ∧ ((((((W.setCell ⟨q, 0, none⟩ a).setCell ⟨q, 1, none⟩ b).setCell ⟨q, 2, none⟩ c).setCell ⟨q, 3, none⟩ d).setCell ⟨q, 4, none⟩ e).setCell ⟨q, 5, none⟩ f).cell? ⟨q, 5, none⟩ = some f := by
  have ne : ∀ (w : World) (i j : Nat) (v : Value), i ≠ j → (w.setCell ⟨q, i, none⟩ v).cell? ⟨q, j, none⟩ = w.cell? ⟨q, j, none⟩ := fun w i j v h => World.cell?_setCell_other w ⟨q, i, none⟩ ⟨q, j, none⟩ v (fun e => h (by injection e))
  refine ⟨?_, ?_, ?_, ?_, ?_, ?_⟩
  · rw [ne _ 5 0 _ (by decide), ne _ 4 0 _ (by decide), ne _ 3 0 _ (by decide), ne _ 2 0 _ (by decide), ne _ 1 0 _ (by decide)]; exact cell?_set_same k0
  · rw [ne _ 5 1 _ (by decide), ne _ 4 1 _ (by decide), ne _ 3 1 _ (by decide), ne _ 2 1 _ (by decide)]; exact cell?_set_same ((ne _ 0 1 _ (by decide)).trans k1)
  · rw [ne _ 5 2 _ (by decide), ne _ 4 2 _ (by decide), ne _ 3 2 _ (by decide)]; exact cell?_set_same ((ne _ 1 2 _ (by decide)).trans ((ne _ 0 2 _ (by decide)).trans k2))
  · rw [ne _ 5 3 _ (by decide), ne _ 4 3 _ (by decide)]; exact cell?_set_same ((ne _ 2 3 _ (by decide)).trans ((ne _ 1 3 _ (by decide)).trans ((ne _ 0 3 _ (by decide)).trans k3)))
  · rw [ne _ 5 4 _ (by decide)]; exact cell?_set_same ((ne _ 3 4 _ (by decide)).trans ((ne _ 2 4 _ (by decide)).trans ((ne _ 1 4 _ (by decide)).trans ((ne _ 0 4 _ (by decide)).trans k4))))
  · exact cell?_set_same ((ne _ 4 5 _ (by decide)).trans ((ne _ 3 5 _ (by decide)).trans ((ne _ 2 5 _ (by decide)).trans ((ne _ 1 5 _ (by decide)).trans ((ne _ 0 5 _ (by decide)).trans k5)))))
theorem sets_ret6 {P : Program} {fn : Func} {Q : Ending → World → Prop} {A : Act} {W : World} (q : Nat) {a b c d e f a' b' c' d' e' f' : Value} (k0 : W.cell? ⟨q, 0, none⟩ = some a') (k1 : W.cell? ⟨q, 1, none⟩ = some b') (k2 : W.cell? ⟨q, 2, none⟩ = some c') (k3 : W.cell? ⟨q, 3, none⟩ = some d') (k4 : W.cell? ⟨q, 4, none⟩ = some e') (k5 : W.cell? ⟨q, 5, none⟩ = some f')
    (h : ∀ W9, ((((((W.setCell ⟨q, 0, none⟩ a).setCell ⟨q, 1, none⟩ b).setCell ⟨q, 2, none⟩ c).setCell ⟨q, 3, none⟩ d).setCell ⟨q, 4, none⟩ e).setCell ⟨q, 5, none⟩ f) = W9 → W9.cell? ⟨q, 0, none⟩ = some a → W9.cell? ⟨q, 1, none⟩ = some b → W9.cell? ⟨q, 2, none⟩ = some c → W9.cell? ⟨q, 3, none⟩ = some d → W9.cell? ⟨q, 4, none⟩ = some e → W9.cell? ⟨q, 5, none⟩ = some f → bodyPost P fn Q .ret A W9) :
    bodyPost P fn Q .ret A ((((((W.setCell ⟨q, 0, none⟩ a).setCell ⟨q, 1, none⟩ b).setCell ⟨q, 2, none⟩ c).setCell ⟨q, 3, none⟩ d).setCell ⟨q, 4, none⟩ e).setCell ⟨q, 5, none⟩ f) := by
  have hs := sets6 (a := a) (b := b) (c := c) (d := d) (e := e) (f := f) k0 k1 k2 k3 k4 k5
  exact h _ rfl hs.1 hs.2.1 hs.2.2.1 hs.2.2.2.1 hs.2.2.2.2.1 hs.2.2.2.2.2
end Go.Proofs.Ytlicnppfgfjkgaa
