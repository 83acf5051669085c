/-
  DrawScript of the reference. No conditions but the input's length.
-/
import Derived.Test.YtlicnppfgfjkgaaZDrawScr
namespace Go.Proofs.Ytlicnppfgfjkgaa
open Go.ChangeShapes Go.WideShapes Go.RowKit
set_option linter.unusedVariables false

theorem drawScript_any (v : Value) (xs : List UInt8) (F : List Nat) (w : World) (h : cUS.rep w [v] xs F) (hn : xs.length ≤ 1048576) :
    Calls Try.prog 11 #[v] w fun e w' => ∃ (u : Value) (ys : List TIns) (G : List Nat), e = .returned u ∧ Below w.heap.size w w' ∧ cInsS.rep w' [u] ys G ∧ Fresh w.heap.size G ∧ SmallScript ys := by
  go_enter Try.func11, Try.ntmps11
  go_wp2_with fail
  refine (l1New_any v xs F _ h hn).mono ?_
  rintro e w1 ⟨rfl, hb1, hc1⟩
  have hz1 := hb1.size
  go_wp2_with fail
  refine (l13Script_any _ _ hc1).mono ?_
  rintro e w2 ⟨v2, rfl, ⟨ys, hown, hsm⟩, ho2, hc2⟩
  have hz2 := ho2.size
  obtain ⟨G, hr2, hf2, -⟩ := hown.fresh (hw := by decide) (hw2 := by decide)
  have hB2 : Below w.heap.size w w2 := ⟨ho2.os.trans hb1.os, ho2.tape.trans hb1.tape, ho2.output.trans hb1.output, by omega, fun b hb => (ho2.block b (by omega) (by simp; omega)).trans (hb1.block b hb)⟩
  go_wp2_with fail
  go_ret
  exact ⟨_, ys, G, rfl, hB2, hr2, hf2.mono hz1, hsm⟩
end Go.Proofs.Ytlicnppfgfjkgaa
