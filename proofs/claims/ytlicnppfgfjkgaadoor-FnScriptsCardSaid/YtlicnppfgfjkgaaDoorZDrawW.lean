/-
  Words for walks along the cursor of the draws; paths, bytes. No conditions.
-/
import Derived.Test.YtlicnppfgfjkgaaDoorZDraw
import Derived.Test.YtlicnppfgfjkgaaDoorZDrawUsed
import Derived.Test.YtlicnppfgfjkgaaDoorZSets
namespace Go.Proofs.YtlicnppfgfjkgaaDoor
open Go.ChangeShapes Go.WideShapes Go.RowKit
set_option linter.unusedVariables false

/-- a call on the cursor p led from a to b -/
def Turn (p : Nat) (a b : World) : Prop := Only [p] a b
theorem Turn.mk {p : Nat} {a b : World} (h : Only [p] a b) : Turn p a b := h
theorem Turn.only {p : Nat} {a b w : World} (h : Turn p a b) (k : Only [p] w a) : Only [p] w b := k.trans h
theorem Turn.rep {α : Type} {c : Cod α} {p : Nat} {a b : World} {vs : List Value} {x : α} {F : List Nat} (h : Turn p a b) (hp : p ∉ F) (k : c.rep a vs x F) : c.rep b vs x F :=
  Cod.only k h fun y hy hm => hp (by simp at hm; exact hm ▸ hy)
theorem ocellA {W w1 : World} {p : Nat} {o : Obj} (hb : Only [p] (W.alloc o) w1) : (∀ b o, b < W.heap.size → ¬ b = p → w1.cell? ⟨b, o, none⟩ = W.cell? ⟨b, o, none⟩) ∧ (∀ b o, b < W.heap.size → ¬ b = p → w1.frozen? ⟨b, o, none⟩ = W.frozen? ⟨b, o, none⟩) ∧ W.heap.size + 1 ≤ w1.heap.size := by
  have h1 : Only [p] W w1 := (Only.alloc (Only.refl _ _) _).trans hb
  obtain ⟨c, f, -⟩ := ocell h1
  exact ⟨c, f, by have := hb.size; simpa using this⟩
theorem byte_nat {q : Int} (h0 : 0 ≤ q) (h1 : q ≤ 255) : (((UInt8.ofNat q.toNat).toNat : Nat) : Int) = q := by
  rw [UInt8.toNat_ofNat']; omega
end Go.Proofs.YtlicnppfgfjkgaaDoor
