/-
  A box that holds an instruction. No conditions.
-/
import Derived.Test.YtlicnppfgfjkgaaZA
namespace Go.Proofs.Ytlicnppfgfjkgaa
open Go.RowKit
set_option linter.unusedVariables false

/-- a box that holds an instruction -/
structure InsBox (w : World) (b : Nat) (k r n : Int) (t : ByteArray) : Prop where
  c0 : w.cell? ⟨b, 0, none⟩ = some (.int .i64 k)
  c1 : w.cell? ⟨b, 1, none⟩ = some (.int .i64 r)
  c2 : w.cell? ⟨b, 2, none⟩ = some (.int .i64 n)
  c3 : w.cell? ⟨b, 3, none⟩ = some (.string t)
  f0 : w.frozen? ⟨b, 0, none⟩ = false
  f1 : w.frozen? ⟨b, 1, none⟩ = false
  f2 : w.frozen? ⟨b, 2, none⟩ = false
  f3 : w.frozen? ⟨b, 3, none⟩ = false
theorem InsBox.block {w w' : World} {b : Nat} {k r n : Int} {t : ByteArray} (h : InsBox w b k r n t) (hb : w'.heap[b]? = w.heap[b]?) : InsBox w' b k r n t :=
  ⟨(World.cell?_of_block (a := ⟨b, 0, none⟩) hb).trans h.c0, (World.cell?_of_block (a := ⟨b, 1, none⟩) hb).trans h.c1, (World.cell?_of_block (a := ⟨b, 2, none⟩) hb).trans h.c2, (World.cell?_of_block (a := ⟨b, 3, none⟩) hb).trans h.c3,
    (World.frozen?_of_block (a := ⟨b, 0, none⟩) hb).trans h.f0, (World.frozen?_of_block (a := ⟨b, 1, none⟩) hb).trans h.f1, (World.frozen?_of_block (a := ⟨b, 2, none⟩) hb).trans h.f2, (World.frozen?_of_block (a := ⟨b, 3, none⟩) hb).trans h.f3⟩
theorem InsBox.set0 {w : World} {b : Nat} {k r n : Int} {t : ByteArray} (h : InsBox w b k r n t) (v : Int) : InsBox (w.setCell ⟨b, 0, none⟩ (.int .i64 v)) b v r n t :=
  ⟨cell?_set_same h.c0, by rw [World.cell?_setCell_other _ ⟨b, 0, none⟩ ⟨b, 1, none⟩ _ (by simp)]; exact h.c1, by rw [World.cell?_setCell_other _ ⟨b, 0, none⟩ ⟨b, 2, none⟩ _ (by simp)]; exact h.c2, by rw [World.cell?_setCell_other _ ⟨b, 0, none⟩ ⟨b, 3, none⟩ _ (by simp)]; exact h.c3,
    (frozen?_set _ _ _ _).trans h.f0, (frozen?_set _ _ _ _).trans h.f1, (frozen?_set _ _ _ _).trans h.f2, (frozen?_set _ _ _ _).trans h.f3⟩
theorem InsBox.set1 {w : World} {b : Nat} {k r n : Int} {t : ByteArray} (h : InsBox w b k r n t) (v : Int) : InsBox (w.setCell ⟨b, 1, none⟩ (.int .i64 v)) b k v n t :=
  ⟨by rw [World.cell?_setCell_other _ ⟨b, 1, none⟩ ⟨b, 0, none⟩ _ (by simp)]; exact h.c0, cell?_set_same h.c1, by rw [World.cell?_setCell_other _ ⟨b, 1, none⟩ ⟨b, 2, none⟩ _ (by simp)]; exact h.c2, by rw [World.cell?_setCell_other _ ⟨b, 1, none⟩ ⟨b, 3, none⟩ _ (by simp)]; exact h.c3,
    (frozen?_set _ _ _ _).trans h.f0, (frozen?_set _ _ _ _).trans h.f1, (frozen?_set _ _ _ _).trans h.f2, (frozen?_set _ _ _ _).trans h.f3⟩
theorem InsBox.set2 {w : World} {b : Nat} {k r n : Int} {t : ByteArray} (h : InsBox w b k r n t) (v : Int) : InsBox (w.setCell ⟨b, 2, none⟩ (.int .i64 v)) b k r v t :=
  ⟨by rw [World.cell?_setCell_other _ ⟨b, 2, none⟩ ⟨b, 0, none⟩ _ (by simp)]; exact h.c0, by rw [World.cell?_setCell_other _ ⟨b, 2, none⟩ ⟨b, 1, none⟩ _ (by simp)]; exact h.c1, cell?_set_same h.c2, by rw [World.cell?_setCell_other _ ⟨b, 2, none⟩ ⟨b, 3, none⟩ _ (by simp)]; exact h.c3,
    (frozen?_set _ _ _ _).trans h.f0, (frozen?_set _ _ _ _).trans h.f1, (frozen?_set _ _ _ _).trans h.f2, (frozen?_set _ _ _ _).trans h.f3⟩
theorem InsBox.set3 {w : World} {b : Nat} {k r n : Int} {t : ByteArray} (h : InsBox w b k r n t) (v : ByteArray) : InsBox (w.setCell ⟨b, 3, none⟩ (.string v)) b k r n v :=
  ⟨by rw [World.cell?_setCell_other _ ⟨b, 3, none⟩ ⟨b, 0, none⟩ _ (by simp)]; exact h.c0, by rw [World.cell?_setCell_other _ ⟨b, 3, none⟩ ⟨b, 1, none⟩ _ (by simp)]; exact h.c1, by rw [World.cell?_setCell_other _ ⟨b, 3, none⟩ ⟨b, 2, none⟩ _ (by simp)]; exact h.c2, cell?_set_same h.c3,
    (frozen?_set _ _ _ _).trans h.f0, (frozen?_set _ _ _ _).trans h.f1, (frozen?_set _ _ _ _).trans h.f2, (frozen?_set _ _ _ _).trans h.f3⟩
theorem InsBox.new (w : World) (T : TypeId) (k r n : Int) (t : ByteArray) : InsBox (w.alloc (.cells #[.int .i64 k, .int .i64 r, .int .i64 n, .string t] T)) w.heap.size k r n t :=
  ⟨(Blk.new w T _).cell 0, (Blk.new w T _).cell 1, (Blk.new w T _).cell 2, (Blk.new w T _).cell 3, (Blk.new w T _).frozen 0, (Blk.new w T _).frozen 1, (Blk.new w T _).frozen 2, (Blk.new w T _).frozen 3⟩
end Go.Proofs.Ytlicnppfgfjkgaa
