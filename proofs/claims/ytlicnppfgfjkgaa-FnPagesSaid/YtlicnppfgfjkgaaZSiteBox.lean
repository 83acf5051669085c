/-
  A box that holds a site; where the draw of a site stands. No conditions.
-/
import Derived.Test.YtlicnppfgfjkgaaZDrawSite
namespace Go.Proofs.Ytlicnppfgfjkgaa
open Go.ChangeShapes Go.WideShapes Go.RowKit
set_option linter.unusedVariables false

structure SiteBox (w : World) (b : Nat) (nm : ByteArray) (ver : Int) (v2 : Value) (sh : Bool) : Prop where
  c0 : w.cell? ⟨b, 0, none⟩ = some (.string nm)
  c1 : w.cell? ⟨b, 1, none⟩ = some (.int .i64 ver)
  c2 : w.cell? ⟨b, 2, none⟩ = some v2
  c3 : w.cell? ⟨b, 3, none⟩ = some (.bool sh)
  fz : ∀ j, w.frozen? ⟨b, j, none⟩ = false
section
variable {w w' : World} {b : Nat} {nm : ByteArray} {ver : Int} {v2 : Value} {sh : Bool}
theorem SiteBox.block (h : SiteBox w b nm ver v2 sh) (hb : w'.heap[b]? = w.heap[b]?) : SiteBox w' b nm ver v2 sh :=
  ⟨(World.cell?_of_block (a := ⟨b, 0, none⟩) hb).trans h.c0, (World.cell?_of_block (a := ⟨b, 1, none⟩) hb).trans h.c1, (World.cell?_of_block (a := ⟨b, 2, none⟩) hb).trans h.c2, (World.cell?_of_block (a := ⟨b, 3, none⟩) hb).trans h.c3, fun j => (World.frozen?_of_block (a := ⟨b, j, none⟩) hb).trans (h.fz j)⟩
theorem SiteBox.set0 (h : SiteBox w b nm ver v2 sh) (v : ByteArray) : SiteBox (w.setCell ⟨b, 0, none⟩ (.string v)) b v ver v2 sh :=
  ⟨cell?_set_same h.c0, by rw [World.cell?_setCell_other _ ⟨b, 0, none⟩ ⟨b, 1, none⟩ _ (by simp)]; exact h.c1, by rw [World.cell?_setCell_other _ ⟨b, 0, none⟩ ⟨b, 2, none⟩ _ (by simp)]; exact h.c2, by rw [World.cell?_setCell_other _ ⟨b, 0, none⟩ ⟨b, 3, none⟩ _ (by simp)]; exact h.c3, fun j => (frozen?_set _ _ _ _).trans (h.fz j)⟩
theorem SiteBox.set1 (h : SiteBox w b nm ver v2 sh) (v : Int) : SiteBox (w.setCell ⟨b, 1, none⟩ (.int .i64 v)) b nm v v2 sh :=
  ⟨by rw [World.cell?_setCell_other _ ⟨b, 1, none⟩ ⟨b, 0, none⟩ _ (by simp)]; exact h.c0, cell?_set_same h.c1, by rw [World.cell?_setCell_other _ ⟨b, 1, none⟩ ⟨b, 2, none⟩ _ (by simp)]; exact h.c2, by rw [World.cell?_setCell_other _ ⟨b, 1, none⟩ ⟨b, 3, none⟩ _ (by simp)]; exact h.c3, fun j => (frozen?_set _ _ _ _).trans (h.fz j)⟩
theorem SiteBox.set2 (h : SiteBox w b nm ver v2 sh) (v : Value) : SiteBox (w.setCell ⟨b, 2, none⟩ v) b nm ver v sh :=
  ⟨by rw [World.cell?_setCell_other _ ⟨b, 2, none⟩ ⟨b, 0, none⟩ _ (by simp)]; exact h.c0, by rw [World.cell?_setCell_other _ ⟨b, 2, none⟩ ⟨b, 1, none⟩ _ (by simp)]; exact h.c1, cell?_set_same h.c2, by rw [World.cell?_setCell_other _ ⟨b, 2, none⟩ ⟨b, 3, none⟩ _ (by simp)]; exact h.c3, fun j => (frozen?_set _ _ _ _).trans (h.fz j)⟩
theorem SiteBox.new (w : World) (T : TypeId) (nm : ByteArray) (ver : Int) (v2 : Value) (sh : Bool) : SiteBox (w.alloc (.cells #[.string nm, .int .i64 ver, v2, .bool sh] T)) w.heap.size nm ver v2 sh :=
  ⟨(Blk.new w T _).cell 0, (Blk.new w T _).cell 1, (Blk.new w T _).cell 2, (Blk.new w T _).cell 3, fun j => (Blk.new w T _).frozen j⟩
end
/-- where the draw stands: the cursor p, the site's box xb, the result's box -/
structure SSt (p : Nat) (w0 : World) (xb : Nat) (W : World) (nm : ByteArray) (ver : Int) (v2 : Value) (xs : List ByteArray) (sh : Bool) : Prop where
  x : SiteBox W xb nm ver v2 sh
  q : SiteBox W w0.heap.size ⟨#[]⟩ 0 (.slice none 0 0) false
  own : Own cS 9 w0.heap.size W v2 xs []
  ne : ∀ g, ownB v2 = some g → g ≠ xb ∧ g ≠ w0.heap.size
  cur : Cur W p
  only : Only [p] w0 W
  lt : p < w0.heap.size ∧ w0.heap.size < xb ∧ xb < W.heap.size
section
variable {p : Nat} {w0 W W' : World} {xb : Nat} {nm : ByteArray} {ver : Int} {v2 : Value} {xs : List ByteArray} {sh : Bool}
theorem SSt.turn (h : SSt p w0 xb W nm ver v2 xs sh) (hO : Only [p] W W') (hc : Cur W' p) : SSt p w0 xb W' nm ver v2 xs sh := by
  obtain ⟨l1, l2, l3⟩ := h.lt
  exact ⟨h.x.block (hO.block _ l3 (by simp; omega)), h.q.block (hO.block _ (by omega) (by simp; omega)), h.own.turn (Turn.mk hO) l1, h.ne, hc, h.only.trans hO, l1, l2, Nat.lt_of_lt_of_le l3 hO.size⟩
theorem SSt.alloc (h : SSt p w0 xb W nm ver v2 xs sh) (o : Obj) : SSt p w0 xb (W.alloc o) nm ver v2 xs sh := by
  obtain ⟨l1, l2, l3⟩ := h.lt
  have hb := bel_alloc (Below.refl W.heap.size W) o
  exact ⟨h.x.block (hb.block _ l3), h.q.block (hb.block _ (by omega)), h.own.bel hb, h.ne, h.cur.alloc _, h.only.alloc _, l1, l2, by simp; omega⟩
theorem SSt.drew (h : SSt p w0 xb W nm ver v2 xs sh) : SSt p w0 xb W.drew nm ver v2 xs sh := by
  obtain ⟨l1, l2, l3⟩ := h.lt
  have hb := bel_drew (Below.refl W.heap.size W)
  exact ⟨h.x.block (hb.block _ l3), h.q.block (hb.block _ (by omega)), h.own.bel hb, h.ne, h.cur.drew, h.only.drew, l1, l2, l3⟩
theorem SSt.put (h : SSt p w0 xb W nm ver v2 xs sh) (i : Nat) (v : Value) {nm' : ByteArray} {ver' : Int} (hx : SiteBox (W.setCell ⟨xb, i, none⟩ v) xb nm' ver' v2 sh) : SSt p w0 xb (W.setCell ⟨xb, i, none⟩ v) nm' ver' v2 xs sh := by
  obtain ⟨l1, l2, l3⟩ := h.lt
  exact ⟨hx, h.q.block (Below.heap_setCell _ _ _ _ (show w0.heap.size ≠ xb by omega)), h.own.set_ (fun e => (h.ne _ e).1 rfl) _, h.ne, h.cur.set (q := ⟨xb, i, none⟩) (show p < xb by omega) _, h.only.setNew (show w0.heap.size ≤ xb by omega) _, l1, l2, by simpa using l3⟩
/-- the row appended to, and the new row stored -/
theorem SSt.app {w5 : World} {v5 : Value} {ys : List ByteArray} (h : SSt p w0 xb W nm ver v2 xs sh) (hg : W.grownBy w5 (ownB v2)) (ho : Own cS 9 w0.heap.size w5 v5 ys []) (hat : ∀ g, ownB v5 = some g → ownB v2 = some g ∨ W.heap.size ≤ g) :
    SSt p w0 xb (w5.setCell ⟨xb, 2, none⟩ v5) nm ver v5 ys sh := by
  obtain ⟨l1, l2, l3⟩ := h.lt
  have hne5 : ∀ g, ownB v5 = some g → g ≠ xb ∧ g ≠ w0.heap.size := fun g hv => by
    rcases hat g hv with h1 | h1
    · exact h.ne g h1
    · exact ⟨by omega, by omega⟩
  have hx5 : SiteBox w5 xb nm ver v2 sh := h.x.block (hg.block _ l3 (fun e => (h.ne xb e.symm).1 rfl))
  have hq5 : SiteBox w5 w0.heap.size ⟨#[]⟩ 0 (.slice none 0 0) false := h.q.block (hg.block _ (by omega) (fun e => (h.ne _ e.symm).2 rfl))
  have hlo := h.own.lt
  have hc5 : Cur w5 p := h.cur.grown hg (fun g hg => by have := (hlo g hg).1; omega)
  have ho5 : Only [p] w0 w5 := h.only.grown hg (fun g hg => (hlo g hg).1)
  exact ⟨hx5.set2 v5, hq5.block (Below.heap_setCell _ _ _ _ (show w0.heap.size ≠ xb by omega)), ho.set_ (fun e => (hne5 _ e).1 rfl) _, hne5, hc5.set (q := ⟨xb, 2, none⟩) (show p < xb by omega) _, ho5.setNew (show w0.heap.size ≤ xb by omega) _, l1, l2, by have := hg.size; simp; omega⟩
end
def SmallSite (x : TSite) : Prop := x.name.size ≤ 100 ∧ (-1 ≤ x.ver ∧ x.ver ≤ 1000000000001) ∧ x.files.length ≤ 7 ∧ ∀ f, f ∈ x.files → f.size ≤ 100
end Go.Proofs.Ytlicnppfgfjkgaa
