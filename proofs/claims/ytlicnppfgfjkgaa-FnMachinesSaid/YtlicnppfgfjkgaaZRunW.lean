/-
  RunMachine of the program and of the reference: words. No conditions.
-/
import Derived.Test.YtlicnppfgfjkgaaZA
import Derived.Test.YtlicnppfgfjkgaaZSetRet2
import Derived.Test.YtlicnppfgfjkgaaZRegT
namespace Go.Proofs.Ytlicnppfgfjkgaa
open Go.ChangeShapes Go.WideShapes Go.RowKit
set_option linter.unusedVariables false

/-- the box of a machine that runs -/
structure RunBox (w : World) (b : Nat) (v0 v2 : Value) (pc st : Int) : Prop where
  e0 : w.cell? ⟨b, 0, none⟩ = some v0
  e1 : w.cell? ⟨b, 1, none⟩ = some (.int .i64 pc)
  e2 : w.cell? ⟨b, 2, none⟩ = some v2
  e3 : w.cell? ⟨b, 3, none⟩ = some (.int .i64 st)
  e4 : w.cell? ⟨b, 4, none⟩ = some (.bool false)
  e5 : w.cell? ⟨b, 5, none⟩ = some (.bool false)
  f1 : w.frozen? ⟨b, 1, none⟩ = false
  f3 : w.frozen? ⟨b, 3, none⟩ = false
  f4 : w.frozen? ⟨b, 4, none⟩ = false
  f5 : w.frozen? ⟨b, 5, none⟩ = false
theorem RunBox.of_block {w w' : World} {b : Nat} {v0 v2 : Value} {pc st : Int} (h : RunBox w b v0 v2 pc st) (hb : w'.heap[b]? = w.heap[b]?) : RunBox w' b v0 v2 pc st :=
  ⟨(World.cell?_of_block (a := ⟨b, 0, none⟩) hb).trans h.e0, (World.cell?_of_block (a := ⟨b, 1, none⟩) hb).trans h.e1, (World.cell?_of_block (a := ⟨b, 2, none⟩) hb).trans h.e2, (World.cell?_of_block (a := ⟨b, 3, none⟩) hb).trans h.e3, (World.cell?_of_block (a := ⟨b, 4, none⟩) hb).trans h.e4, (World.cell?_of_block (a := ⟨b, 5, none⟩) hb).trans h.e5,
   (World.frozen?_of_block (a := ⟨b, 1, none⟩) hb).trans h.f1, (World.frozen?_of_block (a := ⟨b, 3, none⟩) hb).trans h.f3, (World.frozen?_of_block (a := ⟨b, 4, none⟩) hb).trans h.f4, (World.frozen?_of_block (a := ⟨b, 5, none⟩) hb).trans h.f5⟩
/-- two boxes of results, as they were made -/
structure RunRes (w : World) (b c : Nat) : Prop where
  p0 : w.cell? ⟨b, 0, none⟩ = some (.slice none 0 0)
  q0 : w.frozen? ⟨b, 0, none⟩ = false
  p1 : w.cell? ⟨b, 1, none⟩ = some (.int .i64 0)
  q1 : w.frozen? ⟨b, 1, none⟩ = false
  p2 : w.cell? ⟨b, 2, none⟩ = some (.slice none 0 0)
  q2 : w.frozen? ⟨b, 2, none⟩ = false
  p3 : w.cell? ⟨b, 3, none⟩ = some (.int .i64 0)
  q3 : w.frozen? ⟨b, 3, none⟩ = false
  p4 : w.cell? ⟨b, 4, none⟩ = some (.bool false)
  q4 : w.frozen? ⟨b, 4, none⟩ = false
  p5 : w.cell? ⟨b, 5, none⟩ = some (.bool false)
  q5 : w.frozen? ⟨b, 5, none⟩ = false
  r0 : w.cell? ⟨c, 0, none⟩ = some (.int .i64 0)
  s0 : w.frozen? ⟨c, 0, none⟩ = false
  r1 : w.cell? ⟨c, 1, none⟩ = some (.int .i64 0)
  s1 : w.frozen? ⟨c, 1, none⟩ = false
  r2 : w.cell? ⟨c, 2, none⟩ = some (.int .i64 0)
  s2 : w.frozen? ⟨c, 2, none⟩ = false
  r3 : w.cell? ⟨c, 3, none⟩ = some (.string ⟨#[]⟩)
  s3 : w.frozen? ⟨c, 3, none⟩ = false
  r4 : w.cell? ⟨c, 4, none⟩ = some (.int .i64 0)
  s4 : w.frozen? ⟨c, 4, none⟩ = false
theorem RunRes.of_block {w w' : World} {b c : Nat} (h : RunRes w b c) (hb : w'.heap[b]? = w.heap[b]?) (hc : w'.heap[c]? = w.heap[c]?) : RunRes w' b c :=
  ⟨(World.cell?_of_block (a := ⟨b, 0, none⟩) hb).trans h.p0, (World.frozen?_of_block (a := ⟨b, 0, none⟩) hb).trans h.q0, (World.cell?_of_block (a := ⟨b, 1, none⟩) hb).trans h.p1, (World.frozen?_of_block (a := ⟨b, 1, none⟩) hb).trans h.q1, (World.cell?_of_block (a := ⟨b, 2, none⟩) hb).trans h.p2, (World.frozen?_of_block (a := ⟨b, 2, none⟩) hb).trans h.q2, (World.cell?_of_block (a := ⟨b, 3, none⟩) hb).trans h.p3, (World.frozen?_of_block (a := ⟨b, 3, none⟩) hb).trans h.q3, (World.cell?_of_block (a := ⟨b, 4, none⟩) hb).trans h.p4, (World.frozen?_of_block (a := ⟨b, 4, none⟩) hb).trans h.q4, (World.cell?_of_block (a := ⟨b, 5, none⟩) hb).trans h.p5, (World.frozen?_of_block (a := ⟨b, 5, none⟩) hb).trans h.q5,
   (World.cell?_of_block (a := ⟨c, 0, none⟩) hc).trans h.r0, (World.frozen?_of_block (a := ⟨c, 0, none⟩) hc).trans h.s0, (World.cell?_of_block (a := ⟨c, 1, none⟩) hc).trans h.r1, (World.frozen?_of_block (a := ⟨c, 1, none⟩) hc).trans h.s1, (World.cell?_of_block (a := ⟨c, 2, none⟩) hc).trans h.r2, (World.frozen?_of_block (a := ⟨c, 2, none⟩) hc).trans h.s2, (World.cell?_of_block (a := ⟨c, 3, none⟩) hc).trans h.r3, (World.frozen?_of_block (a := ⟨c, 3, none⟩) hc).trans h.s3, (World.cell?_of_block (a := ⟨c, 4, none⟩) hc).trans h.r4, (World.frozen?_of_block (a := ⟨c, 4, none⟩) hc).trans h.s4⟩
theorem slice_addr {g o g' o' : Nat} {n m n' m' : Nat} (h : (some ⟨g, o, none⟩ : Option Addr) = some ⟨g', o', none⟩) : g' = g ∧ o' = o := by
  injection h with e; injection e with e1 e2; exact ⟨e1.symm, e2.symm⟩
theorem setNe {W : World} {b c i j : Nat} {v u : Value} (h : b ≠ c) (k : W.cell? ⟨c, j, none⟩ = some u) : (W.setCell ⟨b, i, none⟩ v).cell? ⟨c, j, none⟩ = some u :=
  (World.cell?_setCell_other W ⟨b, i, none⟩ ⟨c, j, none⟩ v (fun e => h (by injection e))).trans k
theorem RunBox.setPc {W : World} {b : Nat} {v0 v2 : Value} {pc st : Int} (h : RunBox W b v0 v2 pc st) (n : Int) : RunBox (W.setCell ⟨b, 1, none⟩ (.int .i64 n)) b v0 v2 n st := by
  have ne : ∀ (j : Nat), 1 ≠ j → (W.setCell ⟨b, 1, none⟩ (.int .i64 n)).cell? ⟨b, j, none⟩ = W.cell? ⟨b, j, none⟩ := fun j hj => World.cell?_setCell_other W ⟨b, 1, none⟩ ⟨b, j, none⟩ _ (fun e => hj (by injection e))
  exact ⟨(ne 0 (by decide)).trans h.e0, cell?_set_same h.e1, (ne 2 (by decide)).trans h.e2, (ne 3 (by decide)).trans h.e3, (ne 4 (by decide)).trans h.e4, (ne 5 (by decide)).trans h.e5, (frozen?_set _ _ _ _).trans h.f1, (frozen?_set _ _ _ _).trans h.f3, (frozen?_set _ _ _ _).trans h.f4, (frozen?_set _ _ _ _).trans h.f5⟩
theorem run_out (sc : List TIns) (f : Nat) (pc : Int) (rg : List Int) (st : Int) (h : inR pc 0 ((sc.length : Int) - 1) = false) : runLoop sc f pc rg st = (⟨sc, pc, rg, st, true, false⟩, ask0) := by
  have h1 := inR_false h
  by_cases hp : pc < 0
  · exact run_low _ _ _ _ _ hp
  · exact run_high _ _ _ _ _ (by omega)
end Go.Proofs.Ytlicnppfgfjkgaa
