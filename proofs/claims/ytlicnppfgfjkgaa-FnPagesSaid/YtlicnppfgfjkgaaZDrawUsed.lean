/-
  The draw of the versions used. No conditions.
-/
import Derived.Test.YtlicnppfgfjkgaaZB
namespace Go.Proofs.Ytlicnppfgfjkgaa
open Go.ChangeShapes Go.WideShapes Go.RowKit
set_option linter.unusedVariables false

theorem Only.grown {F : List Nat} {a b c : World} {row : Option Nat} (h : Only F a b) (hg : b.grownBy c row) (hr : ∀ g, row = some g → a.heap.size ≤ g) : Only F a c :=
  ⟨hg.os.trans h.os, hg.tape.trans h.tape, hg.output.trans h.output, Nat.le_trans h.size hg.size, fun k hk hn => (hg.block k (Nat.lt_of_lt_of_le hk h.size) (fun e => by have := hr k e.symm; omega)).trans (h.block k hk hn)⟩
theorem Cur.grown {w c : World} {p : Nat} {row : Option Nat} (h : Cur w p) (hg : w.grownBy c row) (hr : ∀ g, row = some g → p < g) : Cur c p := by
  obtain ⟨A, n, cp, xs, F, i, hh, h0, h1, h2, f1, f2, hrp, hp, hl, hi, hn⟩ := h
  have hb : c.heap[p]? = w.heap[p]? := hg.block p hl (fun e => by have := hr p e.symm; omega)
  exact ⟨A, n, cp, xs, F, i, hh, (World.cell?_of_block hb).trans h0, (World.cell?_of_block hb).trans h1, (World.cell?_of_block hb).trans h2, (World.frozen?_of_block hb).trans f1, (World.frozen?_of_block hb).trans f2, Cod.keep _ hrp fun b hm => hg.block b (Cod.lt _ hrp b hm) (fun e => by have h8 := hr b e.symm; have h9 := hp b hm; omega), hp, Nat.lt_of_lt_of_le hl hg.size, hi, hn⟩
end Go.Proofs.Ytlicnppfgfjkgaa
