/-
  A reading kept where another block is written. No conditions.
-/
import Derived.Test.YtamcoplnpoddbaaMem
namespace Go.Proofs.Ytamcoplnpoddbaa
open Go.RowKit
theorem Cod.setA {α : Type} {c : Cod α} {w : World} {vs : List Value} {x : α} {F : List Nat} (h : c.rep w vs x F) {p : Addr} (hp : p.block ∉ F) (v : Value) : c.rep (w.setCell p v) vs x F :=
  c.keep h fun b hb => Below.heap_setCell _ _ _ _ (fun e => hp (by rw [← e]; exact hb))
end Go.Proofs.Ytamcoplnpoddbaa
