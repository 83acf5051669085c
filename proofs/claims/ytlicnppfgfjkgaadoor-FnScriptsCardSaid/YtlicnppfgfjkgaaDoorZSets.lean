/-
  A reading kept where another block is written. No conditions.
-/
import Derived.Test.YtlicnppfgfjkgaaDoorZA
namespace Go.Proofs.YtlicnppfgfjkgaaDoor
open Go.RowKit
theorem Cod.setA {α : Type} {c : Cod α} {w : World} {vs : List Value} {x : α} {F : List Nat} (h : c.rep w vs x F) {p : Addr} (hp : p.block ∉ F) (v : Value) : c.rep (w.setCell p v) vs x F :=
  c.keep h fun b hb => Below.heap_setCell _ _ _ _ (fun e => hp (by rw [← e]; exact hb))
theorem Cod.allocA {α : Type} {c : Cod α} {w : World} {vs : List Value} {x : α} {F : List Nat} (h : c.rep w vs x F) (o : Obj) : c.rep (w.alloc o) vs x F :=
  Cod.bel h (bel_alloc (Below.refl _ _) o)
theorem Cod.drewA {α : Type} {c : Cod α} {w : World} {vs : List Value} {x : α} {F : List Nat} (h : c.rep w vs x F) : c.rep w.drew vs x F :=
  Cod.bel h (Below.refl _ _).drew
theorem Cod.drewNA {α : Type} {c : Cod α} {w : World} {vs : List Value} {x : α} {F : List Nat} (h : c.rep w vs x F) (n : Nat) : c.rep (w.drewN n) vs x F :=
  Cod.bel h (bel_drewN (Below.refl _ _) n)
end Go.Proofs.YtlicnppfgfjkgaaDoor
