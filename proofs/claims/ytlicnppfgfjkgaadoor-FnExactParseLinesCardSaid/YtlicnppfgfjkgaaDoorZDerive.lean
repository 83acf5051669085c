/-
  BytesToInts, DeriveFromString of the program and of the reference. No conditions.
-/
import Derived.Test.YtlicnppfgfjkgaaDoorZHash
namespace Go.Proofs.YtlicnppfgfjkgaaDoor
open Go.ChangeShapes Go.WideShapes Go.RowKit
set_option linter.unusedVariables false

def biTo (n : Int) (xs : List UInt8) (k : Nat) : List Int := n :: (xs.take k).map fun x => (x.toNat : Int)
theorem bytesInts_take {xs : List UInt8} {k : Nat} (h : k < xs.length) (n : Int) : biTo n xs k ++ [(xs[k].toNat : Int)] = biTo n xs (k + 1) := by
  unfold biTo
  rw [List.take_succ_eq_append_getElem h, List.map_append]; rfl
theorem src_int {w : World} {n : Int} (h : -9223372036854775808 ≤ n ∧ n ≤ 9223372036854775807) : AppSrc cI (w.alloc (.cells #[.int .i64 n] 3)) (.slice (some ⟨w.heap.size, 0, none⟩) 1 1) [n] [] :=
  ⟨_, 1, [.int .i64 n], rfl, repsI h, fun _ => ⟨_, rfl, fun j u hu => by cases j with | zero => (simp at hu; subst hu; rw [Addr.add_lit]; exact (Blk.new w 3 #[.int .i64 n]).cell 0) | succ j => simp at hu⟩⟩
end Go.Proofs.YtlicnppfgfjkgaaDoor
