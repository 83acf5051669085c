/-
  The laws' helpers: big, at. No conditions.
-/
import Derived.Test.YtlicnppfgfjkgaaDoorZA
import Derived.LoopTactic
namespace Go.Proofs.YtlicnppfgfjkgaaDoor
open Go.ChangeShapes Go.WideShapes Go.RowKit
set_option linter.unusedVariables false

/-- a byte of the input, or a substitute -/
def atC (xs : List UInt8) (i : Nat) : Int := match xs[i]? with
  | some c => (c.toNat : Int)
  | none => (((i * 31 + xs.length * 7) % 256 : Nat) : Int)
theorem atC_range (xs : List UInt8) (i : Nat) : 0 ≤ atC xs i ∧ atC xs i ≤ 255 := by
  unfold atC
  cases xs[i]? with
  | none => simp only; omega
  | some c => have := c.toNat_lt; simp only; omega
set_option maxHeartbeats 1000000 in
theorem big_any (A : Option Addr) (n cp : Nat) (w : World) : Calls Tryd.prog 7 #[.slice A n cp] w fun e w' => e = .returned (.bool (decide ((1048576 : Int) < n))) ∧ w = w' := by
  go_enter Tryd.func7, Tryd.ntmps7
  go_wp2
  go_ret
  simp
end Go.Proofs.YtlicnppfgfjkgaaDoor
