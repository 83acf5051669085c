/-
  The laws' helpers: big, at. No conditions.
-/
import Derived.Test.YtlicnppfgfjkgaaZA
import Derived.LoopTactic
namespace Go.Proofs.Ytlicnppfgfjkgaa
open Go.ChangeShapes Go.WideShapes Go.RowKit
set_option linter.unusedVariables false

/-- a byte of the input, or a substitute -/
def atC (xs : List UInt8) (i : Nat) : Int := match xs[i]? with
  | some c => (c.toNat : Int)
  | none => (((i * 31 + xs.length * 7) % 256 : Nat) : Int)
theorem atC_range (xs : List UInt8) (i : Nat) : 0 ≤ atC xs i ∧ atC xs i ≤ 255 := by
  unfold atC
  cases xs[i]? with
  | none => simp only; omega
  | some c => have := c.toNat_lt; simp only; omega
set_option maxHeartbeats 1000000 in
theorem at_any (A : Option Addr) (n cp : Nat) (xs : List UInt8) (F : List Nat) (i : Nat) (w : World) (h : cUS.rep w [.slice A n cp] xs F) (hn : n ≤ 1048576) (hi : i ≤ 1000) :
    Calls Try.prog 15 #[.slice A n cp, .int .i64 i] w fun e w' => e = .returned (.int .i64 (atC xs i)) ∧ w = w' := by
  obtain ⟨hxn, hcp, hm⟩ := cL_len h
  unfold maxLen at hm
  by_cases hlt : i < n
  · have hix : i < xs.length := by omega
    obtain ⟨g, o, vs, F3, rfl, hgF, ⟨rfl, -⟩, -, hc⟩ := cL_get (hw := by decide) (hw2 := by decide) h hix
    have q0 := (hc 0 _ rfl).1
    rw [show cU.wd = 1 from rfl, Nat.mul_one, Nat.add_zero] at q0
    have e : atC xs i = (xs[i].toNat : Int) := by unfold atC; rw [List.getElem?_eq_getElem hix]
    rw [e]
    have hl := xs[i].toNat_lt
    have hki : (i : Int) < (n : Int) := by omega
    clear hc h e
    go_enter Try.func15, Try.ntmps15
    go_wp2
    go_ret
    simp
  · have e : atC xs i = (((i * 31 + xs.length * 7) % 256 : Nat) : Int) := by unfold atC; rw [List.getElem?_eq_none (by omega)]
    rw [e, ← hxn]
    have hki : ¬ (i : Int) < (n : Int) := by omega
    clear h e
    go_enter Try.func15, Try.ntmps15
    go_wp2
    go_ret
    refine ⟨ret_int ?_, rfl⟩
    omega
set_option maxHeartbeats 1000000 in
theorem big_any (A : Option Addr) (n cp : Nat) (w : World) : Calls Try.prog 10 #[.slice A n cp] w fun e w' => e = .returned (.bool (decide ((1048576 : Int) < n))) ∧ w = w' := by
  go_enter Try.func10, Try.ntmps10
  go_wp2
  go_ret
  simp
end Go.Proofs.Ytlicnppfgfjkgaa
