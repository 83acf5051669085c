/-
  laws.contains at ints. No conditions.
-/
import Derived.Test.YteipaolcmjfhdaaActFn
import Derived.LoopTactic
import Derived.StillTailTactics
namespace Go.Proofs.Yteipaolcmjfhdaa
open Go.ChangeShapes Go.WideShapes Go.RowKit
set_option linter.unusedVariables false

set_option maxRecDepth 100000 in
set_option maxHeartbeats 4000000 in
theorem lawContains_any (A : Value) (xs : List Int) (v : Int) (F : List Nat) (w : World) (h : cIS.rep w [A] xs F) :
    Calls Try.prog 32 #[A, .int .i64 v] w fun e w' => e = .returned (.bool (hasInt xs v)) ∧ w = w' := by
  obtain ⟨A, cp, rfl⟩ := cL_form h
  obtain ⟨-, hcp, hm⟩ := cL_len h
  obtain ⟨n, hxn⟩ : ∃ n, xs.length = n := ⟨_, rfl⟩
  have HN := Lib.hid hxn
  rw [hxn] at hcp ⊢
  clear hxn
  unfold maxLen at hm
  go_enter Try.func32, Try.ntmps32
  go_wp2
  go_loop [5] (fun i => ∃ k : Nat, k ≤ n ∧ i = .int .i64 k ∧ noneTo (fun y => eqI v y) xs k = true) (fun i => n - (intOf i).toNat)
  case atStart => exact ⟨0, Nat.zero_le _, rfl, noneTo_zero _ _⟩
  case round =>
    obtain ⟨k, hk, rfl, hno⟩ := hrel
    have HO := Lib.hid hno
    clear hno
    by_cases hlt : k < n
    · have hkx : k < xs.length := by rw [HN.out]; exact hlt
      obtain ⟨g, o, vs, F1, rfl, hgF, hx, -, hc⟩ := cL_get (hw := by decide) (hw2 := by decide) h hkx
      obtain ⟨rfl, -, hk1⟩ := hx
      have q0 : w.cell? ⟨g, o + k, none⟩ = some _ := (by have h1 := (hc 0 _ rfl).1; rwa [show (cI).wd = 1 from rfl, Nat.mul_one, Nat.add_zero] at h1)
      clear hc hk1
      by_cases he : (xs[k] == v) = true
      · go_wp2
        go_ret
        exact ⟨ret_bool (any_hit (fun y => eqI v y) xs k hkx (by rw [eqI_comm]; exact he)).symm, rfl⟩
      · rw [Bool.not_eq_true] at he
        go_wp2
        go_round
        case rel => exact ⟨k + 1, by omega, by go_num, noneTo_succ _ xs k hkx HO.out (by rw [eqI_comm]; exact he)⟩
        case measure => simp [intOf]; omega
    · obtain rfl : k = n := by omega
      go_wp2
      go_ret
      exact ⟨ret_bool (any_miss _ xs (by rw [HN.out]; exact HO.out)).symm, rfl⟩
end Go.Proofs.Yteipaolcmjfhdaa
