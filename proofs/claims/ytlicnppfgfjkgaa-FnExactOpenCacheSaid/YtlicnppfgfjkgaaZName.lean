/-
  impl.InRange, spec.l1In, impl.isWord, impl.IsName, spec.IsName: what they return, for all arguments. No conditions but that a string is one of Go's.
-/
import Derived.Test.YtlicnppfgfjkgaaRows
import Derived.Test.YtlicnppfgfjkgaaZNameL
namespace Go.Proofs.Ytlicnppfgfjkgaa
open Go.RowKit

theorem inRange_any (n lo hi : Int) (w : World) : Calls Try.prog 66 #[.int .i64 n, .int .i64 lo, .int .i64 hi] w fun e w' => e = .returned (.bool (inR n lo hi)) ∧ w = w' := by
  go_enter Try.func66, Try.ntmps66
  go_wp2
  all_goals go_ret
  all_goals refine ⟨ret_bool ?_, rfl⟩
  all_goals (rw [Bool.eq_iff_iff]; simp [inR]; try omega)
theorem l1In_any (n lo hi : Int) (w : World) : Calls Try.prog 83 #[.int .i64 n, .int .i64 lo, .int .i64 hi] w fun e w' => e = .returned (.bool (inR n lo hi)) ∧ w = w' := by
  go_enter Try.func83, Try.ntmps83
  go_wp2
  all_goals go_ret
  all_goals refine ⟨ret_bool ?_, rfl⟩
  all_goals (rw [Bool.eq_iff_iff]; simp [inR]; try omega)

set_option maxHeartbeats 400000 in
theorem isWord_any (s : ByteArray) (most : Int) (w : World) (hs : s.size ≤ maxLen) :
    Calls Try.prog 129 #[.string s, .int .i64 most, .bool false] w fun e w' => e = .returned (.bool (isWord s most)) ∧ w = w' := by
  unfold maxLen at hs
  go_enter Try.func129, Try.ntmps129
  go_wp2
  go_loop [7] (fun i => ∃ k : Nat, k ≤ s.size ∧ i = .int .i64 k ∧ lowTo s k = true) (fun i => s.size - (intOf i).toNat)
  case atStart => exact ⟨0, Nat.zero_le _, rfl, lowTo_zero s⟩
  case round =>
    obtain ⟨k, hk, rfl, hl⟩ := hrel
    have HL := Lib.hid hl
    clear hl
    by_cases hlt : k < s.size
    · have HS := Lib.hid (lowTo_succ s k hlt)
      by_cases c1 : (s[k].toNat : Int) < 97
      · go_wp2_with (first | (go_at_call 66; refine (inRange_any _ _ _ _).mono ?_; rintro e w1 ⟨rfl, rfl⟩))
        go_ret
        exact ⟨ret_bool (isWord_bad hlt (isLow_lt c1)).symm, rfl⟩
      · by_cases c2 : (122 : Int) < s[k].toNat
        · have c3 : (97 : Int) ≤ s[k].toNat := by omega
          have c5 : decide ((s[k].toNat : Int) ≤ 122) = false := by simp; omega
          go_wp2_with (first | (go_at_call 66; refine (inRange_any _ _ _ _).mono ?_; rintro e w1 ⟨rfl, rfl⟩))
          go_ret
          exact ⟨ret_bool (isWord_bad hlt (isLow_gt c2)).symm, rfl⟩
        · have c3 : (97 : Int) ≤ s[k].toNat := by omega
          have c4 : (s[k].toNat : Int) ≤ 122 := by omega
          go_wp2_with (first | (go_at_call 66; refine (inRange_any _ _ _ _).mono ?_; rintro e w1 ⟨rfl, rfl⟩))
          go_round
          case rel => exact ⟨k + 1, by omega, by go_num, by rw [HS.out, HL.out, isLow_mk c3 c4]; rfl⟩
          case measure => simp [intOf]; omega
    · obtain rfl : k = s.size := by omega
      go_wp2_with (first | (go_at_call 66; refine (inRange_any _ _ _ _).mono ?_; rintro e w1 ⟨rfl, rfl⟩))
      go_ret
      exact ⟨ret_bool (isWord_end HL.out).symm, rfl⟩
theorem implName_any (s : ByteArray) (w : World) (hs : s.size ≤ maxLen) : Calls Try.prog 74 #[.string s] w fun e w' => e = .returned (.bool (isName s)) ∧ w = w' := by
  go_enter Try.func74, Try.ntmps74
  go_wp2_with (first | (go_at_call 129; refine (isWord_any _ _ _ hs).mono ?_; rintro e w1 ⟨rfl, rfl⟩))
  go_ret
  exact ⟨rfl, rfl⟩
set_option maxHeartbeats 400000 in
theorem specName_any (s : ByteArray) (w : World) (hs : s.size ≤ maxLen) : Calls Try.prog 126 #[.string s] w fun e w' => e = .returned (.bool (isName s)) ∧ w = w' := by
  unfold maxLen at hs
  go_enter Try.func126, Try.ntmps126
  go_wp2
  go_loop [3] (fun i => ∃ k : Nat, k ≤ s.size ∧ i = .int .i64 k ∧ lowTo s k = true) (fun i => s.size - (intOf i).toNat)
  case atStart => exact ⟨0, Nat.zero_le _, rfl, lowTo_zero s⟩
  case round =>
    obtain ⟨k, hk, rfl, hl⟩ := hrel
    have HL := Lib.hid hl
    clear hl
    by_cases hlt : k < s.size
    · have HS := Lib.hid (lowTo_succ s k hlt)
      by_cases c1 : (s[k].toNat : Int) < 97
      · go_wp2
        go_ret
        exact ⟨ret_bool (isWord_bad hlt (isLow_lt c1)).symm, rfl⟩
      · by_cases c2 : (122 : Int) < s[k].toNat
        · have c3 : (97 : Int) ≤ s[k].toNat := by omega
          go_wp2
          go_ret
          exact ⟨ret_bool (isWord_bad hlt (isLow_gt c2)).symm, rfl⟩
        · have c3 : (97 : Int) ≤ s[k].toNat := by omega
          have c4 : (s[k].toNat : Int) ≤ 122 := by omega
          go_wp2
          go_round
          case rel => exact ⟨k + 1, by omega, by go_num, by rw [HS.out, HL.out, isLow_mk c3 c4]; rfl⟩
          case measure => simp [intOf]; omega
    · obtain rfl : k = s.size := by omega
      go_wp2_with (first | (go_at_call 83; refine (l1In_any _ _ _ _).mono ?_; rintro e w1 ⟨rfl, rfl⟩))
      go_ret
      exact ⟨ret_bool (isWord_end HL.out).symm, rfl⟩
end Go.Proofs.Ytlicnppfgfjkgaa
