/-
  laws.markText: what it returns. The number is at most 10 to the 9th.
-/
import Derived.Test.YtlicnppfgfjkgaaRows
import Derived.Test.YtlicnppfgfjkgaaZA
import Derived.LoopTactic
namespace Go.Proofs.Ytlicnppfgfjkgaa
open Go.RowKit

theorem mtGo_step (j : Nat) (s : List UInt8) (h : 0 < j) : mtGo j j s = mtGo (j / 10) (j / 10) (UInt8.ofNat (48 + j % 10) :: s) := by
  cases j with
  | zero => omega
  | succ j =>
    show (if j + 1 = 0 then s else mtGo j ((j + 1) / 10) (UInt8.ofNat (48 + (j + 1) % 10) :: s)) = _
    rw [if_neg (by omega), mtGo_more j _ _ (by omega)]

theorem bytes_front (x : UInt8) (s : List UInt8) : (⟨#[x]⟩ : ByteArray) ++ ⟨s.toArray⟩ = ⟨(x :: s).toArray⟩ := by
  apply ByteArray.ext
  simp
theorem digit_byte (n : Nat) : UInt8.ofNat (48 + n) = 48 + UInt8.ofNat n := by simp

def MarkRel (m : Nat) (w : World) (a b : Value) (wr : World) : Prop :=
  ∃ (j : Nat) (s : List UInt8), (j : Int) + s.length ≤ 1000000000 ∧ a = .int .i64 j ∧ b = .string ⟨s.toArray⟩ ∧ mtGo m m [] = mtGo j j s ∧ Below w.heap.size w wr

set_option maxRecDepth 100000 in
set_option maxHeartbeats 1000000 in
theorem markText_any (k : Int) (w : World) (hk : k ≤ 1000000000) : Calls Try.prog 155 #[.int .i64 k] w (Gives w (.string (markText k))) := by
  by_cases h0 : k ≤ 0
  · have HM := Lib.hid (show markText k = ⟨#[109, 48]⟩ by unfold markText; rw [if_pos h0])
    go_enter Try.func155, Try.ntmps155
    go_wp2
    go_ret
    exact ⟨by rw [HM.out]; rfl, (by repeat (first | with_reducible exact Below.refl _ _ | with_reducible assumption | with_reducible refine bel_alloc ?_ _ | with_reducible refine bel_drew ?_ | with_reducible refine bel_drewN ?_ _ | (with_reducible refine bel_set ?_ ?_ _; rotate_left; ((try simp); (try omega)))))⟩
  · obtain ⟨m, rfl⟩ : ∃ m : Nat, k = m := ⟨k.toNat, by omega⟩
    have hm0 : (0 : Int) < m := by omega
    have HM := Lib.hid (show markText m = ⟨(109 :: mtGo m m []).toArray⟩ by unfold markText; rw [if_neg (by omega)]; rfl)
    go_enter Try.func155, Try.ntmps155
    go_wp2
    go_loopw [0, 3] (MarkRel m w) (fun a _ _ => (intOf a).toNat)
    case atStart => exact ⟨m, [], by simp; omega, rfl, rfl, rfl, Below.refl _ _⟩
    case round =>
      obtain ⟨j, s, hj, rfl, rfl, he, hB⟩ := hrel
      have HE := Lib.hid he
      clear he
      by_cases hj0 : 0 < (j : Int)
      · have hj1 : 0 < j := by omega
        have hcv : (convert 22 9 (.slice (some ⟨wr.heap.size, 0, none⟩) 1 1)).run Try.prog (wr.alloc (.cells #[.int .u8 (48 + (j : Int) % 10)] 5)) = .ok (.string ⟨[UInt8.ofNat (48 + j % 10)].toArray⟩) (wr.alloc (.cells #[.int .u8 (48 + (j : Int) % 10)] 5)) :=
          run_convert_bytes_back _ 22 9 5 ⟨wr.heap.size, 0, none⟩ 1 [UInt8.ofNat (48 + j % 10)] Try.underlying22 Try.underlying5 Try.underlying9 (fun i hi => by
            obtain rfl : i = 0 := by simpa using hi
            simp [Addr.add]; omega)
        have hs9 : s.length ≤ 1000000000 := by omega
        have HS := Lib.hid (mtGo_step j s hj1)
        go_wp2
        go_roundw
        case rel =>
          exact ⟨j / 10, UInt8.ofNat (48 + j % 10) :: s, by simp only [List.length_cons]; omega, by go_num, by rw [bytes_front, digit_byte], HE.out.trans HS.out, (by repeat (first | with_reducible exact Below.refl _ _ | with_reducible assumption | with_reducible refine bel_alloc ?_ _ | with_reducible refine bel_drew ?_ | with_reducible refine bel_drewN ?_ _ | (with_reducible refine bel_set ?_ ?_ _; rotate_left; ((try simp); (try omega)))))⟩
        case measure => simp [intOf]; omega
      · obtain rfl : j = 0 := by omega
        have hs9 : s.length ≤ 1000000000 := by omega
        go_wp2
        go_ret
        exact ⟨by rw [HM.out, HE.out]; exact congrArg (fun b => Ending.returned (Value.string b)) (bytes_front 109 s), (by repeat (first | with_reducible exact Below.refl _ _ | with_reducible assumption | with_reducible refine bel_alloc ?_ _ | with_reducible refine bel_drew ?_ | with_reducible refine bel_drewN ?_ _ | (with_reducible refine bel_set ?_ ?_ _; rotate_left; ((try simp); (try omega)))))⟩
end Go.Proofs.Ytlicnppfgfjkgaa
