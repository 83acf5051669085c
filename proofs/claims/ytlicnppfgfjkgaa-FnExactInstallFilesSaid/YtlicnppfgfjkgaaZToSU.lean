/-
  Slices of uint8: sz and to. No conditions but the budget of the laws.
-/
import Derived.Test.YtlicnppfgfjkgaaRows
import Derived.Test.YtlicnppfgfjkgaaZA
import Derived.LoopTactic
namespace Go.Proofs.Ytlicnppfgfjkgaa
open Go.ChangeShapes Go.WideShapes Go.RowKit
set_option linter.unusedVariables false

set_option maxHeartbeats 400000 in
theorem szByteS_any (v : Value) (xs : List UInt8) (F : List Nat) (n : Int) (w : World) (h : cUS.rep w [v] xs F) (h0 : 0 ≤ n) (h1 : n ≤ 1048576) :
    Calls Try.prog 181 #[v, .int .i64 n] w (Gives w (.int .i64 (leftOf n (cUS.sz xs)))) := by
  obtain ⟨A, cp, rfl⟩ := cL_form h
  obtain ⟨-, hcp, hm⟩ := cL_len h
  have hsz : ((cUS.sz xs : Nat) : Int) = xs.length := by rw [show cUS.sz xs = xs.length from Cod.szs_flat (c := cU) (fun _ => rfl) xs]
  rw [hsz]
  clear hsz
  unfold maxLen at hm
  by_cases l1 : n - xs.length < 0
  · go_enter Try.func181, Try.ntmps181
    go_wp2
    go_ret
    exact ⟨ret_int (leftOf_neg (by omega)).symm, (by repeat (first | with_reducible exact Below.refl _ _ | with_reducible assumption | with_reducible refine bel_alloc ?_ _ | with_reducible refine bel_drew ?_ | with_reducible refine bel_drewN ?_ _ | (with_reducible refine bel_set ?_ ?_ _; rotate_left; ((try simp); (try omega)))))⟩
  · go_enter Try.func181, Try.ntmps181
    go_wp2
    go_ret
    exact ⟨ret_int (leftOf_pos (by omega)).symm, (by repeat (first | with_reducible exact Below.refl _ _ | with_reducible assumption | with_reducible refine bel_alloc ?_ _ | with_reducible refine bel_drew ?_ | with_reducible refine bel_drewN ?_ _ | (with_reducible refine bel_set ?_ ?_ _; rotate_left; ((try simp); (try omega)))))⟩

theorem infoUS : (Try.prog.info? 5).map (fun i => (i.zero, i.size, i.bytes)) = some (some (Value.int .u8 0), 1, 1) := by kernel_rfl
set_option maxHeartbeats 1000000 in
theorem toByteS_any (v : Value) (xs : List UInt8) (F : List Nat) (w : World) (h : cUS.rep w [v] xs F) (hn : cUS.sz xs ≤ 1048576) :
    Calls Try.prog 182 #[v] w (GivesS cUS w xs) := by
  obtain ⟨A, cp, rfl⟩ := cL_form h
  obtain ⟨-, hcp, hm⟩ := cL_len h
  have hall := Cod.sz_mem cU xs
  have hn1 : xs.length ≤ 1048576 := Nat.le_trans (Cod.len_le cU xs) hn
  obtain ⟨i0, hi, hz0, hz1, hz2⟩ := info_parts infoUS
  have hmk := fun W => run_make_rowN (P := Try.prog) 22 5 i0 _ Try.underlying22 hi hz0 .i64 .i64 xs.length xs.length (Nat.le_refl _) (by rw [hz2]; omega) (by omega) W
  rw [hz1] at hmk
  have hst : Filled cU w 5 xs 0 _ := Filled.start (madeCells (Value.cells (Value.int .u8 0)) (xs.length)) (by rw [size_madeCells]; exact (Nat.mul_one _).symm)
  obtain ⟨n, hxn⟩ : ∃ n, xs.length = n := ⟨_, rfl⟩
  have HN := Lib.hid hxn
  rw [hxn] at hmk hst hcp hn1 ⊢
  clear hxn
  unfold maxLen at hm
  go_enter Try.func182, Try.ntmps182
  go_wp2
  go_loopw [4] (fun i wr => ∃ k : Nat, k ≤ n ∧ i = .int .i64 k ∧ Filled cU w 5 xs k wr) (fun i _ => n - (intOf i).toNat)
  case atStart => exact ⟨0, Nat.zero_le _, rfl, hst⟩
  case round =>
    obtain ⟨k, hk, rfl, hF⟩ := hrel
    by_cases hlt : k < n
    · have hkx : k < xs.length := by rw [HN.out]; exact hlt
      obtain ⟨g, o, vs, F1, rfl, -, hx, -, hc⟩ := cL_get (hw := by decide) (hw2 := by decide) (Cod.bel h hF.bel) hkx
      have hx0 := hx
      obtain ⟨rfl, rfl⟩ := hx0
      have q0 : wr.cell? ⟨g, o + k, none⟩ = some _ := (by have h1 := (hc 0 _ rfl).1; rwa [show (cU).wd = 1 from rfl, Nat.mul_one, Nat.add_zero] at h1)
      clear hc
      obtain ⟨⟨o0, p0⟩, f0⟩ := hF.cell hkx (Below.refl _ wr) 0 (by decide)
      rw [show (cU).wd = 1 from rfl, Nat.mul_one, Nat.add_zero] at p0 f0
      have hF2 := hF.step hkx (Below.refl _ wr) hx (Fresh.nil _)
      go_wp2_with fail
      go_roundw
      case rel => exact ⟨k + 1, by omega, by go_num, by rw [show (cU).wd = 1 from rfl, Nat.mul_one] at hF2; exact hF2⟩
      case measure => simp [intOf]; omega
    · obtain rfl : k = n := by omega
      obtain ⟨F', hr, hf⟩ := Filled.done (c := cU) (hw := by decide) (hw2 := by decide) (by rw [HN.out]; exact hF) (by rw [HN.out]; unfold maxLen; omega)
      rw [HN.out] at hr
      go_wp2_with fail
      go_ret
      exact ⟨_, F', rfl, hF.bel, hr, hf⟩

end Go.Proofs.Ytlicnppfgfjkgaa
