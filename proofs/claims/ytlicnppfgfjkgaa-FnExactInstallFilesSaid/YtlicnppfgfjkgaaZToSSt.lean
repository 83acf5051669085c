/-
  Slices of string: sz and to. No conditions but the budget of the laws.
-/
import Derived.Test.YtlicnppfgfjkgaaRows
import Derived.Test.YtlicnppfgfjkgaaZA
import Derived.LoopTactic
namespace Go.Proofs.Ytlicnppfgfjkgaa
open Go.ChangeShapes Go.WideShapes Go.RowKit
set_option linter.unusedVariables false

set_option maxHeartbeats 1000000 in
theorem szStringS_any (v : Value) (xs : List ByteArray) (F : List Nat) (n : Int) (w : World) (h : cStS.rep w [v] xs F) (h0 : 0 ≤ n) (h1 : n ≤ 1048576) :
    Calls Try.prog 117 #[v, .int .i64 n] w (Gives w (.int .i64 (leftOf n (cStS.sz xs)))) := by
  obtain ⟨A, cp, rfl⟩ := cL_form h
  obtain ⟨-, hcp, hm⟩ := cL_len h
  have hsz : ((cStS.sz xs : Nat) : Int) = xs.length + (Cod.sumSz cS xs : Nat) := by rw [show cStS.sz xs = xs.length + Cod.sumSz cS xs from Cod.szs_sum cS xs]; omega
  rw [hsz]
  clear hsz
  have hle := Cod.sumSz_le cS xs
  obtain ⟨n0, hxn⟩ : ∃ n0, xs.length = n0 := ⟨_, rfl⟩
  have HN := Lib.hid hxn
  rw [hxn] at hcp ⊢
  clear hxn
  unfold maxLen at hm
  by_cases l1 : n - n0 < 0
  · go_enter Try.func117, Try.ntmps117
    go_wp2
    go_ret
    exact ⟨ret_int (leftOf_neg (by omega)).symm, (by repeat (first | with_reducible exact Below.refl _ _ | with_reducible assumption | with_reducible refine bel_alloc ?_ _ | with_reducible refine bel_drew ?_ | with_reducible refine bel_drewN ?_ _ | (with_reducible refine bel_set ?_ ?_ _; rotate_left; ((try simp); (try omega)))))⟩
  · have l1' : 0 ≤ n - n0 := by omega
    go_enter Try.func117, Try.ntmps117
    go_wp2
    go_loopw [1, 5] (fun l i wr => ∃ k : Nat, k ≤ n0 ∧ i = .int .i64 k ∧ (∃ lv : Int, l = .int .i64 lv ∧ 0 ≤ lv ∧ lv ≤ 1048576 ∧ lv = n - n0 - (Cod.sumSz cS (xs.take k) : Nat)) ∧ Below w.heap.size w wr) (fun _ i _ => n0 - (intOf i).toNat)
    case atStart => exact ⟨0, Nat.zero_le _, rfl, ⟨_, rfl, l1', by omega, by simp [Cod.sumSz]⟩, Below.refl _ _⟩
    case round =>
     obtain ⟨k, hk, rfl, ⟨lv, rfl, hl0, hl1, he⟩, hB⟩ := hrel
     by_cases hlt : k < n0
     · have hkx : k < xs.length := by rw [HN.out]; exact hlt
       have hsucc := Cod.sumSz_succ cS xs k hkx
       have hle2 := hle (k + 1)
       have HE := Lib.hid (And.intro he (And.intro hsucc hle2))
       clear he hsucc hle2 hle
       obtain ⟨g, o, vs, F1, rfl, -, hx, -, hc⟩ := cL_get (hw := by decide) (hw2 := by decide) (Cod.bel h hB) hkx
       obtain ⟨rfl, rfl, hk1⟩ := hx
       have q0 : wr.cell? ⟨g, o + k, none⟩ = some _ := (by have h1 := (hc 0 _ rfl).1; rwa [show (cS).wd = 1 from rfl, Nat.mul_one, Nat.add_zero] at h1)
       clear hc
       have hsx : cS.sz xs[k] = xs[k].size := rfl
       unfold maxLen at hk1
       by_cases l2 : lv - xs[k].size < 0
       · go_wp2_with fail
         go_ret
         exact ⟨ret_int (leftOf_neg (by have := HE.out; omega)).symm, hB⟩
       · have l3 : 0 ≤ lv - xs[k].size := by omega
         clear hsx
         go_wp2_with fail
         go_roundw
         case rel => exact ⟨k + 1, by omega, by go_num, ⟨_, rfl, l3, by omega, by have := HE.out; have hsx : cS.sz xs[k] = xs[k].size := rfl; omega⟩, hB⟩
         case measure => simp [intOf]; omega
     · obtain rfl : k = n0 := by omega
       have HE := Lib.hid he
       clear he
       go_wp2_with fail
       go_ret
       exact ⟨ret_int (by have he := HE.out; rw [List.take_of_length_le (by rw [HN.out]; exact Nat.le_refl _)] at he; rw [leftOf_pos (by omega)]; omega), hB⟩

theorem infoSS : (Try.prog.info? 9).map (fun i => (i.zero, i.size, i.bytes)) = some (some (Value.string ByteArray.empty), 1, 16) := by kernel_rfl
set_option maxHeartbeats 1000000 in
theorem toStringS_any (v : Value) (xs : List ByteArray) (F : List Nat) (w : World) (h : cStS.rep w [v] xs F) (hn : cStS.sz xs ≤ 1048576) :
    Calls Try.prog 118 #[v] w (GivesS cStS w xs) := by
  obtain ⟨A, cp, rfl⟩ := cL_form h
  obtain ⟨-, hcp, hm⟩ := cL_len h
  have hall := Cod.sz_mem cS xs
  have hn1 : xs.length ≤ 1048576 := Nat.le_trans (Cod.len_le cS xs) hn
  obtain ⟨i0, hi, hz0, hz1, hz2⟩ := info_parts infoSS
  have hmk := fun W => run_make_rowN (P := Try.prog) 57 9 i0 _ Try.underlying57 hi hz0 .i64 .i64 xs.length xs.length (Nat.le_refl _) (by rw [hz2]; omega) (by omega) W
  rw [hz1] at hmk
  have hst : Filled cS w 9 xs 0 _ := Filled.start (madeCells (Value.cells (Value.string ByteArray.empty)) (xs.length)) (by rw [size_madeCells]; exact (Nat.mul_one _).symm)
  obtain ⟨n, hxn⟩ : ∃ n, xs.length = n := ⟨_, rfl⟩
  have HN := Lib.hid hxn
  rw [hxn] at hmk hst hcp hn1 ⊢
  clear hxn
  unfold maxLen at hm
  go_enter Try.func118, Try.ntmps118
  go_wp2
  go_loopw [4] (fun i wr => ∃ k : Nat, k ≤ n ∧ i = .int .i64 k ∧ Filled cS w 9 xs k wr) (fun i _ => n - (intOf i).toNat)
  case atStart => exact ⟨0, Nat.zero_le _, rfl, hst⟩
  case round =>
    obtain ⟨k, hk, rfl, hF⟩ := hrel
    by_cases hlt : k < n
    · have hkx : k < xs.length := by rw [HN.out]; exact hlt
      obtain ⟨g, o, vs, F1, rfl, -, hx, -, hc⟩ := cL_get (hw := by decide) (hw2 := by decide) (Cod.bel h hF.bel) hkx
      have hx0 := hx
      obtain ⟨rfl, rfl, hk1⟩ := hx0
      have q0 : wr.cell? ⟨g, o + k, none⟩ = some _ := (by have h1 := (hc 0 _ rfl).1; rwa [show (cS).wd = 1 from rfl, Nat.mul_one, Nat.add_zero] at h1)
      clear hc
      obtain ⟨⟨o0, p0⟩, f0⟩ := hF.cell hkx (Below.refl _ wr) 0 (by decide)
      rw [show (cS).wd = 1 from rfl, Nat.mul_one, Nat.add_zero] at p0 f0
      have hF2 := hF.step hkx (Below.refl _ wr) hx (Fresh.nil _)
      go_wp2_with fail
      go_roundw
      case rel => exact ⟨k + 1, by omega, by go_num, by rw [show (cS).wd = 1 from rfl, Nat.mul_one] at hF2; exact hF2⟩
      case measure => simp [intOf]; omega
    · obtain rfl : k = n := by omega
      obtain ⟨F', hr, hf⟩ := Filled.done (c := cS) (hw := by decide) (hw2 := by decide) (by rw [HN.out]; exact hF) (by rw [HN.out]; unfold maxLen; omega)
      rw [HN.out] at hr
      go_wp2_with fail
      go_ret
      exact ⟨_, F', rfl, hF.bel, hr, hf⟩

end Go.Proofs.Ytlicnppfgfjkgaa
