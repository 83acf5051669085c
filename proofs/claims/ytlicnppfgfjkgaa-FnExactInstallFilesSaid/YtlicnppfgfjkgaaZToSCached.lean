/-
  Slices of Cached: sz and to. No conditions but the budget of the laws.
-/
import Derived.Test.YtlicnppfgfjkgaaRows
import Derived.Test.YtlicnppfgfjkgaaZA
import Derived.LoopTactic
import Derived.Test.YtlicnppfgfjkgaaZToCached
namespace Go.Proofs.Ytlicnppfgfjkgaa
open Go.ChangeShapes Go.WideShapes Go.RowKit
set_option linter.unusedVariables false

set_option maxHeartbeats 1000000 in
theorem szCachedS_any (v : Value) (xs : List TCached) (F : List Nat) (n : Int) (w : World) (h : cCachedS.rep w [v] xs F) (h0 : 0 ≤ n) (h1 : n ≤ 1048576) :
    Calls Try.prog 164 #[v, .int .i64 n] w (Gives w (.int .i64 (leftOf n (cCachedS.sz xs)))) := by
  obtain ⟨A, cp, rfl⟩ := cL_form h
  obtain ⟨-, hcp, hm⟩ := cL_len h
  have hsz : ((cCachedS.sz xs : Nat) : Int) = xs.length + (Cod.sumSz cCached xs : Nat) := by rw [show cCachedS.sz xs = xs.length + Cod.sumSz cCached xs from Cod.szs_sum cCached xs]; omega
  rw [hsz]
  clear hsz
  have hle := Cod.sumSz_le cCached xs
  obtain ⟨n0, hxn⟩ : ∃ n0, xs.length = n0 := ⟨_, rfl⟩
  have HN := Lib.hid hxn
  rw [hxn] at hcp ⊢
  clear hxn
  unfold maxLen at hm
  by_cases l1 : n - n0 < 0
  · go_enter Try.func164, Try.ntmps164
    go_wp2
    go_ret
    exact ⟨ret_int (leftOf_neg (by omega)).symm, (by repeat (first | with_reducible exact Below.refl _ _ | with_reducible assumption | with_reducible refine bel_alloc ?_ _ | with_reducible refine bel_drew ?_ | with_reducible refine bel_drewN ?_ _ | (with_reducible refine bel_set ?_ ?_ _; rotate_left; ((try simp); (try omega)))))⟩
  · have l1' : 0 ≤ n - n0 := by omega
    go_enter Try.func164, Try.ntmps164
    go_wp2
    go_loopw [1, 5] (fun l i wr => ∃ k : Nat, k ≤ n0 ∧ i = .int .i64 k ∧ (∃ lv : Int, l = .int .i64 lv ∧ 0 ≤ lv ∧ lv ≤ 1048576 ∧ lv = n - n0 - (Cod.sumSz cCached (xs.take k) : Nat)) ∧ Below w.heap.size w wr) (fun _ i _ => n0 - (intOf i).toNat)
    case atStart => exact ⟨0, Nat.zero_le _, rfl, ⟨_, rfl, l1', by omega, by simp [Cod.sumSz]⟩, Below.refl _ _⟩
    case round =>
     obtain ⟨k, hk, rfl, ⟨lv, rfl, hl0, hl1, he⟩, hB⟩ := hrel
     by_cases hlt : k < n0
     · have hkx : k < xs.length := by rw [HN.out]; exact hlt
       have hsucc := Cod.sumSz_succ cCached xs k hkx
       have hle2 := hle (k + 1)
       have HE := Lib.hid (And.intro he (And.intro hsucc hle2))
       clear he hsucc hle2 hle
       obtain ⟨g, o, vs, F1, rfl, -, hx, -, hc⟩ := cL_get (hw := by decide) (hw2 := by decide) (Cod.bel h hB) hkx
       have hx0 := hx
       obtain ⟨w5, Q5, rfl, rfl, hok, m5⟩ := TCached.out hx0
       have q0 : wr.cell? ⟨g, o + k * 7, none⟩ = some _ := (hc 0 _ rfl).1
       have q1 : wr.cell? ⟨g, o + k * 7 + 1, none⟩ = some _ := (hc 1 _ rfl).1
       have q2 : wr.cell? ⟨g, o + k * 7 + 2, none⟩ = some _ := (hc 2 _ rfl).1
       have q3 : wr.cell? ⟨g, o + k * 7 + 3, none⟩ = some _ := (hc 3 _ rfl).1
       have q4 : wr.cell? ⟨g, o + k * 7 + 4, none⟩ = some _ := (hc 4 _ rfl).1
       have q5 : wr.cell? ⟨g, o + k * 7 + 5, none⟩ = some _ := (hc 5 _ rfl).1
       have q6 : wr.cell? ⟨g, o + k * 7 + 6, none⟩ = some _ := (hc 6 _ rfl).1
       clear hc
       by_cases l2 : lv - (cCached.sz xs[k] : Nat) < 0
       · have HV := Lib.hid (leftOf_neg l2)
         go_wp2_with fail
         refine (szCached_any _ _ _ _ _ hx hl0 hl1).mono ?_
         rintro e w1 ⟨rfl, hb1⟩
         rw [HV.out]
         have hB1 : Below w.heap.size w w1 := bel_then hB hb1
         go_wp2_with fail
         go_ret
         exact ⟨ret_int (leftOf_neg (by have := HE.out; omega)).symm, hB1⟩
       · have HV := Lib.hid (leftOf_pos l2)
         go_wp2_with fail
         refine (szCached_any _ _ _ _ _ hx hl0 hl1).mono ?_
         rintro e w1 ⟨rfl, hb1⟩
         rw [HV.out]
         have hB1 : Below w.heap.size w w1 := bel_then hB hb1
         have l3 : 0 ≤ lv - (cCached.sz xs[k] : Nat) := by omega
         go_wp2_with fail
         go_roundw
         case rel => exact ⟨k + 1, by omega, by go_num, ⟨_, rfl, l3, by omega, by have := HE.out; omega⟩, hB1⟩
         case measure => simp [intOf]; omega
     · obtain rfl : k = n0 := by omega
       have HE := Lib.hid he
       clear he
       go_wp2_with fail
       go_ret
       exact ⟨ret_int (by have he := HE.out; rw [List.take_of_length_le (by rw [HN.out]; exact Nat.le_refl _)] at he; rw [leftOf_pos (by omega)]; omega), hB⟩

theorem infoCachedS : (Try.prog.info? 129).map (fun i => (i.zero, i.size, i.bytes)) = some (some (Value.agg #[.string ByteArray.empty, .string ByteArray.empty, .int .i64 0, .int .i64 0, .int .i64 0, .slice none 0 0, .bool false]), 7, 88) := by kernel_rfl
set_option maxHeartbeats 1000000 in
theorem toCachedS_any (v : Value) (xs : List TCached) (F : List Nat) (w : World) (h : cCachedS.rep w [v] xs F) (hn : cCachedS.sz xs ≤ 1048576) :
    Calls Try.prog 165 #[v] w (GivesS cCachedS w xs) := by
  obtain ⟨A, cp, rfl⟩ := cL_form h
  obtain ⟨-, hcp, hm⟩ := cL_len h
  have hall := Cod.sz_mem cCached xs
  have hn1 : xs.length ≤ 1048576 := Nat.le_trans (Cod.len_le cCached xs) hn
  obtain ⟨i0, hi, hz0, hz1, hz2⟩ := info_parts infoCachedS
  have hmk := fun W => run_make_rowN (P := Try.prog) 123 129 i0 _ Try.underlying123 hi hz0 .i64 .i64 xs.length xs.length (Nat.le_refl _) (by rw [hz2]; omega) (by omega) W
  rw [hz1] at hmk
  have hst : Filled cCached w 129 xs 0 _ := Filled.start (madeCells (Value.cells (Value.agg #[.string ByteArray.empty, .string ByteArray.empty, .int .i64 0, .int .i64 0, .int .i64 0, .slice none 0 0, .bool false])) (xs.length * 7)) (size_madeCells _ _)
  obtain ⟨n, hxn⟩ : ∃ n, xs.length = n := ⟨_, rfl⟩
  have HN := Lib.hid hxn
  rw [hxn] at hmk hst hcp hn1 ⊢
  clear hxn
  unfold maxLen at hm
  go_enter Try.func165, Try.ntmps165
  go_wp2
  go_loopw [4] (fun i wr => ∃ k : Nat, k ≤ n ∧ i = .int .i64 k ∧ Filled cCached w 129 xs k wr) (fun i _ => n - (intOf i).toNat)
  case atStart => exact ⟨0, Nat.zero_le _, rfl, hst⟩
  case round =>
    obtain ⟨k, hk, rfl, hF⟩ := hrel
    by_cases hlt : k < n
    · have hkx : k < xs.length := by rw [HN.out]; exact hlt
      obtain ⟨g, o, vs, F1, rfl, -, hx, -, hc⟩ := cL_get (hw := by decide) (hw2 := by decide) (Cod.bel h hF.bel) hkx
      have hx0 := hx
      obtain ⟨w5, Q5, rfl, rfl, hok, m5⟩ := TCached.out hx0
      have q0 : wr.cell? ⟨g, o + k * 7, none⟩ = some _ := (hc 0 _ rfl).1
      have q1 : wr.cell? ⟨g, o + k * 7 + 1, none⟩ = some _ := (hc 1 _ rfl).1
      have q2 : wr.cell? ⟨g, o + k * 7 + 2, none⟩ = some _ := (hc 2 _ rfl).1
      have q3 : wr.cell? ⟨g, o + k * 7 + 3, none⟩ = some _ := (hc 3 _ rfl).1
      have q4 : wr.cell? ⟨g, o + k * 7 + 4, none⟩ = some _ := (hc 4 _ rfl).1
      have q5 : wr.cell? ⟨g, o + k * 7 + 5, none⟩ = some _ := (hc 5 _ rfl).1
      have q6 : wr.cell? ⟨g, o + k * 7 + 6, none⟩ = some _ := (hc 6 _ rfl).1
      clear hc
      go_wp2_with fail
      refine (toCached_any _ _ _ _ hx (Nat.le_trans (hall _ (List.getElem_mem hkx)) hn)).mono ?_
      rintro e w1 ⟨vs1, G1, rfl, hb1, hx1, hf1⟩
      have hF2 := hF.step hkx hb1 hx1 hf1
      obtain ⟨u5, P5, rfl, rfl, hok1, l5⟩ := TCached.outA hx1
      obtain ⟨A5, c5, rfl⟩ := cL_form l5
      obtain ⟨⟨o0, p0⟩, f0⟩ := hF.cell hkx hb1 0 (by decide)
      change w1.cell? ⟨w.heap.size, k * 7, none⟩ = _ at p0
      change w1.frozen? ⟨w.heap.size, k * 7, none⟩ = _ at f0
      obtain ⟨⟨o1, p1⟩, f1⟩ := hF.cell hkx hb1 1 (by decide)
      change w1.cell? ⟨w.heap.size, k * 7 + 1, none⟩ = _ at p1
      change w1.frozen? ⟨w.heap.size, k * 7 + 1, none⟩ = _ at f1
      obtain ⟨⟨o2, p2⟩, f2⟩ := hF.cell hkx hb1 2 (by decide)
      change w1.cell? ⟨w.heap.size, k * 7 + 2, none⟩ = _ at p2
      change w1.frozen? ⟨w.heap.size, k * 7 + 2, none⟩ = _ at f2
      obtain ⟨⟨o3, p3⟩, f3⟩ := hF.cell hkx hb1 3 (by decide)
      change w1.cell? ⟨w.heap.size, k * 7 + 3, none⟩ = _ at p3
      change w1.frozen? ⟨w.heap.size, k * 7 + 3, none⟩ = _ at f3
      obtain ⟨⟨o4, p4⟩, f4⟩ := hF.cell hkx hb1 4 (by decide)
      change w1.cell? ⟨w.heap.size, k * 7 + 4, none⟩ = _ at p4
      change w1.frozen? ⟨w.heap.size, k * 7 + 4, none⟩ = _ at f4
      obtain ⟨⟨o5, p5⟩, f5⟩ := hF.cell hkx hb1 5 (by decide)
      change w1.cell? ⟨w.heap.size, k * 7 + 5, none⟩ = _ at p5
      change w1.frozen? ⟨w.heap.size, k * 7 + 5, none⟩ = _ at f5
      obtain ⟨⟨o6, p6⟩, f6⟩ := hF.cell hkx hb1 6 (by decide)
      change w1.cell? ⟨w.heap.size, k * 7 + 6, none⟩ = _ at p6
      change w1.frozen? ⟨w.heap.size, k * 7 + 6, none⟩ = _ at f6
      go_wp2_with fail
      go_roundw
      case rel => exact ⟨k + 1, by omega, by go_num, hF2⟩
      case measure => simp [intOf]; omega
    · obtain rfl : k = n := by omega
      obtain ⟨F', hr, hf⟩ := Filled.done (c := cCached) (hw := by decide) (hw2 := by decide) (by rw [HN.out]; exact hF) (by rw [HN.out]; unfold maxLen; omega)
      rw [HN.out] at hr
      go_wp2_with fail
      go_ret
      exact ⟨_, F', rfl, hF.bel, hr, hf⟩

end Go.Proofs.Ytlicnppfgfjkgaa
