/-
  BytesToInts, DeriveFromString of the program and of the reference. No conditions.
-/
import Derived.Test.YtlicnppfgfjkgaaZHash
namespace Go.Proofs.Ytlicnppfgfjkgaa
open Go.ChangeShapes Go.WideShapes Go.RowKit
set_option linter.unusedVariables false

def biTo (n : Int) (xs : List UInt8) (k : Nat) : List Int := n :: (xs.take k).map fun x => (x.toNat : Int)
theorem bytesInts_take {xs : List UInt8} {k : Nat} (h : k < xs.length) (n : Int) : biTo n xs k ++ [(xs[k].toNat : Int)] = biTo n xs (k + 1) := by
  unfold biTo
  rw [List.take_succ_eq_append_getElem h, List.map_append]; rfl
theorem src_int {w : World} {n : Int} (h : -9223372036854775808 ≤ n ∧ n ≤ 9223372036854775807) : AppSrc cI (w.alloc (.cells #[.int .i64 n] 3)) (.slice (some ⟨w.heap.size, 0, none⟩) 1 1) [n] [] :=
  ⟨_, 1, [.int .i64 n], rfl, repsI h, fun _ => ⟨_, rfl, fun j u hu => by cases j with | zero => (simp at hu; subst hu; rw [Addr.add_lit]; exact (Blk.new w 3 #[.int .i64 n]).cell 0) | succ j => simp at hu⟩⟩
set_option maxRecDepth 100000 in
set_option maxHeartbeats 2000000 in
theorem specBytesToInts_any (v : Value) (xs : List UInt8) (F : List Nat) (w : World) (h : cUS.rep w [v] xs F) (hn : xs.length ≤ 2097152) :
    Calls Try.prog 154 #[v] w (GivesS cIS w (bytesInts xs)) := by
  obtain ⟨i0, hi0, hz0, hz1, hz2⟩ := info_parts infoInt
  obtain ⟨A, cp, rfl⟩ := cL_form h
  obtain ⟨-, hcp, hm⟩ := cL_len h
  unfold maxLen at hm
  obtain ⟨n, hxn⟩ : ∃ n, xs.length = n := ⟨_, rfl⟩
  have HN := Lib.hid hxn
  rw [hxn] at h hcp hn ⊢
  clear hxn
  go_enter Try.func154, Try.ntmps154
  go_wp2
  generalize hW : World.alloc _ _ = W
  have hown0 : Own cI 3 w.heap.size W (.slice (some ⟨w.heap.size, 0, none⟩) 1 1) [(n : Int)] [] := by rw [← hW]; exact Own.of_new 3 1 rfl (by decide) (by decide) rfl (repsI (by omega))
  have hbW : Below w.heap.size w W := by rw [← hW]; exact (by repeat (first | with_reducible exact Below.refl _ _ | with_reducible assumption | with_reducible refine bel_alloc ?_ _ | with_reducible refine bel_drew ?_ | with_reducible refine bel_drewN ?_ _ | (with_reducible refine bel_set ?_ ?_ _; rotate_left; ((try simp); (try omega)))))
  clear hW
  have HO := Lib.hid hown0
  clear hown0
  go_loopw [3, 4] (fun a i wr => ∃ k : Nat, k ≤ n ∧ i = .int .i64 k ∧ Own cI 3 w.heap.size wr a (biTo n xs k) [] ∧ Below w.heap.size w wr) (fun _ i _ => n - (intOf i).toNat)
  case atStart => exact ⟨0, Nat.zero_le _, rfl, HO.out, hbW⟩
  case round =>
    obtain ⟨k, hk, rfl, hown, hB⟩ := hrel
    have hlen : (biTo n xs k).length = k + 1 := by unfold biTo; simp only [List.length_cons, List.length_map, List.length_take]; have := HN.out; omega
    have HW := Lib.hid (And.intro hown hlen)
    clear hown hlen
    by_cases hlt : k < n
    · have hkx : k < xs.length := by rw [HN.out]; exact hlt
      obtain ⟨g, o, vs, F3, rfl, hgF, ⟨rfl, -⟩, -, hc⟩ := cL_get (hw := by decide) (hw2 := by decide) h hkx
      have hgw : g < w.heap.size := Cod.lt _ h g hgF
      have q0 := (hB.cell (p := ⟨g, o + k * 1 + 0, none⟩) hgw).trans ((hc 0 _ rfl).1)
      rw [Nat.mul_one, Nat.add_zero] at q0
      have hl := xs[k].toNat_lt
      have hki : (k : Int) < (n : Int) := by omega
      have hbt := bytesInts_take hkx (n : Int)
      have HT := Lib.hid hbt
      clear hc hbt
      obtain ⟨q, hq⟩ : ∃ q : Nat, xs[k].toNat = q := ⟨_, rfl⟩
      rw [hq] at q0 hl HT
      clear hq
      have hqb : (q : Int) ≤ 255 := by omega
      go_wp2_with (at_builtin; refine wpList_app (c := cI) (B := w.heap.size) (xs := biTo n xs k) (ys := [(q : Int)]) (Fi := []) (Fy := []) _ rfl _ _ _ rfl i0 _ _ Try.underlying26 hi0 hz0 hz1 hz2 rfl (by decide) rfl (HW.out.1.bel (by repeat (first | with_reducible exact Below.refl _ _ | with_reducible assumption | with_reducible refine bel_alloc ?_ _ | with_reducible refine bel_drew ?_ | with_reducible refine bel_drewN ?_ _ | (with_reducible refine bel_set ?_ ?_ _; rotate_left; ((try simp); (try omega)))))) (.slice (some ⟨wr.heap.size, 0, none⟩) 1 1) rfl (src_int (by omega)) (by rw [HW.out.2]; unfold maxLen; simp; omega) (by rw [HW.out.2]; simp; omega) (by have := hB.size; (try simp); (try omega)) (by simp) ?_)
      intro v2 w2 ho2 hg2 hat2
      rw [HT.out] at ho2
      have hb2 : Below w.heap.size w w2 := Below.grown (show Below w.heap.size w _ from (by repeat (first | with_reducible exact Below.refl _ _ | with_reducible assumption | with_reducible refine bel_alloc ?_ _ | with_reducible refine bel_drew ?_ | with_reducible refine bel_drewN ?_ _ | (with_reducible refine bel_set ?_ ?_ _; rotate_left; ((try simp); (try omega)))))) hg2 (by have := hB.size; (try simp); (try omega)) (fun b hb => (HW.out.1.lt b hb).1)
      have HO2 := Lib.hid ho2
      clear ho2 hg2 hat2
      go_wp2_with fail
      go_roundw
      case rel => exact ⟨k + 1, by omega, by go_num, HO2.out, hb2⟩
      case measure => simp [intOf]; omega
    · obtain rfl : k = n := by omega
      obtain ⟨G, hr2, hf2, -⟩ := HW.out.1.fresh (hw := by decide) (hw2 := by decide)
      have htl : xs.take k = xs := List.take_of_length_le (by rw [HN.out]; exact Nat.le_refl _)
      unfold biTo at hr2
      rw [htl] at hr2
      have HR := Lib.hid hr2
      clear hr2 htl
      go_wp2
      go_ret
      exact ⟨_, G, rfl, hB, by have h9 := HR.out; unfold bytesInts; rw [HN.out]; exact h9, hf2⟩
set_option maxRecDepth 100000 in
set_option maxHeartbeats 2000000 in
theorem implBytesToInts_any (v : Value) (xs : List UInt8) (F : List Nat) (w : World) (h : cUS.rep w [v] xs F) (hn : xs.length ≤ 2097152) :
    Calls Try.prog 135 #[v] w (GivesS cIS w (bytesInts xs)) := by
  obtain ⟨i0, hi0, hz0, hz1, hz2⟩ := info_parts infoInt
  obtain ⟨A, cp, rfl⟩ := cL_form h
  obtain ⟨-, hcp, hm⟩ := cL_len h
  unfold maxLen at hm
  obtain ⟨n, hxn⟩ : ∃ n, xs.length = n := ⟨_, rfl⟩
  have HN := Lib.hid hxn
  rw [hxn] at h hcp hn ⊢
  clear hxn
  go_enter Try.func135, Try.ntmps135
  go_wp2
  generalize hW : World.alloc _ _ = W
  have hown0 : Own cI 3 w.heap.size W (.slice (some ⟨w.heap.size, 0, none⟩) 1 1) [(n : Int)] [] := by rw [← hW]; exact Own.of_new 3 1 rfl (by decide) (by decide) rfl (repsI (by omega))
  have hbW : Below w.heap.size w W := by rw [← hW]; exact (by repeat (first | with_reducible exact Below.refl _ _ | with_reducible assumption | with_reducible refine bel_alloc ?_ _ | with_reducible refine bel_drew ?_ | with_reducible refine bel_drewN ?_ _ | (with_reducible refine bel_set ?_ ?_ _; rotate_left; ((try simp); (try omega)))))
  clear hW
  have HO := Lib.hid hown0
  clear hown0
  go_loopw [3, 11] (fun a i wr => ∃ k : Nat, k ≤ n ∧ i = .int .i64 k ∧ Own cI 3 w.heap.size wr a (biTo n xs k) [] ∧ Below w.heap.size w wr) (fun _ i _ => n - (intOf i).toNat)
  case atStart => exact ⟨0, Nat.zero_le _, rfl, HO.out, hbW⟩
  case round =>
    obtain ⟨k, hk, rfl, hown, hB⟩ := hrel
    have hlen : (biTo n xs k).length = k + 1 := by unfold biTo; simp only [List.length_cons, List.length_map, List.length_take]; have := HN.out; omega
    have HW := Lib.hid (And.intro hown hlen)
    clear hown hlen
    by_cases hlt : k < n
    · have hkx : k < xs.length := by rw [HN.out]; exact hlt
      obtain ⟨g, o, vs, F3, rfl, hgF, ⟨rfl, -⟩, -, hc⟩ := cL_get (hw := by decide) (hw2 := by decide) h hkx
      have hgw : g < w.heap.size := Cod.lt _ h g hgF
      have q0 := (hB.cell (p := ⟨g, o + k * 1 + 0, none⟩) hgw).trans ((hc 0 _ rfl).1)
      rw [Nat.mul_one, Nat.add_zero] at q0
      have hl := xs[k].toNat_lt
      have hki : (k : Int) < (n : Int) := by omega
      have hbt := bytesInts_take hkx (n : Int)
      have HT := Lib.hid hbt
      clear hc hbt
      obtain ⟨q, hq⟩ : ∃ q : Nat, xs[k].toNat = q := ⟨_, rfl⟩
      rw [hq] at q0 hl HT
      clear hq
      have hqb : (q : Int) ≤ 255 := by omega
      go_wp2_with (at_builtin; refine wpList_app (c := cI) (B := w.heap.size) (xs := biTo n xs k) (ys := [(q : Int)]) (Fi := []) (Fy := []) _ rfl _ _ _ rfl i0 _ _ Try.underlying26 hi0 hz0 hz1 hz2 rfl (by decide) rfl (HW.out.1.bel (by repeat (first | with_reducible exact Below.refl _ _ | with_reducible assumption | with_reducible refine bel_alloc ?_ _ | with_reducible refine bel_drew ?_ | with_reducible refine bel_drewN ?_ _ | (with_reducible refine bel_set ?_ ?_ _; rotate_left; ((try simp); (try omega)))))) (.slice (some ⟨wr.heap.size, 0, none⟩) 1 1) rfl (src_int (by omega)) (by rw [HW.out.2]; unfold maxLen; simp; omega) (by rw [HW.out.2]; simp; omega) (by have := hB.size; (try simp); (try omega)) (by simp) ?_)
      intro v2 w2 ho2 hg2 hat2
      rw [HT.out] at ho2
      have hb2 : Below w.heap.size w w2 := Below.grown (show Below w.heap.size w _ from (by repeat (first | with_reducible exact Below.refl _ _ | with_reducible assumption | with_reducible refine bel_alloc ?_ _ | with_reducible refine bel_drew ?_ | with_reducible refine bel_drewN ?_ _ | (with_reducible refine bel_set ?_ ?_ _; rotate_left; ((try simp); (try omega)))))) hg2 (by have := hB.size; (try simp); (try omega)) (fun b hb => (HW.out.1.lt b hb).1)
      have HO2 := Lib.hid ho2
      clear ho2 hg2 hat2
      go_wp2_with fail
      go_roundw
      case rel => exact ⟨k + 1, by omega, by go_num, HO2.out, hb2⟩
      case measure => simp [intOf]; omega
    · obtain rfl : k = n := by omega
      obtain ⟨G, hr2, hf2, -⟩ := HW.out.1.fresh (hw := by decide) (hw2 := by decide)
      have htl : xs.take k = xs := List.take_of_length_le (by rw [HN.out]; exact Nat.le_refl _)
      unfold biTo at hr2
      rw [htl] at hr2
      have HR := Lib.hid hr2
      clear hr2 htl
      go_wp2
      go_ret
      exact ⟨_, G, rfl, hB, by have h9 := HR.out; unfold bytesInts; rw [HN.out]; exact h9, hf2⟩
set_option maxRecDepth 100000 in
set_option maxHeartbeats 2000000 in
theorem implDerive_any (k : Int) (s : ByteArray) (w : World) (hk : -9223372036854775808 ≤ k ∧ k ≤ 9223372036854775807) (hs : s.size ≤ 2097152) :
    Calls Try.prog 86 #[.int .i64 k, .string s] w (Gives w (.int .i64 (derive k s))) := by
  obtain ⟨cp, wc, F, hcv, hbc, hrc⟩ := conv_str w s (by unfold maxLen; omega)
  have hsl : s.data.toList.length = s.size := (Array.length_toList : s.data.toList.length = s.data.size)
  have HS := Lib.hid (And.intro hrc (And.intro hsl (And.intro hs hk)))
  obtain ⟨q, hq⟩ : ∃ q, keyedHash k (bytesInts s.data.toList) = q := ⟨_, rfl⟩
  have HQ := Lib.hid hq
  have HD := Lib.hid (show derive k s = if q = 0 then 1 else q by unfold derive; rw [hq])
  have hqr := hashL_range (([k] ++ bytesInts s.data.toList) ++ [k])
  rw [show hashL (([k] ++ bytesInts s.data.toList) ++ [k]) = q from hq] at hqr
  clear hrc hsl hs hk hq
  by_cases h0 : q = 0
  · subst h0
    go_enter Try.func86, Try.ntmps86
    go_wp2_with (first | (go_at_call 135; rw [← HS.out.2.1]; refine (implBytesToInts_any _ _ _ _ (by exact HS.out.1) (by rw [HS.out.2.1]; exact HS.out.2.2.1)).mono ?_; rintro e w1 ⟨v1, G1, rfl, hb1, hr1, hf1⟩; have hb01 : Below w.heap.size w w1 := bel_then hbc hb1) | (go_at_call 85; refine (implKeyedHash_any _ _ _ _ _ (by exact hr1) (by unfold bytesInts; simp only [List.length_cons, List.length_map]; have := HS.out.2; omega) HS.out.2.2.2).mono ?_; rw [HQ.out]; rintro e w2 ⟨rfl, hb2⟩; have hb02 : Below w.heap.size w w2 := bel_then hb01 hb2))
    go_ret
    exact ⟨ret_int (by rw [HD.out]; rfl), hb02⟩
  · have h0b : (q == 0) = false := by simp [h0]
    go_enter Try.func86, Try.ntmps86
    go_wp2_with (first | (go_at_call 135; rw [← HS.out.2.1]; refine (implBytesToInts_any _ _ _ _ (by exact HS.out.1) (by rw [HS.out.2.1]; exact HS.out.2.2.1)).mono ?_; rintro e w1 ⟨v1, G1, rfl, hb1, hr1, hf1⟩; have hb01 : Below w.heap.size w w1 := bel_then hbc hb1) | (go_at_call 85; refine (implKeyedHash_any _ _ _ _ _ (by exact hr1) (by unfold bytesInts; simp only [List.length_cons, List.length_map]; have := HS.out.2; omega) HS.out.2.2.2).mono ?_; rw [HQ.out]; rintro e w2 ⟨rfl, hb2⟩; have hb02 : Below w.heap.size w w2 := bel_then hb01 hb2))
    go_ret
    exact ⟨ret_int (by rw [HD.out, if_neg h0]), hb02⟩
set_option maxRecDepth 100000 in
set_option maxHeartbeats 2000000 in
theorem specDerive_any (k : Int) (s : ByteArray) (w : World) (hk : -9223372036854775808 ≤ k ∧ k ≤ 9223372036854775807) (hs : s.size ≤ 2097152) :
    Calls Try.prog 116 #[.int .i64 k, .string s] w (Gives w (.int .i64 (derive k s))) := by
  obtain ⟨cp, wc, F, hcv, hbc, hrc⟩ := conv_str w s (by unfold maxLen; omega)
  have hsl : s.data.toList.length = s.size := (Array.length_toList : s.data.toList.length = s.data.size)
  have HS := Lib.hid (And.intro hrc (And.intro hsl (And.intro hs hk)))
  obtain ⟨q, hq⟩ : ∃ q, keyedHash k (bytesInts s.data.toList) = q := ⟨_, rfl⟩
  have HQ := Lib.hid hq
  have hqr := hashL_range (([k] ++ bytesInts s.data.toList) ++ [k])
  rw [show hashL (([k] ++ bytesInts s.data.toList) ++ [k]) = q from hq] at hqr
  have HD := Lib.hid (show maxI 1 q = derive k s by unfold derive maxI; rw [hq]; split <;> split <;> omega)
  clear hrc hsl hs hk hq
  go_enter Try.func116, Try.ntmps116
  go_wp2_with (first | (go_at_call 154; rw [← HS.out.2.1]; refine (specBytesToInts_any _ _ _ _ (by exact HS.out.1) (by rw [HS.out.2.1]; exact HS.out.2.2.1)).mono ?_; rintro e w1 ⟨v1, G1, rfl, hb1, hr1, hf1⟩; have hb01 : Below w.heap.size w w1 := bel_then hbc hb1) | (go_at_call 115; refine (specKeyedHash_any _ _ _ _ _ (by exact hr1) (by unfold bytesInts; simp only [List.length_cons, List.length_map]; have := HS.out.2; omega) HS.out.2.2.2).mono ?_; rw [HQ.out]; rintro e w2 ⟨rfl, hb2⟩; have hb02 : Below w.heap.size w w2 := bel_then hb01 hb2) | (go_at_call 84; refine (specMax_any _ _ _).mono ?_; rintro e w1 ⟨rfl, rfl⟩))
  go_ret
  exact ⟨ret_int HD.out, hb02⟩
end Go.Proofs.Ytlicnppfgfjkgaa
