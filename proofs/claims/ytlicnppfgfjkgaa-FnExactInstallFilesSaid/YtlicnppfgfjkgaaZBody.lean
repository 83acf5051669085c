/-
  BodyOf of the program and of the reference. No conditions.
-/
import Derived.Test.YtlicnppfgfjkgaaZDerive
import Derived.Test.YtlicnppfgfjkgaaZA
import Derived.Laws.BitsLemmas
namespace Go.Proofs.Ytlicnppfgfjkgaa
open Go.ChangeShapes Go.WideShapes Go.RowKit
set_option linter.unusedVariables false

def bodyHash (s : TSite) (pa : ByteArray) (v : Int) : Int := keyedHash (IntKind.i64.wrap (1 + v)) [103, derive 107 s.name, derive 109 pa]
def bodyByte (h : Int) (j : Nat) : UInt8 := UInt8.ofNat ((h / 2 ^ (8 * (5 - j))) % 256).toNat
def bodyTo (h : Int) (k : Nat) : List UInt8 := if k = 0 then [] else bodyTo h (k - 1) ++ [bodyByte h (k - 1)]
termination_by k
decreasing_by omega
def bodyOf (s : TSite) (pa : ByteArray) (v : Int) : List UInt8 := bodyTo (bodyHash s pa v) 6
theorem bodyTo_zero (h : Int) : bodyTo h 0 = [] := by unfold bodyTo; rfl
theorem bodyTo_succ (h : Int) (k : Nat) : bodyTo h k ++ [bodyByte h k] = bodyTo h (k + 1) := by
  conv => rhs; unfold bodyTo
  rw [if_neg (by omega), Nat.add_sub_cancel]
theorem bodyTo_len (h : Int) : ∀ k : Nat, (bodyTo h k).length = k
  | 0 => by rw [bodyTo_zero]; rfl
  | k + 1 => by rw [← bodyTo_succ, List.length_append, bodyTo_len h k]; rfl
theorem derive_range (k : Int) (s : ByteArray) : 1 ≤ derive k s ∧ derive k s < 2147483647 := by
  have h := hashL_range (([k] ++ bytesInts s.data.toList) ++ [k])
  unfold derive
  split
  · omega
  · exact ⟨by have h2 : 0 ≤ keyedHash k (bytesInts s.data.toList) := h.1; omega, h.2⟩
theorem keyed_range (k : Int) (l : List Int) : 0 ≤ keyedHash k l ∧ keyedHash k l < 2147483647 := hashL_range _
theorem and255 (n : Int) : bits .and .i64 n 255 = n % 256 := by
  have h255 : (BitVec.ofInt 64 255).toNat = 2 ^ 8 - 1 := by decide
  have key : (BitVec.ofInt 64 n &&& BitVec.ofInt 64 255).toNat = (n % ((2 ^ 64 : Nat) : Int)).toNat % 2 ^ 8 := by
    rw [BitVec.toNat_and, BitVec.toNat_ofInt, h255, Nat.and_two_pow_sub_one_eq_mod]
  show IntKind.i64.wrap ((BitVec.ofInt 64 n &&& BitVec.ofInt 64 255).toNat : Nat) = n % 256
  rw [key, IntKind.wrap_i64]
  omega
theorem bodyByte_nat (q : Int) (j : Nat) : ((bodyByte q j).toNat : Int) = (q / 2 ^ (8 * (5 - j))) % 256 := by
  unfold bodyByte
  generalize q / 2 ^ (8 * (5 - j)) = z
  rw [UInt8.toNat_ofNat']; omega
theorem src_u8 {w : World} {b : UInt8} {B : Int} (h : (b.toNat : Int) = B) : AppSrc cU (w.alloc (.cells #[.int .u8 B] 5)) (.slice (some ⟨w.heap.size, 0, none⟩) 1 1) [b] [] := by
  subst h
  exact ⟨_, 1, [.int .u8 (b.toNat : Int)], rfl, Cod.reps_one ⟨rfl, rfl⟩, fun _ => ⟨_, rfl, fun j u hu => by cases j with | zero => (simp at hu; subst hu; rw [Addr.add_lit]; exact (Blk.new w 5 #[.int .u8 (b.toNat : Int)]).cell 0) | succ j => simp at hu⟩⟩
theorem src_three {w : World} {a b c : Int} (ha : -9223372036854775808 ≤ a ∧ a ≤ 9223372036854775807) (hb : -9223372036854775808 ≤ b ∧ b ≤ 9223372036854775807) (hc : -9223372036854775808 ≤ c ∧ c ≤ 9223372036854775807) :
    cIS.rep (w.alloc (.cells #[.int .i64 a, .int .i64 b, .int .i64 c] 3)) [.slice (some ⟨w.heap.size, 0, none⟩) 3 3] [a, b, c] [w.heap.size] :=
  ⟨_, 3, rfl, Nat.le_refl _, by decide, .inr ⟨by simp, w.heap.size, 0, [], [.int .i64 a, .int .i64 b, .int .i64 c], rfl, rfl, fun j u hu => ⟨by rw [Nat.zero_add, (Blk.new w 3 _).cell]; simpa using hu, (Blk.new w 3 _).frozen _⟩,
    ⟨[_], _, [], [], rfl, rfl, ⟨rfl, rfl, ha⟩, ⟨[_], _, [], [], rfl, rfl, ⟨rfl, rfl, hb⟩, ⟨[_], _, [], [], rfl, rfl, ⟨rfl, rfl, hc⟩, rfl, rfl⟩⟩⟩⟩⟩

set_option maxRecDepth 100000 in
set_option maxHeartbeats 2000000 in
theorem specBodyOf_any (vs : Array Value) (x : TSite) (F : List Nat) (pa : ByteArray) (v : Int) (w : World) (h : cSite.rep w vs.toList x F) (hn : cSite.sz x ≤ 1048576) (hpa : pa.size ≤ 2097152) (hv : -9223372036854775808 ≤ v ∧ v ≤ 9223372036854775807) :
    Calls Try.prog 55 #[.agg vs, .string pa, .int .i64 v] w (GivesS cUS w (bodyOf x pa v)) := by
  obtain ⟨i0, hi0, hz0, hz1, hz2⟩ := info_parts infoU8
  obtain ⟨v2, F2, rfl, -, hok, m2⟩ := TSite.outA h
  have hns : x.name.size ≤ 2097152 := by
    have h1 : cSite.sz x = x.name.size + (0 + (Cod.szs cS x.files + 0)) := rfl
    omega
  have hd1 := derive_range 107 x.name
  have hd2 := derive_range 109 pa
  have hwr : -9223372036854775808 ≤ IntKind.i64.wrap (1 + v) ∧ IntKind.i64.wrap (1 + v) ≤ 9223372036854775807 := by rw [IntKind.wrap_i64]; omega
  obtain ⟨kk, hkk⟩ : ∃ kk, IntKind.i64.wrap (1 + v) = kk := ⟨_, rfl⟩
  rw [hkk] at hwr
  have HW9 := Lib.hid hwr
  have hhr := keyed_range kk [103, derive 107 x.name, derive 109 pa]
  obtain ⟨e1, he1⟩ : ∃ e1, derive 107 x.name = e1 := ⟨_, rfl⟩
  obtain ⟨e2, he2⟩ : ∃ e2, derive 109 pa = e2 := ⟨_, rfl⟩
  have HE1 := Lib.hid he1
  have HE2 := Lib.hid he2
  rw [he1] at hd1 hhr
  rw [he2] at hd2 hhr
  have hb : bodyHash x pa v = keyedHash kk [103, e1, e2] := by unfold bodyHash; rw [he1, he2, hkk]
  obtain ⟨q, hq⟩ : ∃ q, keyedHash kk [103, e1, e2] = q := ⟨_, rfl⟩
  rw [hq] at hhr
  have HQ := Lib.hid hq
  have HB := Lib.hid (show bodyOf x pa v = bodyTo q 6 by unfold bodyOf; rw [hb, hq])
  have HS := Lib.hid (And.intro hns hpa)
  clear he1 he2 hb hq hns hpa h hwr
  go_enter Try.func55, Try.ntmps55
  go_wp2_with fail
  refine (specDerive_any _ _ _ (by omega) HS.out.1).mono ?_
  rw [HE1.out]
  rintro e w1 ⟨rfl, hb1⟩
  have hB1 : Below w.heap.size w w1 := bel_then (by repeat (first | with_reducible exact Below.refl _ _ | with_reducible assumption | with_reducible refine bel_alloc ?_ _ | with_reducible refine bel_drew ?_ | with_reducible refine bel_drewN ?_ _ | (with_reducible refine bel_set ?_ ?_ _; rotate_left; ((try simp); (try omega))))) hb1
  clear hb1
  go_wp2_with fail
  refine (specDerive_any _ _ _ (by omega) HS.out.2).mono ?_
  rw [HE2.out]
  rintro e w2 ⟨rfl, hb2⟩
  have hB2 : Below w.heap.size w w2 := bel_then hB1 hb2
  clear hb2
  go_wp2_with fail
  refine (specKeyedHash_any _ _ _ _ _ (by exact src_three (by omega) (by omega) (by omega)) (by simp) HW9.out).mono ?_
  rw [HQ.out]
  rintro e w3 ⟨rfl, hb3⟩
  have hB3 : Below w.heap.size w w3 := bel_then hB2 (bel_then (by repeat (first | with_reducible exact Below.refl _ _ | with_reducible assumption | with_reducible refine bel_alloc ?_ _ | with_reducible refine bel_drew ?_ | with_reducible refine bel_drewN ?_ _ | (with_reducible refine bel_set ?_ ?_ _; rotate_left; ((try simp); (try omega))))) hb3)
  clear hb3
  go_wp2
  generalize hW : World.alloc _ _ = W
  have hbW : Below w.heap.size w W := by rw [← hW]; exact (by repeat (first | with_reducible exact Below.refl _ _ | with_reducible assumption | with_reducible refine bel_alloc ?_ _ | with_reducible refine bel_drew ?_ | with_reducible refine bel_drewN ?_ _ | (with_reducible refine bel_set ?_ ?_ _; rotate_left; ((try simp); (try omega)))))
  clear hW
  go_loopw [8, 9] (fun a i wr => ∃ j : Nat, j ≤ 6 ∧ i = .int .i64 (5 - (j : Int)) ∧ Own cU 5 w.heap.size wr a (bodyTo q j) [] ∧ Below w.heap.size w wr) (fun _ i _ => (intOf i + 1).toNat)
  case atStart => exact ⟨0, by omega, by simp, by rw [bodyTo_zero]; exact Own.empty _, hbW⟩
  case round =>
    obtain ⟨j, hj, rfl, hown, hB⟩ := hrel
    have HO := Lib.hid hown
    have hand : ∀ n, bits .and .i64 n 255 = n % 256 := and255
    clear hown
    rcases (by omega : j = 0 ∨ j = 1 ∨ j = 2 ∨ j = 3 ∨ j = 4 ∨ j = 5 ∨ j = 6) with rfl | rfl | rfl | rfl | rfl | rfl | rfl
    · go_wp2_with (at_builtin; refine wpList_app (c := cU) (B := w.heap.size) (xs := bodyTo q 0) (ys := [bodyByte q 0]) (Fi := []) (Fy := []) _ rfl _ _ _ rfl i0 _ _ Try.underlying22 hi0 hz0 hz1 hz2 rfl (by decide) rfl (HO.out.bel (by repeat (first | with_reducible exact Below.refl _ _ | with_reducible assumption | with_reducible refine bel_alloc ?_ _ | with_reducible refine bel_drew ?_ | with_reducible refine bel_drewN ?_ _ | (with_reducible refine bel_set ?_ ?_ _; rotate_left; ((try simp); (try omega)))))) (.slice (some ⟨wr.heap.size, 0, none⟩) 1 1) rfl (src_u8 (by have h := bodyByte_nat q 0; simp at h; omega)) (by rw [bodyTo_len]; unfold maxLen; simp) (by rw [bodyTo_len]; simp) (by have := hB.size; (try simp); (try omega)) (by simp) ?_)
      intro v2 w2 ho2 hg2 hat2
      rw [bodyTo_succ] at ho2
      have hb2 : Below w.heap.size w w2 := Below.grown (show Below w.heap.size w _ from (by repeat (first | with_reducible exact Below.refl _ _ | with_reducible assumption | with_reducible refine bel_alloc ?_ _ | with_reducible refine bel_drew ?_ | with_reducible refine bel_drewN ?_ _ | (with_reducible refine bel_set ?_ ?_ _; rotate_left; ((try simp); (try omega)))))) hg2 (by have := hB.size; (try simp); (try omega)) (fun b hb => (HO.out.lt b hb).1)
      have HO2 := Lib.hid ho2
      clear ho2 hg2 hat2
      go_wp2_with fail
      go_roundw
      case rel => exact ⟨1, by omega, by simp, HO2.out, hb2⟩
      case measure => simp [intOf]
    · go_wp2_with (at_builtin; refine wpList_app (c := cU) (B := w.heap.size) (xs := bodyTo q 1) (ys := [bodyByte q 1]) (Fi := []) (Fy := []) _ rfl _ _ _ rfl i0 _ _ Try.underlying22 hi0 hz0 hz1 hz2 rfl (by decide) rfl (HO.out.bel (by repeat (first | with_reducible exact Below.refl _ _ | with_reducible assumption | with_reducible refine bel_alloc ?_ _ | with_reducible refine bel_drew ?_ | with_reducible refine bel_drewN ?_ _ | (with_reducible refine bel_set ?_ ?_ _; rotate_left; ((try simp); (try omega)))))) (.slice (some ⟨wr.heap.size, 0, none⟩) 1 1) rfl (src_u8 (by have h := bodyByte_nat q 1; simp at h; omega)) (by rw [bodyTo_len]; unfold maxLen; simp) (by rw [bodyTo_len]; simp) (by have := hB.size; (try simp); (try omega)) (by simp) ?_)
      intro v2 w2 ho2 hg2 hat2
      rw [bodyTo_succ] at ho2
      have hb2 : Below w.heap.size w w2 := Below.grown (show Below w.heap.size w _ from (by repeat (first | with_reducible exact Below.refl _ _ | with_reducible assumption | with_reducible refine bel_alloc ?_ _ | with_reducible refine bel_drew ?_ | with_reducible refine bel_drewN ?_ _ | (with_reducible refine bel_set ?_ ?_ _; rotate_left; ((try simp); (try omega)))))) hg2 (by have := hB.size; (try simp); (try omega)) (fun b hb => (HO.out.lt b hb).1)
      have HO2 := Lib.hid ho2
      clear ho2 hg2 hat2
      go_wp2_with fail
      go_roundw
      case rel => exact ⟨2, by omega, by simp, HO2.out, hb2⟩
      case measure => simp [intOf]
    · go_wp2_with (at_builtin; refine wpList_app (c := cU) (B := w.heap.size) (xs := bodyTo q 2) (ys := [bodyByte q 2]) (Fi := []) (Fy := []) _ rfl _ _ _ rfl i0 _ _ Try.underlying22 hi0 hz0 hz1 hz2 rfl (by decide) rfl (HO.out.bel (by repeat (first | with_reducible exact Below.refl _ _ | with_reducible assumption | with_reducible refine bel_alloc ?_ _ | with_reducible refine bel_drew ?_ | with_reducible refine bel_drewN ?_ _ | (with_reducible refine bel_set ?_ ?_ _; rotate_left; ((try simp); (try omega)))))) (.slice (some ⟨wr.heap.size, 0, none⟩) 1 1) rfl (src_u8 (by have h := bodyByte_nat q 2; simp at h; omega)) (by rw [bodyTo_len]; unfold maxLen; simp) (by rw [bodyTo_len]; simp) (by have := hB.size; (try simp); (try omega)) (by simp) ?_)
      intro v2 w2 ho2 hg2 hat2
      rw [bodyTo_succ] at ho2
      have hb2 : Below w.heap.size w w2 := Below.grown (show Below w.heap.size w _ from (by repeat (first | with_reducible exact Below.refl _ _ | with_reducible assumption | with_reducible refine bel_alloc ?_ _ | with_reducible refine bel_drew ?_ | with_reducible refine bel_drewN ?_ _ | (with_reducible refine bel_set ?_ ?_ _; rotate_left; ((try simp); (try omega)))))) hg2 (by have := hB.size; (try simp); (try omega)) (fun b hb => (HO.out.lt b hb).1)
      have HO2 := Lib.hid ho2
      clear ho2 hg2 hat2
      go_wp2_with fail
      go_roundw
      case rel => exact ⟨3, by omega, by simp, HO2.out, hb2⟩
      case measure => simp [intOf]
    · go_wp2_with (at_builtin; refine wpList_app (c := cU) (B := w.heap.size) (xs := bodyTo q 3) (ys := [bodyByte q 3]) (Fi := []) (Fy := []) _ rfl _ _ _ rfl i0 _ _ Try.underlying22 hi0 hz0 hz1 hz2 rfl (by decide) rfl (HO.out.bel (by repeat (first | with_reducible exact Below.refl _ _ | with_reducible assumption | with_reducible refine bel_alloc ?_ _ | with_reducible refine bel_drew ?_ | with_reducible refine bel_drewN ?_ _ | (with_reducible refine bel_set ?_ ?_ _; rotate_left; ((try simp); (try omega)))))) (.slice (some ⟨wr.heap.size, 0, none⟩) 1 1) rfl (src_u8 (by have h := bodyByte_nat q 3; simp at h; omega)) (by rw [bodyTo_len]; unfold maxLen; simp) (by rw [bodyTo_len]; simp) (by have := hB.size; (try simp); (try omega)) (by simp) ?_)
      intro v2 w2 ho2 hg2 hat2
      rw [bodyTo_succ] at ho2
      have hb2 : Below w.heap.size w w2 := Below.grown (show Below w.heap.size w _ from (by repeat (first | with_reducible exact Below.refl _ _ | with_reducible assumption | with_reducible refine bel_alloc ?_ _ | with_reducible refine bel_drew ?_ | with_reducible refine bel_drewN ?_ _ | (with_reducible refine bel_set ?_ ?_ _; rotate_left; ((try simp); (try omega)))))) hg2 (by have := hB.size; (try simp); (try omega)) (fun b hb => (HO.out.lt b hb).1)
      have HO2 := Lib.hid ho2
      clear ho2 hg2 hat2
      go_wp2_with fail
      go_roundw
      case rel => exact ⟨4, by omega, by simp, HO2.out, hb2⟩
      case measure => simp [intOf]
    · go_wp2_with (at_builtin; refine wpList_app (c := cU) (B := w.heap.size) (xs := bodyTo q 4) (ys := [bodyByte q 4]) (Fi := []) (Fy := []) _ rfl _ _ _ rfl i0 _ _ Try.underlying22 hi0 hz0 hz1 hz2 rfl (by decide) rfl (HO.out.bel (by repeat (first | with_reducible exact Below.refl _ _ | with_reducible assumption | with_reducible refine bel_alloc ?_ _ | with_reducible refine bel_drew ?_ | with_reducible refine bel_drewN ?_ _ | (with_reducible refine bel_set ?_ ?_ _; rotate_left; ((try simp); (try omega)))))) (.slice (some ⟨wr.heap.size, 0, none⟩) 1 1) rfl (src_u8 (by have h := bodyByte_nat q 4; simp at h; omega)) (by rw [bodyTo_len]; unfold maxLen; simp) (by rw [bodyTo_len]; simp) (by have := hB.size; (try simp); (try omega)) (by simp) ?_)
      intro v2 w2 ho2 hg2 hat2
      rw [bodyTo_succ] at ho2
      have hb2 : Below w.heap.size w w2 := Below.grown (show Below w.heap.size w _ from (by repeat (first | with_reducible exact Below.refl _ _ | with_reducible assumption | with_reducible refine bel_alloc ?_ _ | with_reducible refine bel_drew ?_ | with_reducible refine bel_drewN ?_ _ | (with_reducible refine bel_set ?_ ?_ _; rotate_left; ((try simp); (try omega)))))) hg2 (by have := hB.size; (try simp); (try omega)) (fun b hb => (HO.out.lt b hb).1)
      have HO2 := Lib.hid ho2
      clear ho2 hg2 hat2
      go_wp2_with fail
      go_roundw
      case rel => exact ⟨5, by omega, by simp, HO2.out, hb2⟩
      case measure => simp [intOf]
    · go_wp2_with (at_builtin; refine wpList_app (c := cU) (B := w.heap.size) (xs := bodyTo q 5) (ys := [bodyByte q 5]) (Fi := []) (Fy := []) _ rfl _ _ _ rfl i0 _ _ Try.underlying22 hi0 hz0 hz1 hz2 rfl (by decide) rfl (HO.out.bel (by repeat (first | with_reducible exact Below.refl _ _ | with_reducible assumption | with_reducible refine bel_alloc ?_ _ | with_reducible refine bel_drew ?_ | with_reducible refine bel_drewN ?_ _ | (with_reducible refine bel_set ?_ ?_ _; rotate_left; ((try simp); (try omega)))))) (.slice (some ⟨wr.heap.size, 0, none⟩) 1 1) rfl (src_u8 (by have h := bodyByte_nat q 5; simp at h; omega)) (by rw [bodyTo_len]; unfold maxLen; simp) (by rw [bodyTo_len]; simp) (by have := hB.size; (try simp); (try omega)) (by simp) ?_)
      intro v2 w2 ho2 hg2 hat2
      rw [bodyTo_succ] at ho2
      have hb2 : Below w.heap.size w w2 := Below.grown (show Below w.heap.size w _ from (by repeat (first | with_reducible exact Below.refl _ _ | with_reducible assumption | with_reducible refine bel_alloc ?_ _ | with_reducible refine bel_drew ?_ | with_reducible refine bel_drewN ?_ _ | (with_reducible refine bel_set ?_ ?_ _; rotate_left; ((try simp); (try omega)))))) hg2 (by have := hB.size; (try simp); (try omega)) (fun b hb => (HO.out.lt b hb).1)
      have HO2 := Lib.hid ho2
      clear ho2 hg2 hat2
      go_wp2_with fail
      go_roundw
      case rel => exact ⟨6, by omega, by simp, HO2.out, hb2⟩
      case measure => simp [intOf]
    · obtain ⟨G, hr2, hf2, -⟩ := HO.out.fresh (hw := by decide) (hw2 := by decide)
      have HR := Lib.hid hr2
      clear hr2
      go_wp2
      go_ret
      exact ⟨_, G, rfl, hB, by rw [HB.out]; exact HR.out, hf2⟩
set_option maxRecDepth 100000 in
set_option maxHeartbeats 2000000 in
theorem implBodyOf_any (vs : Array Value) (x : TSite) (F : List Nat) (pa : ByteArray) (v : Int) (w : World) (h : cSite.rep w vs.toList x F) (hn : cSite.sz x ≤ 1048576) (hpa : pa.size ≤ 2097152) (hv : -9223372036854775808 ≤ v ∧ v ≤ 9223372036854775807) :
    Calls Try.prog 33 #[.agg vs, .string pa, .int .i64 v] w (GivesS cUS w (bodyOf x pa v)) := by
  obtain ⟨i0, hi0, hz0, hz1, hz2⟩ := info_parts infoU8
  obtain ⟨v2, F2, rfl, -, hok, m2⟩ := TSite.outA h
  have hns : x.name.size ≤ 2097152 := by
    have h1 : cSite.sz x = x.name.size + (0 + (Cod.szs cS x.files + 0)) := rfl
    omega
  have hd1 := derive_range 107 x.name
  have hd2 := derive_range 109 pa
  have hwr : -9223372036854775808 ≤ IntKind.i64.wrap (1 + v) ∧ IntKind.i64.wrap (1 + v) ≤ 9223372036854775807 := by rw [IntKind.wrap_i64]; omega
  obtain ⟨kk, hkk⟩ : ∃ kk, IntKind.i64.wrap (1 + v) = kk := ⟨_, rfl⟩
  rw [hkk] at hwr
  have HW9 := Lib.hid hwr
  have hhr := keyed_range kk [103, derive 107 x.name, derive 109 pa]
  obtain ⟨e1, he1⟩ : ∃ e1, derive 107 x.name = e1 := ⟨_, rfl⟩
  obtain ⟨e2, he2⟩ : ∃ e2, derive 109 pa = e2 := ⟨_, rfl⟩
  have HE1 := Lib.hid he1
  have HE2 := Lib.hid he2
  rw [he1] at hd1 hhr
  rw [he2] at hd2 hhr
  have hb : bodyHash x pa v = keyedHash kk [103, e1, e2] := by unfold bodyHash; rw [he1, he2, hkk]
  obtain ⟨q, hq⟩ : ∃ q, keyedHash kk [103, e1, e2] = q := ⟨_, rfl⟩
  rw [hq] at hhr
  have HQ := Lib.hid hq
  have HB := Lib.hid (show bodyOf x pa v = bodyTo q 6 by unfold bodyOf; rw [hb, hq])
  have HS := Lib.hid (And.intro hns hpa)
  clear he1 he2 hb hq hns hpa h hwr
  go_enter Try.func33, Try.ntmps33
  go_wp2_with fail
  refine (implDerive_any _ _ _ (by omega) HS.out.1).mono ?_
  rw [HE1.out]
  rintro e w1 ⟨rfl, hb1⟩
  have hB1 : Below w.heap.size w w1 := bel_then (by repeat (first | with_reducible exact Below.refl _ _ | with_reducible assumption | with_reducible refine bel_alloc ?_ _ | with_reducible refine bel_drew ?_ | with_reducible refine bel_drewN ?_ _ | (with_reducible refine bel_set ?_ ?_ _; rotate_left; ((try simp); (try omega))))) hb1
  clear hb1
  go_wp2_with fail
  refine (implDerive_any _ _ _ (by omega) HS.out.2).mono ?_
  rw [HE2.out]
  rintro e w2 ⟨rfl, hb2⟩
  have hB2 : Below w.heap.size w w2 := bel_then hB1 hb2
  clear hb2
  go_wp2_with fail
  refine (implKeyedHash_any _ _ _ _ _ (by exact src_three (by omega) (by omega) (by omega)) (by simp) HW9.out).mono ?_
  rw [HQ.out]
  rintro e w3 ⟨rfl, hb3⟩
  have hB3 : Below w.heap.size w w3 := bel_then hB2 (bel_then (by repeat (first | with_reducible exact Below.refl _ _ | with_reducible assumption | with_reducible refine bel_alloc ?_ _ | with_reducible refine bel_drew ?_ | with_reducible refine bel_drewN ?_ _ | (with_reducible refine bel_set ?_ ?_ _; rotate_left; ((try simp); (try omega))))) hb3)
  clear hb3
  go_wp2
  generalize hW : World.alloc _ _ = W
  have hbW : Below w.heap.size w W := by rw [← hW]; exact (by repeat (first | with_reducible exact Below.refl _ _ | with_reducible assumption | with_reducible refine bel_alloc ?_ _ | with_reducible refine bel_drew ?_ | with_reducible refine bel_drewN ?_ _ | (with_reducible refine bel_set ?_ ?_ _; rotate_left; ((try simp); (try omega)))))
  clear hW
  go_loopw [8, 9] (fun a i wr => ∃ j : Nat, j ≤ 6 ∧ i = .int .i64 (5 - (j : Int)) ∧ Own cU 5 w.heap.size wr a (bodyTo q j) [] ∧ Below w.heap.size w wr) (fun _ i _ => (intOf i + 1).toNat)
  case atStart => exact ⟨0, by omega, by simp, by rw [bodyTo_zero]; exact Own.empty _, hbW⟩
  case round =>
    obtain ⟨j, hj, rfl, hown, hB⟩ := hrel
    have HO := Lib.hid hown
    have hand : ∀ n, bits .and .i64 n 255 = n % 256 := and255
    clear hown
    rcases (by omega : j = 0 ∨ j = 1 ∨ j = 2 ∨ j = 3 ∨ j = 4 ∨ j = 5 ∨ j = 6) with rfl | rfl | rfl | rfl | rfl | rfl | rfl
    · go_wp2_with (at_builtin; refine wpList_app (c := cU) (B := w.heap.size) (xs := bodyTo q 0) (ys := [bodyByte q 0]) (Fi := []) (Fy := []) _ rfl _ _ _ rfl i0 _ _ Try.underlying22 hi0 hz0 hz1 hz2 rfl (by decide) rfl (HO.out.bel (by repeat (first | with_reducible exact Below.refl _ _ | with_reducible assumption | with_reducible refine bel_alloc ?_ _ | with_reducible refine bel_drew ?_ | with_reducible refine bel_drewN ?_ _ | (with_reducible refine bel_set ?_ ?_ _; rotate_left; ((try simp); (try omega)))))) (.slice (some ⟨wr.heap.size, 0, none⟩) 1 1) rfl (src_u8 (by have h := bodyByte_nat q 0; simp at h; omega)) (by rw [bodyTo_len]; unfold maxLen; simp) (by rw [bodyTo_len]; simp) (by have := hB.size; (try simp); (try omega)) (by simp) ?_)
      intro v2 w2 ho2 hg2 hat2
      rw [bodyTo_succ] at ho2
      have hb2 : Below w.heap.size w w2 := Below.grown (show Below w.heap.size w _ from (by repeat (first | with_reducible exact Below.refl _ _ | with_reducible assumption | with_reducible refine bel_alloc ?_ _ | with_reducible refine bel_drew ?_ | with_reducible refine bel_drewN ?_ _ | (with_reducible refine bel_set ?_ ?_ _; rotate_left; ((try simp); (try omega)))))) hg2 (by have := hB.size; (try simp); (try omega)) (fun b hb => (HO.out.lt b hb).1)
      have HO2 := Lib.hid ho2
      clear ho2 hg2 hat2
      go_wp2_with fail
      go_roundw
      case rel => exact ⟨1, by omega, by simp, HO2.out, hb2⟩
      case measure => simp [intOf]
    · go_wp2_with (at_builtin; refine wpList_app (c := cU) (B := w.heap.size) (xs := bodyTo q 1) (ys := [bodyByte q 1]) (Fi := []) (Fy := []) _ rfl _ _ _ rfl i0 _ _ Try.underlying22 hi0 hz0 hz1 hz2 rfl (by decide) rfl (HO.out.bel (by repeat (first | with_reducible exact Below.refl _ _ | with_reducible assumption | with_reducible refine bel_alloc ?_ _ | with_reducible refine bel_drew ?_ | with_reducible refine bel_drewN ?_ _ | (with_reducible refine bel_set ?_ ?_ _; rotate_left; ((try simp); (try omega)))))) (.slice (some ⟨wr.heap.size, 0, none⟩) 1 1) rfl (src_u8 (by have h := bodyByte_nat q 1; simp at h; omega)) (by rw [bodyTo_len]; unfold maxLen; simp) (by rw [bodyTo_len]; simp) (by have := hB.size; (try simp); (try omega)) (by simp) ?_)
      intro v2 w2 ho2 hg2 hat2
      rw [bodyTo_succ] at ho2
      have hb2 : Below w.heap.size w w2 := Below.grown (show Below w.heap.size w _ from (by repeat (first | with_reducible exact Below.refl _ _ | with_reducible assumption | with_reducible refine bel_alloc ?_ _ | with_reducible refine bel_drew ?_ | with_reducible refine bel_drewN ?_ _ | (with_reducible refine bel_set ?_ ?_ _; rotate_left; ((try simp); (try omega)))))) hg2 (by have := hB.size; (try simp); (try omega)) (fun b hb => (HO.out.lt b hb).1)
      have HO2 := Lib.hid ho2
      clear ho2 hg2 hat2
      go_wp2_with fail
      go_roundw
      case rel => exact ⟨2, by omega, by simp, HO2.out, hb2⟩
      case measure => simp [intOf]
    · go_wp2_with (at_builtin; refine wpList_app (c := cU) (B := w.heap.size) (xs := bodyTo q 2) (ys := [bodyByte q 2]) (Fi := []) (Fy := []) _ rfl _ _ _ rfl i0 _ _ Try.underlying22 hi0 hz0 hz1 hz2 rfl (by decide) rfl (HO.out.bel (by repeat (first | with_reducible exact Below.refl _ _ | with_reducible assumption | with_reducible refine bel_alloc ?_ _ | with_reducible refine bel_drew ?_ | with_reducible refine bel_drewN ?_ _ | (with_reducible refine bel_set ?_ ?_ _; rotate_left; ((try simp); (try omega)))))) (.slice (some ⟨wr.heap.size, 0, none⟩) 1 1) rfl (src_u8 (by have h := bodyByte_nat q 2; simp at h; omega)) (by rw [bodyTo_len]; unfold maxLen; simp) (by rw [bodyTo_len]; simp) (by have := hB.size; (try simp); (try omega)) (by simp) ?_)
      intro v2 w2 ho2 hg2 hat2
      rw [bodyTo_succ] at ho2
      have hb2 : Below w.heap.size w w2 := Below.grown (show Below w.heap.size w _ from (by repeat (first | with_reducible exact Below.refl _ _ | with_reducible assumption | with_reducible refine bel_alloc ?_ _ | with_reducible refine bel_drew ?_ | with_reducible refine bel_drewN ?_ _ | (with_reducible refine bel_set ?_ ?_ _; rotate_left; ((try simp); (try omega)))))) hg2 (by have := hB.size; (try simp); (try omega)) (fun b hb => (HO.out.lt b hb).1)
      have HO2 := Lib.hid ho2
      clear ho2 hg2 hat2
      go_wp2_with fail
      go_roundw
      case rel => exact ⟨3, by omega, by simp, HO2.out, hb2⟩
      case measure => simp [intOf]
    · go_wp2_with (at_builtin; refine wpList_app (c := cU) (B := w.heap.size) (xs := bodyTo q 3) (ys := [bodyByte q 3]) (Fi := []) (Fy := []) _ rfl _ _ _ rfl i0 _ _ Try.underlying22 hi0 hz0 hz1 hz2 rfl (by decide) rfl (HO.out.bel (by repeat (first | with_reducible exact Below.refl _ _ | with_reducible assumption | with_reducible refine bel_alloc ?_ _ | with_reducible refine bel_drew ?_ | with_reducible refine bel_drewN ?_ _ | (with_reducible refine bel_set ?_ ?_ _; rotate_left; ((try simp); (try omega)))))) (.slice (some ⟨wr.heap.size, 0, none⟩) 1 1) rfl (src_u8 (by have h := bodyByte_nat q 3; simp at h; omega)) (by rw [bodyTo_len]; unfold maxLen; simp) (by rw [bodyTo_len]; simp) (by have := hB.size; (try simp); (try omega)) (by simp) ?_)
      intro v2 w2 ho2 hg2 hat2
      rw [bodyTo_succ] at ho2
      have hb2 : Below w.heap.size w w2 := Below.grown (show Below w.heap.size w _ from (by repeat (first | with_reducible exact Below.refl _ _ | with_reducible assumption | with_reducible refine bel_alloc ?_ _ | with_reducible refine bel_drew ?_ | with_reducible refine bel_drewN ?_ _ | (with_reducible refine bel_set ?_ ?_ _; rotate_left; ((try simp); (try omega)))))) hg2 (by have := hB.size; (try simp); (try omega)) (fun b hb => (HO.out.lt b hb).1)
      have HO2 := Lib.hid ho2
      clear ho2 hg2 hat2
      go_wp2_with fail
      go_roundw
      case rel => exact ⟨4, by omega, by simp, HO2.out, hb2⟩
      case measure => simp [intOf]
    · go_wp2_with (at_builtin; refine wpList_app (c := cU) (B := w.heap.size) (xs := bodyTo q 4) (ys := [bodyByte q 4]) (Fi := []) (Fy := []) _ rfl _ _ _ rfl i0 _ _ Try.underlying22 hi0 hz0 hz1 hz2 rfl (by decide) rfl (HO.out.bel (by repeat (first | with_reducible exact Below.refl _ _ | with_reducible assumption | with_reducible refine bel_alloc ?_ _ | with_reducible refine bel_drew ?_ | with_reducible refine bel_drewN ?_ _ | (with_reducible refine bel_set ?_ ?_ _; rotate_left; ((try simp); (try omega)))))) (.slice (some ⟨wr.heap.size, 0, none⟩) 1 1) rfl (src_u8 (by have h := bodyByte_nat q 4; simp at h; omega)) (by rw [bodyTo_len]; unfold maxLen; simp) (by rw [bodyTo_len]; simp) (by have := hB.size; (try simp); (try omega)) (by simp) ?_)
      intro v2 w2 ho2 hg2 hat2
      rw [bodyTo_succ] at ho2
      have hb2 : Below w.heap.size w w2 := Below.grown (show Below w.heap.size w _ from (by repeat (first | with_reducible exact Below.refl _ _ | with_reducible assumption | with_reducible refine bel_alloc ?_ _ | with_reducible refine bel_drew ?_ | with_reducible refine bel_drewN ?_ _ | (with_reducible refine bel_set ?_ ?_ _; rotate_left; ((try simp); (try omega)))))) hg2 (by have := hB.size; (try simp); (try omega)) (fun b hb => (HO.out.lt b hb).1)
      have HO2 := Lib.hid ho2
      clear ho2 hg2 hat2
      go_wp2_with fail
      go_roundw
      case rel => exact ⟨5, by omega, by simp, HO2.out, hb2⟩
      case measure => simp [intOf]
    · go_wp2_with (at_builtin; refine wpList_app (c := cU) (B := w.heap.size) (xs := bodyTo q 5) (ys := [bodyByte q 5]) (Fi := []) (Fy := []) _ rfl _ _ _ rfl i0 _ _ Try.underlying22 hi0 hz0 hz1 hz2 rfl (by decide) rfl (HO.out.bel (by repeat (first | with_reducible exact Below.refl _ _ | with_reducible assumption | with_reducible refine bel_alloc ?_ _ | with_reducible refine bel_drew ?_ | with_reducible refine bel_drewN ?_ _ | (with_reducible refine bel_set ?_ ?_ _; rotate_left; ((try simp); (try omega)))))) (.slice (some ⟨wr.heap.size, 0, none⟩) 1 1) rfl (src_u8 (by have h := bodyByte_nat q 5; simp at h; omega)) (by rw [bodyTo_len]; unfold maxLen; simp) (by rw [bodyTo_len]; simp) (by have := hB.size; (try simp); (try omega)) (by simp) ?_)
      intro v2 w2 ho2 hg2 hat2
      rw [bodyTo_succ] at ho2
      have hb2 : Below w.heap.size w w2 := Below.grown (show Below w.heap.size w _ from (by repeat (first | with_reducible exact Below.refl _ _ | with_reducible assumption | with_reducible refine bel_alloc ?_ _ | with_reducible refine bel_drew ?_ | with_reducible refine bel_drewN ?_ _ | (with_reducible refine bel_set ?_ ?_ _; rotate_left; ((try simp); (try omega)))))) hg2 (by have := hB.size; (try simp); (try omega)) (fun b hb => (HO.out.lt b hb).1)
      have HO2 := Lib.hid ho2
      clear ho2 hg2 hat2
      go_wp2_with fail
      go_roundw
      case rel => exact ⟨6, by omega, by simp, HO2.out, hb2⟩
      case measure => simp [intOf]
    · obtain ⟨G, hr2, hf2, -⟩ := HO.out.fresh (hw := by decide) (hw2 := by decide)
      have HR := Lib.hid hr2
      clear hr2
      go_wp2
      go_ret
      exact ⟨_, G, rfl, hB, by rw [HB.out]; exact HR.out, hf2⟩
theorem bodyOf_sz (x : TSite) (pa : ByteArray) (v : Int) : cUS.sz (bodyOf x pa v) ≤ 12 := by
  have h1 : cUS.sz (bodyOf x pa v) = cU.szs (bodyOf x pa v) := rfl
  rw [h1, Cod.szs_flat (fun _ => rfl)]
  unfold bodyOf
  rw [bodyTo_len]; omega
theorem bodyOf_len (x : TSite) (pa : ByteArray) (v : Int) : (bodyOf x pa v).length = 6 := bodyTo_len _ _
end Go.Proofs.Ytlicnppfgfjkgaa
