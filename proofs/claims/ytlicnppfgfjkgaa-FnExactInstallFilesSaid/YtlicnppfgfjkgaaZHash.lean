/-
  Mod, Hash, KeyedHash, BytesToInts, DeriveFromString of the program and of the reference. No conditions.
-/
import Derived.Test.YtlicnppfgfjkgaaZLoopFn
import Derived.Test.YtlicnppfgfjkgaaZA
import Derived.Test.YtlicnppfgfjkgaaZB
import Derived.Test.YtlicnppfgfjkgaaZServes
import Derived.IntWalk
import Derived.Laws.IdiomStrings
namespace Go.Proofs.Ytlicnppfgfjkgaa
open Go.ChangeShapes Go.WideShapes Go.RowKit
set_option linter.unusedVariables false

def hashStep (d x : Int) : Int := (d * 1000003 + x % 2147483647 + 13) % 2147483647
def hashL (l : List Int) : Int := l.foldl hashStep 11
theorem hashL_range (l : List Int) : 0 ≤ hashL l ∧ hashL l < 2147483647 := by
  have : ∀ (l : List Int) (d : Int), 0 ≤ d ∧ d < 2147483647 → 0 ≤ l.foldl hashStep d ∧ l.foldl hashStep d < 2147483647 := by
    intro l
    induction l with
    | nil => exact fun d h => h
    | cons x l ih => exact fun d h => ih _ (by unfold hashStep; omega)
  exact this l 11 (by omega)
theorem hashL_take {l : List Int} {k : Nat} (h : k < l.length) : hashL (l.take (k + 1)) = hashStep (hashL (l.take k)) l[k] := by
  unfold hashL
  rw [List.take_succ_eq_append_getElem h, List.foldl_append]; rfl
def keyedHash (k : Int) (l : List Int) : Int := hashL (([k] ++ l) ++ [k])
def bytesInts (b : List UInt8) : List Int := (b.length : Int) :: b.map fun x => (x.toNat : Int)
def derive (k : Int) (s : ByteArray) : Int := if keyedHash k (bytesInts s.data.toList) = 0 then 1 else keyedHash k (bytesInts s.data.toList)

theorem tmod_mod (n : Int) : (n.tmod 2147483647 + 2147483647).tmod 2147483647 = n % 2147483647 := by
  rcases Int.le_total 0 n with h | h
  · rw [Int.tmod_eq_emod_of_nonneg h, Int.tmod_eq_emod_of_nonneg (by omega)]; omega
  · have h1 : n.tmod 2147483647 = -((-n) % 2147483647) := by rw [← Int.tmod_eq_emod_of_nonneg (by omega : 0 ≤ -n), Int.neg_tmod, Int.neg_neg]
    rw [h1, Int.tmod_eq_emod_of_nonneg (by omega)]; omega
theorem tmod_neg {n : Int} (h : n.tmod 2147483647 < 0) : n.tmod 2147483647 + 2147483647 = n % 2147483647 := by
  rcases Int.le_total 0 n with h0 | h0
  · rw [Int.tmod_eq_emod_of_nonneg h0] at h; omega
  · have h1 : n.tmod 2147483647 = -((-n) % 2147483647) := by rw [← Int.tmod_eq_emod_of_nonneg (by omega : 0 ≤ -n), Int.neg_tmod, Int.neg_neg]
    rw [h1] at h ⊢; omega
theorem tmod_pos {n : Int} (h : ¬ n.tmod 2147483647 < 0) : n.tmod 2147483647 = n % 2147483647 := by
  rcases Int.le_total 0 n with h0 | h0
  · rw [Int.tmod_eq_emod_of_nonneg h0]
  · have h1 : n.tmod 2147483647 = -((-n) % 2147483647) := by rw [← Int.tmod_eq_emod_of_nonneg (by omega : 0 ≤ -n), Int.neg_tmod, Int.neg_neg]
    rw [h1] at h ⊢; omega
theorem tmod_bounds (n : Int) : -2147483647 < n.tmod 2147483647 ∧ n.tmod 2147483647 < 2147483647 := by
  rcases Int.le_total 0 n with h0 | h0
  · rw [Int.tmod_eq_emod_of_nonneg h0]; omega
  · have h1 : n.tmod 2147483647 = -((-n) % 2147483647) := by rw [← Int.tmod_eq_emod_of_nonneg (by omega : 0 ≤ -n), Int.neg_tmod, Int.neg_neg]
    rw [h1]; omega

set_option maxHeartbeats 1000000 in
theorem specMod_any (n : Int) (w : World) (hn : -9223372036854775808 ≤ n ∧ n ≤ 9223372036854775807) :
    Calls Try.prog 170 #[.int .i64 n, .int .i64 2147483647] w fun e w' => e = .returned (.int .i64 (n % 2147483647)) ∧ w = w' := by
  have h1 := tmod_bounds n
  have h2 := tmod_mod n
  obtain ⟨q, hq⟩ : ∃ q, n.tmod 2147483647 = q := ⟨_, rfl⟩
  rw [hq] at h1 h2
  go_enter Try.func170, Try.ntmps170
  go_wp2_with (first | (go_at_call 83; refine (l1In_any _ _ _ _).mono ?_; rintro e w1 ⟨rfl, rfl⟩))
  all_goals go_ret
  all_goals (first | exact ⟨ret_int h2, rfl⟩ | (simp_all [inR]; done) | skip)
set_option maxHeartbeats 1000000 in
theorem implMod_any (n : Int) (w : World) (hn : -9223372036854775808 ≤ n ∧ n ≤ 9223372036854775807) :
    Calls Try.prog 162 #[.int .i64 n, .int .i64 2147483647] w fun e w' => e = .returned (.int .i64 (n % 2147483647)) ∧ w = w' := by
  have h1 := tmod_bounds n
  have h2 := @tmod_neg n
  have h3 := @tmod_pos n
  obtain ⟨q, hq⟩ : ∃ q, n.tmod 2147483647 = q := ⟨_, rfl⟩
  rw [hq] at h1 h2 h3
  by_cases hneg : q < 0
  · have h4 := h2 hneg
    clear h2 h3
    go_enter Try.func162, Try.ntmps162
    go_wp2_with (first | (go_at_call 66; refine (inRange_any _ _ _ _).mono ?_; rintro e w1 ⟨rfl, rfl⟩))
    all_goals go_ret
    all_goals (first | exact ⟨ret_int h4, rfl⟩ | (simp_all [inR]; done) | skip)
  · have h4 := h3 hneg
    clear h2 h3
    go_enter Try.func162, Try.ntmps162
    go_wp2_with (first | (go_at_call 66; refine (inRange_any _ _ _ _).mono ?_; rintro e w1 ⟨rfl, rfl⟩))
    all_goals go_ret
    all_goals (first | exact ⟨ret_int h4, rfl⟩ | (simp_all [inR]; done) | skip)

theorem Own.of_new {α : Type} {c : Cod α} {w : World} {vs : Array Value} {xs : List α} {F : List Nat} (T : TypeId) (n : Nat) (hn : n = xs.length) (hc : 0 < n) (hm : n ≤ maxLen) (hs : vs.size = n * c.wd) (h : c.reps (w.alloc (.cells vs T)) vs.toList xs F) :
    Own c T w.heap.size (w.alloc (.cells vs T)) (.slice (some ⟨w.heap.size, 0, none⟩) n n) xs F := by
  subst hn
  refine .inr ⟨vs.toList, ⟨by simpa using hs, .inr ⟨w.heap.size, xs.length, vs, rfl, Nat.le_refl _, heap_alloc_new w _, Nat.le_refl _, hm, hs, ?_⟩⟩, h⟩
  rw [List.take_of_length_le (by simpa using Nat.le_of_eq hs)]
theorem repsI {w : World} {n : Int} (h : -9223372036854775808 ≤ n ∧ n ≤ 9223372036854775807) : cI.reps w (#[Value.int .i64 n] : Array Value).toList [n] [] := Cod.reps_one ⟨rfl, rfl, h.1, h.2⟩

set_option maxHeartbeats 2000000 in
theorem specHash_any (v : Value) (xs : List Int) (F : List Nat) (w : World) (h : cIS.rep w [v] xs F) (hn : xs.length ≤ 8000000) :
    Calls Try.prog 153 #[v] w fun e w' => e = .returned (.int .i64 (hashL xs)) ∧ w = w' := by
  obtain ⟨A, cp, rfl⟩ := cL_form h
  obtain ⟨-, hcp, hm⟩ := cL_len h
  unfold maxLen at hm
  obtain ⟨n, hxn⟩ : ∃ n, xs.length = n := ⟨_, rfl⟩
  have HN := Lib.hid hxn
  rw [hxn] at h hcp hn ⊢
  clear hxn
  go_enter Try.func153, Try.ntmps153
  go_wp2
  go_loopw [3, 4] (fun a i wr => ∃ k : Nat, k ≤ n ∧ i = .int .i64 k ∧ (∃ d : Int, a = .int .i64 d ∧ d = hashL (xs.take k)) ∧ wr = w) (fun _ i _ => n - (intOf i).toNat)
  case atStart => exact ⟨0, Nat.zero_le _, rfl, ⟨11, rfl, rfl⟩, rfl⟩
  case round =>
    obtain ⟨k, hk, rfl, ⟨d, rfl, hd⟩, rfl⟩ := hrel
    have hr := hashL_range (xs.take k)
    rw [← hd] at hr
    by_cases hlt : k < n
    · have hkx : k < xs.length := by rw [HN.out]; exact hlt
      obtain ⟨g, o, vs, F1, rfl, hgF, ⟨rfl, -, hx1, hx2⟩, -, hc⟩ := cL_get (hw := by decide) (hw2 := by decide) h hkx
      have q0 := (hc 0 _ rfl).1
      rw [show cI.wd = 1 from rfl, Nat.mul_one, Nat.add_zero] at q0
      have hki : (k : Int) < (n : Int) := by omega
      have hs := hashL_take hkx
      rw [← hd] at hs
      have HS := Lib.hid hs
      have hxb : -9223372036854775808 ≤ xs[k] ∧ xs[k] ≤ 9223372036854775807 := ⟨hx1, hx2⟩
      have hmb : 0 ≤ xs[k] % 2147483647 ∧ xs[k] % 2147483647 < 2147483647 := by omega
      have he : (d * 1000003 + xs[k] % 2147483647 + 13).tmod 2147483647 = hashStep d xs[k] := by rw [Int.tmod_eq_emod_of_nonneg (by omega)]; rfl
      have hw1 : IntKind.i64.wrap (d * 1000003) = d * 1000003 := IntWalk.i64_in _ (by omega)
      clear hc hs hd
      obtain ⟨xk, hxk⟩ : ∃ xk, xs[k] = xk := ⟨_, rfl⟩
      rw [hxk] at q0 hxb hmb he HS
      clear hxk hx1 hx2
      obtain ⟨mk, hmk⟩ : ∃ mk, xk % 2147483647 = mk := ⟨_, rfl⟩
      have HM := Lib.hid hmk
      rw [hmk] at hmb he
      clear hmk
      go_wp2_with (go_at_call 170; refine (specMod_any _ _ hxb).mono ?_; rw [HM.out]; rintro e w1 ⟨rfl, rfl⟩)
      go_roundw
      case rel => exact ⟨k + 1, by omega, by go_num, ⟨_, rfl, by first | rw [he, HS.out] | (rw [HS.out, ← he])⟩, by first | rfl | trivial⟩
      case measure => simp [intOf]; omega
    · obtain rfl : k = n := by omega
      have HD := Lib.hid (show d = hashL xs by rw [hd, List.take_of_length_le (by rw [HN.out]; exact Nat.le_refl _)])
      clear hd
      go_wp2
      go_ret
      exact ⟨ret_int HD.out, rfl⟩
set_option maxHeartbeats 2000000 in
theorem implHash_any (v : Value) (xs : List Int) (F : List Nat) (w : World) (h : cIS.rep w [v] xs F) (hn : xs.length ≤ 8000000) :
    Calls Try.prog 134 #[v] w fun e w' => e = .returned (.int .i64 (hashL xs)) ∧ w = w' := by
  obtain ⟨A, cp, rfl⟩ := cL_form h
  obtain ⟨-, hcp, hm⟩ := cL_len h
  unfold maxLen at hm
  obtain ⟨n, hxn⟩ : ∃ n, xs.length = n := ⟨_, rfl⟩
  have HN := Lib.hid hxn
  rw [hxn] at h hcp hn ⊢
  clear hxn
  go_enter Try.func134, Try.ntmps134
  go_wp2
  go_loopw [3, 8] (fun a i wr => ∃ k : Nat, k ≤ n ∧ i = .int .i64 k ∧ (∃ d : Int, a = .int .i64 d ∧ d = hashL (xs.take k)) ∧ wr = w) (fun _ i _ => n - (intOf i).toNat)
  case atStart => exact ⟨0, Nat.zero_le _, rfl, ⟨11, rfl, rfl⟩, rfl⟩
  case round =>
    obtain ⟨k, hk, rfl, ⟨d, rfl, hd⟩, rfl⟩ := hrel
    have hr := hashL_range (xs.take k)
    rw [← hd] at hr
    by_cases hlt : k < n
    · have hkx : k < xs.length := by rw [HN.out]; exact hlt
      obtain ⟨g, o, vs, F1, rfl, hgF, ⟨rfl, -, hx1, hx2⟩, -, hc⟩ := cL_get (hw := by decide) (hw2 := by decide) h hkx
      have q0 := (hc 0 _ rfl).1
      rw [show cI.wd = 1 from rfl, Nat.mul_one, Nat.add_zero] at q0
      have hki : (k : Int) < (n : Int) := by omega
      have hs := hashL_take hkx
      rw [← hd] at hs
      have HS := Lib.hid hs
      have hxb : -9223372036854775808 ≤ xs[k] ∧ xs[k] ≤ 9223372036854775807 := ⟨hx1, hx2⟩
      have hmb : 0 ≤ xs[k] % 2147483647 ∧ xs[k] % 2147483647 < 2147483647 := by omega
      have he : (d * 1000003 + xs[k] % 2147483647 + 13).tmod 2147483647 = hashStep d xs[k] := by rw [Int.tmod_eq_emod_of_nonneg (by omega)]; rfl
      have hw1 : IntKind.i64.wrap (d * 1000003) = d * 1000003 := IntWalk.i64_in _ (by omega)
      clear hc hs hd
      obtain ⟨xk, hxk⟩ : ∃ xk, xs[k] = xk := ⟨_, rfl⟩
      rw [hxk] at q0 hxb hmb he HS
      clear hxk hx1 hx2
      obtain ⟨mk, hmk⟩ : ∃ mk, xk % 2147483647 = mk := ⟨_, rfl⟩
      have HM := Lib.hid hmk
      rw [hmk] at hmb he
      clear hmk
      go_wp2_with (go_at_call 162; refine (implMod_any _ _ hxb).mono ?_; rw [HM.out]; rintro e w1 ⟨rfl, rfl⟩)
      go_roundw
      case rel => exact ⟨k + 1, by omega, by go_num, ⟨_, rfl, by first | rw [he, HS.out] | (rw [HS.out, ← he])⟩, by first | rfl | trivial⟩
      case measure => simp [intOf]; omega
    · obtain rfl : k = n := by omega
      have HD := Lib.hid (show d = hashL xs by rw [hd, List.take_of_length_le (by rw [HN.out]; exact Nat.le_refl _)])
      clear hd
      go_wp2
      go_ret
      exact ⟨ret_int HD.out, rfl⟩

/-! ### KeyedHash -/
set_option maxRecDepth 100000 in
set_option maxHeartbeats 2000000 in
theorem specKeyedHash_any (k : Int) (v : Value) (xs : List Int) (F : List Nat) (w : World) (h : cIS.rep w [v] xs F) (hn : xs.length ≤ 4000000) (hk : -9223372036854775808 ≤ k ∧ k ≤ 9223372036854775807) :
    Calls Try.prog 115 #[.int .i64 k, v] w (Gives w (.int .i64 (keyedHash k xs))) := by
  obtain ⟨i0, hi0, hz0, hz1, hz2⟩ := info_parts infoInt
  obtain ⟨A, cp, rfl⟩ := cL_form h
  have HS := Lib.hid (And.intro hn hk)
  clear hn hk
  go_enter Try.func115, Try.ntmps115
  go_wp2_with (at_builtin; refine wpList_app (c := cI) (B := w.heap.size) (xs := [k]) (ys := xs) (Fi := []) (Fy := []) _ rfl _ _ _ rfl i0 _ _ Try.underlying26 hi0 hz0 hz1 hz2 rfl (by decide) (v := .slice (some ⟨w.heap.size, 0, none⟩) 1 1) rfl (Own.of_new 3 1 rfl (by decide) (by decide) rfl (repsI HS.out.2)) (.slice A xs.length cp) rfl (AppSrc.flat (hw := by decide) (hw2 := by decide) flat_I (Cod.bel h (by repeat (first | with_reducible exact Below.refl _ _ | with_reducible assumption | with_reducible refine bel_alloc ?_ _ | with_reducible refine bel_drew ?_ | with_reducible refine bel_drewN ?_ _ | (with_reducible refine bel_set ?_ ?_ _; rotate_left; ((try simp); (try omega))))))) (by have := HS.out.1; unfold maxLen; simp; omega) (by have := HS.out.1; simp; omega) (by (try simp); (try omega)) (by simp [ownB]) ?_)
  intro v1 w1 ho1 hg1 hat1
  replace ho1 : Own cI 3 w.heap.size w1 v1 ([k] ++ xs) [] := ho1
  have hb1 : Below w.heap.size w w1 := Below.grown (show Below w.heap.size w _ from (by repeat (first | with_reducible exact Below.refl _ _ | with_reducible assumption | with_reducible refine bel_alloc ?_ _ | with_reducible refine bel_drew ?_ | with_reducible refine bel_drewN ?_ _ | (with_reducible refine bel_set ?_ ?_ _; rotate_left; ((try simp); (try omega)))))) hg1 (by (try simp); (try omega)) (fun b hb => by simp [ownB] at hb; omega)
  have hl1 : ([k] ++ xs).length = xs.length + 1 := by simp
  go_wp2_with (at_builtin; refine wpList_app (c := cI) (B := w.heap.size) (xs := [k] ++ xs) (ys := [k]) (Fi := []) (Fy := []) _ rfl _ _ _ rfl i0 _ _ Try.underlying26 hi0 hz0 hz1 hz2 rfl (by decide) (v := v1) rfl (ho1.bel (by repeat (first | with_reducible exact Below.refl _ _ | with_reducible assumption | with_reducible refine bel_alloc ?_ _ | with_reducible refine bel_drew ?_ | with_reducible refine bel_drewN ?_ _ | (with_reducible refine bel_set ?_ ?_ _; rotate_left; ((try simp); (try omega)))))) (.slice (some ⟨w1.heap.size, 0, none⟩) 1 1) rfl ⟨_, 1, [.int .i64 k], rfl, repsI HS.out.2, fun _ => ⟨_, rfl, fun j u hu => by cases j with | zero => (simp at hu; subst hu; rw [Addr.add_lit]; exact (Blk.new w1 3 #[.int .i64 k]).cell 0) | succ j => simp at hu⟩⟩ (by have := HS.out.1; rw [hl1]; unfold maxLen; simp; omega) (by have := HS.out.1; rw [hl1]; simp; omega) (by have := hb1.size; (try simp); (try omega)) (by simp) ?_)
  intro v2 w2 ho2 hg2 hat2
  replace ho2 : Own cI 3 w.heap.size w2 v2 (([k] ++ xs) ++ [k]) [] := ho2
  have hb2 : Below w.heap.size w w2 := Below.grown (show Below w.heap.size w _ from (by repeat (first | with_reducible exact Below.refl _ _ | with_reducible assumption | with_reducible refine bel_alloc ?_ _ | with_reducible refine bel_drew ?_ | with_reducible refine bel_drewN ?_ _ | (with_reducible refine bel_set ?_ ?_ _; rotate_left; ((try simp); (try omega)))))) hg2 (by have := hb1.size; (try simp); (try omega)) (fun b hb => (ho1.lt b hb).1)
  obtain ⟨G, hr2, -, -⟩ := ho2.fresh (hw := by decide) (hw2 := by decide)
  go_wp2_with (go_at_call 153; refine (specHash_any _ (([k] ++ xs) ++ [k]) _ _ (by exact hr2) (by have := HS.out.1; simp; omega)).mono ?_; rintro e w3 ⟨rfl, rfl⟩)
  go_ret
  exact ⟨rfl, hb2⟩
set_option maxRecDepth 100000 in
set_option maxHeartbeats 2000000 in
theorem implKeyedHash_any (k : Int) (v : Value) (xs : List Int) (F : List Nat) (w : World) (h : cIS.rep w [v] xs F) (hn : xs.length ≤ 4000000) (hk : -9223372036854775808 ≤ k ∧ k ≤ 9223372036854775807) :
    Calls Try.prog 85 #[.int .i64 k, v] w (Gives w (.int .i64 (keyedHash k xs))) := by
  obtain ⟨i0, hi0, hz0, hz1, hz2⟩ := info_parts infoInt
  obtain ⟨A, cp, rfl⟩ := cL_form h
  have HS := Lib.hid (And.intro hn hk)
  clear hn hk
  go_enter Try.func85, Try.ntmps85
  go_wp2_with (at_builtin; refine wpList_app (c := cI) (B := w.heap.size) (xs := [k]) (ys := xs) (Fi := []) (Fy := []) _ rfl _ _ _ rfl i0 _ _ Try.underlying26 hi0 hz0 hz1 hz2 rfl (by decide) (v := .slice (some ⟨w.heap.size, 0, none⟩) 1 1) rfl (Own.of_new 3 1 rfl (by decide) (by decide) rfl (repsI HS.out.2)) (.slice A xs.length cp) rfl (AppSrc.flat (hw := by decide) (hw2 := by decide) flat_I (Cod.bel h (by repeat (first | with_reducible exact Below.refl _ _ | with_reducible assumption | with_reducible refine bel_alloc ?_ _ | with_reducible refine bel_drew ?_ | with_reducible refine bel_drewN ?_ _ | (with_reducible refine bel_set ?_ ?_ _; rotate_left; ((try simp); (try omega))))))) (by have := HS.out.1; unfold maxLen; simp; omega) (by have := HS.out.1; simp; omega) (by (try simp); (try omega)) (by simp [ownB]) ?_)
  intro v1 w1 ho1 hg1 hat1
  replace ho1 : Own cI 3 w.heap.size w1 v1 ([k] ++ xs) [] := ho1
  have hb1 : Below w.heap.size w w1 := Below.grown (show Below w.heap.size w _ from (by repeat (first | with_reducible exact Below.refl _ _ | with_reducible assumption | with_reducible refine bel_alloc ?_ _ | with_reducible refine bel_drew ?_ | with_reducible refine bel_drewN ?_ _ | (with_reducible refine bel_set ?_ ?_ _; rotate_left; ((try simp); (try omega)))))) hg1 (by (try simp); (try omega)) (fun b hb => by simp [ownB] at hb; omega)
  have hl1 : ([k] ++ xs).length = xs.length + 1 := by simp
  go_wp2_with (at_builtin; refine wpList_app (c := cI) (B := w.heap.size) (xs := [k] ++ xs) (ys := [k]) (Fi := []) (Fy := []) _ rfl _ _ _ rfl i0 _ _ Try.underlying26 hi0 hz0 hz1 hz2 rfl (by decide) (v := v1) rfl (ho1.bel (by repeat (first | with_reducible exact Below.refl _ _ | with_reducible assumption | with_reducible refine bel_alloc ?_ _ | with_reducible refine bel_drew ?_ | with_reducible refine bel_drewN ?_ _ | (with_reducible refine bel_set ?_ ?_ _; rotate_left; ((try simp); (try omega)))))) (.slice (some ⟨w1.heap.size, 0, none⟩) 1 1) rfl ⟨_, 1, [.int .i64 k], rfl, repsI HS.out.2, fun _ => ⟨_, rfl, fun j u hu => by cases j with | zero => (simp at hu; subst hu; rw [Addr.add_lit]; exact (Blk.new w1 3 #[.int .i64 k]).cell 0) | succ j => simp at hu⟩⟩ (by have := HS.out.1; rw [hl1]; unfold maxLen; simp; omega) (by have := HS.out.1; rw [hl1]; simp; omega) (by have := hb1.size; (try simp); (try omega)) (by simp) ?_)
  intro v2 w2 ho2 hg2 hat2
  replace ho2 : Own cI 3 w.heap.size w2 v2 (([k] ++ xs) ++ [k]) [] := ho2
  have hb2 : Below w.heap.size w w2 := Below.grown (show Below w.heap.size w _ from (by repeat (first | with_reducible exact Below.refl _ _ | with_reducible assumption | with_reducible refine bel_alloc ?_ _ | with_reducible refine bel_drew ?_ | with_reducible refine bel_drewN ?_ _ | (with_reducible refine bel_set ?_ ?_ _; rotate_left; ((try simp); (try omega)))))) hg2 (by have := hb1.size; (try simp); (try omega)) (fun b hb => (ho1.lt b hb).1)
  obtain ⟨G, hr2, -, -⟩ := ho2.fresh (hw := by decide) (hw2 := by decide)
  go_wp2_with (go_at_call 134; refine (implHash_any _ (([k] ++ xs) ++ [k]) _ _ (by exact hr2) (by have := HS.out.1; simp; omega)).mono ?_; rintro e w3 ⟨rfl, rfl⟩)
  go_ret
  exact ⟨rfl, hb2⟩

/-! ### A text's bytes as numbers -/
theorem repsU (w : World) : ∀ l : List UInt8, cU.reps w (l.map fun b => Value.int .u8 (b.toNat : Int)) l []
  | [] => ⟨rfl, rfl⟩
  | b :: l => ⟨[_], _, [], [], rfl, rfl, ⟨rfl, rfl⟩, repsU w l⟩
theorem conv_str (w : World) (s : ByteArray) (hs : s.size ≤ maxLen) : ∃ cp w' F, Sem.run Try.prog (convert 9 22 (.string s)) w = .ok (.slice (some ⟨w.heap.size, 0, none⟩) s.size cp) w' ∧ Below w.heap.size w w' ∧
    cUS.rep w' [.slice (some ⟨w.heap.size, 0, none⟩) s.data.toList.length cp] s.data.toList F := by
  have hlen : s.data.toList.length = s.size := (Array.length_toList : s.data.toList.length = s.data.size)
  have hle := grownCap_ge w s.size 0 5
  have hcm := grownCap_le_maxLen w s.size 0 5 hs
  refine ⟨grownCap w s.size 0 5, _, if s.data.toList = [] then [] else [w.heap.size], run_bytes_of_string (P := Try.prog) w _ _ _ s Try.underlying9 Try.underlying22 Try.underlying5, bel_alloc (Below.refl _ _).drew _, ?_⟩
  by_cases h0 : s.data.toList = []
  · rw [if_pos h0]
    rw [h0]
    exact ⟨_, _, rfl, Nat.zero_le _, hcm, .inl ⟨rfl, rfl⟩⟩
  · rw [if_neg h0]
    refine ⟨_, _, rfl, by rw [hlen]; exact hle, hcm, .inr ⟨h0, w.heap.size, 0, [], _, rfl, rfl, fun j u hu => ?_, repsU _ _⟩⟩
    have hj : j < s.data.size := by
      have := (List.getElem?_eq_some_iff.1 hu).1
      simpa using this
    have hu2 : u = .int .u8 (s.data[j].toNat : Int) := by
      rw [List.getElem?_map] at hu
      simp at hu
      obtain ⟨a, ha, hau⟩ := hu
      rw [Array.getElem?_eq_getElem hj, Option.some.injEq] at ha
      rw [← hau, ← ha]
    subst hu2
    have hh : (w.drew.alloc (.cells (bytesRow s (grownCap w s.size 0 5)) 5 ((bytesRow s (grownCap w s.size 0 5)).size, (bytesRow s (grownCap w s.size 0 5)).size + 1))).heap[w.heap.size]? = some (.cells (bytesRow s (grownCap w s.size 0 5)) 5 ((bytesRow s (grownCap w s.size 0 5)).size, (bytesRow s (grownCap w s.size 0 5)).size + 1)) := heap_alloc_new w.drew _
    have hbs : j < (bytesRow s (grownCap w s.size 0 5)).size := by
      have h9 := bytesRow_at s (grownCap w s.size 0 5) j hj
      exact (Array.getElem?_eq_some_iff.1 h9).1
    refine ⟨?_, ?_⟩
    · rw [cell_of_row _ w.heap.size (0 + j) _ _ _ hh, Nat.zero_add]
      exact bytesRow_at s _ j hj
    · unfold World.frozen?
      rw [hh]
      simp; omega
end Go.Proofs.Ytlicnppfgfjkgaa
