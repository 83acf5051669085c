/-
  BeginInstall of the program and of the reference. No conditions.
-/
import Derived.Test.YteipaolcmjfhdaaRegOk
import Derived.Test.YteipaolcmjfhdaaMem
namespace Go.Proofs.Yteipaolcmjfhdaa
open Go.ChangeShapes Go.WideShapes Go.RowKit

theorem TReg.bounds {x : TReg} (h : isReg x = true) : 0 ≤ x.act ∧ x.act ≤ 1000000000000 ∧ 0 ≤ x.wai ∧ x.wai ≤ 1000000000000 ∧ 0 ≤ x.ins ∧ x.ins ≤ 1000000000000 := by
  simp only [isReg, regFrom, Bool.and_eq_true] at h
  have h1 := inR_true h.1.1.1
  have h2 := inR_true h.1.2.1.1
  have h3 := inR_true h.1.2.2.1.1
  omega

def beginInstall (x : TReg) (v : Int) : TReg × Bool :=
  bif isReg x && !decide (v < 1) && x.ins == 0 && isReg ⟨x.site, v, x.wai, x.act⟩ then (⟨x.site, v, x.wai, x.act⟩, true) else (x, false)

theorem implRegCells (s : ByteArray) (a b c : Int) (w : World) (hs : s.size ≤ maxLen) :
    Calls Try.prog 33 #[.agg #[.string s, .int .i64 a, .int .i64 b, .int .i64 c]] w (Gives w (.bool (isReg ⟨s, a, b, c⟩))) := implRegOk_any ⟨s, a, b, c⟩ w hs
set_option maxRecDepth 100000 in
set_option maxHeartbeats 4000000 in
theorem implBeginInstall_any (vs : Array Value) (x : TReg) (F : List Nat) (v : Int) (w : World) (h : cReg.rep w vs.toList x F) (_hn : cReg.sz x ≤ 1048576) (hv : -9223372036854775808 ≤ v ∧ v ≤ 9223372036854775807) :
    Calls Try.prog 35 #[.agg vs, .int .i64 v] w (GivesR2 cReg w (beginInstall x v).1 (.bool (beginInstall x v).2)) := by
  have hok := (TReg.out h).2.2
  rw [TReg.val_of h]
  clear h
  have hs := hok.h0
  have HV := Lib.hid hv
  have HOK := Lib.hid hok
  clear hv hok
  have hold : beginInstall x v = (x, false) → GivesR2 cReg w x (.bool false) = GivesR2 cReg w (beginInstall x v).1 (.bool (beginInstall x v).2) := fun e => by rw [e]
  have hnew : beginInstall x v = (⟨x.site, v, x.wai, x.act⟩, true) → GivesR2 cReg w ⟨x.site, v, x.wai, x.act⟩ (.bool true) = GivesR2 cReg w (beginInstall x v).1 (.bool (beginInstall x v).2) := fun e => by rw [e]
  have HOLD := Lib.hid hold
  have HNEW := Lib.hid hnew
  clear hold hnew
  obtain ⟨s, a, b, c⟩ := x
  simp only [TReg.val]
  simp only at hs
  cases h1 : isReg ⟨s, a, b, c⟩
  · rw [← HOLD.out (by simp [beginInstall, h1])]
    go_enter Try.func35, Try.ntmps35
    go_wp2_with (first | (go_at_call 33; refine (implRegCells _ _ _ _ _ hs).mono ?_; rintro e w1 ⟨rfl, hb1⟩; obtain ⟨hc1, hf1, hz1⟩ := bcell hb1; (try simp at hz1); have hs0 : w.heap.size < w1.heap.size := (by omega); have hs1 : w.heap.size + 1 < w1.heap.size := (by omega); have hs2 : w.heap.size + 2 < w1.heap.size := (by omega); have hB1 : Below w.heap.size w w1 := (bel_then (by repeat (first | with_reducible exact Below.refl _ _ | with_reducible assumption | with_reducible refine bel_alloc ?_ _ | with_reducible refine bel_drew ?_ | with_reducible refine bel_drewN ?_ _ | (with_reducible refine bel_set ?_ ?_ _; rotate_left; ((try simp); (try omega))))) hb1); clear hb1))
    refine bodyPost_ret (v := .tuple #[.agg #[.string s, .int .i64 a, .int .i64 b, .int .i64 c], .bool false]) (by simp [results, Try.results35, go_sem, *]) rfl ?_
    exact ⟨_, [], rfl, (by repeat (first | with_reducible exact Below.refl _ _ | with_reducible assumption | with_reducible refine bel_alloc ?_ _ | with_reducible refine bel_drew ?_ | with_reducible refine bel_drewN ?_ _ | (with_reducible refine bel_set ?_ ?_ _; rotate_left; ((try simp); (try omega))))), TReg.mk_ HOK.out, Fresh.nil _⟩
  · by_cases h2 : v < 1
    · rw [← HOLD.out (by simp [beginInstall, h2])]
      go_enter Try.func35, Try.ntmps35
      go_wp2_with (first | (go_at_call 33; refine (implRegCells _ _ _ _ _ hs).mono ?_; rintro e w1 ⟨rfl, hb1⟩; obtain ⟨hc1, hf1, hz1⟩ := bcell hb1; (try simp at hz1); have hs0 : w.heap.size < w1.heap.size := (by omega); have hs1 : w.heap.size + 1 < w1.heap.size := (by omega); have hs2 : w.heap.size + 2 < w1.heap.size := (by omega); have hB1 : Below w.heap.size w w1 := (bel_then (by repeat (first | with_reducible exact Below.refl _ _ | with_reducible assumption | with_reducible refine bel_alloc ?_ _ | with_reducible refine bel_drew ?_ | with_reducible refine bel_drewN ?_ _ | (with_reducible refine bel_set ?_ ?_ _; rotate_left; ((try simp); (try omega))))) hb1); clear hb1))
      all_goals refine bodyPost_ret (v := .tuple #[.agg #[.string s, .int .i64 a, .int .i64 b, .int .i64 c], .bool false]) (by simp [results, Try.results35, go_sem, *]) rfl ?_
      all_goals exact ⟨_, [], rfl, (by repeat (first | with_reducible exact Below.refl _ _ | with_reducible assumption | with_reducible refine bel_alloc ?_ _ | with_reducible refine bel_drew ?_ | with_reducible refine bel_drewN ?_ _ | (with_reducible refine bel_set ?_ ?_ _; rotate_left; ((try simp); (try omega))))), TReg.mk_ HOK.out, Fresh.nil _⟩
    · have h2' : 1 ≤ v := by omega
      by_cases h3 : a = 0
      · cases h4 : isReg ⟨s, v, b, c⟩
        · rw [← HOLD.out (by simp [beginInstall, h4])]
          have b3 : (a != 0) = false := by simp [h3]
          clear h3
          go_enter Try.func35, Try.ntmps35
          go_wp2_with (first | (go_at_call 33; refine (implRegCells _ _ _ _ _ hs).mono ?_; rintro e w1 ⟨rfl, hb1⟩; obtain ⟨hc1, hf1, hz1⟩ := bcell hb1; (try simp at hz1); have hs0 : w.heap.size < w1.heap.size := (by omega); have hs1 : w.heap.size + 1 < w1.heap.size := (by omega); have hs2 : w.heap.size + 2 < w1.heap.size := (by omega); have hB1 : Below w.heap.size w w1 := (bel_then (by repeat (first | with_reducible exact Below.refl _ _ | with_reducible assumption | with_reducible refine bel_alloc ?_ _ | with_reducible refine bel_drew ?_ | with_reducible refine bel_drewN ?_ _ | (with_reducible refine bel_set ?_ ?_ _; rotate_left; ((try simp); (try omega))))) hb1); clear hb1))
          all_goals refine bodyPost_ret (v := .tuple #[.agg #[.string s, .int .i64 a, .int .i64 b, .int .i64 c], .bool false]) (by simp [results, Try.results35, go_sem, *]) rfl ?_
          all_goals exact ⟨_, [], rfl, (by repeat (first | with_reducible exact Below.refl _ _ | with_reducible assumption | with_reducible refine bel_alloc ?_ _ | with_reducible refine bel_drew ?_ | with_reducible refine bel_drewN ?_ _ | (with_reducible refine bel_set ?_ ?_ _; rotate_left; ((try simp); (try omega))))), TReg.mk_ HOK.out, Fresh.nil _⟩
        · have b3' : (a == 0) = true := by simp [h3]
          rw [← HNEW.out (by simp [beginInstall, h1, h2, b3', h4])]
          have b3 : (a != 0) = false := by simp [h3]
          clear b3' h3
          go_enter Try.func35, Try.ntmps35
          go_wp2_with (first | (go_at_call 33; refine (implRegCells _ _ _ _ _ hs).mono ?_; rintro e w1 ⟨rfl, hb1⟩; obtain ⟨hc1, hf1, hz1⟩ := bcell hb1; (try simp at hz1); have hs0 : w.heap.size < w1.heap.size := (by omega); have hs1 : w.heap.size + 1 < w1.heap.size := (by omega); have hs2 : w.heap.size + 2 < w1.heap.size := (by omega); have hB1 : Below w.heap.size w w1 := (bel_then (by repeat (first | with_reducible exact Below.refl _ _ | with_reducible assumption | with_reducible refine bel_alloc ?_ _ | with_reducible refine bel_drew ?_ | with_reducible refine bel_drewN ?_ _ | (with_reducible refine bel_set ?_ ?_ _; rotate_left; ((try simp); (try omega))))) hb1); clear hb1))
          refine bodyPost_ret (v := .tuple #[.agg #[.string s, .int .i64 v, .int .i64 b, .int .i64 c], .bool true]) (by simp [results, Try.results35, go_sem, *]) rfl ?_
          exact ⟨_, [], rfl, (by repeat (first | with_reducible exact Below.refl _ _ | with_reducible assumption | with_reducible refine bel_alloc ?_ _ | with_reducible refine bel_drew ?_ | with_reducible refine bel_drewN ?_ _ | (with_reducible refine bel_set ?_ ?_ _; rotate_left; ((try simp); (try omega))))), TReg.mk_ (x := ⟨s, v, b, c⟩) ⟨hs, HV.out, HOK.out.h2, HOK.out.h3⟩, Fresh.nil _⟩
      · have b3' : (a == 0) = false := by simp [h3]
        rw [← HOLD.out (by simp [beginInstall, b3'])]
        have b3 : (a != 0) = true := by simp [h3]
        clear b3'
        go_enter Try.func35, Try.ntmps35
        go_wp2_with (first | (go_at_call 33; refine (implRegCells _ _ _ _ _ hs).mono ?_; rintro e w1 ⟨rfl, hb1⟩; obtain ⟨hc1, hf1, hz1⟩ := bcell hb1; (try simp at hz1); have hs0 : w.heap.size < w1.heap.size := (by omega); have hs1 : w.heap.size + 1 < w1.heap.size := (by omega); have hs2 : w.heap.size + 2 < w1.heap.size := (by omega); have hB1 : Below w.heap.size w w1 := (bel_then (by repeat (first | with_reducible exact Below.refl _ _ | with_reducible assumption | with_reducible refine bel_alloc ?_ _ | with_reducible refine bel_drew ?_ | with_reducible refine bel_drewN ?_ _ | (with_reducible refine bel_set ?_ ?_ _; rotate_left; ((try simp); (try omega))))) hb1); clear hb1))
        all_goals refine bodyPost_ret (v := .tuple #[.agg #[.string s, .int .i64 a, .int .i64 b, .int .i64 c], .bool false]) (by simp [results, Try.results35, go_sem, *]) rfl ?_
        all_goals exact ⟨_, [], rfl, (by repeat (first | with_reducible exact Below.refl _ _ | with_reducible assumption | with_reducible refine bel_alloc ?_ _ | with_reducible refine bel_drew ?_ | with_reducible refine bel_drewN ?_ _ | (with_reducible refine bel_set ?_ ?_ _; rotate_left; ((try simp); (try omega))))), TReg.mk_ HOK.out, Fresh.nil _⟩
theorem specRegCells (s : ByteArray) (a b c : Int) (w : World) (hs : s.size ≤ maxLen) :
    Calls Try.prog 88 #[.agg #[.string s, .int .i64 a, .int .i64 b, .int .i64 c]] w (Gives w (.bool (isReg ⟨s, a, b, c⟩))) := specRegOk_any ⟨s, a, b, c⟩ w hs
set_option maxRecDepth 100000 in
set_option maxHeartbeats 4000000 in
theorem specBeginInstall_any (vs : Array Value) (x : TReg) (F : List Nat) (v : Int) (w : World) (h : cReg.rep w vs.toList x F) (_hn : cReg.sz x ≤ 1048576) (hv : -9223372036854775808 ≤ v ∧ v ≤ 9223372036854775807) :
    Calls Try.prog 36 #[.agg vs, .int .i64 v] w (GivesR2 cReg w (beginInstall x v).1 (.bool (beginInstall x v).2)) := by
  have hok := (TReg.out h).2.2
  rw [TReg.val_of h]
  clear h
  have hs := hok.h0
  have HV := Lib.hid hv
  have HOK := Lib.hid hok
  clear hv hok
  have hold : beginInstall x v = (x, false) → GivesR2 cReg w x (.bool false) = GivesR2 cReg w (beginInstall x v).1 (.bool (beginInstall x v).2) := fun e => by rw [e]
  have hnew : beginInstall x v = (⟨x.site, v, x.wai, x.act⟩, true) → GivesR2 cReg w ⟨x.site, v, x.wai, x.act⟩ (.bool true) = GivesR2 cReg w (beginInstall x v).1 (.bool (beginInstall x v).2) := fun e => by rw [e]
  have HOLD := Lib.hid hold
  have HNEW := Lib.hid hnew
  clear hold hnew
  obtain ⟨s, a, b, c⟩ := x
  simp only [TReg.val]
  simp only at hs
  cases h1 : isReg ⟨s, a, b, c⟩
  · rw [← HOLD.out (by simp [beginInstall, h1])]
    go_enter Try.func36, Try.ntmps36
    go_wp2_with (first | (go_at_call 88; refine (specRegCells _ _ _ _ _ hs).mono ?_; rintro e w1 ⟨rfl, hb1⟩; obtain ⟨hc1, hf1, hz1⟩ := bcell hb1; (try simp at hz1); have hs0 : w.heap.size < w1.heap.size := (by omega); have hs1 : w.heap.size + 1 < w1.heap.size := (by omega); have hs2 : w.heap.size + 2 < w1.heap.size := (by omega); have hB1 : Below w.heap.size w w1 := (bel_then (by repeat (first | with_reducible exact Below.refl _ _ | with_reducible assumption | with_reducible refine bel_alloc ?_ _ | with_reducible refine bel_drew ?_ | with_reducible refine bel_drewN ?_ _ | (with_reducible refine bel_set ?_ ?_ _; rotate_left; ((try simp); (try omega))))) hb1); clear hb1))
    refine bodyPost_ret (v := .tuple #[.agg #[.string s, .int .i64 a, .int .i64 b, .int .i64 c], .bool false]) (by simp [results, Try.results36, go_sem, *]) rfl ?_
    exact ⟨_, [], rfl, (by repeat (first | with_reducible exact Below.refl _ _ | with_reducible assumption | with_reducible refine bel_alloc ?_ _ | with_reducible refine bel_drew ?_ | with_reducible refine bel_drewN ?_ _ | (with_reducible refine bel_set ?_ ?_ _; rotate_left; ((try simp); (try omega))))), TReg.mk_ HOK.out, Fresh.nil _⟩
  · by_cases h2 : v < 1
    · rw [← HOLD.out (by simp [beginInstall, h2])]
      go_enter Try.func36, Try.ntmps36
      go_wp2_with (first | (go_at_call 88; refine (specRegCells _ _ _ _ _ hs).mono ?_; rintro e w1 ⟨rfl, hb1⟩; obtain ⟨hc1, hf1, hz1⟩ := bcell hb1; (try simp at hz1); have hs0 : w.heap.size < w1.heap.size := (by omega); have hs1 : w.heap.size + 1 < w1.heap.size := (by omega); have hs2 : w.heap.size + 2 < w1.heap.size := (by omega); have hB1 : Below w.heap.size w w1 := (bel_then (by repeat (first | with_reducible exact Below.refl _ _ | with_reducible assumption | with_reducible refine bel_alloc ?_ _ | with_reducible refine bel_drew ?_ | with_reducible refine bel_drewN ?_ _ | (with_reducible refine bel_set ?_ ?_ _; rotate_left; ((try simp); (try omega))))) hb1); clear hb1))
      all_goals refine bodyPost_ret (v := .tuple #[.agg #[.string s, .int .i64 a, .int .i64 b, .int .i64 c], .bool false]) (by simp [results, Try.results36, go_sem, *]) rfl ?_
      all_goals exact ⟨_, [], rfl, (by repeat (first | with_reducible exact Below.refl _ _ | with_reducible assumption | with_reducible refine bel_alloc ?_ _ | with_reducible refine bel_drew ?_ | with_reducible refine bel_drewN ?_ _ | (with_reducible refine bel_set ?_ ?_ _; rotate_left; ((try simp); (try omega))))), TReg.mk_ HOK.out, Fresh.nil _⟩
    · have h2' : 1 ≤ v := by omega
      by_cases h3 : a = 0
      · cases h4 : isReg ⟨s, v, b, c⟩
        · rw [← HOLD.out (by simp [beginInstall, h4])]
          have b3 : (a != 0) = false := by simp [h3]
          clear h3
          go_enter Try.func36, Try.ntmps36
          go_wp2_with (first | (go_at_call 88; refine (specRegCells _ _ _ _ _ hs).mono ?_; rintro e w1 ⟨rfl, hb1⟩; obtain ⟨hc1, hf1, hz1⟩ := bcell hb1; (try simp at hz1); have hs0 : w.heap.size < w1.heap.size := (by omega); have hs1 : w.heap.size + 1 < w1.heap.size := (by omega); have hs2 : w.heap.size + 2 < w1.heap.size := (by omega); have hB1 : Below w.heap.size w w1 := (bel_then (by repeat (first | with_reducible exact Below.refl _ _ | with_reducible assumption | with_reducible refine bel_alloc ?_ _ | with_reducible refine bel_drew ?_ | with_reducible refine bel_drewN ?_ _ | (with_reducible refine bel_set ?_ ?_ _; rotate_left; ((try simp); (try omega))))) hb1); clear hb1))
          all_goals refine bodyPost_ret (v := .tuple #[.agg #[.string s, .int .i64 a, .int .i64 b, .int .i64 c], .bool false]) (by simp [results, Try.results36, go_sem, *]) rfl ?_
          all_goals exact ⟨_, [], rfl, (by repeat (first | with_reducible exact Below.refl _ _ | with_reducible assumption | with_reducible refine bel_alloc ?_ _ | with_reducible refine bel_drew ?_ | with_reducible refine bel_drewN ?_ _ | (with_reducible refine bel_set ?_ ?_ _; rotate_left; ((try simp); (try omega))))), TReg.mk_ HOK.out, Fresh.nil _⟩
        · have b3' : (a == 0) = true := by simp [h3]
          rw [← HNEW.out (by simp [beginInstall, h1, h2, b3', h4])]
          have b3 : (a != 0) = false := by simp [h3]
          clear b3' h3
          go_enter Try.func36, Try.ntmps36
          go_wp2_with (first | (go_at_call 88; refine (specRegCells _ _ _ _ _ hs).mono ?_; rintro e w1 ⟨rfl, hb1⟩; obtain ⟨hc1, hf1, hz1⟩ := bcell hb1; (try simp at hz1); have hs0 : w.heap.size < w1.heap.size := (by omega); have hs1 : w.heap.size + 1 < w1.heap.size := (by omega); have hs2 : w.heap.size + 2 < w1.heap.size := (by omega); have hB1 : Below w.heap.size w w1 := (bel_then (by repeat (first | with_reducible exact Below.refl _ _ | with_reducible assumption | with_reducible refine bel_alloc ?_ _ | with_reducible refine bel_drew ?_ | with_reducible refine bel_drewN ?_ _ | (with_reducible refine bel_set ?_ ?_ _; rotate_left; ((try simp); (try omega))))) hb1); clear hb1))
          refine bodyPost_ret (v := .tuple #[.agg #[.string s, .int .i64 v, .int .i64 b, .int .i64 c], .bool true]) (by simp [results, Try.results36, go_sem, *]) rfl ?_
          exact ⟨_, [], rfl, (by repeat (first | with_reducible exact Below.refl _ _ | with_reducible assumption | with_reducible refine bel_alloc ?_ _ | with_reducible refine bel_drew ?_ | with_reducible refine bel_drewN ?_ _ | (with_reducible refine bel_set ?_ ?_ _; rotate_left; ((try simp); (try omega))))), TReg.mk_ (x := ⟨s, v, b, c⟩) ⟨hs, HV.out, HOK.out.h2, HOK.out.h3⟩, Fresh.nil _⟩
      · have b3' : (a == 0) = false := by simp [h3]
        rw [← HOLD.out (by simp [beginInstall, b3'])]
        have b3 : (a != 0) = true := by simp [h3]
        clear b3'
        go_enter Try.func36, Try.ntmps36
        go_wp2_with (first | (go_at_call 88; refine (specRegCells _ _ _ _ _ hs).mono ?_; rintro e w1 ⟨rfl, hb1⟩; obtain ⟨hc1, hf1, hz1⟩ := bcell hb1; (try simp at hz1); have hs0 : w.heap.size < w1.heap.size := (by omega); have hs1 : w.heap.size + 1 < w1.heap.size := (by omega); have hs2 : w.heap.size + 2 < w1.heap.size := (by omega); have hB1 : Below w.heap.size w w1 := (bel_then (by repeat (first | with_reducible exact Below.refl _ _ | with_reducible assumption | with_reducible refine bel_alloc ?_ _ | with_reducible refine bel_drew ?_ | with_reducible refine bel_drewN ?_ _ | (with_reducible refine bel_set ?_ ?_ _; rotate_left; ((try simp); (try omega))))) hb1); clear hb1))
        all_goals refine bodyPost_ret (v := .tuple #[.agg #[.string s, .int .i64 a, .int .i64 b, .int .i64 c], .bool false]) (by simp [results, Try.results36, go_sem, *]) rfl ?_
        all_goals exact ⟨_, [], rfl, (by repeat (first | with_reducible exact Below.refl _ _ | with_reducible assumption | with_reducible refine bel_alloc ?_ _ | with_reducible refine bel_drew ?_ | with_reducible refine bel_drewN ?_ _ | (with_reducible refine bel_set ?_ ?_ _; rotate_left; ((try simp); (try omega))))), TReg.mk_ HOK.out, Fresh.nil _⟩
end Go.Proofs.Yteipaolcmjfhdaa
