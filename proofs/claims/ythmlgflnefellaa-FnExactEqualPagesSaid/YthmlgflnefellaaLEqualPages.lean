/-
  The law FnExactEqualPages: for all arguments the program's EqualPages returns what the reference's returns. No conditions.
-/
import Derived.Test.YthmlgflnefellaaRows
import Derived.Deep.RegionHeld3
import Derived.Test.YthmlgflnefellaaEqPage
import Derived.Test.YthmlgflnefellaaPageEq
import Derived.Test.YthmlgflnefellaaToPage
namespace Go.Proofs.Ythmlgflnefellaa
open Go.ChangeShapes Go.WideShapes Go.RowKit
open Go.ChangeMaps (open_string shut_string)
set_option linter.unusedVariables false

set_option maxRecDepth 100000 in
set_option maxHeartbeats 4000000 in
theorem lawEqualPages_any (a0 : Array Value) (p0 : TPage) (F0 : List Nat) (a1 : Array Value) (p1 : TPage) (F1 : List Nat) (w : World) (h0 : cPage.rep w a0.toList p0 F0) (h1 : cPage.rep w a1.toList p1 F1) :
    Calls Try.prog 12 #[.agg a0, .agg a1] w (Gives w (.bool true)) := by
  have r0 := h0
  obtain ⟨v0_4, v0_5, v0_7, E0_4, E0_5, E0_7, rfl, -, -, m0_4, m0_5, m0_7⟩ := TPage.outA r0
  obtain ⟨A0_4, c0_4, e0_4⟩ := cL_form m0_4
  subst e0_4
  obtain ⟨A0_5, c0_5, e0_5⟩ := cL_form m0_5
  subst e0_5
  obtain ⟨A0_7, c0_7, e0_7⟩ := cL_form m0_7
  subst e0_7
  clear m0_4 m0_5 m0_7
  clear r0
  have r1 := h1
  obtain ⟨v1_4, v1_5, v1_7, E1_4, E1_5, E1_7, rfl, -, -, m1_4, m1_5, m1_7⟩ := TPage.outA r1
  obtain ⟨A1_4, c1_4, e1_4⟩ := cL_form m1_4
  subst e1_4
  obtain ⟨A1_5, c1_5, e1_5⟩ := cL_form m1_5
  subst e1_5
  obtain ⟨A1_7, c1_7, e1_7⟩ := cL_form m1_7
  subst e1_7
  clear m1_4 m1_5 m1_7
  clear r1
  go_enter Try.func12, Try.ntmps12
  go_wp2_with fail
  by_cases l0 : (1048576 - (cPage.sz p0 : Nat) : Int) < 0
  · have HV := Lib.hid (leftOf_neg l0)
    refine (szPage_any _ p0 _ _ _ (by exact Cod.bel h0 (by repeat (first | with_reducible exact Below.refl _ _ | with_reducible assumption | with_reducible refine bel_alloc ?_ _ | with_reducible refine bel_drew ?_ | with_reducible refine bel_drewN ?_ _ | (with_reducible refine bel_set ?_ ?_ _; rotate_left; ((try simp); (try omega)))))) (by omega) (by omega)).mono ?_
    rintro e w1 ⟨rfl, hbw1⟩
    rw [HV.out]
    have hBw1 : Below w.heap.size w w1 := bel_then (by repeat (first | with_reducible exact Below.refl _ _ | with_reducible assumption | with_reducible refine bel_alloc ?_ _ | with_reducible refine bel_drew ?_ | with_reducible refine bel_drewN ?_ _ | (with_reducible refine bel_set ?_ ?_ _; rotate_left; ((try simp); (try omega))))) hbw1
    go_wp2_with fail
    go_ret
    exact ⟨rfl, hBw1⟩
  · have HV := Lib.hid (leftOf_pos l0)
    have pz0 : 0 ≤ (1048576 - (cPage.sz p0 : Nat) : Int) := by omega
    have z0 : cPage.sz p0 ≤ 1048576 := by omega
    refine (szPage_any _ p0 _ _ _ (by exact Cod.bel h0 (by repeat (first | with_reducible exact Below.refl _ _ | with_reducible assumption | with_reducible refine bel_alloc ?_ _ | with_reducible refine bel_drew ?_ | with_reducible refine bel_drewN ?_ _ | (with_reducible refine bel_set ?_ ?_ _; rotate_left; ((try simp); (try omega)))))) (by omega) (by omega)).mono ?_
    rintro e w1 ⟨rfl, hbw1⟩
    rw [HV.out]
    clear HV
    have hsw1 := hbw1.size
    (try simp at hsw1)
    have hzw1_0 : w.heap.size < w1.heap.size := by omega
    have hzw1_1 : w.heap.size + 1 < w1.heap.size := by omega
    have hBw1 : Below w.heap.size w w1 := bel_then (by repeat (first | with_reducible exact Below.refl _ _ | with_reducible assumption | with_reducible refine bel_alloc ?_ _ | with_reducible refine bel_drew ?_ | with_reducible refine bel_drewN ?_ _ | (with_reducible refine bel_set ?_ ?_ _; rotate_left; ((try simp); (try omega))))) hbw1
    obtain ⟨hcw1, hfzw1, -⟩ := bcell hbw1
    clear hbw1
    go_wp2_with fail
    by_cases l1 : (1048576 - (cPage.sz p0 : Nat) - (cPage.sz p1 : Nat) : Int) < 0
    · have HV := Lib.hid (leftOf_neg l1)
      refine (szPage_any _ p1 _ _ _ (by exact Cod.bel h1 (by repeat (first | with_reducible exact Below.refl _ _ | with_reducible assumption | with_reducible refine bel_alloc ?_ _ | with_reducible refine bel_drew ?_ | with_reducible refine bel_drewN ?_ _ | (with_reducible refine bel_set ?_ ?_ _; rotate_left; ((try simp); (try omega)))))) (by omega) (by omega)).mono ?_
      rintro e w2 ⟨rfl, hbw2⟩
      rw [HV.out]
      have hBw2 : Below w.heap.size w w2 := bel_then (by repeat (first | with_reducible exact Below.refl _ _ | with_reducible assumption | with_reducible refine bel_alloc ?_ _ | with_reducible refine bel_drew ?_ | with_reducible refine bel_drewN ?_ _ | (with_reducible refine bel_set ?_ ?_ _; rotate_left; ((try simp); (try omega))))) hbw2
      go_wp2_with fail
      go_ret
      exact ⟨rfl, hBw2⟩
    · have HV := Lib.hid (leftOf_pos l1)
      have pz1 : 0 ≤ (1048576 - (cPage.sz p0 : Nat) - (cPage.sz p1 : Nat) : Int) := by omega
      have z1 : cPage.sz p1 ≤ 1048576 := by omega
      refine (szPage_any _ p1 _ _ _ (by exact Cod.bel h1 (by repeat (first | with_reducible exact Below.refl _ _ | with_reducible assumption | with_reducible refine bel_alloc ?_ _ | with_reducible refine bel_drew ?_ | with_reducible refine bel_drewN ?_ _ | (with_reducible refine bel_set ?_ ?_ _; rotate_left; ((try simp); (try omega)))))) (by omega) (by omega)).mono ?_
      rintro e w2 ⟨rfl, hbw2⟩
      rw [HV.out]
      clear HV
      have hsw2 := hbw2.size
      (try simp at hsw2)
      have hzw2_0 : w.heap.size < w2.heap.size := by omega
      have hzw2_1 : w.heap.size + 1 < w2.heap.size := by omega
      have hBw2 : Below w.heap.size w w2 := bel_then (by repeat (first | with_reducible exact Below.refl _ _ | with_reducible assumption | with_reducible refine bel_alloc ?_ _ | with_reducible refine bel_drew ?_ | with_reducible refine bel_drewN ?_ _ | (with_reducible refine bel_set ?_ ?_ _; rotate_left; ((try simp); (try omega))))) hbw2
      obtain ⟨hcw2, hfzw2, -⟩ := bcell hbw2
      clear hbw2
      go_wp2_with fail
      have kz3_0 : w2.cell? ⟨w.heap.size, 0, none⟩ = some (.int .i64 p0.id) := by go_simp
      have kz3_1 : w2.cell? ⟨w.heap.size, 1, none⟩ = some (.string p0.site) := by go_simp
      have kz3_2 : w2.cell? ⟨w.heap.size, 2, none⟩ = some (.string p0.top) := by go_simp
      have kz3_3 : w2.cell? ⟨w.heap.size, 3, none⟩ = some (.int .i64 p0.ver) := by go_simp
      have kz3_4 : w2.cell? ⟨w.heap.size, 4, none⟩ = some (.slice A0_4 p0.loaded.length c0_4) := by go_simp
      have kz3_5 : w2.cell? ⟨w.heap.size, 5, none⟩ = some (.slice A0_5 p0.mach.script.length c0_5) := by go_simp
      have kz3_6 : w2.cell? ⟨w.heap.size, 6, none⟩ = some (.int .i64 p0.mach.pc) := by go_simp
      have kz3_7 : w2.cell? ⟨w.heap.size, 7, none⟩ = some (.slice A0_7 p0.mach.regs.length c0_7) := by go_simp
      have kz3_8 : w2.cell? ⟨w.heap.size, 8, none⟩ = some (.int .i64 p0.mach.steps) := by go_simp
      have kz3_9 : w2.cell? ⟨w.heap.size, 9, none⟩ = some (.bool p0.mach.done) := by go_simp
      have kz3_10 : w2.cell? ⟨w.heap.size, 10, none⟩ = some (.bool p0.mach.wait) := by go_simp
      have kz3_11 : w2.cell? ⟨w.heap.size + 1, 0, none⟩ = some (.int .i64 p1.id) := by go_simp
      have kz3_12 : w2.cell? ⟨w.heap.size + 1, 1, none⟩ = some (.string p1.site) := by go_simp
      have kz3_13 : w2.cell? ⟨w.heap.size + 1, 2, none⟩ = some (.string p1.top) := by go_simp
      have kz3_14 : w2.cell? ⟨w.heap.size + 1, 3, none⟩ = some (.int .i64 p1.ver) := by go_simp
      have kz3_15 : w2.cell? ⟨w.heap.size + 1, 4, none⟩ = some (.slice A1_4 p1.loaded.length c1_4) := by go_simp
      have kz3_16 : w2.cell? ⟨w.heap.size + 1, 5, none⟩ = some (.slice A1_5 p1.mach.script.length c1_5) := by go_simp
      have kz3_17 : w2.cell? ⟨w.heap.size + 1, 6, none⟩ = some (.int .i64 p1.mach.pc) := by go_simp
      have kz3_18 : w2.cell? ⟨w.heap.size + 1, 7, none⟩ = some (.slice A1_7 p1.mach.regs.length c1_7) := by go_simp
      have kz3_19 : w2.cell? ⟨w.heap.size + 1, 8, none⟩ = some (.int .i64 p1.mach.steps) := by go_simp
      have kz3_20 : w2.cell? ⟨w.heap.size + 1, 9, none⟩ = some (.bool p1.mach.done) := by go_simp
      have kz3_21 : w2.cell? ⟨w.heap.size + 1, 10, none⟩ = some (.bool p1.mach.wait) := by go_simp
      have hS : ∀ w9, Below w2.heap.size w2 w9 → Below w2.heap.size w2 w9 ∧ w9.cell? ⟨w.heap.size, 0, none⟩ = some (.int .i64 p0.id) ∧ w9.cell? ⟨w.heap.size, 1, none⟩ = some (.string p0.site) ∧ w9.cell? ⟨w.heap.size, 2, none⟩ = some (.string p0.top) ∧ w9.cell? ⟨w.heap.size, 3, none⟩ = some (.int .i64 p0.ver) ∧ w9.cell? ⟨w.heap.size, 4, none⟩ = some (.slice A0_4 p0.loaded.length c0_4) ∧ w9.cell? ⟨w.heap.size, 5, none⟩ = some (.slice A0_5 p0.mach.script.length c0_5) ∧ w9.cell? ⟨w.heap.size, 6, none⟩ = some (.int .i64 p0.mach.pc) ∧ w9.cell? ⟨w.heap.size, 7, none⟩ = some (.slice A0_7 p0.mach.regs.length c0_7) ∧ w9.cell? ⟨w.heap.size, 8, none⟩ = some (.int .i64 p0.mach.steps) ∧ w9.cell? ⟨w.heap.size, 9, none⟩ = some (.bool p0.mach.done) ∧ w9.cell? ⟨w.heap.size, 10, none⟩ = some (.bool p0.mach.wait) ∧ w9.cell? ⟨w.heap.size + 1, 0, none⟩ = some (.int .i64 p1.id) ∧ w9.cell? ⟨w.heap.size + 1, 1, none⟩ = some (.string p1.site) ∧ w9.cell? ⟨w.heap.size + 1, 2, none⟩ = some (.string p1.top) ∧ w9.cell? ⟨w.heap.size + 1, 3, none⟩ = some (.int .i64 p1.ver) ∧ w9.cell? ⟨w.heap.size + 1, 4, none⟩ = some (.slice A1_4 p1.loaded.length c1_4) ∧ w9.cell? ⟨w.heap.size + 1, 5, none⟩ = some (.slice A1_5 p1.mach.script.length c1_5) ∧ w9.cell? ⟨w.heap.size + 1, 6, none⟩ = some (.int .i64 p1.mach.pc) ∧ w9.cell? ⟨w.heap.size + 1, 7, none⟩ = some (.slice A1_7 p1.mach.regs.length c1_7) ∧ w9.cell? ⟨w.heap.size + 1, 8, none⟩ = some (.int .i64 p1.mach.steps) ∧ w9.cell? ⟨w.heap.size + 1, 9, none⟩ = some (.bool p1.mach.done) ∧ w9.cell? ⟨w.heap.size + 1, 10, none⟩ = some (.bool p1.mach.wait) := fun w9 hb => ⟨hb, (hb.cell (p := ⟨w.heap.size, 0, none⟩) (by simpa using hzw2_0)).trans kz3_0, (hb.cell (p := ⟨w.heap.size, 1, none⟩) (by simpa using hzw2_0)).trans kz3_1, (hb.cell (p := ⟨w.heap.size, 2, none⟩) (by simpa using hzw2_0)).trans kz3_2, (hb.cell (p := ⟨w.heap.size, 3, none⟩) (by simpa using hzw2_0)).trans kz3_3, (hb.cell (p := ⟨w.heap.size, 4, none⟩) (by simpa using hzw2_0)).trans kz3_4, (hb.cell (p := ⟨w.heap.size, 5, none⟩) (by simpa using hzw2_0)).trans kz3_5, (hb.cell (p := ⟨w.heap.size, 6, none⟩) (by simpa using hzw2_0)).trans kz3_6, (hb.cell (p := ⟨w.heap.size, 7, none⟩) (by simpa using hzw2_0)).trans kz3_7, (hb.cell (p := ⟨w.heap.size, 8, none⟩) (by simpa using hzw2_0)).trans kz3_8, (hb.cell (p := ⟨w.heap.size, 9, none⟩) (by simpa using hzw2_0)).trans kz3_9, (hb.cell (p := ⟨w.heap.size, 10, none⟩) (by simpa using hzw2_0)).trans kz3_10, (hb.cell (p := ⟨w.heap.size + 1, 0, none⟩) (by simpa using hzw2_1)).trans kz3_11, (hb.cell (p := ⟨w.heap.size + 1, 1, none⟩) (by simpa using hzw2_1)).trans kz3_12, (hb.cell (p := ⟨w.heap.size + 1, 2, none⟩) (by simpa using hzw2_1)).trans kz3_13, (hb.cell (p := ⟨w.heap.size + 1, 3, none⟩) (by simpa using hzw2_1)).trans kz3_14, (hb.cell (p := ⟨w.heap.size + 1, 4, none⟩) (by simpa using hzw2_1)).trans kz3_15, (hb.cell (p := ⟨w.heap.size + 1, 5, none⟩) (by simpa using hzw2_1)).trans kz3_16, (hb.cell (p := ⟨w.heap.size + 1, 6, none⟩) (by simpa using hzw2_1)).trans kz3_17, (hb.cell (p := ⟨w.heap.size + 1, 7, none⟩) (by simpa using hzw2_1)).trans kz3_18, (hb.cell (p := ⟨w.heap.size + 1, 8, none⟩) (by simpa using hzw2_1)).trans kz3_19, (hb.cell (p := ⟨w.heap.size + 1, 9, none⟩) (by simpa using hzw2_1)).trans kz3_20, (hb.cell (p := ⟨w.heap.size + 1, 10, none⟩) (by simpa using hzw2_1)).trans kz3_21⟩
      have hwb : Below w2.heap.size w2 w2 := Below.refl _ _
      clear kz3_0 kz3_1 kz3_2 kz3_3 kz3_4 kz3_5 kz3_6 kz3_7 kz3_8 kz3_9 kz3_10 kz3_11 kz3_12 kz3_13 kz3_14 kz3_15 kz3_16 kz3_17 kz3_18 kz3_19 kz3_20 kz3_21
      go_region_held3 (fun w9 => Below w2.heap.size w2 w9 ∧ w9.cell? ⟨w.heap.size, 0, none⟩ = some (.int .i64 p0.id) ∧ w9.cell? ⟨w.heap.size, 1, none⟩ = some (.string p0.site) ∧ w9.cell? ⟨w.heap.size, 2, none⟩ = some (.string p0.top) ∧ w9.cell? ⟨w.heap.size, 3, none⟩ = some (.int .i64 p0.ver) ∧ w9.cell? ⟨w.heap.size, 4, none⟩ = some (.slice A0_4 p0.loaded.length c0_4) ∧ w9.cell? ⟨w.heap.size, 5, none⟩ = some (.slice A0_5 p0.mach.script.length c0_5) ∧ w9.cell? ⟨w.heap.size, 6, none⟩ = some (.int .i64 p0.mach.pc) ∧ w9.cell? ⟨w.heap.size, 7, none⟩ = some (.slice A0_7 p0.mach.regs.length c0_7) ∧ w9.cell? ⟨w.heap.size, 8, none⟩ = some (.int .i64 p0.mach.steps) ∧ w9.cell? ⟨w.heap.size, 9, none⟩ = some (.bool p0.mach.done) ∧ w9.cell? ⟨w.heap.size, 10, none⟩ = some (.bool p0.mach.wait) ∧ w9.cell? ⟨w.heap.size + 1, 0, none⟩ = some (.int .i64 p1.id) ∧ w9.cell? ⟨w.heap.size + 1, 1, none⟩ = some (.string p1.site) ∧ w9.cell? ⟨w.heap.size + 1, 2, none⟩ = some (.string p1.top) ∧ w9.cell? ⟨w.heap.size + 1, 3, none⟩ = some (.int .i64 p1.ver) ∧ w9.cell? ⟨w.heap.size + 1, 4, none⟩ = some (.slice A1_4 p1.loaded.length c1_4) ∧ w9.cell? ⟨w.heap.size + 1, 5, none⟩ = some (.slice A1_5 p1.mach.script.length c1_5) ∧ w9.cell? ⟨w.heap.size + 1, 6, none⟩ = some (.int .i64 p1.mach.pc) ∧ w9.cell? ⟨w.heap.size + 1, 7, none⟩ = some (.slice A1_7 p1.mach.regs.length c1_7) ∧ w9.cell? ⟨w.heap.size + 1, 8, none⟩ = some (.int .i64 p1.mach.steps) ∧ w9.cell? ⟨w.heap.size + 1, 9, none⟩ = some (.bool p1.mach.done) ∧ w9.cell? ⟨w.heap.size + 1, 10, none⟩ = some (.bool p1.mach.wait)) (exact hS _ (by repeat (first | with_reducible exact Below.refl _ _ | with_reducible assumption | with_reducible refine bel_alloc ?_ _ | with_reducible refine bel_drew ?_ | with_reducible refine bel_drewN ?_ _ | (with_reducible refine bel_set ?_ ?_ _; rotate_left; ((try simp); (try omega)))))) (first | (go_at_call 48; refine (toPage_any _ p0 _ _ (by exact Cod.bel h0 (bel_then hBw2 (by repeat (first | with_reducible exact Below.refl _ _ | with_reducible assumption | with_reducible refine bel_alloc ?_ _ | with_reducible refine bel_drew ?_ | with_reducible refine bel_drewN ?_ _ | (with_reducible refine bel_set ?_ ?_ _; rotate_left; ((try simp); (try omega))))))) z0).mono ?_; rintro e w3 ⟨uw3, Gw3, rfl, hbw3, hrw3, hfw3⟩; have hbww3 : Below w2.heap.size w2 w3 := bel_then (by repeat (first | with_reducible exact Below.refl _ _ | with_reducible assumption | with_reducible refine bel_alloc ?_ _ | with_reducible refine bel_drew ?_ | with_reducible refine bel_drewN ?_ _ | (with_reducible refine bel_set ?_ ?_ _; rotate_left; ((try simp); (try omega))))) hbw3; clear hfw3) | (go_at_call 48; refine (toPage_any _ p1 _ _ (by exact Cod.bel h1 (bel_then hBw2 (by repeat (first | with_reducible exact Below.refl _ _ | with_reducible assumption | with_reducible refine bel_alloc ?_ _ | with_reducible refine bel_drew ?_ | with_reducible refine bel_drewN ?_ _ | (with_reducible refine bel_set ?_ ?_ _; rotate_left; ((try simp); (try omega))))))) z1).mono ?_; rintro e w4 ⟨uw4, Gw4, rfl, hbw4, hrw4, hfw4⟩; have hbww4 : Below w2.heap.size w2 w4 := bel_then (by repeat (first | with_reducible exact Below.refl _ _ | with_reducible assumption | with_reducible refine bel_alloc ?_ _ | with_reducible refine bel_drew ?_ | with_reducible refine bel_drewN ?_ _ | (with_reducible refine bel_set ?_ ?_ _; rotate_left; ((try simp); (try omega))))) hbw4; clear hfw4) | (go_at_call 51; refine (specEqualPages_any _ p0 _ _ p1 _ _ (by exact Cod.bel hrw3 (by repeat (first | with_reducible exact Below.refl _ _ | with_reducible assumption | with_reducible refine bel_alloc ?_ _ | with_reducible refine bel_drew ?_ | with_reducible refine bel_drewN ?_ _ | (with_reducible refine bel_set ?_ ?_ _; rotate_left; ((try simp); (try omega)))))) z0 (by exact Cod.bel hrw4 (by repeat (first | with_reducible exact Below.refl _ _ | with_reducible assumption | with_reducible refine bel_alloc ?_ _ | with_reducible refine bel_drew ?_ | with_reducible refine bel_drewN ?_ _ | (with_reducible refine bel_set ?_ ?_ _; rotate_left; ((try simp); (try omega)))))) z1).mono ?_; rintro e w5 ⟨rfl, hbw5⟩; have hbww5 : Below w2.heap.size w2 w5 := bel_then (by repeat (first | with_reducible exact Below.refl _ _ | with_reducible assumption | with_reducible refine bel_alloc ?_ _ | with_reducible refine bel_drew ?_ | with_reducible refine bel_drewN ?_ _ | (with_reducible refine bel_set ?_ ?_ _; rotate_left; ((try simp); (try omega))))) hbw5))
      have hsw3 := hbw3.size
      (try simp at hsw3)
      have hsw4 := hbw4.size
      (try simp at hsw4)
      have hsxw5 := hbw5.size
      (try simp at hsxw5)
      have hbZw5 := hbww5
      have hsw5 := hbZw5.size
      (try simp at hsw5)
      have hzw5_0 : w.heap.size < w5.heap.size := by omega
      have hzw5_1 : w.heap.size + 1 < w5.heap.size := by omega
      have hBw5 : Below w.heap.size w w5 := bel_then (by repeat (first | with_reducible exact Below.refl _ _ | with_reducible assumption | with_reducible refine bel_alloc ?_ _ | with_reducible refine bel_drew ?_ | with_reducible refine bel_drewN ?_ _ | (with_reducible refine bel_set ?_ ?_ _; rotate_left; ((try simp); (try omega))))) hbZw5
      obtain ⟨hcw5, hfzw5, -⟩ := bcell hbZw5
      clear hbZw5
      go_wp2_with fail
      refine (toPage_any _ p0 _ _ (by exact Cod.bel h0 (by repeat (first | with_reducible exact Below.refl _ _ | with_reducible assumption | with_reducible refine bel_alloc ?_ _ | with_reducible refine bel_drew ?_ | with_reducible refine bel_drewN ?_ _ | (with_reducible refine bel_set ?_ ?_ _; rotate_left; ((try simp); (try omega)))))) z0).mono ?_
      rintro e w6 ⟨uw6, Gw6, rfl, hbw6, hrw6, hfw6⟩
      have drw6 := hrw6
      obtain ⟨vrw6_4, vrw6_5, vrw6_7, Erw6_4, Erw6_5, Erw6_7, rfl, -, -, mrw6_4, mrw6_5, mrw6_7⟩ := TPage.outA drw6
      obtain ⟨Arw6_4, crw6_4, erw6_4⟩ := cL_form mrw6_4
      subst erw6_4
      obtain ⟨Arw6_5, crw6_5, erw6_5⟩ := cL_form mrw6_5
      subst erw6_5
      obtain ⟨Arw6_7, crw6_7, erw6_7⟩ := cL_form mrw6_7
      subst erw6_7
      clear mrw6_4 mrw6_5 mrw6_7 drw6
      have hsw6 := hbw6.size
      (try simp at hsw6)
      have hzw6_0 : w.heap.size < w6.heap.size := by omega
      have hzw6_1 : w.heap.size + 1 < w6.heap.size := by omega
      have hBw6 : Below w.heap.size w w6 := bel_then (by repeat (first | with_reducible exact Below.refl _ _ | with_reducible assumption | with_reducible refine bel_alloc ?_ _ | with_reducible refine bel_drew ?_ | with_reducible refine bel_drewN ?_ _ | (with_reducible refine bel_set ?_ ?_ _; rotate_left; ((try simp); (try omega))))) hbw6
      have hlrw6 : ∀ b, b ∈ Gw6 → b < w6.heap.size := fun b hb => Cod.lt _ hrw6 b hb
      obtain ⟨hcw6, hfzw6, -⟩ := bcell hbw6
      clear hbw6
      go_wp2_with fail
      refine (toPage_any _ p1 _ _ (by exact Cod.bel h1 (by repeat (first | with_reducible exact Below.refl _ _ | with_reducible assumption | with_reducible refine bel_alloc ?_ _ | with_reducible refine bel_drew ?_ | with_reducible refine bel_drewN ?_ _ | (with_reducible refine bel_set ?_ ?_ _; rotate_left; ((try simp); (try omega)))))) z1).mono ?_
      rintro e w7 ⟨uw7, Gw7, rfl, hbw7, hrw7, hfw7⟩
      have drw7 := hrw7
      obtain ⟨vrw7_4, vrw7_5, vrw7_7, Erw7_4, Erw7_5, Erw7_7, rfl, -, -, mrw7_4, mrw7_5, mrw7_7⟩ := TPage.outA drw7
      obtain ⟨Arw7_4, crw7_4, erw7_4⟩ := cL_form mrw7_4
      subst erw7_4
      obtain ⟨Arw7_5, crw7_5, erw7_5⟩ := cL_form mrw7_5
      subst erw7_5
      obtain ⟨Arw7_7, crw7_7, erw7_7⟩ := cL_form mrw7_7
      subst erw7_7
      clear mrw7_4 mrw7_5 mrw7_7 drw7
      have hsw7 := hbw7.size
      (try simp at hsw7)
      have hzw7_0 : w.heap.size < w7.heap.size := by omega
      have hzw7_1 : w.heap.size + 1 < w7.heap.size := by omega
      have hzw7_2 : w6.heap.size < w7.heap.size := by omega
      have hBw7 : Below w.heap.size w w7 := bel_then (by repeat (first | with_reducible exact Below.refl _ _ | with_reducible assumption | with_reducible refine bel_alloc ?_ _ | with_reducible refine bel_drew ?_ | with_reducible refine bel_drewN ?_ _ | (with_reducible refine bel_set ?_ ?_ _; rotate_left; ((try simp); (try omega))))) hbw7
      replace hrw6 := Cod.bel hrw6 (show Below _ _ w7 from bel_then (by repeat (first | with_reducible exact Below.refl _ _ | with_reducible assumption | with_reducible refine bel_alloc ?_ _ | with_reducible refine bel_drew ?_ | with_reducible refine bel_drewN ?_ _ | (with_reducible refine bel_set ?_ ?_ _; rotate_left; ((try simp); (try omega))))) hbw7)
      have hlrw7 : ∀ b, b ∈ Gw7 → b < w7.heap.size := fun b hb => Cod.lt _ hrw7 b hb
      obtain ⟨hcw7, hfzw7, -⟩ := bcell hbw7
      clear hbw7
      go_wp2_with fail
      refine (implEqualPages_any _ p0 _ _ p1 _ _ (by exact Cod.bel hrw6 (by repeat (first | with_reducible exact Below.refl _ _ | with_reducible assumption | with_reducible refine bel_alloc ?_ _ | with_reducible refine bel_drew ?_ | with_reducible refine bel_drewN ?_ _ | (with_reducible refine bel_set ?_ ?_ _; rotate_left; ((try simp); (try omega)))))) z0 (by exact Cod.bel hrw7 (by repeat (first | with_reducible exact Below.refl _ _ | with_reducible assumption | with_reducible refine bel_alloc ?_ _ | with_reducible refine bel_drew ?_ | with_reducible refine bel_drewN ?_ _ | (with_reducible refine bel_set ?_ ?_ _; rotate_left; ((try simp); (try omega)))))) z1).mono ?_
      rintro e w8 ⟨rfl, hbw8⟩
      have hsw8 := hbw8.size
      (try simp at hsw8)
      have hzw8_0 : w.heap.size < w8.heap.size := by omega
      have hzw8_1 : w.heap.size + 1 < w8.heap.size := by omega
      have hzw8_2 : w6.heap.size < w8.heap.size := by omega
      have hzw8_3 : w7.heap.size < w8.heap.size := by omega
      have hBw8 : Below w.heap.size w w8 := bel_then (by repeat (first | with_reducible exact Below.refl _ _ | with_reducible assumption | with_reducible refine bel_alloc ?_ _ | with_reducible refine bel_drew ?_ | with_reducible refine bel_drewN ?_ _ | (with_reducible refine bel_set ?_ ?_ _; rotate_left; ((try simp); (try omega))))) hbw8
      replace hrw6 := Cod.bel hrw6 (show Below _ _ w8 from bel_then (by repeat (first | with_reducible exact Below.refl _ _ | with_reducible assumption | with_reducible refine bel_alloc ?_ _ | with_reducible refine bel_drew ?_ | with_reducible refine bel_drewN ?_ _ | (with_reducible refine bel_set ?_ ?_ _; rotate_left; ((try simp); (try omega))))) hbw8)
      replace hrw7 := Cod.bel hrw7 (show Below _ _ w8 from bel_then (by repeat (first | with_reducible exact Below.refl _ _ | with_reducible assumption | with_reducible refine bel_alloc ?_ _ | with_reducible refine bel_drew ?_ | with_reducible refine bel_drewN ?_ _ | (with_reducible refine bel_set ?_ ?_ _; rotate_left; ((try simp); (try omega))))) hbw8)
      obtain ⟨hcw8, hfzw8, -⟩ := bcell hbw8
      clear hbw8
      go_wp2_with fail
      have kw10_0 : w8.cell? ⟨w6.heap.size, 0, none⟩ = some (.int .i64 p0.id) := by go_simp
      have kw10_1 : w8.cell? ⟨w6.heap.size, 1, none⟩ = some (.string p0.site) := by go_simp
      have kw10_2 : w8.cell? ⟨w6.heap.size, 2, none⟩ = some (.string p0.top) := by go_simp
      have kw10_3 : w8.cell? ⟨w6.heap.size, 3, none⟩ = some (.int .i64 p0.ver) := by go_simp
      have kw10_4 : w8.cell? ⟨w6.heap.size, 4, none⟩ = some (.slice Arw6_4 p0.loaded.length crw6_4) := by go_simp
      have kw10_5 : w8.cell? ⟨w6.heap.size, 5, none⟩ = some (.slice Arw6_5 p0.mach.script.length crw6_5) := by go_simp
      have kw10_6 : w8.cell? ⟨w6.heap.size, 6, none⟩ = some (.int .i64 p0.mach.pc) := by go_simp
      have kw10_7 : w8.cell? ⟨w6.heap.size, 7, none⟩ = some (.slice Arw6_7 p0.mach.regs.length crw6_7) := by go_simp
      have kw10_8 : w8.cell? ⟨w6.heap.size, 8, none⟩ = some (.int .i64 p0.mach.steps) := by go_simp
      have kw10_9 : w8.cell? ⟨w6.heap.size, 9, none⟩ = some (.bool p0.mach.done) := by go_simp
      have kw10_10 : w8.cell? ⟨w6.heap.size, 10, none⟩ = some (.bool p0.mach.wait) := by go_simp
      have kw10_11 : w8.cell? ⟨w.heap.size, 0, none⟩ = some (.int .i64 p0.id) := by go_simp
      have kw10_12 : w8.cell? ⟨w.heap.size, 1, none⟩ = some (.string p0.site) := by go_simp
      have kw10_13 : w8.cell? ⟨w.heap.size, 2, none⟩ = some (.string p0.top) := by go_simp
      have kw10_14 : w8.cell? ⟨w.heap.size, 3, none⟩ = some (.int .i64 p0.ver) := by go_simp
      have kw10_15 : w8.cell? ⟨w.heap.size, 4, none⟩ = some (.slice A0_4 p0.loaded.length c0_4) := by go_simp
      have kw10_16 : w8.cell? ⟨w.heap.size, 5, none⟩ = some (.slice A0_5 p0.mach.script.length c0_5) := by go_simp
      have kw10_17 : w8.cell? ⟨w.heap.size, 6, none⟩ = some (.int .i64 p0.mach.pc) := by go_simp
      have kw10_18 : w8.cell? ⟨w.heap.size, 7, none⟩ = some (.slice A0_7 p0.mach.regs.length c0_7) := by go_simp
      have kw10_19 : w8.cell? ⟨w.heap.size, 8, none⟩ = some (.int .i64 p0.mach.steps) := by go_simp
      have kw10_20 : w8.cell? ⟨w.heap.size, 9, none⟩ = some (.bool p0.mach.done) := by go_simp
      have kw10_21 : w8.cell? ⟨w.heap.size, 10, none⟩ = some (.bool p0.mach.wait) := by go_simp
      have hS : ∀ w9, Below w8.heap.size w8 w9 → Below w8.heap.size w8 w9 ∧ w9.cell? ⟨w6.heap.size, 0, none⟩ = some (.int .i64 p0.id) ∧ w9.cell? ⟨w6.heap.size, 1, none⟩ = some (.string p0.site) ∧ w9.cell? ⟨w6.heap.size, 2, none⟩ = some (.string p0.top) ∧ w9.cell? ⟨w6.heap.size, 3, none⟩ = some (.int .i64 p0.ver) ∧ w9.cell? ⟨w6.heap.size, 4, none⟩ = some (.slice Arw6_4 p0.loaded.length crw6_4) ∧ w9.cell? ⟨w6.heap.size, 5, none⟩ = some (.slice Arw6_5 p0.mach.script.length crw6_5) ∧ w9.cell? ⟨w6.heap.size, 6, none⟩ = some (.int .i64 p0.mach.pc) ∧ w9.cell? ⟨w6.heap.size, 7, none⟩ = some (.slice Arw6_7 p0.mach.regs.length crw6_7) ∧ w9.cell? ⟨w6.heap.size, 8, none⟩ = some (.int .i64 p0.mach.steps) ∧ w9.cell? ⟨w6.heap.size, 9, none⟩ = some (.bool p0.mach.done) ∧ w9.cell? ⟨w6.heap.size, 10, none⟩ = some (.bool p0.mach.wait) ∧ w9.cell? ⟨w.heap.size, 0, none⟩ = some (.int .i64 p0.id) ∧ w9.cell? ⟨w.heap.size, 1, none⟩ = some (.string p0.site) ∧ w9.cell? ⟨w.heap.size, 2, none⟩ = some (.string p0.top) ∧ w9.cell? ⟨w.heap.size, 3, none⟩ = some (.int .i64 p0.ver) ∧ w9.cell? ⟨w.heap.size, 4, none⟩ = some (.slice A0_4 p0.loaded.length c0_4) ∧ w9.cell? ⟨w.heap.size, 5, none⟩ = some (.slice A0_5 p0.mach.script.length c0_5) ∧ w9.cell? ⟨w.heap.size, 6, none⟩ = some (.int .i64 p0.mach.pc) ∧ w9.cell? ⟨w.heap.size, 7, none⟩ = some (.slice A0_7 p0.mach.regs.length c0_7) ∧ w9.cell? ⟨w.heap.size, 8, none⟩ = some (.int .i64 p0.mach.steps) ∧ w9.cell? ⟨w.heap.size, 9, none⟩ = some (.bool p0.mach.done) ∧ w9.cell? ⟨w.heap.size, 10, none⟩ = some (.bool p0.mach.wait) := fun w9 hb => ⟨hb, (hb.cell (p := ⟨w6.heap.size, 0, none⟩) (by simpa using hzw8_2)).trans kw10_0, (hb.cell (p := ⟨w6.heap.size, 1, none⟩) (by simpa using hzw8_2)).trans kw10_1, (hb.cell (p := ⟨w6.heap.size, 2, none⟩) (by simpa using hzw8_2)).trans kw10_2, (hb.cell (p := ⟨w6.heap.size, 3, none⟩) (by simpa using hzw8_2)).trans kw10_3, (hb.cell (p := ⟨w6.heap.size, 4, none⟩) (by simpa using hzw8_2)).trans kw10_4, (hb.cell (p := ⟨w6.heap.size, 5, none⟩) (by simpa using hzw8_2)).trans kw10_5, (hb.cell (p := ⟨w6.heap.size, 6, none⟩) (by simpa using hzw8_2)).trans kw10_6, (hb.cell (p := ⟨w6.heap.size, 7, none⟩) (by simpa using hzw8_2)).trans kw10_7, (hb.cell (p := ⟨w6.heap.size, 8, none⟩) (by simpa using hzw8_2)).trans kw10_8, (hb.cell (p := ⟨w6.heap.size, 9, none⟩) (by simpa using hzw8_2)).trans kw10_9, (hb.cell (p := ⟨w6.heap.size, 10, none⟩) (by simpa using hzw8_2)).trans kw10_10, (hb.cell (p := ⟨w.heap.size, 0, none⟩) (by simpa using hzw8_0)).trans kw10_11, (hb.cell (p := ⟨w.heap.size, 1, none⟩) (by simpa using hzw8_0)).trans kw10_12, (hb.cell (p := ⟨w.heap.size, 2, none⟩) (by simpa using hzw8_0)).trans kw10_13, (hb.cell (p := ⟨w.heap.size, 3, none⟩) (by simpa using hzw8_0)).trans kw10_14, (hb.cell (p := ⟨w.heap.size, 4, none⟩) (by simpa using hzw8_0)).trans kw10_15, (hb.cell (p := ⟨w.heap.size, 5, none⟩) (by simpa using hzw8_0)).trans kw10_16, (hb.cell (p := ⟨w.heap.size, 6, none⟩) (by simpa using hzw8_0)).trans kw10_17, (hb.cell (p := ⟨w.heap.size, 7, none⟩) (by simpa using hzw8_0)).trans kw10_18, (hb.cell (p := ⟨w.heap.size, 8, none⟩) (by simpa using hzw8_0)).trans kw10_19, (hb.cell (p := ⟨w.heap.size, 9, none⟩) (by simpa using hzw8_0)).trans kw10_20, (hb.cell (p := ⟨w.heap.size, 10, none⟩) (by simpa using hzw8_0)).trans kw10_21⟩
      have hwb : Below w8.heap.size w8 w8 := Below.refl _ _
      clear kw10_0 kw10_1 kw10_2 kw10_3 kw10_4 kw10_5 kw10_6 kw10_7 kw10_8 kw10_9 kw10_10 kw10_11 kw10_12 kw10_13 kw10_14 kw10_15 kw10_16 kw10_17 kw10_18 kw10_19 kw10_20 kw10_21
      go_region_held3 (fun w9 => Below w8.heap.size w8 w9 ∧ w9.cell? ⟨w6.heap.size, 0, none⟩ = some (.int .i64 p0.id) ∧ w9.cell? ⟨w6.heap.size, 1, none⟩ = some (.string p0.site) ∧ w9.cell? ⟨w6.heap.size, 2, none⟩ = some (.string p0.top) ∧ w9.cell? ⟨w6.heap.size, 3, none⟩ = some (.int .i64 p0.ver) ∧ w9.cell? ⟨w6.heap.size, 4, none⟩ = some (.slice Arw6_4 p0.loaded.length crw6_4) ∧ w9.cell? ⟨w6.heap.size, 5, none⟩ = some (.slice Arw6_5 p0.mach.script.length crw6_5) ∧ w9.cell? ⟨w6.heap.size, 6, none⟩ = some (.int .i64 p0.mach.pc) ∧ w9.cell? ⟨w6.heap.size, 7, none⟩ = some (.slice Arw6_7 p0.mach.regs.length crw6_7) ∧ w9.cell? ⟨w6.heap.size, 8, none⟩ = some (.int .i64 p0.mach.steps) ∧ w9.cell? ⟨w6.heap.size, 9, none⟩ = some (.bool p0.mach.done) ∧ w9.cell? ⟨w6.heap.size, 10, none⟩ = some (.bool p0.mach.wait) ∧ w9.cell? ⟨w.heap.size, 0, none⟩ = some (.int .i64 p0.id) ∧ w9.cell? ⟨w.heap.size, 1, none⟩ = some (.string p0.site) ∧ w9.cell? ⟨w.heap.size, 2, none⟩ = some (.string p0.top) ∧ w9.cell? ⟨w.heap.size, 3, none⟩ = some (.int .i64 p0.ver) ∧ w9.cell? ⟨w.heap.size, 4, none⟩ = some (.slice A0_4 p0.loaded.length c0_4) ∧ w9.cell? ⟨w.heap.size, 5, none⟩ = some (.slice A0_5 p0.mach.script.length c0_5) ∧ w9.cell? ⟨w.heap.size, 6, none⟩ = some (.int .i64 p0.mach.pc) ∧ w9.cell? ⟨w.heap.size, 7, none⟩ = some (.slice A0_7 p0.mach.regs.length c0_7) ∧ w9.cell? ⟨w.heap.size, 8, none⟩ = some (.int .i64 p0.mach.steps) ∧ w9.cell? ⟨w.heap.size, 9, none⟩ = some (.bool p0.mach.done) ∧ w9.cell? ⟨w.heap.size, 10, none⟩ = some (.bool p0.mach.wait)) (exact hS _ (by repeat (first | with_reducible exact Below.refl _ _ | with_reducible assumption | with_reducible refine bel_alloc ?_ _ | with_reducible refine bel_drew ?_ | with_reducible refine bel_drewN ?_ _ | (with_reducible refine bel_set ?_ ?_ _; rotate_left; ((try simp); (try omega)))))) (first | (go_at_call 48; refine (toPage_any _ p0 _ _ (by exact Cod.bel h0 (bel_then hBw8 (by repeat (first | with_reducible exact Below.refl _ _ | with_reducible assumption | with_reducible refine bel_alloc ?_ _ | with_reducible refine bel_drew ?_ | with_reducible refine bel_drewN ?_ _ | (with_reducible refine bel_set ?_ ?_ _; rotate_left; ((try simp); (try omega))))))) z0).mono ?_; rintro e w9 ⟨uw9, Gw9, rfl, hbw9, hrw9, hfw9⟩; have hbww9 : Below w8.heap.size w8 w9 := bel_then (by repeat (first | with_reducible exact Below.refl _ _ | with_reducible assumption | with_reducible refine bel_alloc ?_ _ | with_reducible refine bel_drew ?_ | with_reducible refine bel_drewN ?_ _ | (with_reducible refine bel_set ?_ ?_ _; rotate_left; ((try simp); (try omega))))) hbw9; clear hfw9) | (go_at_call 50; refine (eqPage_any _ _ p0 _ _ _ (by exact Cod.bel hrw6 (by repeat (first | with_reducible exact Below.refl _ _ | with_reducible assumption | with_reducible refine bel_alloc ?_ _ | with_reducible refine bel_drew ?_ | with_reducible refine bel_drewN ?_ _ | (with_reducible refine bel_set ?_ ?_ _; rotate_left; ((try simp); (try omega)))))) (by exact Cod.bel hrw9 (by repeat (first | with_reducible exact Below.refl _ _ | with_reducible assumption | with_reducible refine bel_alloc ?_ _ | with_reducible refine bel_drew ?_ | with_reducible refine bel_drewN ?_ _ | (with_reducible refine bel_set ?_ ?_ _; rotate_left; ((try simp); (try omega))))))).mono ?_; rintro e w10 ⟨rfl, hbw10⟩; have hbww10 : Below w8.heap.size w8 w10 := bel_then (by repeat (first | with_reducible exact Below.refl _ _ | with_reducible assumption | with_reducible refine bel_alloc ?_ _ | with_reducible refine bel_drew ?_ | with_reducible refine bel_drewN ?_ _ | (with_reducible refine bel_set ?_ ?_ _; rotate_left; ((try simp); (try omega))))) hbw10))
      have hbZw10 := hbww10
      have hsw10 := hbZw10.size
      (try simp at hsw10)
      have hzw10_0 : w.heap.size < w10.heap.size := by omega
      have hzw10_1 : w.heap.size + 1 < w10.heap.size := by omega
      have hzw10_2 : w6.heap.size < w10.heap.size := by omega
      have hzw10_3 : w7.heap.size < w10.heap.size := by omega
      have hBw10 : Below w.heap.size w w10 := bel_then (by repeat (first | with_reducible exact Below.refl _ _ | with_reducible assumption | with_reducible refine bel_alloc ?_ _ | with_reducible refine bel_drew ?_ | with_reducible refine bel_drewN ?_ _ | (with_reducible refine bel_set ?_ ?_ _; rotate_left; ((try simp); (try omega))))) hbZw10
      replace hrw6 := Cod.bel hrw6 (show Below _ _ w10 from bel_then (by repeat (first | with_reducible exact Below.refl _ _ | with_reducible assumption | with_reducible refine bel_alloc ?_ _ | with_reducible refine bel_drew ?_ | with_reducible refine bel_drewN ?_ _ | (with_reducible refine bel_set ?_ ?_ _; rotate_left; ((try simp); (try omega))))) hbZw10)
      replace hrw7 := Cod.bel hrw7 (show Below _ _ w10 from bel_then (by repeat (first | with_reducible exact Below.refl _ _ | with_reducible assumption | with_reducible refine bel_alloc ?_ _ | with_reducible refine bel_drew ?_ | with_reducible refine bel_drewN ?_ _ | (with_reducible refine bel_set ?_ ?_ _; rotate_left; ((try simp); (try omega))))) hbZw10)
      obtain ⟨hcw10, hfzw10, -⟩ := bcell hbZw10
      clear hbZw10
      go_wp2_with fail
      have kw12_0 : w10.cell? ⟨w7.heap.size, 0, none⟩ = some (.int .i64 p1.id) := by go_simp
      have kw12_1 : w10.cell? ⟨w7.heap.size, 1, none⟩ = some (.string p1.site) := by go_simp
      have kw12_2 : w10.cell? ⟨w7.heap.size, 2, none⟩ = some (.string p1.top) := by go_simp
      have kw12_3 : w10.cell? ⟨w7.heap.size, 3, none⟩ = some (.int .i64 p1.ver) := by go_simp
      have kw12_4 : w10.cell? ⟨w7.heap.size, 4, none⟩ = some (.slice Arw7_4 p1.loaded.length crw7_4) := by go_simp
      have kw12_5 : w10.cell? ⟨w7.heap.size, 5, none⟩ = some (.slice Arw7_5 p1.mach.script.length crw7_5) := by go_simp
      have kw12_6 : w10.cell? ⟨w7.heap.size, 6, none⟩ = some (.int .i64 p1.mach.pc) := by go_simp
      have kw12_7 : w10.cell? ⟨w7.heap.size, 7, none⟩ = some (.slice Arw7_7 p1.mach.regs.length crw7_7) := by go_simp
      have kw12_8 : w10.cell? ⟨w7.heap.size, 8, none⟩ = some (.int .i64 p1.mach.steps) := by go_simp
      have kw12_9 : w10.cell? ⟨w7.heap.size, 9, none⟩ = some (.bool p1.mach.done) := by go_simp
      have kw12_10 : w10.cell? ⟨w7.heap.size, 10, none⟩ = some (.bool p1.mach.wait) := by go_simp
      have kw12_11 : w10.cell? ⟨w.heap.size + 1, 0, none⟩ = some (.int .i64 p1.id) := by go_simp
      have kw12_12 : w10.cell? ⟨w.heap.size + 1, 1, none⟩ = some (.string p1.site) := by go_simp
      have kw12_13 : w10.cell? ⟨w.heap.size + 1, 2, none⟩ = some (.string p1.top) := by go_simp
      have kw12_14 : w10.cell? ⟨w.heap.size + 1, 3, none⟩ = some (.int .i64 p1.ver) := by go_simp
      have kw12_15 : w10.cell? ⟨w.heap.size + 1, 4, none⟩ = some (.slice A1_4 p1.loaded.length c1_4) := by go_simp
      have kw12_16 : w10.cell? ⟨w.heap.size + 1, 5, none⟩ = some (.slice A1_5 p1.mach.script.length c1_5) := by go_simp
      have kw12_17 : w10.cell? ⟨w.heap.size + 1, 6, none⟩ = some (.int .i64 p1.mach.pc) := by go_simp
      have kw12_18 : w10.cell? ⟨w.heap.size + 1, 7, none⟩ = some (.slice A1_7 p1.mach.regs.length c1_7) := by go_simp
      have kw12_19 : w10.cell? ⟨w.heap.size + 1, 8, none⟩ = some (.int .i64 p1.mach.steps) := by go_simp
      have kw12_20 : w10.cell? ⟨w.heap.size + 1, 9, none⟩ = some (.bool p1.mach.done) := by go_simp
      have kw12_21 : w10.cell? ⟨w.heap.size + 1, 10, none⟩ = some (.bool p1.mach.wait) := by go_simp
      have hS : ∀ w9, Below w10.heap.size w10 w9 → Below w10.heap.size w10 w9 ∧ w9.cell? ⟨w7.heap.size, 0, none⟩ = some (.int .i64 p1.id) ∧ w9.cell? ⟨w7.heap.size, 1, none⟩ = some (.string p1.site) ∧ w9.cell? ⟨w7.heap.size, 2, none⟩ = some (.string p1.top) ∧ w9.cell? ⟨w7.heap.size, 3, none⟩ = some (.int .i64 p1.ver) ∧ w9.cell? ⟨w7.heap.size, 4, none⟩ = some (.slice Arw7_4 p1.loaded.length crw7_4) ∧ w9.cell? ⟨w7.heap.size, 5, none⟩ = some (.slice Arw7_5 p1.mach.script.length crw7_5) ∧ w9.cell? ⟨w7.heap.size, 6, none⟩ = some (.int .i64 p1.mach.pc) ∧ w9.cell? ⟨w7.heap.size, 7, none⟩ = some (.slice Arw7_7 p1.mach.regs.length crw7_7) ∧ w9.cell? ⟨w7.heap.size, 8, none⟩ = some (.int .i64 p1.mach.steps) ∧ w9.cell? ⟨w7.heap.size, 9, none⟩ = some (.bool p1.mach.done) ∧ w9.cell? ⟨w7.heap.size, 10, none⟩ = some (.bool p1.mach.wait) ∧ w9.cell? ⟨w.heap.size + 1, 0, none⟩ = some (.int .i64 p1.id) ∧ w9.cell? ⟨w.heap.size + 1, 1, none⟩ = some (.string p1.site) ∧ w9.cell? ⟨w.heap.size + 1, 2, none⟩ = some (.string p1.top) ∧ w9.cell? ⟨w.heap.size + 1, 3, none⟩ = some (.int .i64 p1.ver) ∧ w9.cell? ⟨w.heap.size + 1, 4, none⟩ = some (.slice A1_4 p1.loaded.length c1_4) ∧ w9.cell? ⟨w.heap.size + 1, 5, none⟩ = some (.slice A1_5 p1.mach.script.length c1_5) ∧ w9.cell? ⟨w.heap.size + 1, 6, none⟩ = some (.int .i64 p1.mach.pc) ∧ w9.cell? ⟨w.heap.size + 1, 7, none⟩ = some (.slice A1_7 p1.mach.regs.length c1_7) ∧ w9.cell? ⟨w.heap.size + 1, 8, none⟩ = some (.int .i64 p1.mach.steps) ∧ w9.cell? ⟨w.heap.size + 1, 9, none⟩ = some (.bool p1.mach.done) ∧ w9.cell? ⟨w.heap.size + 1, 10, none⟩ = some (.bool p1.mach.wait) := fun w9 hb => ⟨hb, (hb.cell (p := ⟨w7.heap.size, 0, none⟩) (by simpa using hzw10_3)).trans kw12_0, (hb.cell (p := ⟨w7.heap.size, 1, none⟩) (by simpa using hzw10_3)).trans kw12_1, (hb.cell (p := ⟨w7.heap.size, 2, none⟩) (by simpa using hzw10_3)).trans kw12_2, (hb.cell (p := ⟨w7.heap.size, 3, none⟩) (by simpa using hzw10_3)).trans kw12_3, (hb.cell (p := ⟨w7.heap.size, 4, none⟩) (by simpa using hzw10_3)).trans kw12_4, (hb.cell (p := ⟨w7.heap.size, 5, none⟩) (by simpa using hzw10_3)).trans kw12_5, (hb.cell (p := ⟨w7.heap.size, 6, none⟩) (by simpa using hzw10_3)).trans kw12_6, (hb.cell (p := ⟨w7.heap.size, 7, none⟩) (by simpa using hzw10_3)).trans kw12_7, (hb.cell (p := ⟨w7.heap.size, 8, none⟩) (by simpa using hzw10_3)).trans kw12_8, (hb.cell (p := ⟨w7.heap.size, 9, none⟩) (by simpa using hzw10_3)).trans kw12_9, (hb.cell (p := ⟨w7.heap.size, 10, none⟩) (by simpa using hzw10_3)).trans kw12_10, (hb.cell (p := ⟨w.heap.size + 1, 0, none⟩) (by simpa using hzw10_1)).trans kw12_11, (hb.cell (p := ⟨w.heap.size + 1, 1, none⟩) (by simpa using hzw10_1)).trans kw12_12, (hb.cell (p := ⟨w.heap.size + 1, 2, none⟩) (by simpa using hzw10_1)).trans kw12_13, (hb.cell (p := ⟨w.heap.size + 1, 3, none⟩) (by simpa using hzw10_1)).trans kw12_14, (hb.cell (p := ⟨w.heap.size + 1, 4, none⟩) (by simpa using hzw10_1)).trans kw12_15, (hb.cell (p := ⟨w.heap.size + 1, 5, none⟩) (by simpa using hzw10_1)).trans kw12_16, (hb.cell (p := ⟨w.heap.size + 1, 6, none⟩) (by simpa using hzw10_1)).trans kw12_17, (hb.cell (p := ⟨w.heap.size + 1, 7, none⟩) (by simpa using hzw10_1)).trans kw12_18, (hb.cell (p := ⟨w.heap.size + 1, 8, none⟩) (by simpa using hzw10_1)).trans kw12_19, (hb.cell (p := ⟨w.heap.size + 1, 9, none⟩) (by simpa using hzw10_1)).trans kw12_20, (hb.cell (p := ⟨w.heap.size + 1, 10, none⟩) (by simpa using hzw10_1)).trans kw12_21⟩
      have hwb : Below w10.heap.size w10 w10 := Below.refl _ _
      clear kw12_0 kw12_1 kw12_2 kw12_3 kw12_4 kw12_5 kw12_6 kw12_7 kw12_8 kw12_9 kw12_10 kw12_11 kw12_12 kw12_13 kw12_14 kw12_15 kw12_16 kw12_17 kw12_18 kw12_19 kw12_20 kw12_21
      go_region_held3 (fun w9 => Below w10.heap.size w10 w9 ∧ w9.cell? ⟨w7.heap.size, 0, none⟩ = some (.int .i64 p1.id) ∧ w9.cell? ⟨w7.heap.size, 1, none⟩ = some (.string p1.site) ∧ w9.cell? ⟨w7.heap.size, 2, none⟩ = some (.string p1.top) ∧ w9.cell? ⟨w7.heap.size, 3, none⟩ = some (.int .i64 p1.ver) ∧ w9.cell? ⟨w7.heap.size, 4, none⟩ = some (.slice Arw7_4 p1.loaded.length crw7_4) ∧ w9.cell? ⟨w7.heap.size, 5, none⟩ = some (.slice Arw7_5 p1.mach.script.length crw7_5) ∧ w9.cell? ⟨w7.heap.size, 6, none⟩ = some (.int .i64 p1.mach.pc) ∧ w9.cell? ⟨w7.heap.size, 7, none⟩ = some (.slice Arw7_7 p1.mach.regs.length crw7_7) ∧ w9.cell? ⟨w7.heap.size, 8, none⟩ = some (.int .i64 p1.mach.steps) ∧ w9.cell? ⟨w7.heap.size, 9, none⟩ = some (.bool p1.mach.done) ∧ w9.cell? ⟨w7.heap.size, 10, none⟩ = some (.bool p1.mach.wait) ∧ w9.cell? ⟨w.heap.size + 1, 0, none⟩ = some (.int .i64 p1.id) ∧ w9.cell? ⟨w.heap.size + 1, 1, none⟩ = some (.string p1.site) ∧ w9.cell? ⟨w.heap.size + 1, 2, none⟩ = some (.string p1.top) ∧ w9.cell? ⟨w.heap.size + 1, 3, none⟩ = some (.int .i64 p1.ver) ∧ w9.cell? ⟨w.heap.size + 1, 4, none⟩ = some (.slice A1_4 p1.loaded.length c1_4) ∧ w9.cell? ⟨w.heap.size + 1, 5, none⟩ = some (.slice A1_5 p1.mach.script.length c1_5) ∧ w9.cell? ⟨w.heap.size + 1, 6, none⟩ = some (.int .i64 p1.mach.pc) ∧ w9.cell? ⟨w.heap.size + 1, 7, none⟩ = some (.slice A1_7 p1.mach.regs.length c1_7) ∧ w9.cell? ⟨w.heap.size + 1, 8, none⟩ = some (.int .i64 p1.mach.steps) ∧ w9.cell? ⟨w.heap.size + 1, 9, none⟩ = some (.bool p1.mach.done) ∧ w9.cell? ⟨w.heap.size + 1, 10, none⟩ = some (.bool p1.mach.wait)) (exact hS _ (by repeat (first | with_reducible exact Below.refl _ _ | with_reducible assumption | with_reducible refine bel_alloc ?_ _ | with_reducible refine bel_drew ?_ | with_reducible refine bel_drewN ?_ _ | (with_reducible refine bel_set ?_ ?_ _; rotate_left; ((try simp); (try omega)))))) (first | (go_at_call 48; refine (toPage_any _ p1 _ _ (by exact Cod.bel h1 (bel_then hBw10 (by repeat (first | with_reducible exact Below.refl _ _ | with_reducible assumption | with_reducible refine bel_alloc ?_ _ | with_reducible refine bel_drew ?_ | with_reducible refine bel_drewN ?_ _ | (with_reducible refine bel_set ?_ ?_ _; rotate_left; ((try simp); (try omega))))))) z1).mono ?_; rintro e w11 ⟨uw11, Gw11, rfl, hbw11, hrw11, hfw11⟩; have hbww11 : Below w10.heap.size w10 w11 := bel_then (by repeat (first | with_reducible exact Below.refl _ _ | with_reducible assumption | with_reducible refine bel_alloc ?_ _ | with_reducible refine bel_drew ?_ | with_reducible refine bel_drewN ?_ _ | (with_reducible refine bel_set ?_ ?_ _; rotate_left; ((try simp); (try omega))))) hbw11; clear hfw11) | (go_at_call 50; refine (eqPage_any _ _ p1 _ _ _ (by exact Cod.bel hrw7 (by repeat (first | with_reducible exact Below.refl _ _ | with_reducible assumption | with_reducible refine bel_alloc ?_ _ | with_reducible refine bel_drew ?_ | with_reducible refine bel_drewN ?_ _ | (with_reducible refine bel_set ?_ ?_ _; rotate_left; ((try simp); (try omega)))))) (by exact Cod.bel hrw11 (by repeat (first | with_reducible exact Below.refl _ _ | with_reducible assumption | with_reducible refine bel_alloc ?_ _ | with_reducible refine bel_drew ?_ | with_reducible refine bel_drewN ?_ _ | (with_reducible refine bel_set ?_ ?_ _; rotate_left; ((try simp); (try omega))))))).mono ?_; rintro e w12 ⟨rfl, hbw12⟩; have hbww12 : Below w10.heap.size w10 w12 := bel_then (by repeat (first | with_reducible exact Below.refl _ _ | with_reducible assumption | with_reducible refine bel_alloc ?_ _ | with_reducible refine bel_drew ?_ | with_reducible refine bel_drewN ?_ _ | (with_reducible refine bel_set ?_ ?_ _; rotate_left; ((try simp); (try omega))))) hbw12))
      have hbZw12 := hbww12
      have hsw12 := hbZw12.size
      (try simp at hsw12)
      have hzw12_0 : w.heap.size < w12.heap.size := by omega
      have hzw12_1 : w.heap.size + 1 < w12.heap.size := by omega
      have hzw12_2 : w6.heap.size < w12.heap.size := by omega
      have hzw12_3 : w7.heap.size < w12.heap.size := by omega
      have hBw12 : Below w.heap.size w w12 := bel_then (by repeat (first | with_reducible exact Below.refl _ _ | with_reducible assumption | with_reducible refine bel_alloc ?_ _ | with_reducible refine bel_drew ?_ | with_reducible refine bel_drewN ?_ _ | (with_reducible refine bel_set ?_ ?_ _; rotate_left; ((try simp); (try omega))))) hbZw12
      replace hrw6 := Cod.bel hrw6 (show Below _ _ w12 from bel_then (by repeat (first | with_reducible exact Below.refl _ _ | with_reducible assumption | with_reducible refine bel_alloc ?_ _ | with_reducible refine bel_drew ?_ | with_reducible refine bel_drewN ?_ _ | (with_reducible refine bel_set ?_ ?_ _; rotate_left; ((try simp); (try omega))))) hbZw12)
      replace hrw7 := Cod.bel hrw7 (show Below _ _ w12 from bel_then (by repeat (first | with_reducible exact Below.refl _ _ | with_reducible assumption | with_reducible refine bel_alloc ?_ _ | with_reducible refine bel_drew ?_ | with_reducible refine bel_drewN ?_ _ | (with_reducible refine bel_set ?_ ?_ _; rotate_left; ((try simp); (try omega))))) hbZw12)
      obtain ⟨hcw12, hfzw12, -⟩ := bcell hbZw12
      clear hbZw12
      go_wp2_with fail
      go_ret
      exact ⟨rfl, (by repeat (first | with_reducible exact Below.refl _ _ | with_reducible assumption | with_reducible refine bel_alloc ?_ _ | with_reducible refine bel_drew ?_ | with_reducible refine bel_drewN ?_ _ | (with_reducible refine bel_set ?_ ?_ _; rotate_left; ((try simp); (try omega)))))⟩

set_option maxRecDepth 100000 in
theorem lawEqualPages_walk (H : Type) (enc : TypeId × Value → H) (W : World) (base : Nat) (args : Array Value) (ds : List (DataW H)) (p : List MemPlace)
    (hval : ∀ (j : Nat) t v, Try.f12.params[j]? = some t → args[j]? = some v → Value.okWide Try.prog W .any base t v)
    (hA : DataW.TrodAll enc Try.prog W 0 (fun _ => true) true Try.f12.params.toList args.toList ds p) (hf : W.noneFrozen p) :
    Calls Try.prog 12 args W (Gives W (.bool true)) := by
  rw [Try.params12] at hA hval
  obtain ⟨v0, vs0, d0, ds0, q0, s0, hargs, rfl, rfl, k0, t0⟩ := trodAll_cons hA
  obtain ⟨v1, vs1, d1, ds1, q1, s1, rfl, rfl, rfl, k1, t1⟩ := trodAll_cons t0
  obtain ⟨rfl, rfl, rfl⟩ := trodAll_nil t1
  obtain rfl : args = #[v0, v1] := by cases args; simp_all
  obtain ⟨cs0, x0, F0, rfl, hx0⟩ := opens_lPage.struct_ Try.underlying69 (hval 0 _ _ rfl rfl) k0 (noneFrozen_mono hf fun y hy => by simp [hy])
  obtain ⟨cs1, x1, F1, rfl, hx1⟩ := opens_lPage.struct_ Try.underlying69 (hval 1 _ _ rfl rfl) k1 (noneFrozen_mono hf fun y hy => by simp [hy])
  exact lawEqualPages_any cs0 x0 F0 cs1 x1 F1 W hx0 hx1

set_option maxRecDepth 100000 in
theorem lawEqualPages_lifted (os : Os) (started : os.Started) (H : Type) (enc : TypeId × Value → H) :
    ReturnsInHanded {} Try.checked os 12 .any (Rows.fnExactEqualPagesSpec.pre6 enc Try.prog Try.f12 Rows.fnExactEqualPagesRow.domain false) (Rows.fnExactEqualPagesSpec.post enc Try.prog Try.f12 false true false false) := by
  refine returnsInHanded_of_change (C := Try.checked) (by kernel_rfl) started (by kernel_rfl) Try.func12
    (ChangeSpec.witness6 (enc := enc) (C := Try.checked) false ⟨#[], #[.agg #[.int .i64 0, .string ByteArray.empty, .string ByteArray.empty, .int .i64 0, .slice none 0 0, .slice none 0 0, .int .i64 0, .slice none 0 0, .int .i64 0, .bool false, .bool false], .agg #[.int .i64 0, .string ByteArray.empty, .string ByteArray.empty, .int .i64 0, .slice none 0 0, .slice none 0 0, .int .i64 0, .slice none 0 0, .int .i64 0, .bool false, .bool false]], []⟩ 16 (by kernel_rfl) (by kernel_rfl) (by kernel_rfl) (by kernel_rfl)) ?_
  intro W base args ds gs before hval hW _ _
  have hW' := hW
  obtain ⟨p, q, hA, hV, rfl, hfz, hnd⟩ := hW
  refine (lawEqualPages_walk H enc W base args ds p hval hA (noneFrozen_mono hfz fun y hy => by simp [hy])).mono fun e W' ⟨he, hb⟩ => ⟨_, he, ?_⟩
  exact law_post (by kernel_rfl) rfl (by kernel_rfl) Try.underlying4 (by kernel_rfl) (fun ds h => by
    match ds, h with
    | [d0, d1], _ => exact ⟨rfl, rfl, rfl⟩) hW' hb
theorem lawEqualPages_over : Rows.fnExactEqualPagesRow.holds Try.pinned (OpenSpec.ofChange Rows.fnExactEqualPagesSpec) :=
  OpenClaim.holds_of_wide 12 Try.f12 rfl rfl rfl rfl rfl rfl rfl ⟨rfl, rfl, rfl, rfl, rfl⟩ rfl rfl rfl rfl rfl (by kernel_rfl) Try.func12 (by kernel_rfl)
    (of_decide_eq_true (by kernel_rfl)) (by unfold Func.isWrapper; rw [if_neg (of_decide_eq_false (by kernel_rfl))]; exact ⟨rfl, rfl⟩)
    (fun os started H enc _ => lawEqualPages_lifted os started H enc)
/-- THE STATEMENT -/
theorem lawEqualPages_holds : Rows.FnExactEqualPagesSaid := lawEqualPages_over

end Go.Proofs.Ythmlgflnefellaa
