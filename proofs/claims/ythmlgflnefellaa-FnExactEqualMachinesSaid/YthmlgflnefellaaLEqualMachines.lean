/-
  The law FnExactEqualMachines: for all arguments the program's EqualMachines returns what the reference's returns. No conditions.
-/
import Derived.Test.YthmlgflnefellaaRows
import Derived.Deep.RegionHeld3
import Derived.Test.YthmlgflnefellaaEqMach
import Derived.Test.YthmlgflnefellaaMachEq
import Derived.Test.YthmlgflnefellaaToMach
namespace Go.Proofs.Ythmlgflnefellaa
open Go.ChangeShapes Go.WideShapes Go.RowKit
open Go.ChangeMaps (open_string shut_string)
set_option linter.unusedVariables false

set_option maxRecDepth 100000 in
set_option maxHeartbeats 4000000 in
theorem lawEqualMachines_any (a0 : Array Value) (p0 : TMach) (F0 : List Nat) (a1 : Array Value) (p1 : TMach) (F1 : List Nat) (w : World) (h0 : cMach.rep w a0.toList p0 F0) (h1 : cMach.rep w a1.toList p1 F1) :
    Calls Try.prog 7 #[.agg a0, .agg a1] w (Gives w (.bool true)) := by
  have r0 := h0
  obtain ⟨v0_0, v0_2, E0_0, E0_2, rfl, -, -, m0_0, m0_2⟩ := TMach.outA r0
  obtain ⟨A0_0, c0_0, e0_0⟩ := cL_form m0_0
  subst e0_0
  obtain ⟨A0_2, c0_2, e0_2⟩ := cL_form m0_2
  subst e0_2
  clear m0_0 m0_2
  clear r0
  have r1 := h1
  obtain ⟨v1_0, v1_2, E1_0, E1_2, rfl, -, -, m1_0, m1_2⟩ := TMach.outA r1
  obtain ⟨A1_0, c1_0, e1_0⟩ := cL_form m1_0
  subst e1_0
  obtain ⟨A1_2, c1_2, e1_2⟩ := cL_form m1_2
  subst e1_2
  clear m1_0 m1_2
  clear r1
  go_enter Try.func7, Try.ntmps7
  go_wp2_with fail
  by_cases l0 : (1048576 - (cMach.sz p0 : Nat) : Int) < 0
  · have HV := Lib.hid (leftOf_neg l0)
    refine (szMachine_any _ p0 _ _ _ (by exact Cod.bel h0 (by repeat (first | with_reducible exact Below.refl _ _ | with_reducible assumption | with_reducible refine bel_alloc ?_ _ | with_reducible refine bel_drew ?_ | with_reducible refine bel_drewN ?_ _ | (with_reducible refine bel_set ?_ ?_ _; rotate_left; ((try simp); (try omega)))))) (by omega) (by omega)).mono ?_
    rintro e w1 ⟨rfl, hbw1⟩
    rw [HV.out]
    have hBw1 : Below w.heap.size w w1 := bel_then (by repeat (first | with_reducible exact Below.refl _ _ | with_reducible assumption | with_reducible refine bel_alloc ?_ _ | with_reducible refine bel_drew ?_ | with_reducible refine bel_drewN ?_ _ | (with_reducible refine bel_set ?_ ?_ _; rotate_left; ((try simp); (try omega))))) hbw1
    go_wp2_with fail
    go_ret
    exact ⟨rfl, hBw1⟩
  · have HV := Lib.hid (leftOf_pos l0)
    have pz0 : 0 ≤ (1048576 - (cMach.sz p0 : Nat) : Int) := by omega
    have z0 : cMach.sz p0 ≤ 1048576 := by omega
    refine (szMachine_any _ p0 _ _ _ (by exact Cod.bel h0 (by repeat (first | with_reducible exact Below.refl _ _ | with_reducible assumption | with_reducible refine bel_alloc ?_ _ | with_reducible refine bel_drew ?_ | with_reducible refine bel_drewN ?_ _ | (with_reducible refine bel_set ?_ ?_ _; rotate_left; ((try simp); (try omega)))))) (by omega) (by omega)).mono ?_
    rintro e w1 ⟨rfl, hbw1⟩
    rw [HV.out]
    clear HV
    have hsw1 := hbw1.size
    (try simp at hsw1)
    have hzw1_0 : w.heap.size < w1.heap.size := by omega
    have hzw1_1 : w.heap.size + 1 < w1.heap.size := by omega
    have hBw1 : Below w.heap.size w w1 := bel_then (by repeat (first | with_reducible exact Below.refl _ _ | with_reducible assumption | with_reducible refine bel_alloc ?_ _ | with_reducible refine bel_drew ?_ | with_reducible refine bel_drewN ?_ _ | (with_reducible refine bel_set ?_ ?_ _; rotate_left; ((try simp); (try omega))))) hbw1
    obtain ⟨hcw1, hfzw1, -⟩ := bcell hbw1
    clear hbw1
    go_wp2_with fail
    by_cases l1 : (1048576 - (cMach.sz p0 : Nat) - (cMach.sz p1 : Nat) : Int) < 0
    · have HV := Lib.hid (leftOf_neg l1)
      refine (szMachine_any _ p1 _ _ _ (by exact Cod.bel h1 (by repeat (first | with_reducible exact Below.refl _ _ | with_reducible assumption | with_reducible refine bel_alloc ?_ _ | with_reducible refine bel_drew ?_ | with_reducible refine bel_drewN ?_ _ | (with_reducible refine bel_set ?_ ?_ _; rotate_left; ((try simp); (try omega)))))) (by omega) (by omega)).mono ?_
      rintro e w2 ⟨rfl, hbw2⟩
      rw [HV.out]
      have hBw2 : Below w.heap.size w w2 := bel_then (by repeat (first | with_reducible exact Below.refl _ _ | with_reducible assumption | with_reducible refine bel_alloc ?_ _ | with_reducible refine bel_drew ?_ | with_reducible refine bel_drewN ?_ _ | (with_reducible refine bel_set ?_ ?_ _; rotate_left; ((try simp); (try omega))))) hbw2
      go_wp2_with fail
      go_ret
      exact ⟨rfl, hBw2⟩
    · have HV := Lib.hid (leftOf_pos l1)
      have pz1 : 0 ≤ (1048576 - (cMach.sz p0 : Nat) - (cMach.sz p1 : Nat) : Int) := by omega
      have z1 : cMach.sz p1 ≤ 1048576 := by omega
      refine (szMachine_any _ p1 _ _ _ (by exact Cod.bel h1 (by repeat (first | with_reducible exact Below.refl _ _ | with_reducible assumption | with_reducible refine bel_alloc ?_ _ | with_reducible refine bel_drew ?_ | with_reducible refine bel_drewN ?_ _ | (with_reducible refine bel_set ?_ ?_ _; rotate_left; ((try simp); (try omega)))))) (by omega) (by omega)).mono ?_
      rintro e w2 ⟨rfl, hbw2⟩
      rw [HV.out]
      clear HV
      have hsw2 := hbw2.size
      (try simp at hsw2)
      have hzw2_0 : w.heap.size < w2.heap.size := by omega
      have hzw2_1 : w.heap.size + 1 < w2.heap.size := by omega
      have hBw2 : Below w.heap.size w w2 := bel_then (by repeat (first | with_reducible exact Below.refl _ _ | with_reducible assumption | with_reducible refine bel_alloc ?_ _ | with_reducible refine bel_drew ?_ | with_reducible refine bel_drewN ?_ _ | (with_reducible refine bel_set ?_ ?_ _; rotate_left; ((try simp); (try omega))))) hbw2
      obtain ⟨hcw2, hfzw2, -⟩ := bcell hbw2
      clear hbw2
      go_wp2_with fail
      have kz3_0 : w2.cell? ⟨w.heap.size, 0, none⟩ = some (.slice A0_0 p0.script.length c0_0) := by go_simp
      have kz3_1 : w2.cell? ⟨w.heap.size, 1, none⟩ = some (.int .i64 p0.pc) := by go_simp
      have kz3_2 : w2.cell? ⟨w.heap.size, 2, none⟩ = some (.slice A0_2 p0.regs.length c0_2) := by go_simp
      have kz3_3 : w2.cell? ⟨w.heap.size, 3, none⟩ = some (.int .i64 p0.steps) := by go_simp
      have kz3_4 : w2.cell? ⟨w.heap.size, 4, none⟩ = some (.bool p0.done) := by go_simp
      have kz3_5 : w2.cell? ⟨w.heap.size, 5, none⟩ = some (.bool p0.wait) := by go_simp
      have kz3_6 : w2.cell? ⟨w.heap.size + 1, 0, none⟩ = some (.slice A1_0 p1.script.length c1_0) := by go_simp
      have kz3_7 : w2.cell? ⟨w.heap.size + 1, 1, none⟩ = some (.int .i64 p1.pc) := by go_simp
      have kz3_8 : w2.cell? ⟨w.heap.size + 1, 2, none⟩ = some (.slice A1_2 p1.regs.length c1_2) := by go_simp
      have kz3_9 : w2.cell? ⟨w.heap.size + 1, 3, none⟩ = some (.int .i64 p1.steps) := by go_simp
      have kz3_10 : w2.cell? ⟨w.heap.size + 1, 4, none⟩ = some (.bool p1.done) := by go_simp
      have kz3_11 : w2.cell? ⟨w.heap.size + 1, 5, none⟩ = some (.bool p1.wait) := by go_simp
      have hS : ∀ w9, Below w2.heap.size w2 w9 → Below w2.heap.size w2 w9 ∧ w9.cell? ⟨w.heap.size, 0, none⟩ = some (.slice A0_0 p0.script.length c0_0) ∧ w9.cell? ⟨w.heap.size, 1, none⟩ = some (.int .i64 p0.pc) ∧ w9.cell? ⟨w.heap.size, 2, none⟩ = some (.slice A0_2 p0.regs.length c0_2) ∧ w9.cell? ⟨w.heap.size, 3, none⟩ = some (.int .i64 p0.steps) ∧ w9.cell? ⟨w.heap.size, 4, none⟩ = some (.bool p0.done) ∧ w9.cell? ⟨w.heap.size, 5, none⟩ = some (.bool p0.wait) ∧ w9.cell? ⟨w.heap.size + 1, 0, none⟩ = some (.slice A1_0 p1.script.length c1_0) ∧ w9.cell? ⟨w.heap.size + 1, 1, none⟩ = some (.int .i64 p1.pc) ∧ w9.cell? ⟨w.heap.size + 1, 2, none⟩ = some (.slice A1_2 p1.regs.length c1_2) ∧ w9.cell? ⟨w.heap.size + 1, 3, none⟩ = some (.int .i64 p1.steps) ∧ w9.cell? ⟨w.heap.size + 1, 4, none⟩ = some (.bool p1.done) ∧ w9.cell? ⟨w.heap.size + 1, 5, none⟩ = some (.bool p1.wait) := fun w9 hb => ⟨hb, (hb.cell (p := ⟨w.heap.size, 0, none⟩) (by simpa using hzw2_0)).trans kz3_0, (hb.cell (p := ⟨w.heap.size, 1, none⟩) (by simpa using hzw2_0)).trans kz3_1, (hb.cell (p := ⟨w.heap.size, 2, none⟩) (by simpa using hzw2_0)).trans kz3_2, (hb.cell (p := ⟨w.heap.size, 3, none⟩) (by simpa using hzw2_0)).trans kz3_3, (hb.cell (p := ⟨w.heap.size, 4, none⟩) (by simpa using hzw2_0)).trans kz3_4, (hb.cell (p := ⟨w.heap.size, 5, none⟩) (by simpa using hzw2_0)).trans kz3_5, (hb.cell (p := ⟨w.heap.size + 1, 0, none⟩) (by simpa using hzw2_1)).trans kz3_6, (hb.cell (p := ⟨w.heap.size + 1, 1, none⟩) (by simpa using hzw2_1)).trans kz3_7, (hb.cell (p := ⟨w.heap.size + 1, 2, none⟩) (by simpa using hzw2_1)).trans kz3_8, (hb.cell (p := ⟨w.heap.size + 1, 3, none⟩) (by simpa using hzw2_1)).trans kz3_9, (hb.cell (p := ⟨w.heap.size + 1, 4, none⟩) (by simpa using hzw2_1)).trans kz3_10, (hb.cell (p := ⟨w.heap.size + 1, 5, none⟩) (by simpa using hzw2_1)).trans kz3_11⟩
      have hwb : Below w2.heap.size w2 w2 := Below.refl _ _
      clear kz3_0 kz3_1 kz3_2 kz3_3 kz3_4 kz3_5 kz3_6 kz3_7 kz3_8 kz3_9 kz3_10 kz3_11
      go_region_held3 (fun w9 => Below w2.heap.size w2 w9 ∧ w9.cell? ⟨w.heap.size, 0, none⟩ = some (.slice A0_0 p0.script.length c0_0) ∧ w9.cell? ⟨w.heap.size, 1, none⟩ = some (.int .i64 p0.pc) ∧ w9.cell? ⟨w.heap.size, 2, none⟩ = some (.slice A0_2 p0.regs.length c0_2) ∧ w9.cell? ⟨w.heap.size, 3, none⟩ = some (.int .i64 p0.steps) ∧ w9.cell? ⟨w.heap.size, 4, none⟩ = some (.bool p0.done) ∧ w9.cell? ⟨w.heap.size, 5, none⟩ = some (.bool p0.wait) ∧ w9.cell? ⟨w.heap.size + 1, 0, none⟩ = some (.slice A1_0 p1.script.length c1_0) ∧ w9.cell? ⟨w.heap.size + 1, 1, none⟩ = some (.int .i64 p1.pc) ∧ w9.cell? ⟨w.heap.size + 1, 2, none⟩ = some (.slice A1_2 p1.regs.length c1_2) ∧ w9.cell? ⟨w.heap.size + 1, 3, none⟩ = some (.int .i64 p1.steps) ∧ w9.cell? ⟨w.heap.size + 1, 4, none⟩ = some (.bool p1.done) ∧ w9.cell? ⟨w.heap.size + 1, 5, none⟩ = some (.bool p1.wait)) (exact hS _ (by repeat (first | with_reducible exact Below.refl _ _ | with_reducible assumption | with_reducible refine bel_alloc ?_ _ | with_reducible refine bel_drew ?_ | with_reducible refine bel_drewN ?_ _ | (with_reducible refine bel_set ?_ ?_ _; rotate_left; ((try simp); (try omega)))))) (first | (go_at_call 32; refine (toMachine_any _ p0 _ _ (by exact Cod.bel h0 (bel_then hBw2 (by repeat (first | with_reducible exact Below.refl _ _ | with_reducible assumption | with_reducible refine bel_alloc ?_ _ | with_reducible refine bel_drew ?_ | with_reducible refine bel_drewN ?_ _ | (with_reducible refine bel_set ?_ ?_ _; rotate_left; ((try simp); (try omega))))))) z0).mono ?_; rintro e w3 ⟨uw3, Gw3, rfl, hbw3, hrw3, hfw3⟩; have hbww3 : Below w2.heap.size w2 w3 := bel_then (by repeat (first | with_reducible exact Below.refl _ _ | with_reducible assumption | with_reducible refine bel_alloc ?_ _ | with_reducible refine bel_drew ?_ | with_reducible refine bel_drewN ?_ _ | (with_reducible refine bel_set ?_ ?_ _; rotate_left; ((try simp); (try omega))))) hbw3; clear hfw3) | (go_at_call 32; refine (toMachine_any _ p1 _ _ (by exact Cod.bel h1 (bel_then hBw2 (by repeat (first | with_reducible exact Below.refl _ _ | with_reducible assumption | with_reducible refine bel_alloc ?_ _ | with_reducible refine bel_drew ?_ | with_reducible refine bel_drewN ?_ _ | (with_reducible refine bel_set ?_ ?_ _; rotate_left; ((try simp); (try omega))))))) z1).mono ?_; rintro e w4 ⟨uw4, Gw4, rfl, hbw4, hrw4, hfw4⟩; have hbww4 : Below w2.heap.size w2 w4 := bel_then (by repeat (first | with_reducible exact Below.refl _ _ | with_reducible assumption | with_reducible refine bel_alloc ?_ _ | with_reducible refine bel_drew ?_ | with_reducible refine bel_drewN ?_ _ | (with_reducible refine bel_set ?_ ?_ _; rotate_left; ((try simp); (try omega))))) hbw4; clear hfw4) | (go_at_call 31; refine (specEqualMachines_any _ p0 _ _ p1 _ _ (by exact Cod.bel hrw3 (by repeat (first | with_reducible exact Below.refl _ _ | with_reducible assumption | with_reducible refine bel_alloc ?_ _ | with_reducible refine bel_drew ?_ | with_reducible refine bel_drewN ?_ _ | (with_reducible refine bel_set ?_ ?_ _; rotate_left; ((try simp); (try omega)))))) z0 (by exact Cod.bel hrw4 (by repeat (first | with_reducible exact Below.refl _ _ | with_reducible assumption | with_reducible refine bel_alloc ?_ _ | with_reducible refine bel_drew ?_ | with_reducible refine bel_drewN ?_ _ | (with_reducible refine bel_set ?_ ?_ _; rotate_left; ((try simp); (try omega)))))) z1).mono ?_; rintro e w5 ⟨rfl, hbw5⟩; have hbww5 : Below w2.heap.size w2 w5 := bel_then (by repeat (first | with_reducible exact Below.refl _ _ | with_reducible assumption | with_reducible refine bel_alloc ?_ _ | with_reducible refine bel_drew ?_ | with_reducible refine bel_drewN ?_ _ | (with_reducible refine bel_set ?_ ?_ _; rotate_left; ((try simp); (try omega))))) hbw5))
      have hsw3 := hbw3.size
      (try simp at hsw3)
      have hsw4 := hbw4.size
      (try simp at hsw4)
      have hsxw5 := hbw5.size
      (try simp at hsxw5)
      have hbZw5 := hbww5
      have hsw5 := hbZw5.size
      (try simp at hsw5)
      have hzw5_0 : w.heap.size < w5.heap.size := by omega
      have hzw5_1 : w.heap.size + 1 < w5.heap.size := by omega
      have hBw5 : Below w.heap.size w w5 := bel_then (by repeat (first | with_reducible exact Below.refl _ _ | with_reducible assumption | with_reducible refine bel_alloc ?_ _ | with_reducible refine bel_drew ?_ | with_reducible refine bel_drewN ?_ _ | (with_reducible refine bel_set ?_ ?_ _; rotate_left; ((try simp); (try omega))))) hbZw5
      obtain ⟨hcw5, hfzw5, -⟩ := bcell hbZw5
      clear hbZw5
      go_wp2_with fail
      refine (toMachine_any _ p0 _ _ (by exact Cod.bel h0 (by repeat (first | with_reducible exact Below.refl _ _ | with_reducible assumption | with_reducible refine bel_alloc ?_ _ | with_reducible refine bel_drew ?_ | with_reducible refine bel_drewN ?_ _ | (with_reducible refine bel_set ?_ ?_ _; rotate_left; ((try simp); (try omega)))))) z0).mono ?_
      rintro e w6 ⟨uw6, Gw6, rfl, hbw6, hrw6, hfw6⟩
      have drw6 := hrw6
      obtain ⟨vrw6_0, vrw6_2, Erw6_0, Erw6_2, rfl, -, -, mrw6_0, mrw6_2⟩ := TMach.outA drw6
      obtain ⟨Arw6_0, crw6_0, erw6_0⟩ := cL_form mrw6_0
      subst erw6_0
      obtain ⟨Arw6_2, crw6_2, erw6_2⟩ := cL_form mrw6_2
      subst erw6_2
      clear mrw6_0 mrw6_2 drw6
      have hsw6 := hbw6.size
      (try simp at hsw6)
      have hzw6_0 : w.heap.size < w6.heap.size := by omega
      have hzw6_1 : w.heap.size + 1 < w6.heap.size := by omega
      have hBw6 : Below w.heap.size w w6 := bel_then (by repeat (first | with_reducible exact Below.refl _ _ | with_reducible assumption | with_reducible refine bel_alloc ?_ _ | with_reducible refine bel_drew ?_ | with_reducible refine bel_drewN ?_ _ | (with_reducible refine bel_set ?_ ?_ _; rotate_left; ((try simp); (try omega))))) hbw6
      have hlrw6 : ∀ b, b ∈ Gw6 → b < w6.heap.size := fun b hb => Cod.lt _ hrw6 b hb
      obtain ⟨hcw6, hfzw6, -⟩ := bcell hbw6
      clear hbw6
      go_wp2_with fail
      refine (toMachine_any _ p1 _ _ (by exact Cod.bel h1 (by repeat (first | with_reducible exact Below.refl _ _ | with_reducible assumption | with_reducible refine bel_alloc ?_ _ | with_reducible refine bel_drew ?_ | with_reducible refine bel_drewN ?_ _ | (with_reducible refine bel_set ?_ ?_ _; rotate_left; ((try simp); (try omega)))))) z1).mono ?_
      rintro e w7 ⟨uw7, Gw7, rfl, hbw7, hrw7, hfw7⟩
      have drw7 := hrw7
      obtain ⟨vrw7_0, vrw7_2, Erw7_0, Erw7_2, rfl, -, -, mrw7_0, mrw7_2⟩ := TMach.outA drw7
      obtain ⟨Arw7_0, crw7_0, erw7_0⟩ := cL_form mrw7_0
      subst erw7_0
      obtain ⟨Arw7_2, crw7_2, erw7_2⟩ := cL_form mrw7_2
      subst erw7_2
      clear mrw7_0 mrw7_2 drw7
      have hsw7 := hbw7.size
      (try simp at hsw7)
      have hzw7_0 : w.heap.size < w7.heap.size := by omega
      have hzw7_1 : w.heap.size + 1 < w7.heap.size := by omega
      have hzw7_2 : w6.heap.size < w7.heap.size := by omega
      have hBw7 : Below w.heap.size w w7 := bel_then (by repeat (first | with_reducible exact Below.refl _ _ | with_reducible assumption | with_reducible refine bel_alloc ?_ _ | with_reducible refine bel_drew ?_ | with_reducible refine bel_drewN ?_ _ | (with_reducible refine bel_set ?_ ?_ _; rotate_left; ((try simp); (try omega))))) hbw7
      replace hrw6 := Cod.bel hrw6 (show Below _ _ w7 from bel_then (by repeat (first | with_reducible exact Below.refl _ _ | with_reducible assumption | with_reducible refine bel_alloc ?_ _ | with_reducible refine bel_drew ?_ | with_reducible refine bel_drewN ?_ _ | (with_reducible refine bel_set ?_ ?_ _; rotate_left; ((try simp); (try omega))))) hbw7)
      have hlrw7 : ∀ b, b ∈ Gw7 → b < w7.heap.size := fun b hb => Cod.lt _ hrw7 b hb
      obtain ⟨hcw7, hfzw7, -⟩ := bcell hbw7
      clear hbw7
      go_wp2_with fail
      refine (implEqualMachines_any _ p0 _ _ p1 _ _ (by exact Cod.bel hrw6 (by repeat (first | with_reducible exact Below.refl _ _ | with_reducible assumption | with_reducible refine bel_alloc ?_ _ | with_reducible refine bel_drew ?_ | with_reducible refine bel_drewN ?_ _ | (with_reducible refine bel_set ?_ ?_ _; rotate_left; ((try simp); (try omega)))))) z0 (by exact Cod.bel hrw7 (by repeat (first | with_reducible exact Below.refl _ _ | with_reducible assumption | with_reducible refine bel_alloc ?_ _ | with_reducible refine bel_drew ?_ | with_reducible refine bel_drewN ?_ _ | (with_reducible refine bel_set ?_ ?_ _; rotate_left; ((try simp); (try omega)))))) z1).mono ?_
      rintro e w8 ⟨rfl, hbw8⟩
      have hsw8 := hbw8.size
      (try simp at hsw8)
      have hzw8_0 : w.heap.size < w8.heap.size := by omega
      have hzw8_1 : w.heap.size + 1 < w8.heap.size := by omega
      have hzw8_2 : w6.heap.size < w8.heap.size := by omega
      have hzw8_3 : w7.heap.size < w8.heap.size := by omega
      have hBw8 : Below w.heap.size w w8 := bel_then (by repeat (first | with_reducible exact Below.refl _ _ | with_reducible assumption | with_reducible refine bel_alloc ?_ _ | with_reducible refine bel_drew ?_ | with_reducible refine bel_drewN ?_ _ | (with_reducible refine bel_set ?_ ?_ _; rotate_left; ((try simp); (try omega))))) hbw8
      replace hrw6 := Cod.bel hrw6 (show Below _ _ w8 from bel_then (by repeat (first | with_reducible exact Below.refl _ _ | with_reducible assumption | with_reducible refine bel_alloc ?_ _ | with_reducible refine bel_drew ?_ | with_reducible refine bel_drewN ?_ _ | (with_reducible refine bel_set ?_ ?_ _; rotate_left; ((try simp); (try omega))))) hbw8)
      replace hrw7 := Cod.bel hrw7 (show Below _ _ w8 from bel_then (by repeat (first | with_reducible exact Below.refl _ _ | with_reducible assumption | with_reducible refine bel_alloc ?_ _ | with_reducible refine bel_drew ?_ | with_reducible refine bel_drewN ?_ _ | (with_reducible refine bel_set ?_ ?_ _; rotate_left; ((try simp); (try omega))))) hbw8)
      obtain ⟨hcw8, hfzw8, -⟩ := bcell hbw8
      clear hbw8
      go_wp2_with fail
      have kw10_0 : w8.cell? ⟨w6.heap.size, 0, none⟩ = some (.slice Arw6_0 p0.script.length crw6_0) := by go_simp
      have kw10_1 : w8.cell? ⟨w6.heap.size, 1, none⟩ = some (.int .i64 p0.pc) := by go_simp
      have kw10_2 : w8.cell? ⟨w6.heap.size, 2, none⟩ = some (.slice Arw6_2 p0.regs.length crw6_2) := by go_simp
      have kw10_3 : w8.cell? ⟨w6.heap.size, 3, none⟩ = some (.int .i64 p0.steps) := by go_simp
      have kw10_4 : w8.cell? ⟨w6.heap.size, 4, none⟩ = some (.bool p0.done) := by go_simp
      have kw10_5 : w8.cell? ⟨w6.heap.size, 5, none⟩ = some (.bool p0.wait) := by go_simp
      have kw10_6 : w8.cell? ⟨w.heap.size, 0, none⟩ = some (.slice A0_0 p0.script.length c0_0) := by go_simp
      have kw10_7 : w8.cell? ⟨w.heap.size, 1, none⟩ = some (.int .i64 p0.pc) := by go_simp
      have kw10_8 : w8.cell? ⟨w.heap.size, 2, none⟩ = some (.slice A0_2 p0.regs.length c0_2) := by go_simp
      have kw10_9 : w8.cell? ⟨w.heap.size, 3, none⟩ = some (.int .i64 p0.steps) := by go_simp
      have kw10_10 : w8.cell? ⟨w.heap.size, 4, none⟩ = some (.bool p0.done) := by go_simp
      have kw10_11 : w8.cell? ⟨w.heap.size, 5, none⟩ = some (.bool p0.wait) := by go_simp
      have hS : ∀ w9, Below w8.heap.size w8 w9 → Below w8.heap.size w8 w9 ∧ w9.cell? ⟨w6.heap.size, 0, none⟩ = some (.slice Arw6_0 p0.script.length crw6_0) ∧ w9.cell? ⟨w6.heap.size, 1, none⟩ = some (.int .i64 p0.pc) ∧ w9.cell? ⟨w6.heap.size, 2, none⟩ = some (.slice Arw6_2 p0.regs.length crw6_2) ∧ w9.cell? ⟨w6.heap.size, 3, none⟩ = some (.int .i64 p0.steps) ∧ w9.cell? ⟨w6.heap.size, 4, none⟩ = some (.bool p0.done) ∧ w9.cell? ⟨w6.heap.size, 5, none⟩ = some (.bool p0.wait) ∧ w9.cell? ⟨w.heap.size, 0, none⟩ = some (.slice A0_0 p0.script.length c0_0) ∧ w9.cell? ⟨w.heap.size, 1, none⟩ = some (.int .i64 p0.pc) ∧ w9.cell? ⟨w.heap.size, 2, none⟩ = some (.slice A0_2 p0.regs.length c0_2) ∧ w9.cell? ⟨w.heap.size, 3, none⟩ = some (.int .i64 p0.steps) ∧ w9.cell? ⟨w.heap.size, 4, none⟩ = some (.bool p0.done) ∧ w9.cell? ⟨w.heap.size, 5, none⟩ = some (.bool p0.wait) := fun w9 hb => ⟨hb, (hb.cell (p := ⟨w6.heap.size, 0, none⟩) (by simpa using hzw8_2)).trans kw10_0, (hb.cell (p := ⟨w6.heap.size, 1, none⟩) (by simpa using hzw8_2)).trans kw10_1, (hb.cell (p := ⟨w6.heap.size, 2, none⟩) (by simpa using hzw8_2)).trans kw10_2, (hb.cell (p := ⟨w6.heap.size, 3, none⟩) (by simpa using hzw8_2)).trans kw10_3, (hb.cell (p := ⟨w6.heap.size, 4, none⟩) (by simpa using hzw8_2)).trans kw10_4, (hb.cell (p := ⟨w6.heap.size, 5, none⟩) (by simpa using hzw8_2)).trans kw10_5, (hb.cell (p := ⟨w.heap.size, 0, none⟩) (by simpa using hzw8_0)).trans kw10_6, (hb.cell (p := ⟨w.heap.size, 1, none⟩) (by simpa using hzw8_0)).trans kw10_7, (hb.cell (p := ⟨w.heap.size, 2, none⟩) (by simpa using hzw8_0)).trans kw10_8, (hb.cell (p := ⟨w.heap.size, 3, none⟩) (by simpa using hzw8_0)).trans kw10_9, (hb.cell (p := ⟨w.heap.size, 4, none⟩) (by simpa using hzw8_0)).trans kw10_10, (hb.cell (p := ⟨w.heap.size, 5, none⟩) (by simpa using hzw8_0)).trans kw10_11⟩
      have hwb : Below w8.heap.size w8 w8 := Below.refl _ _
      clear kw10_0 kw10_1 kw10_2 kw10_3 kw10_4 kw10_5 kw10_6 kw10_7 kw10_8 kw10_9 kw10_10 kw10_11
      go_region_held3 (fun w9 => Below w8.heap.size w8 w9 ∧ w9.cell? ⟨w6.heap.size, 0, none⟩ = some (.slice Arw6_0 p0.script.length crw6_0) ∧ w9.cell? ⟨w6.heap.size, 1, none⟩ = some (.int .i64 p0.pc) ∧ w9.cell? ⟨w6.heap.size, 2, none⟩ = some (.slice Arw6_2 p0.regs.length crw6_2) ∧ w9.cell? ⟨w6.heap.size, 3, none⟩ = some (.int .i64 p0.steps) ∧ w9.cell? ⟨w6.heap.size, 4, none⟩ = some (.bool p0.done) ∧ w9.cell? ⟨w6.heap.size, 5, none⟩ = some (.bool p0.wait) ∧ w9.cell? ⟨w.heap.size, 0, none⟩ = some (.slice A0_0 p0.script.length c0_0) ∧ w9.cell? ⟨w.heap.size, 1, none⟩ = some (.int .i64 p0.pc) ∧ w9.cell? ⟨w.heap.size, 2, none⟩ = some (.slice A0_2 p0.regs.length c0_2) ∧ w9.cell? ⟨w.heap.size, 3, none⟩ = some (.int .i64 p0.steps) ∧ w9.cell? ⟨w.heap.size, 4, none⟩ = some (.bool p0.done) ∧ w9.cell? ⟨w.heap.size, 5, none⟩ = some (.bool p0.wait)) (exact hS _ (by repeat (first | with_reducible exact Below.refl _ _ | with_reducible assumption | with_reducible refine bel_alloc ?_ _ | with_reducible refine bel_drew ?_ | with_reducible refine bel_drewN ?_ _ | (with_reducible refine bel_set ?_ ?_ _; rotate_left; ((try simp); (try omega)))))) (first | (go_at_call 32; refine (toMachine_any _ p0 _ _ (by exact Cod.bel h0 (bel_then hBw8 (by repeat (first | with_reducible exact Below.refl _ _ | with_reducible assumption | with_reducible refine bel_alloc ?_ _ | with_reducible refine bel_drew ?_ | with_reducible refine bel_drewN ?_ _ | (with_reducible refine bel_set ?_ ?_ _; rotate_left; ((try simp); (try omega))))))) z0).mono ?_; rintro e w9 ⟨uw9, Gw9, rfl, hbw9, hrw9, hfw9⟩; have hbww9 : Below w8.heap.size w8 w9 := bel_then (by repeat (first | with_reducible exact Below.refl _ _ | with_reducible assumption | with_reducible refine bel_alloc ?_ _ | with_reducible refine bel_drew ?_ | with_reducible refine bel_drewN ?_ _ | (with_reducible refine bel_set ?_ ?_ _; rotate_left; ((try simp); (try omega))))) hbw9; clear hfw9) | (go_at_call 34; refine (eqMachine_any _ _ p0 _ _ _ (by exact Cod.bel hrw6 (by repeat (first | with_reducible exact Below.refl _ _ | with_reducible assumption | with_reducible refine bel_alloc ?_ _ | with_reducible refine bel_drew ?_ | with_reducible refine bel_drewN ?_ _ | (with_reducible refine bel_set ?_ ?_ _; rotate_left; ((try simp); (try omega)))))) (by exact Cod.bel hrw9 (by repeat (first | with_reducible exact Below.refl _ _ | with_reducible assumption | with_reducible refine bel_alloc ?_ _ | with_reducible refine bel_drew ?_ | with_reducible refine bel_drewN ?_ _ | (with_reducible refine bel_set ?_ ?_ _; rotate_left; ((try simp); (try omega))))))).mono ?_; rintro e w10 ⟨rfl, hbw10⟩; have hbww10 : Below w8.heap.size w8 w10 := bel_then (by repeat (first | with_reducible exact Below.refl _ _ | with_reducible assumption | with_reducible refine bel_alloc ?_ _ | with_reducible refine bel_drew ?_ | with_reducible refine bel_drewN ?_ _ | (with_reducible refine bel_set ?_ ?_ _; rotate_left; ((try simp); (try omega))))) hbw10))
      have hbZw10 := hbww10
      have hsw10 := hbZw10.size
      (try simp at hsw10)
      have hzw10_0 : w.heap.size < w10.heap.size := by omega
      have hzw10_1 : w.heap.size + 1 < w10.heap.size := by omega
      have hzw10_2 : w6.heap.size < w10.heap.size := by omega
      have hzw10_3 : w7.heap.size < w10.heap.size := by omega
      have hBw10 : Below w.heap.size w w10 := bel_then (by repeat (first | with_reducible exact Below.refl _ _ | with_reducible assumption | with_reducible refine bel_alloc ?_ _ | with_reducible refine bel_drew ?_ | with_reducible refine bel_drewN ?_ _ | (with_reducible refine bel_set ?_ ?_ _; rotate_left; ((try simp); (try omega))))) hbZw10
      replace hrw6 := Cod.bel hrw6 (show Below _ _ w10 from bel_then (by repeat (first | with_reducible exact Below.refl _ _ | with_reducible assumption | with_reducible refine bel_alloc ?_ _ | with_reducible refine bel_drew ?_ | with_reducible refine bel_drewN ?_ _ | (with_reducible refine bel_set ?_ ?_ _; rotate_left; ((try simp); (try omega))))) hbZw10)
      replace hrw7 := Cod.bel hrw7 (show Below _ _ w10 from bel_then (by repeat (first | with_reducible exact Below.refl _ _ | with_reducible assumption | with_reducible refine bel_alloc ?_ _ | with_reducible refine bel_drew ?_ | with_reducible refine bel_drewN ?_ _ | (with_reducible refine bel_set ?_ ?_ _; rotate_left; ((try simp); (try omega))))) hbZw10)
      obtain ⟨hcw10, hfzw10, -⟩ := bcell hbZw10
      clear hbZw10
      go_wp2_with fail
      have kw12_0 : w10.cell? ⟨w7.heap.size, 0, none⟩ = some (.slice Arw7_0 p1.script.length crw7_0) := by go_simp
      have kw12_1 : w10.cell? ⟨w7.heap.size, 1, none⟩ = some (.int .i64 p1.pc) := by go_simp
      have kw12_2 : w10.cell? ⟨w7.heap.size, 2, none⟩ = some (.slice Arw7_2 p1.regs.length crw7_2) := by go_simp
      have kw12_3 : w10.cell? ⟨w7.heap.size, 3, none⟩ = some (.int .i64 p1.steps) := by go_simp
      have kw12_4 : w10.cell? ⟨w7.heap.size, 4, none⟩ = some (.bool p1.done) := by go_simp
      have kw12_5 : w10.cell? ⟨w7.heap.size, 5, none⟩ = some (.bool p1.wait) := by go_simp
      have kw12_6 : w10.cell? ⟨w.heap.size + 1, 0, none⟩ = some (.slice A1_0 p1.script.length c1_0) := by go_simp
      have kw12_7 : w10.cell? ⟨w.heap.size + 1, 1, none⟩ = some (.int .i64 p1.pc) := by go_simp
      have kw12_8 : w10.cell? ⟨w.heap.size + 1, 2, none⟩ = some (.slice A1_2 p1.regs.length c1_2) := by go_simp
      have kw12_9 : w10.cell? ⟨w.heap.size + 1, 3, none⟩ = some (.int .i64 p1.steps) := by go_simp
      have kw12_10 : w10.cell? ⟨w.heap.size + 1, 4, none⟩ = some (.bool p1.done) := by go_simp
      have kw12_11 : w10.cell? ⟨w.heap.size + 1, 5, none⟩ = some (.bool p1.wait) := by go_simp
      have hS : ∀ w9, Below w10.heap.size w10 w9 → Below w10.heap.size w10 w9 ∧ w9.cell? ⟨w7.heap.size, 0, none⟩ = some (.slice Arw7_0 p1.script.length crw7_0) ∧ w9.cell? ⟨w7.heap.size, 1, none⟩ = some (.int .i64 p1.pc) ∧ w9.cell? ⟨w7.heap.size, 2, none⟩ = some (.slice Arw7_2 p1.regs.length crw7_2) ∧ w9.cell? ⟨w7.heap.size, 3, none⟩ = some (.int .i64 p1.steps) ∧ w9.cell? ⟨w7.heap.size, 4, none⟩ = some (.bool p1.done) ∧ w9.cell? ⟨w7.heap.size, 5, none⟩ = some (.bool p1.wait) ∧ w9.cell? ⟨w.heap.size + 1, 0, none⟩ = some (.slice A1_0 p1.script.length c1_0) ∧ w9.cell? ⟨w.heap.size + 1, 1, none⟩ = some (.int .i64 p1.pc) ∧ w9.cell? ⟨w.heap.size + 1, 2, none⟩ = some (.slice A1_2 p1.regs.length c1_2) ∧ w9.cell? ⟨w.heap.size + 1, 3, none⟩ = some (.int .i64 p1.steps) ∧ w9.cell? ⟨w.heap.size + 1, 4, none⟩ = some (.bool p1.done) ∧ w9.cell? ⟨w.heap.size + 1, 5, none⟩ = some (.bool p1.wait) := fun w9 hb => ⟨hb, (hb.cell (p := ⟨w7.heap.size, 0, none⟩) (by simpa using hzw10_3)).trans kw12_0, (hb.cell (p := ⟨w7.heap.size, 1, none⟩) (by simpa using hzw10_3)).trans kw12_1, (hb.cell (p := ⟨w7.heap.size, 2, none⟩) (by simpa using hzw10_3)).trans kw12_2, (hb.cell (p := ⟨w7.heap.size, 3, none⟩) (by simpa using hzw10_3)).trans kw12_3, (hb.cell (p := ⟨w7.heap.size, 4, none⟩) (by simpa using hzw10_3)).trans kw12_4, (hb.cell (p := ⟨w7.heap.size, 5, none⟩) (by simpa using hzw10_3)).trans kw12_5, (hb.cell (p := ⟨w.heap.size + 1, 0, none⟩) (by simpa using hzw10_1)).trans kw12_6, (hb.cell (p := ⟨w.heap.size + 1, 1, none⟩) (by simpa using hzw10_1)).trans kw12_7, (hb.cell (p := ⟨w.heap.size + 1, 2, none⟩) (by simpa using hzw10_1)).trans kw12_8, (hb.cell (p := ⟨w.heap.size + 1, 3, none⟩) (by simpa using hzw10_1)).trans kw12_9, (hb.cell (p := ⟨w.heap.size + 1, 4, none⟩) (by simpa using hzw10_1)).trans kw12_10, (hb.cell (p := ⟨w.heap.size + 1, 5, none⟩) (by simpa using hzw10_1)).trans kw12_11⟩
      have hwb : Below w10.heap.size w10 w10 := Below.refl _ _
      clear kw12_0 kw12_1 kw12_2 kw12_3 kw12_4 kw12_5 kw12_6 kw12_7 kw12_8 kw12_9 kw12_10 kw12_11
      go_region_held3 (fun w9 => Below w10.heap.size w10 w9 ∧ w9.cell? ⟨w7.heap.size, 0, none⟩ = some (.slice Arw7_0 p1.script.length crw7_0) ∧ w9.cell? ⟨w7.heap.size, 1, none⟩ = some (.int .i64 p1.pc) ∧ w9.cell? ⟨w7.heap.size, 2, none⟩ = some (.slice Arw7_2 p1.regs.length crw7_2) ∧ w9.cell? ⟨w7.heap.size, 3, none⟩ = some (.int .i64 p1.steps) ∧ w9.cell? ⟨w7.heap.size, 4, none⟩ = some (.bool p1.done) ∧ w9.cell? ⟨w7.heap.size, 5, none⟩ = some (.bool p1.wait) ∧ w9.cell? ⟨w.heap.size + 1, 0, none⟩ = some (.slice A1_0 p1.script.length c1_0) ∧ w9.cell? ⟨w.heap.size + 1, 1, none⟩ = some (.int .i64 p1.pc) ∧ w9.cell? ⟨w.heap.size + 1, 2, none⟩ = some (.slice A1_2 p1.regs.length c1_2) ∧ w9.cell? ⟨w.heap.size + 1, 3, none⟩ = some (.int .i64 p1.steps) ∧ w9.cell? ⟨w.heap.size + 1, 4, none⟩ = some (.bool p1.done) ∧ w9.cell? ⟨w.heap.size + 1, 5, none⟩ = some (.bool p1.wait)) (exact hS _ (by repeat (first | with_reducible exact Below.refl _ _ | with_reducible assumption | with_reducible refine bel_alloc ?_ _ | with_reducible refine bel_drew ?_ | with_reducible refine bel_drewN ?_ _ | (with_reducible refine bel_set ?_ ?_ _; rotate_left; ((try simp); (try omega)))))) (first | (go_at_call 32; refine (toMachine_any _ p1 _ _ (by exact Cod.bel h1 (bel_then hBw10 (by repeat (first | with_reducible exact Below.refl _ _ | with_reducible assumption | with_reducible refine bel_alloc ?_ _ | with_reducible refine bel_drew ?_ | with_reducible refine bel_drewN ?_ _ | (with_reducible refine bel_set ?_ ?_ _; rotate_left; ((try simp); (try omega))))))) z1).mono ?_; rintro e w11 ⟨uw11, Gw11, rfl, hbw11, hrw11, hfw11⟩; have hbww11 : Below w10.heap.size w10 w11 := bel_then (by repeat (first | with_reducible exact Below.refl _ _ | with_reducible assumption | with_reducible refine bel_alloc ?_ _ | with_reducible refine bel_drew ?_ | with_reducible refine bel_drewN ?_ _ | (with_reducible refine bel_set ?_ ?_ _; rotate_left; ((try simp); (try omega))))) hbw11; clear hfw11) | (go_at_call 34; refine (eqMachine_any _ _ p1 _ _ _ (by exact Cod.bel hrw7 (by repeat (first | with_reducible exact Below.refl _ _ | with_reducible assumption | with_reducible refine bel_alloc ?_ _ | with_reducible refine bel_drew ?_ | with_reducible refine bel_drewN ?_ _ | (with_reducible refine bel_set ?_ ?_ _; rotate_left; ((try simp); (try omega)))))) (by exact Cod.bel hrw11 (by repeat (first | with_reducible exact Below.refl _ _ | with_reducible assumption | with_reducible refine bel_alloc ?_ _ | with_reducible refine bel_drew ?_ | with_reducible refine bel_drewN ?_ _ | (with_reducible refine bel_set ?_ ?_ _; rotate_left; ((try simp); (try omega))))))).mono ?_; rintro e w12 ⟨rfl, hbw12⟩; have hbww12 : Below w10.heap.size w10 w12 := bel_then (by repeat (first | with_reducible exact Below.refl _ _ | with_reducible assumption | with_reducible refine bel_alloc ?_ _ | with_reducible refine bel_drew ?_ | with_reducible refine bel_drewN ?_ _ | (with_reducible refine bel_set ?_ ?_ _; rotate_left; ((try simp); (try omega))))) hbw12))
      have hbZw12 := hbww12
      have hsw12 := hbZw12.size
      (try simp at hsw12)
      have hzw12_0 : w.heap.size < w12.heap.size := by omega
      have hzw12_1 : w.heap.size + 1 < w12.heap.size := by omega
      have hzw12_2 : w6.heap.size < w12.heap.size := by omega
      have hzw12_3 : w7.heap.size < w12.heap.size := by omega
      have hBw12 : Below w.heap.size w w12 := bel_then (by repeat (first | with_reducible exact Below.refl _ _ | with_reducible assumption | with_reducible refine bel_alloc ?_ _ | with_reducible refine bel_drew ?_ | with_reducible refine bel_drewN ?_ _ | (with_reducible refine bel_set ?_ ?_ _; rotate_left; ((try simp); (try omega))))) hbZw12
      replace hrw6 := Cod.bel hrw6 (show Below _ _ w12 from bel_then (by repeat (first | with_reducible exact Below.refl _ _ | with_reducible assumption | with_reducible refine bel_alloc ?_ _ | with_reducible refine bel_drew ?_ | with_reducible refine bel_drewN ?_ _ | (with_reducible refine bel_set ?_ ?_ _; rotate_left; ((try simp); (try omega))))) hbZw12)
      replace hrw7 := Cod.bel hrw7 (show Below _ _ w12 from bel_then (by repeat (first | with_reducible exact Below.refl _ _ | with_reducible assumption | with_reducible refine bel_alloc ?_ _ | with_reducible refine bel_drew ?_ | with_reducible refine bel_drewN ?_ _ | (with_reducible refine bel_set ?_ ?_ _; rotate_left; ((try simp); (try omega))))) hbZw12)
      obtain ⟨hcw12, hfzw12, -⟩ := bcell hbZw12
      clear hbZw12
      go_wp2_with fail
      go_ret
      exact ⟨rfl, (by repeat (first | with_reducible exact Below.refl _ _ | with_reducible assumption | with_reducible refine bel_alloc ?_ _ | with_reducible refine bel_drew ?_ | with_reducible refine bel_drewN ?_ _ | (with_reducible refine bel_set ?_ ?_ _; rotate_left; ((try simp); (try omega)))))⟩

set_option maxRecDepth 100000 in
theorem lawEqualMachines_walk (H : Type) (enc : TypeId × Value → H) (W : World) (base : Nat) (args : Array Value) (ds : List (DataW H)) (p : List MemPlace)
    (hval : ∀ (j : Nat) t v, Try.f7.params[j]? = some t → args[j]? = some v → Value.okWide Try.prog W .any base t v)
    (hA : DataW.TrodAll enc Try.prog W 0 (fun _ => true) true Try.f7.params.toList args.toList ds p) (hf : W.noneFrozen p) :
    Calls Try.prog 7 args W (Gives W (.bool true)) := by
  rw [Try.params7] at hA hval
  obtain ⟨v0, vs0, d0, ds0, q0, s0, hargs, rfl, rfl, k0, t0⟩ := trodAll_cons hA
  obtain ⟨v1, vs1, d1, ds1, q1, s1, rfl, rfl, rfl, k1, t1⟩ := trodAll_cons t0
  obtain ⟨rfl, rfl, rfl⟩ := trodAll_nil t1
  obtain rfl : args = #[v0, v1] := by cases args; simp_all
  obtain ⟨cs0, x0, F0, rfl, hx0⟩ := opens_lMach.struct_ Try.underlying44 (hval 0 _ _ rfl rfl) k0 (noneFrozen_mono hf fun y hy => by simp [hy])
  obtain ⟨cs1, x1, F1, rfl, hx1⟩ := opens_lMach.struct_ Try.underlying44 (hval 1 _ _ rfl rfl) k1 (noneFrozen_mono hf fun y hy => by simp [hy])
  exact lawEqualMachines_any cs0 x0 F0 cs1 x1 F1 W hx0 hx1

set_option maxRecDepth 100000 in
theorem lawEqualMachines_lifted (os : Os) (started : os.Started) (H : Type) (enc : TypeId × Value → H) :
    ReturnsInHanded {} Try.checked os 7 .any (Rows.fnExactEqualMachinesSpec.pre6 enc Try.prog Try.f7 Rows.fnExactEqualMachinesRow.domain false) (Rows.fnExactEqualMachinesSpec.post enc Try.prog Try.f7 false true false false) := by
  refine returnsInHanded_of_change (C := Try.checked) (by kernel_rfl) started (by kernel_rfl) Try.func7
    (ChangeSpec.witness6 (enc := enc) (C := Try.checked) false ⟨#[], #[.agg #[.slice none 0 0, .int .i64 0, .slice none 0 0, .int .i64 0, .bool false, .bool false], .agg #[.slice none 0 0, .int .i64 0, .slice none 0 0, .int .i64 0, .bool false, .bool false]], []⟩ 16 (by kernel_rfl) (by kernel_rfl) (by kernel_rfl) (by kernel_rfl)) ?_
  intro W base args ds gs before hval hW _ _
  have hW' := hW
  obtain ⟨p, q, hA, hV, rfl, hfz, hnd⟩ := hW
  refine (lawEqualMachines_walk H enc W base args ds p hval hA (noneFrozen_mono hfz fun y hy => by simp [hy])).mono fun e W' ⟨he, hb⟩ => ⟨_, he, ?_⟩
  exact law_post (by kernel_rfl) rfl (by kernel_rfl) Try.underlying4 (by kernel_rfl) (fun ds h => by
    match ds, h with
    | [d0, d1], _ => exact ⟨rfl, rfl, rfl⟩) hW' hb
theorem lawEqualMachines_over : Rows.fnExactEqualMachinesRow.holds Try.pinned (OpenSpec.ofChange Rows.fnExactEqualMachinesSpec) :=
  OpenClaim.holds_of_wide 7 Try.f7 rfl rfl rfl rfl rfl rfl rfl ⟨rfl, rfl, rfl, rfl, rfl⟩ rfl rfl rfl rfl rfl (by kernel_rfl) Try.func7 (by kernel_rfl)
    (of_decide_eq_true (by kernel_rfl)) (by unfold Func.isWrapper; rw [if_neg (of_decide_eq_false (by kernel_rfl))]; exact ⟨rfl, rfl⟩)
    (fun os started H enc _ => lawEqualMachines_lifted os started H enc)
/-- THE STATEMENT -/
theorem lawEqualMachines_holds : Rows.FnExactEqualMachinesSaid := lawEqualMachines_over

end Go.Proofs.Ythmlgflnefellaa
