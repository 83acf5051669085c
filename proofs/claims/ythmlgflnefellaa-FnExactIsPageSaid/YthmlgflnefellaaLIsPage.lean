/-
  The law FnExactIsPage: for all arguments the program's IsPage returns what the reference's returns. No conditions.
-/
import Derived.Test.YthmlgflnefellaaRows
import Derived.Deep.RegionHeld3
import Derived.Test.YthmlgflnefellaaEqPage
import Derived.Test.YthmlgflnefellaaPageOk
import Derived.Test.YthmlgflnefellaaToPage
namespace Go.Proofs.Ythmlgflnefellaa
open Go.ChangeShapes Go.WideShapes Go.RowKit
open Go.ChangeMaps (open_string shut_string)
set_option linter.unusedVariables false

set_option maxRecDepth 100000 in
set_option maxHeartbeats 4000000 in
theorem lawIsPage_any (a0 : Array Value) (p0 : TPage) (F0 : List Nat) (w : World) (h0 : cPage.rep w a0.toList p0 F0) :
    Calls Try.prog 11 #[.agg a0] w (Gives w (.bool true)) := by
  have r0 := h0
  obtain ⟨v0_4, v0_5, v0_7, E0_4, E0_5, E0_7, rfl, -, -, m0_4, m0_5, m0_7⟩ := TPage.outA r0
  obtain ⟨A0_4, c0_4, e0_4⟩ := cL_form m0_4
  subst e0_4
  obtain ⟨A0_5, c0_5, e0_5⟩ := cL_form m0_5
  subst e0_5
  obtain ⟨A0_7, c0_7, e0_7⟩ := cL_form m0_7
  subst e0_7
  clear m0_4 m0_5 m0_7
  clear r0
  go_enter Try.func11, Try.ntmps11
  go_wp2_with fail
  by_cases l0 : (1048576 - (cPage.sz p0 : Nat) : Int) < 0
  · have HV := Lib.hid (leftOf_neg l0)
    refine (szPage_any _ p0 _ _ _ (by exact Cod.bel h0 (by repeat (first | with_reducible exact Below.refl _ _ | with_reducible assumption | with_reducible refine bel_alloc ?_ _ | with_reducible refine bel_drew ?_ | with_reducible refine bel_drewN ?_ _ | (with_reducible refine bel_set ?_ ?_ _; rotate_left; ((try simp); (try omega)))))) (by omega) (by omega)).mono ?_
    rintro e w1 ⟨rfl, hbw1⟩
    rw [HV.out]
    have hBw1 : Below w.heap.size w w1 := bel_then (by repeat (first | with_reducible exact Below.refl _ _ | with_reducible assumption | with_reducible refine bel_alloc ?_ _ | with_reducible refine bel_drew ?_ | with_reducible refine bel_drewN ?_ _ | (with_reducible refine bel_set ?_ ?_ _; rotate_left; ((try simp); (try omega))))) hbw1
    go_wp2_with fail
    go_ret
    exact ⟨rfl, hBw1⟩
  · have HV := Lib.hid (leftOf_pos l0)
    have pz0 : 0 ≤ (1048576 - (cPage.sz p0 : Nat) : Int) := by omega
    have z0 : cPage.sz p0 ≤ 1048576 := by omega
    refine (szPage_any _ p0 _ _ _ (by exact Cod.bel h0 (by repeat (first | with_reducible exact Below.refl _ _ | with_reducible assumption | with_reducible refine bel_alloc ?_ _ | with_reducible refine bel_drew ?_ | with_reducible refine bel_drewN ?_ _ | (with_reducible refine bel_set ?_ ?_ _; rotate_left; ((try simp); (try omega)))))) (by omega) (by omega)).mono ?_
    rintro e w1 ⟨rfl, hbw1⟩
    rw [HV.out]
    clear HV
    have hsw1 := hbw1.size
    (try simp at hsw1)
    have hzw1_0 : w.heap.size < w1.heap.size := by omega
    have hBw1 : Below w.heap.size w w1 := bel_then (by repeat (first | with_reducible exact Below.refl _ _ | with_reducible assumption | with_reducible refine bel_alloc ?_ _ | with_reducible refine bel_drew ?_ | with_reducible refine bel_drewN ?_ _ | (with_reducible refine bel_set ?_ ?_ _; rotate_left; ((try simp); (try omega))))) hbw1
    obtain ⟨hcw1, hfzw1, -⟩ := bcell hbw1
    clear hbw1
    go_wp2_with fail
    refine (toPage_any _ p0 _ _ (by exact Cod.bel h0 (by repeat (first | with_reducible exact Below.refl _ _ | with_reducible assumption | with_reducible refine bel_alloc ?_ _ | with_reducible refine bel_drew ?_ | with_reducible refine bel_drewN ?_ _ | (with_reducible refine bel_set ?_ ?_ _; rotate_left; ((try simp); (try omega)))))) z0).mono ?_
    rintro e w2 ⟨uw2, Gw2, rfl, hbw2, hrw2, hfw2⟩
    have drw2 := hrw2
    obtain ⟨vrw2_4, vrw2_5, vrw2_7, Erw2_4, Erw2_5, Erw2_7, rfl, -, -, mrw2_4, mrw2_5, mrw2_7⟩ := TPage.outA drw2
    obtain ⟨Arw2_4, crw2_4, erw2_4⟩ := cL_form mrw2_4
    subst erw2_4
    obtain ⟨Arw2_5, crw2_5, erw2_5⟩ := cL_form mrw2_5
    subst erw2_5
    obtain ⟨Arw2_7, crw2_7, erw2_7⟩ := cL_form mrw2_7
    subst erw2_7
    clear mrw2_4 mrw2_5 mrw2_7 drw2
    have hsw2 := hbw2.size
    (try simp at hsw2)
    have hzw2_0 : w.heap.size < w2.heap.size := by omega
    have hBw2 : Below w.heap.size w w2 := bel_then (by repeat (first | with_reducible exact Below.refl _ _ | with_reducible assumption | with_reducible refine bel_alloc ?_ _ | with_reducible refine bel_drew ?_ | with_reducible refine bel_drewN ?_ _ | (with_reducible refine bel_set ?_ ?_ _; rotate_left; ((try simp); (try omega))))) hbw2
    have hlrw2 : ∀ b, b ∈ Gw2 → b < w2.heap.size := fun b hb => Cod.lt _ hrw2 b hb
    obtain ⟨hcw2, hfzw2, -⟩ := bcell hbw2
    clear hbw2
    go_wp2_with fail
    refine (specIsPage_any _ p0 _ _ (by exact Cod.bel hrw2 (by repeat (first | with_reducible exact Below.refl _ _ | with_reducible assumption | with_reducible refine bel_alloc ?_ _ | with_reducible refine bel_drew ?_ | with_reducible refine bel_drewN ?_ _ | (with_reducible refine bel_set ?_ ?_ _; rotate_left; ((try simp); (try omega)))))) z0).mono ?_
    rintro e w3 ⟨rfl, hbw3⟩
    have hsw3 := hbw3.size
    (try simp at hsw3)
    have hzw3_0 : w.heap.size < w3.heap.size := by omega
    have hBw3 : Below w.heap.size w w3 := bel_then (by repeat (first | with_reducible exact Below.refl _ _ | with_reducible assumption | with_reducible refine bel_alloc ?_ _ | with_reducible refine bel_drew ?_ | with_reducible refine bel_drewN ?_ _ | (with_reducible refine bel_set ?_ ?_ _; rotate_left; ((try simp); (try omega))))) hbw3
    replace hrw2 := Cod.bel hrw2 (show Below _ _ w3 from bel_then (by repeat (first | with_reducible exact Below.refl _ _ | with_reducible assumption | with_reducible refine bel_alloc ?_ _ | with_reducible refine bel_drew ?_ | with_reducible refine bel_drewN ?_ _ | (with_reducible refine bel_set ?_ ?_ _; rotate_left; ((try simp); (try omega))))) hbw3)
    obtain ⟨hcw3, hfzw3, -⟩ := bcell hbw3
    clear hbw3
    go_wp2_with fail
    refine (toPage_any _ p0 _ _ (by exact Cod.bel h0 (by repeat (first | with_reducible exact Below.refl _ _ | with_reducible assumption | with_reducible refine bel_alloc ?_ _ | with_reducible refine bel_drew ?_ | with_reducible refine bel_drewN ?_ _ | (with_reducible refine bel_set ?_ ?_ _; rotate_left; ((try simp); (try omega)))))) z0).mono ?_
    rintro e w4 ⟨uw4, Gw4, rfl, hbw4, hrw4, hfw4⟩
    have drw4 := hrw4
    obtain ⟨vrw4_4, vrw4_5, vrw4_7, Erw4_4, Erw4_5, Erw4_7, rfl, -, -, mrw4_4, mrw4_5, mrw4_7⟩ := TPage.outA drw4
    obtain ⟨Arw4_4, crw4_4, erw4_4⟩ := cL_form mrw4_4
    subst erw4_4
    obtain ⟨Arw4_5, crw4_5, erw4_5⟩ := cL_form mrw4_5
    subst erw4_5
    obtain ⟨Arw4_7, crw4_7, erw4_7⟩ := cL_form mrw4_7
    subst erw4_7
    clear mrw4_4 mrw4_5 mrw4_7 drw4
    have hsw4 := hbw4.size
    (try simp at hsw4)
    have hzw4_0 : w.heap.size < w4.heap.size := by omega
    have hBw4 : Below w.heap.size w w4 := bel_then (by repeat (first | with_reducible exact Below.refl _ _ | with_reducible assumption | with_reducible refine bel_alloc ?_ _ | with_reducible refine bel_drew ?_ | with_reducible refine bel_drewN ?_ _ | (with_reducible refine bel_set ?_ ?_ _; rotate_left; ((try simp); (try omega))))) hbw4
    replace hrw2 := Cod.bel hrw2 (show Below _ _ w4 from bel_then (by repeat (first | with_reducible exact Below.refl _ _ | with_reducible assumption | with_reducible refine bel_alloc ?_ _ | with_reducible refine bel_drew ?_ | with_reducible refine bel_drewN ?_ _ | (with_reducible refine bel_set ?_ ?_ _; rotate_left; ((try simp); (try omega))))) hbw4)
    have hlrw4 : ∀ b, b ∈ Gw4 → b < w4.heap.size := fun b hb => Cod.lt _ hrw4 b hb
    obtain ⟨hcw4, hfzw4, -⟩ := bcell hbw4
    clear hbw4
    go_wp2_with fail
    refine (implIsPage_any _ p0 _ _ (by exact Cod.bel hrw4 (by repeat (first | with_reducible exact Below.refl _ _ | with_reducible assumption | with_reducible refine bel_alloc ?_ _ | with_reducible refine bel_drew ?_ | with_reducible refine bel_drewN ?_ _ | (with_reducible refine bel_set ?_ ?_ _; rotate_left; ((try simp); (try omega)))))) z0).mono ?_
    rintro e w5 ⟨rfl, hbw5⟩
    have hsw5 := hbw5.size
    (try simp at hsw5)
    have hzw5_0 : w.heap.size < w5.heap.size := by omega
    have hzw5_1 : w4.heap.size < w5.heap.size := by omega
    have hBw5 : Below w.heap.size w w5 := bel_then (by repeat (first | with_reducible exact Below.refl _ _ | with_reducible assumption | with_reducible refine bel_alloc ?_ _ | with_reducible refine bel_drew ?_ | with_reducible refine bel_drewN ?_ _ | (with_reducible refine bel_set ?_ ?_ _; rotate_left; ((try simp); (try omega))))) hbw5
    replace hrw2 := Cod.bel hrw2 (show Below _ _ w5 from bel_then (by repeat (first | with_reducible exact Below.refl _ _ | with_reducible assumption | with_reducible refine bel_alloc ?_ _ | with_reducible refine bel_drew ?_ | with_reducible refine bel_drewN ?_ _ | (with_reducible refine bel_set ?_ ?_ _; rotate_left; ((try simp); (try omega))))) hbw5)
    replace hrw4 := Cod.bel hrw4 (show Below _ _ w5 from bel_then (by repeat (first | with_reducible exact Below.refl _ _ | with_reducible assumption | with_reducible refine bel_alloc ?_ _ | with_reducible refine bel_drew ?_ | with_reducible refine bel_drewN ?_ _ | (with_reducible refine bel_set ?_ ?_ _; rotate_left; ((try simp); (try omega))))) hbw5)
    obtain ⟨hcw5, hfzw5, -⟩ := bcell hbw5
    clear hbw5
    go_wp2_with fail
    have kw7_0 : w5.cell? ⟨w4.heap.size, 0, none⟩ = some (.int .i64 p0.id) := by go_simp
    have kw7_1 : w5.cell? ⟨w4.heap.size, 1, none⟩ = some (.string p0.site) := by go_simp
    have kw7_2 : w5.cell? ⟨w4.heap.size, 2, none⟩ = some (.string p0.top) := by go_simp
    have kw7_3 : w5.cell? ⟨w4.heap.size, 3, none⟩ = some (.int .i64 p0.ver) := by go_simp
    have kw7_4 : w5.cell? ⟨w4.heap.size, 4, none⟩ = some (.slice Arw4_4 p0.loaded.length crw4_4) := by go_simp
    have kw7_5 : w5.cell? ⟨w4.heap.size, 5, none⟩ = some (.slice Arw4_5 p0.mach.script.length crw4_5) := by go_simp
    have kw7_6 : w5.cell? ⟨w4.heap.size, 6, none⟩ = some (.int .i64 p0.mach.pc) := by go_simp
    have kw7_7 : w5.cell? ⟨w4.heap.size, 7, none⟩ = some (.slice Arw4_7 p0.mach.regs.length crw4_7) := by go_simp
    have kw7_8 : w5.cell? ⟨w4.heap.size, 8, none⟩ = some (.int .i64 p0.mach.steps) := by go_simp
    have kw7_9 : w5.cell? ⟨w4.heap.size, 9, none⟩ = some (.bool p0.mach.done) := by go_simp
    have kw7_10 : w5.cell? ⟨w4.heap.size, 10, none⟩ = some (.bool p0.mach.wait) := by go_simp
    have kw7_11 : w5.cell? ⟨w.heap.size, 0, none⟩ = some (.int .i64 p0.id) := by go_simp
    have kw7_12 : w5.cell? ⟨w.heap.size, 1, none⟩ = some (.string p0.site) := by go_simp
    have kw7_13 : w5.cell? ⟨w.heap.size, 2, none⟩ = some (.string p0.top) := by go_simp
    have kw7_14 : w5.cell? ⟨w.heap.size, 3, none⟩ = some (.int .i64 p0.ver) := by go_simp
    have kw7_15 : w5.cell? ⟨w.heap.size, 4, none⟩ = some (.slice A0_4 p0.loaded.length c0_4) := by go_simp
    have kw7_16 : w5.cell? ⟨w.heap.size, 5, none⟩ = some (.slice A0_5 p0.mach.script.length c0_5) := by go_simp
    have kw7_17 : w5.cell? ⟨w.heap.size, 6, none⟩ = some (.int .i64 p0.mach.pc) := by go_simp
    have kw7_18 : w5.cell? ⟨w.heap.size, 7, none⟩ = some (.slice A0_7 p0.mach.regs.length c0_7) := by go_simp
    have kw7_19 : w5.cell? ⟨w.heap.size, 8, none⟩ = some (.int .i64 p0.mach.steps) := by go_simp
    have kw7_20 : w5.cell? ⟨w.heap.size, 9, none⟩ = some (.bool p0.mach.done) := by go_simp
    have kw7_21 : w5.cell? ⟨w.heap.size, 10, none⟩ = some (.bool p0.mach.wait) := by go_simp
    have hS : ∀ w9, Below w5.heap.size w5 w9 → Below w5.heap.size w5 w9 ∧ w9.cell? ⟨w4.heap.size, 0, none⟩ = some (.int .i64 p0.id) ∧ w9.cell? ⟨w4.heap.size, 1, none⟩ = some (.string p0.site) ∧ w9.cell? ⟨w4.heap.size, 2, none⟩ = some (.string p0.top) ∧ w9.cell? ⟨w4.heap.size, 3, none⟩ = some (.int .i64 p0.ver) ∧ w9.cell? ⟨w4.heap.size, 4, none⟩ = some (.slice Arw4_4 p0.loaded.length crw4_4) ∧ w9.cell? ⟨w4.heap.size, 5, none⟩ = some (.slice Arw4_5 p0.mach.script.length crw4_5) ∧ w9.cell? ⟨w4.heap.size, 6, none⟩ = some (.int .i64 p0.mach.pc) ∧ w9.cell? ⟨w4.heap.size, 7, none⟩ = some (.slice Arw4_7 p0.mach.regs.length crw4_7) ∧ w9.cell? ⟨w4.heap.size, 8, none⟩ = some (.int .i64 p0.mach.steps) ∧ w9.cell? ⟨w4.heap.size, 9, none⟩ = some (.bool p0.mach.done) ∧ w9.cell? ⟨w4.heap.size, 10, none⟩ = some (.bool p0.mach.wait) ∧ w9.cell? ⟨w.heap.size, 0, none⟩ = some (.int .i64 p0.id) ∧ w9.cell? ⟨w.heap.size, 1, none⟩ = some (.string p0.site) ∧ w9.cell? ⟨w.heap.size, 2, none⟩ = some (.string p0.top) ∧ w9.cell? ⟨w.heap.size, 3, none⟩ = some (.int .i64 p0.ver) ∧ w9.cell? ⟨w.heap.size, 4, none⟩ = some (.slice A0_4 p0.loaded.length c0_4) ∧ w9.cell? ⟨w.heap.size, 5, none⟩ = some (.slice A0_5 p0.mach.script.length c0_5) ∧ w9.cell? ⟨w.heap.size, 6, none⟩ = some (.int .i64 p0.mach.pc) ∧ w9.cell? ⟨w.heap.size, 7, none⟩ = some (.slice A0_7 p0.mach.regs.length c0_7) ∧ w9.cell? ⟨w.heap.size, 8, none⟩ = some (.int .i64 p0.mach.steps) ∧ w9.cell? ⟨w.heap.size, 9, none⟩ = some (.bool p0.mach.done) ∧ w9.cell? ⟨w.heap.size, 10, none⟩ = some (.bool p0.mach.wait) := fun w9 hb => ⟨hb, (hb.cell (p := ⟨w4.heap.size, 0, none⟩) (by simpa using hzw5_1)).trans kw7_0, (hb.cell (p := ⟨w4.heap.size, 1, none⟩) (by simpa using hzw5_1)).trans kw7_1, (hb.cell (p := ⟨w4.heap.size, 2, none⟩) (by simpa using hzw5_1)).trans kw7_2, (hb.cell (p := ⟨w4.heap.size, 3, none⟩) (by simpa using hzw5_1)).trans kw7_3, (hb.cell (p := ⟨w4.heap.size, 4, none⟩) (by simpa using hzw5_1)).trans kw7_4, (hb.cell (p := ⟨w4.heap.size, 5, none⟩) (by simpa using hzw5_1)).trans kw7_5, (hb.cell (p := ⟨w4.heap.size, 6, none⟩) (by simpa using hzw5_1)).trans kw7_6, (hb.cell (p := ⟨w4.heap.size, 7, none⟩) (by simpa using hzw5_1)).trans kw7_7, (hb.cell (p := ⟨w4.heap.size, 8, none⟩) (by simpa using hzw5_1)).trans kw7_8, (hb.cell (p := ⟨w4.heap.size, 9, none⟩) (by simpa using hzw5_1)).trans kw7_9, (hb.cell (p := ⟨w4.heap.size, 10, none⟩) (by simpa using hzw5_1)).trans kw7_10, (hb.cell (p := ⟨w.heap.size, 0, none⟩) (by simpa using hzw5_0)).trans kw7_11, (hb.cell (p := ⟨w.heap.size, 1, none⟩) (by simpa using hzw5_0)).trans kw7_12, (hb.cell (p := ⟨w.heap.size, 2, none⟩) (by simpa using hzw5_0)).trans kw7_13, (hb.cell (p := ⟨w.heap.size, 3, none⟩) (by simpa using hzw5_0)).trans kw7_14, (hb.cell (p := ⟨w.heap.size, 4, none⟩) (by simpa using hzw5_0)).trans kw7_15, (hb.cell (p := ⟨w.heap.size, 5, none⟩) (by simpa using hzw5_0)).trans kw7_16, (hb.cell (p := ⟨w.heap.size, 6, none⟩) (by simpa using hzw5_0)).trans kw7_17, (hb.cell (p := ⟨w.heap.size, 7, none⟩) (by simpa using hzw5_0)).trans kw7_18, (hb.cell (p := ⟨w.heap.size, 8, none⟩) (by simpa using hzw5_0)).trans kw7_19, (hb.cell (p := ⟨w.heap.size, 9, none⟩) (by simpa using hzw5_0)).trans kw7_20, (hb.cell (p := ⟨w.heap.size, 10, none⟩) (by simpa using hzw5_0)).trans kw7_21⟩
    have hwb : Below w5.heap.size w5 w5 := Below.refl _ _
    clear kw7_0 kw7_1 kw7_2 kw7_3 kw7_4 kw7_5 kw7_6 kw7_7 kw7_8 kw7_9 kw7_10 kw7_11 kw7_12 kw7_13 kw7_14 kw7_15 kw7_16 kw7_17 kw7_18 kw7_19 kw7_20 kw7_21
    go_region_held3 (fun w9 => Below w5.heap.size w5 w9 ∧ w9.cell? ⟨w4.heap.size, 0, none⟩ = some (.int .i64 p0.id) ∧ w9.cell? ⟨w4.heap.size, 1, none⟩ = some (.string p0.site) ∧ w9.cell? ⟨w4.heap.size, 2, none⟩ = some (.string p0.top) ∧ w9.cell? ⟨w4.heap.size, 3, none⟩ = some (.int .i64 p0.ver) ∧ w9.cell? ⟨w4.heap.size, 4, none⟩ = some (.slice Arw4_4 p0.loaded.length crw4_4) ∧ w9.cell? ⟨w4.heap.size, 5, none⟩ = some (.slice Arw4_5 p0.mach.script.length crw4_5) ∧ w9.cell? ⟨w4.heap.size, 6, none⟩ = some (.int .i64 p0.mach.pc) ∧ w9.cell? ⟨w4.heap.size, 7, none⟩ = some (.slice Arw4_7 p0.mach.regs.length crw4_7) ∧ w9.cell? ⟨w4.heap.size, 8, none⟩ = some (.int .i64 p0.mach.steps) ∧ w9.cell? ⟨w4.heap.size, 9, none⟩ = some (.bool p0.mach.done) ∧ w9.cell? ⟨w4.heap.size, 10, none⟩ = some (.bool p0.mach.wait) ∧ w9.cell? ⟨w.heap.size, 0, none⟩ = some (.int .i64 p0.id) ∧ w9.cell? ⟨w.heap.size, 1, none⟩ = some (.string p0.site) ∧ w9.cell? ⟨w.heap.size, 2, none⟩ = some (.string p0.top) ∧ w9.cell? ⟨w.heap.size, 3, none⟩ = some (.int .i64 p0.ver) ∧ w9.cell? ⟨w.heap.size, 4, none⟩ = some (.slice A0_4 p0.loaded.length c0_4) ∧ w9.cell? ⟨w.heap.size, 5, none⟩ = some (.slice A0_5 p0.mach.script.length c0_5) ∧ w9.cell? ⟨w.heap.size, 6, none⟩ = some (.int .i64 p0.mach.pc) ∧ w9.cell? ⟨w.heap.size, 7, none⟩ = some (.slice A0_7 p0.mach.regs.length c0_7) ∧ w9.cell? ⟨w.heap.size, 8, none⟩ = some (.int .i64 p0.mach.steps) ∧ w9.cell? ⟨w.heap.size, 9, none⟩ = some (.bool p0.mach.done) ∧ w9.cell? ⟨w.heap.size, 10, none⟩ = some (.bool p0.mach.wait)) (exact hS _ (by repeat (first | with_reducible exact Below.refl _ _ | with_reducible assumption | with_reducible refine bel_alloc ?_ _ | with_reducible refine bel_drew ?_ | with_reducible refine bel_drewN ?_ _ | (with_reducible refine bel_set ?_ ?_ _; rotate_left; ((try simp); (try omega)))))) (first | (go_at_call 48; refine (toPage_any _ p0 _ _ (by exact Cod.bel h0 (bel_then hBw5 (by repeat (first | with_reducible exact Below.refl _ _ | with_reducible assumption | with_reducible refine bel_alloc ?_ _ | with_reducible refine bel_drew ?_ | with_reducible refine bel_drewN ?_ _ | (with_reducible refine bel_set ?_ ?_ _; rotate_left; ((try simp); (try omega))))))) z0).mono ?_; rintro e w6 ⟨uw6, Gw6, rfl, hbw6, hrw6, hfw6⟩; have hbww6 : Below w5.heap.size w5 w6 := bel_then (by repeat (first | with_reducible exact Below.refl _ _ | with_reducible assumption | with_reducible refine bel_alloc ?_ _ | with_reducible refine bel_drew ?_ | with_reducible refine bel_drewN ?_ _ | (with_reducible refine bel_set ?_ ?_ _; rotate_left; ((try simp); (try omega))))) hbw6; clear hfw6) | (go_at_call 50; refine (eqPage_any _ _ p0 _ _ _ (by exact Cod.bel hrw4 (by repeat (first | with_reducible exact Below.refl _ _ | with_reducible assumption | with_reducible refine bel_alloc ?_ _ | with_reducible refine bel_drew ?_ | with_reducible refine bel_drewN ?_ _ | (with_reducible refine bel_set ?_ ?_ _; rotate_left; ((try simp); (try omega)))))) (by exact Cod.bel hrw6 (by repeat (first | with_reducible exact Below.refl _ _ | with_reducible assumption | with_reducible refine bel_alloc ?_ _ | with_reducible refine bel_drew ?_ | with_reducible refine bel_drewN ?_ _ | (with_reducible refine bel_set ?_ ?_ _; rotate_left; ((try simp); (try omega))))))).mono ?_; rintro e w7 ⟨rfl, hbw7⟩; have hbww7 : Below w5.heap.size w5 w7 := bel_then (by repeat (first | with_reducible exact Below.refl _ _ | with_reducible assumption | with_reducible refine bel_alloc ?_ _ | with_reducible refine bel_drew ?_ | with_reducible refine bel_drewN ?_ _ | (with_reducible refine bel_set ?_ ?_ _; rotate_left; ((try simp); (try omega))))) hbw7))
    have hbZw7 := hbww7
    have hsw7 := hbZw7.size
    (try simp at hsw7)
    have hzw7_0 : w.heap.size < w7.heap.size := by omega
    have hzw7_1 : w4.heap.size < w7.heap.size := by omega
    have hBw7 : Below w.heap.size w w7 := bel_then (by repeat (first | with_reducible exact Below.refl _ _ | with_reducible assumption | with_reducible refine bel_alloc ?_ _ | with_reducible refine bel_drew ?_ | with_reducible refine bel_drewN ?_ _ | (with_reducible refine bel_set ?_ ?_ _; rotate_left; ((try simp); (try omega))))) hbZw7
    replace hrw2 := Cod.bel hrw2 (show Below _ _ w7 from bel_then (by repeat (first | with_reducible exact Below.refl _ _ | with_reducible assumption | with_reducible refine bel_alloc ?_ _ | with_reducible refine bel_drew ?_ | with_reducible refine bel_drewN ?_ _ | (with_reducible refine bel_set ?_ ?_ _; rotate_left; ((try simp); (try omega))))) hbZw7)
    replace hrw4 := Cod.bel hrw4 (show Below _ _ w7 from bel_then (by repeat (first | with_reducible exact Below.refl _ _ | with_reducible assumption | with_reducible refine bel_alloc ?_ _ | with_reducible refine bel_drew ?_ | with_reducible refine bel_drewN ?_ _ | (with_reducible refine bel_set ?_ ?_ _; rotate_left; ((try simp); (try omega))))) hbZw7)
    obtain ⟨hcw7, hfzw7, -⟩ := bcell hbZw7
    clear hbZw7
    go_wp2_with fail
    go_ret
    exact ⟨rfl, (by repeat (first | with_reducible exact Below.refl _ _ | with_reducible assumption | with_reducible refine bel_alloc ?_ _ | with_reducible refine bel_drew ?_ | with_reducible refine bel_drewN ?_ _ | (with_reducible refine bel_set ?_ ?_ _; rotate_left; ((try simp); (try omega)))))⟩

set_option maxRecDepth 100000 in
theorem lawIsPage_walk (H : Type) (enc : TypeId × Value → H) (W : World) (base : Nat) (args : Array Value) (ds : List (DataW H)) (p : List MemPlace)
    (hval : ∀ (j : Nat) t v, Try.f11.params[j]? = some t → args[j]? = some v → Value.okWide Try.prog W .any base t v)
    (hA : DataW.TrodAll enc Try.prog W 0 (fun _ => true) true Try.f11.params.toList args.toList ds p) (hf : W.noneFrozen p) :
    Calls Try.prog 11 args W (Gives W (.bool true)) := by
  rw [Try.params11] at hA hval
  obtain ⟨v0, vs0, d0, ds0, q0, s0, hargs, rfl, rfl, k0, t0⟩ := trodAll_cons hA
  obtain ⟨rfl, rfl, rfl⟩ := trodAll_nil t0
  obtain rfl : args = #[v0] := by cases args; simp_all
  obtain ⟨cs0, x0, F0, rfl, hx0⟩ := opens_lPage.struct_ Try.underlying69 (hval 0 _ _ rfl rfl) k0 (noneFrozen_mono hf fun y hy => by simp [hy])
  exact lawIsPage_any cs0 x0 F0 W hx0

set_option maxRecDepth 100000 in
theorem lawIsPage_lifted (os : Os) (started : os.Started) (H : Type) (enc : TypeId × Value → H) :
    ReturnsInHanded {} Try.checked os 11 .any (Rows.fnExactIsPageSpec.pre6 enc Try.prog Try.f11 Rows.fnExactIsPageRow.domain false) (Rows.fnExactIsPageSpec.post enc Try.prog Try.f11 false true false false) := by
  refine returnsInHanded_of_change (C := Try.checked) (by kernel_rfl) started (by kernel_rfl) Try.func11
    (ChangeSpec.witness6 (enc := enc) (C := Try.checked) false ⟨#[], #[.agg #[.int .i64 0, .string ByteArray.empty, .string ByteArray.empty, .int .i64 0, .slice none 0 0, .slice none 0 0, .int .i64 0, .slice none 0 0, .int .i64 0, .bool false, .bool false]], []⟩ 16 (by kernel_rfl) (by kernel_rfl) (by kernel_rfl) (by kernel_rfl)) ?_
  intro W base args ds gs before hval hW _ _
  have hW' := hW
  obtain ⟨p, q, hA, hV, rfl, hfz, hnd⟩ := hW
  refine (lawIsPage_walk H enc W base args ds p hval hA (noneFrozen_mono hfz fun y hy => by simp [hy])).mono fun e W' ⟨he, hb⟩ => ⟨_, he, ?_⟩
  exact law_post (by kernel_rfl) rfl (by kernel_rfl) Try.underlying4 (by kernel_rfl) (fun ds h => by
    match ds, h with
    | [d0], _ => exact ⟨rfl, rfl, rfl⟩) hW' hb
theorem lawIsPage_over : Rows.fnExactIsPageRow.holds Try.pinned (OpenSpec.ofChange Rows.fnExactIsPageSpec) :=
  OpenClaim.holds_of_wide 11 Try.f11 rfl rfl rfl rfl rfl rfl rfl ⟨rfl, rfl, rfl, rfl, rfl⟩ rfl rfl rfl rfl rfl (by kernel_rfl) Try.func11 (by kernel_rfl)
    (of_decide_eq_true (by kernel_rfl)) (by unfold Func.isWrapper; rw [if_neg (of_decide_eq_false (by kernel_rfl))]; exact ⟨rfl, rfl⟩)
    (fun os started H enc _ => lawIsPage_lifted os started H enc)
/-- THE STATEMENT -/
theorem lawIsPage_holds : Rows.FnExactIsPageSaid := lawIsPage_over

end Go.Proofs.Ythmlgflnefellaa
