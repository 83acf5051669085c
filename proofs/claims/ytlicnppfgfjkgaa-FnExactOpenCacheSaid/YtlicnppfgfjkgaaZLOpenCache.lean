/-
  The law FnExactOpenCache: for all arguments the program's OpenCache returns what the reference's returns. No conditions.
-/
import Derived.Test.YtlicnppfgfjkgaaRows
import Derived.Deep.RegionHeld3
import Derived.Test.YtlicnppfgfjkgaaZA
import Derived.Test.YtlicnppfgfjkgaaZOpenS
import Derived.Test.YtlicnppfgfjkgaaZToCSet
namespace Go.Proofs.Ytlicnppfgfjkgaa
open Go.ChangeShapes Go.WideShapes Go.RowKit
open Go.ChangeMaps (open_string shut_string)
set_option linter.unusedVariables false

set_option maxRecDepth 100000 in
set_option maxHeartbeats 4000000 in
theorem lawOpenCache_any (a0 : Array Value) (p0 : TCSet) (F0 : List Nat) (p1 : Int) (w : World) (h0 : cCSet.rep w a0.toList p0 F0) (h1 : -9223372036854775808 ≤ p1 ∧ p1 ≤ 9223372036854775807) :
    Calls Try.prog 7 #[.agg a0, .int .i64 p1] w (Gives w (.bool true)) := by
  have r0 := h0
  obtain ⟨v0_0, E0_0, rfl, -, -, m0_0⟩ := TCSet.outA r0
  obtain ⟨A0_0, c0_0, e0_0⟩ := cL_form m0_0
  subst e0_0
  clear m0_0
  clear r0
  go_enter Try.func7, Try.ntmps7
  go_wp2_with fail
  by_cases l0 : (1048576 - (cCSet.sz p0 : Nat) : Int) < 0
  · have HV := Lib.hid (leftOf_neg l0)
    refine (szCacheSet_any _ p0 _ _ _ (by exact Cod.bel h0 (by repeat (first | with_reducible exact Below.refl _ _ | with_reducible assumption | with_reducible refine bel_alloc ?_ _ | with_reducible refine bel_drew ?_ | with_reducible refine bel_drewN ?_ _ | (with_reducible refine bel_set ?_ ?_ _; rotate_left; ((try simp); (try omega)))))) (by omega) (by omega)).mono ?_
    rintro e w1 ⟨rfl, hbw1⟩
    rw [HV.out]
    have hBw1 : Below w.heap.size w w1 := bel_then (by repeat (first | with_reducible exact Below.refl _ _ | with_reducible assumption | with_reducible refine bel_alloc ?_ _ | with_reducible refine bel_drew ?_ | with_reducible refine bel_drewN ?_ _ | (with_reducible refine bel_set ?_ ?_ _; rotate_left; ((try simp); (try omega))))) hbw1
    go_wp2_with fail
    go_ret
    exact ⟨rfl, hBw1⟩
  · have HV := Lib.hid (leftOf_pos l0)
    have pz0 : 0 ≤ (1048576 - (cCSet.sz p0 : Nat) : Int) := by omega
    have z0 : cCSet.sz p0 ≤ 1048576 := by omega
    refine (szCacheSet_any _ p0 _ _ _ (by exact Cod.bel h0 (by repeat (first | with_reducible exact Below.refl _ _ | with_reducible assumption | with_reducible refine bel_alloc ?_ _ | with_reducible refine bel_drew ?_ | with_reducible refine bel_drewN ?_ _ | (with_reducible refine bel_set ?_ ?_ _; rotate_left; ((try simp); (try omega)))))) (by omega) (by omega)).mono ?_
    rintro e w1 ⟨rfl, hbw1⟩
    rw [HV.out]
    clear HV
    have hsw1 := hbw1.size
    (try simp at hsw1)
    have hzw1_0 : w.heap.size < w1.heap.size := by omega
    have hBw1 : Below w.heap.size w w1 := bel_then (by repeat (first | with_reducible exact Below.refl _ _ | with_reducible assumption | with_reducible refine bel_alloc ?_ _ | with_reducible refine bel_drew ?_ | with_reducible refine bel_drewN ?_ _ | (with_reducible refine bel_set ?_ ?_ _; rotate_left; ((try simp); (try omega))))) hbw1
    obtain ⟨hcw1, hfzw1, -⟩ := bcell hbw1
    clear hbw1
    go_wp2_with fail
    refine (toCacheSet_any _ p0 _ _ (by exact Cod.bel h0 (by repeat (first | with_reducible exact Below.refl _ _ | with_reducible assumption | with_reducible refine bel_alloc ?_ _ | with_reducible refine bel_drew ?_ | with_reducible refine bel_drewN ?_ _ | (with_reducible refine bel_set ?_ ?_ _; rotate_left; ((try simp); (try omega)))))) z0).mono ?_
    rintro e w2 ⟨uw2, Gw2, rfl, hbw2, hrw2, hfw2⟩
    have drw2 := hrw2
    obtain ⟨vrw2_0, Erw2_0, rfl, -, -, mrw2_0⟩ := TCSet.outA drw2
    obtain ⟨Arw2_0, crw2_0, erw2_0⟩ := cL_form mrw2_0
    subst erw2_0
    clear mrw2_0 drw2
    have hsw2 := hbw2.size
    (try simp at hsw2)
    have hzw2_0 : w.heap.size < w2.heap.size := by omega
    have hBw2 : Below w.heap.size w w2 := bel_then (by repeat (first | with_reducible exact Below.refl _ _ | with_reducible assumption | with_reducible refine bel_alloc ?_ _ | with_reducible refine bel_drew ?_ | with_reducible refine bel_drewN ?_ _ | (with_reducible refine bel_set ?_ ?_ _; rotate_left; ((try simp); (try omega))))) hbw2
    have hlrw2 : ∀ b, b ∈ Gw2 → b < w2.heap.size := fun b hb => Cod.lt _ hrw2 b hb
    obtain ⟨hcw2, hfzw2, -⟩ := bcell hbw2
    clear hbw2
    go_wp2_with fail
    refine (specOpenCache_any _ p0 _ p1 _ (by exact Cod.bel hrw2 (by repeat (first | with_reducible exact Below.refl _ _ | with_reducible assumption | with_reducible refine bel_alloc ?_ _ | with_reducible refine bel_drew ?_ | with_reducible refine bel_drewN ?_ _ | (with_reducible refine bel_set ?_ ?_ _; rotate_left; ((try simp); (try omega)))))) z0 h1).mono ?_
    rintro e w3 ⟨uw3, Gw3, rfl, hbw3, hrw3, hfw3⟩
    have drw3 := hrw3
    obtain ⟨vrw3_0, Erw3_0, rfl, -, -, mrw3_0⟩ := TCSet.outA drw3
    obtain ⟨Arw3_0, crw3_0, erw3_0⟩ := cL_form mrw3_0
    subst erw3_0
    clear mrw3_0 drw3
    have hsw3 := hbw3.size
    (try simp at hsw3)
    have hzw3_0 : w.heap.size < w3.heap.size := by omega
    have hBw3 : Below w.heap.size w w3 := bel_then (by repeat (first | with_reducible exact Below.refl _ _ | with_reducible assumption | with_reducible refine bel_alloc ?_ _ | with_reducible refine bel_drew ?_ | with_reducible refine bel_drewN ?_ _ | (with_reducible refine bel_set ?_ ?_ _; rotate_left; ((try simp); (try omega))))) hbw3
    replace hrw2 := Cod.bel hrw2 (show Below _ _ w3 from bel_then (by repeat (first | with_reducible exact Below.refl _ _ | with_reducible assumption | with_reducible refine bel_alloc ?_ _ | with_reducible refine bel_drew ?_ | with_reducible refine bel_drewN ?_ _ | (with_reducible refine bel_set ?_ ?_ _; rotate_left; ((try simp); (try omega))))) hbw3)
    have hlrw3 : ∀ b, b ∈ Gw3 → b < w3.heap.size := fun b hb => Cod.lt _ hrw3 b hb
    obtain ⟨hcw3, hfzw3, -⟩ := bcell hbw3
    clear hbw3
    go_wp2_with fail
    refine (toCacheSet_any _ p0 _ _ (by exact Cod.bel h0 (by repeat (first | with_reducible exact Below.refl _ _ | with_reducible assumption | with_reducible refine bel_alloc ?_ _ | with_reducible refine bel_drew ?_ | with_reducible refine bel_drewN ?_ _ | (with_reducible refine bel_set ?_ ?_ _; rotate_left; ((try simp); (try omega)))))) z0).mono ?_
    rintro e w4 ⟨uw4, Gw4, rfl, hbw4, hrw4, hfw4⟩
    have drw4 := hrw4
    obtain ⟨vrw4_0, Erw4_0, rfl, -, -, mrw4_0⟩ := TCSet.outA drw4
    obtain ⟨Arw4_0, crw4_0, erw4_0⟩ := cL_form mrw4_0
    subst erw4_0
    clear mrw4_0 drw4
    have hsw4 := hbw4.size
    (try simp at hsw4)
    have hzw4_0 : w.heap.size < w4.heap.size := by omega
    have hzw4_1 : w3.heap.size < w4.heap.size := by omega
    have hBw4 : Below w.heap.size w w4 := bel_then (by repeat (first | with_reducible exact Below.refl _ _ | with_reducible assumption | with_reducible refine bel_alloc ?_ _ | with_reducible refine bel_drew ?_ | with_reducible refine bel_drewN ?_ _ | (with_reducible refine bel_set ?_ ?_ _; rotate_left; ((try simp); (try omega))))) hbw4
    replace hrw2 := Cod.bel hrw2 (show Below _ _ w4 from bel_then (by repeat (first | with_reducible exact Below.refl _ _ | with_reducible assumption | with_reducible refine bel_alloc ?_ _ | with_reducible refine bel_drew ?_ | with_reducible refine bel_drewN ?_ _ | (with_reducible refine bel_set ?_ ?_ _; rotate_left; ((try simp); (try omega))))) hbw4)
    replace hrw3 := Cod.bel hrw3 (show Below _ _ w4 from bel_then (by repeat (first | with_reducible exact Below.refl _ _ | with_reducible assumption | with_reducible refine bel_alloc ?_ _ | with_reducible refine bel_drew ?_ | with_reducible refine bel_drewN ?_ _ | (with_reducible refine bel_set ?_ ?_ _; rotate_left; ((try simp); (try omega))))) hbw4)
    have hlrw4 : ∀ b, b ∈ Gw4 → b < w4.heap.size := fun b hb => Cod.lt _ hrw4 b hb
    obtain ⟨hcw4, hfzw4, -⟩ := bcell hbw4
    clear hbw4
    go_wp2_with fail
    refine (implOpenCache_any _ p0 _ p1 _ (by exact Cod.bel hrw4 (by repeat (first | with_reducible exact Below.refl _ _ | with_reducible assumption | with_reducible refine bel_alloc ?_ _ | with_reducible refine bel_drew ?_ | with_reducible refine bel_drewN ?_ _ | (with_reducible refine bel_set ?_ ?_ _; rotate_left; ((try simp); (try omega)))))) z0 h1).mono ?_
    rintro e w5 ⟨uw5, Gw5, rfl, hbw5, hrw5, hfw5⟩
    have drw5 := hrw5
    obtain ⟨vrw5_0, Erw5_0, rfl, -, -, mrw5_0⟩ := TCSet.outA drw5
    obtain ⟨Arw5_0, crw5_0, erw5_0⟩ := cL_form mrw5_0
    subst erw5_0
    clear mrw5_0 drw5
    have hsw5 := hbw5.size
    (try simp at hsw5)
    have hzw5_0 : w.heap.size < w5.heap.size := by omega
    have hzw5_1 : w3.heap.size < w5.heap.size := by omega
    have hzw5_2 : w4.heap.size < w5.heap.size := by omega
    have hBw5 : Below w.heap.size w w5 := bel_then (by repeat (first | with_reducible exact Below.refl _ _ | with_reducible assumption | with_reducible refine bel_alloc ?_ _ | with_reducible refine bel_drew ?_ | with_reducible refine bel_drewN ?_ _ | (with_reducible refine bel_set ?_ ?_ _; rotate_left; ((try simp); (try omega))))) hbw5
    replace hrw2 := Cod.bel hrw2 (show Below _ _ w5 from bel_then (by repeat (first | with_reducible exact Below.refl _ _ | with_reducible assumption | with_reducible refine bel_alloc ?_ _ | with_reducible refine bel_drew ?_ | with_reducible refine bel_drewN ?_ _ | (with_reducible refine bel_set ?_ ?_ _; rotate_left; ((try simp); (try omega))))) hbw5)
    replace hrw3 := Cod.bel hrw3 (show Below _ _ w5 from bel_then (by repeat (first | with_reducible exact Below.refl _ _ | with_reducible assumption | with_reducible refine bel_alloc ?_ _ | with_reducible refine bel_drew ?_ | with_reducible refine bel_drewN ?_ _ | (with_reducible refine bel_set ?_ ?_ _; rotate_left; ((try simp); (try omega))))) hbw5)
    replace hrw4 := Cod.bel hrw4 (show Below _ _ w5 from bel_then (by repeat (first | with_reducible exact Below.refl _ _ | with_reducible assumption | with_reducible refine bel_alloc ?_ _ | with_reducible refine bel_drew ?_ | with_reducible refine bel_drewN ?_ _ | (with_reducible refine bel_set ?_ ?_ _; rotate_left; ((try simp); (try omega))))) hbw5)
    have hlrw5 : ∀ b, b ∈ Gw5 → b < w5.heap.size := fun b hb => Cod.lt _ hrw5 b hb
    have zr : cCSet.sz ((openCache p0 p1).1) ≤ 8000000 := (by have h := openCache_sz p0 p1; have := z0; omega)
    obtain ⟨hcw5, hfzw5, -⟩ := bcell hbw5
    clear hbw5
    go_wp2_with fail
    refine (eqCacheSet_any _ _ ((openCache p0 p1).1) _ _ _ (by exact Cod.bel hrw5 (by repeat (first | with_reducible exact Below.refl _ _ | with_reducible assumption | with_reducible refine bel_alloc ?_ _ | with_reducible refine bel_drew ?_ | with_reducible refine bel_drewN ?_ _ | (with_reducible refine bel_set ?_ ?_ _; rotate_left; ((try simp); (try omega)))))) (by exact Cod.bel hrw3 (by repeat (first | with_reducible exact Below.refl _ _ | with_reducible assumption | with_reducible refine bel_alloc ?_ _ | with_reducible refine bel_drew ?_ | with_reducible refine bel_drewN ?_ _ | (with_reducible refine bel_set ?_ ?_ _; rotate_left; ((try simp); (try omega))))))).mono ?_
    rintro e w6 ⟨rfl, hbw6⟩
    have hsw6 := hbw6.size
    (try simp at hsw6)
    have hzw6_0 : w.heap.size < w6.heap.size := by omega
    have hzw6_1 : w3.heap.size < w6.heap.size := by omega
    have hzw6_2 : w4.heap.size < w6.heap.size := by omega
    have hzw6_3 : w5.heap.size < w6.heap.size := by omega
    have hBw6 : Below w.heap.size w w6 := bel_then (by repeat (first | with_reducible exact Below.refl _ _ | with_reducible assumption | with_reducible refine bel_alloc ?_ _ | with_reducible refine bel_drew ?_ | with_reducible refine bel_drewN ?_ _ | (with_reducible refine bel_set ?_ ?_ _; rotate_left; ((try simp); (try omega))))) hbw6
    replace hrw2 := Cod.bel hrw2 (show Below _ _ w6 from bel_then (by repeat (first | with_reducible exact Below.refl _ _ | with_reducible assumption | with_reducible refine bel_alloc ?_ _ | with_reducible refine bel_drew ?_ | with_reducible refine bel_drewN ?_ _ | (with_reducible refine bel_set ?_ ?_ _; rotate_left; ((try simp); (try omega))))) hbw6)
    replace hrw3 := Cod.bel hrw3 (show Below _ _ w6 from bel_then (by repeat (first | with_reducible exact Below.refl _ _ | with_reducible assumption | with_reducible refine bel_alloc ?_ _ | with_reducible refine bel_drew ?_ | with_reducible refine bel_drewN ?_ _ | (with_reducible refine bel_set ?_ ?_ _; rotate_left; ((try simp); (try omega))))) hbw6)
    replace hrw4 := Cod.bel hrw4 (show Below _ _ w6 from bel_then (by repeat (first | with_reducible exact Below.refl _ _ | with_reducible assumption | with_reducible refine bel_alloc ?_ _ | with_reducible refine bel_drew ?_ | with_reducible refine bel_drewN ?_ _ | (with_reducible refine bel_set ?_ ?_ _; rotate_left; ((try simp); (try omega))))) hbw6)
    replace hrw5 := Cod.bel hrw5 (show Below _ _ w6 from bel_then (by repeat (first | with_reducible exact Below.refl _ _ | with_reducible assumption | with_reducible refine bel_alloc ?_ _ | with_reducible refine bel_drew ?_ | with_reducible refine bel_drewN ?_ _ | (with_reducible refine bel_set ?_ ?_ _; rotate_left; ((try simp); (try omega))))) hbw6)
    obtain ⟨hcw6, hfzw6, -⟩ := bcell hbw6
    clear hbw6
    go_wp2_with fail
    have kw8_0 : w6.cell? ⟨w4.heap.size, 0, none⟩ = some (.slice Arw4_0 p0.caches.length crw4_0) := by go_simp
    have kw8_1 : w6.cell? ⟨w.heap.size, 0, none⟩ = some (.slice A0_0 p0.caches.length c0_0) := by go_simp
    have hS : ∀ wS, Below w6.heap.size w6 wS → Below w6.heap.size w6 wS ∧ wS.cell? ⟨w4.heap.size, 0, none⟩ = some (.slice Arw4_0 p0.caches.length crw4_0) ∧ wS.cell? ⟨w.heap.size, 0, none⟩ = some (.slice A0_0 p0.caches.length c0_0) := fun wS hb => ⟨hb, (hb.cell (p := ⟨w4.heap.size, 0, none⟩) (by simpa using hzw6_2)).trans kw8_0, (hb.cell (p := ⟨w.heap.size, 0, none⟩) (by simpa using hzw6_0)).trans kw8_1⟩
    have hwb : Below w6.heap.size w6 w6 := Below.refl _ _
    clear kw8_0 kw8_1
    go_region_held3 (fun wS => Below w6.heap.size w6 wS ∧ wS.cell? ⟨w4.heap.size, 0, none⟩ = some (.slice Arw4_0 p0.caches.length crw4_0) ∧ wS.cell? ⟨w.heap.size, 0, none⟩ = some (.slice A0_0 p0.caches.length c0_0)) (exact hS _ (by repeat (first | with_reducible exact Below.refl _ _ | with_reducible assumption | with_reducible refine bel_alloc ?_ _ | with_reducible refine bel_drew ?_ | with_reducible refine bel_drewN ?_ _ | (with_reducible refine bel_set ?_ ?_ _; rotate_left; ((try simp); (try omega)))))) (first | (go_at_call 47; refine (toCacheSet_any _ p0 _ _ (by exact Cod.bel h0 (bel_then hBw6 (by repeat (first | with_reducible exact Below.refl _ _ | with_reducible assumption | with_reducible refine bel_alloc ?_ _ | with_reducible refine bel_drew ?_ | with_reducible refine bel_drewN ?_ _ | (with_reducible refine bel_set ?_ ?_ _; rotate_left; ((try simp); (try omega))))))) z0).mono ?_; rintro e w7 ⟨uw7, Gw7, rfl, hbw7, hrw7, hfw7⟩; have hbww7 : Below w6.heap.size w6 w7 := bel_then (by repeat (first | with_reducible exact Below.refl _ _ | with_reducible assumption | with_reducible refine bel_alloc ?_ _ | with_reducible refine bel_drew ?_ | with_reducible refine bel_drewN ?_ _ | (with_reducible refine bel_set ?_ ?_ _; rotate_left; ((try simp); (try omega))))) hbw7; clear hfw7) | (go_at_call 49; refine (eqCacheSet_any _ _ p0 _ _ _ (by exact Cod.bel hrw4 (by repeat (first | with_reducible exact Below.refl _ _ | with_reducible assumption | with_reducible refine bel_alloc ?_ _ | with_reducible refine bel_drew ?_ | with_reducible refine bel_drewN ?_ _ | (with_reducible refine bel_set ?_ ?_ _; rotate_left; ((try simp); (try omega)))))) (by exact Cod.bel hrw7 (by repeat (first | with_reducible exact Below.refl _ _ | with_reducible assumption | with_reducible refine bel_alloc ?_ _ | with_reducible refine bel_drew ?_ | with_reducible refine bel_drewN ?_ _ | (with_reducible refine bel_set ?_ ?_ _; rotate_left; ((try simp); (try omega))))))).mono ?_; rintro e w8 ⟨rfl, hbw8⟩; have hbww8 : Below w6.heap.size w6 w8 := bel_then (by repeat (first | with_reducible exact Below.refl _ _ | with_reducible assumption | with_reducible refine bel_alloc ?_ _ | with_reducible refine bel_drew ?_ | with_reducible refine bel_drewN ?_ _ | (with_reducible refine bel_set ?_ ?_ _; rotate_left; ((try simp); (try omega))))) hbw8))
    have hbZw8 := hbww8
    have hsw8 := hbZw8.size
    (try simp at hsw8)
    have hzw8_0 : w.heap.size < w8.heap.size := by omega
    have hzw8_1 : w3.heap.size < w8.heap.size := by omega
    have hzw8_2 : w4.heap.size < w8.heap.size := by omega
    have hzw8_3 : w5.heap.size < w8.heap.size := by omega
    have hBw8 : Below w.heap.size w w8 := bel_then (by repeat (first | with_reducible exact Below.refl _ _ | with_reducible assumption | with_reducible refine bel_alloc ?_ _ | with_reducible refine bel_drew ?_ | with_reducible refine bel_drewN ?_ _ | (with_reducible refine bel_set ?_ ?_ _; rotate_left; ((try simp); (try omega))))) hbZw8
    replace hrw2 := Cod.bel hrw2 (show Below _ _ w8 from bel_then (by repeat (first | with_reducible exact Below.refl _ _ | with_reducible assumption | with_reducible refine bel_alloc ?_ _ | with_reducible refine bel_drew ?_ | with_reducible refine bel_drewN ?_ _ | (with_reducible refine bel_set ?_ ?_ _; rotate_left; ((try simp); (try omega))))) hbZw8)
    replace hrw3 := Cod.bel hrw3 (show Below _ _ w8 from bel_then (by repeat (first | with_reducible exact Below.refl _ _ | with_reducible assumption | with_reducible refine bel_alloc ?_ _ | with_reducible refine bel_drew ?_ | with_reducible refine bel_drewN ?_ _ | (with_reducible refine bel_set ?_ ?_ _; rotate_left; ((try simp); (try omega))))) hbZw8)
    replace hrw4 := Cod.bel hrw4 (show Below _ _ w8 from bel_then (by repeat (first | with_reducible exact Below.refl _ _ | with_reducible assumption | with_reducible refine bel_alloc ?_ _ | with_reducible refine bel_drew ?_ | with_reducible refine bel_drewN ?_ _ | (with_reducible refine bel_set ?_ ?_ _; rotate_left; ((try simp); (try omega))))) hbZw8)
    replace hrw5 := Cod.bel hrw5 (show Below _ _ w8 from bel_then (by repeat (first | with_reducible exact Below.refl _ _ | with_reducible assumption | with_reducible refine bel_alloc ?_ _ | with_reducible refine bel_drew ?_ | with_reducible refine bel_drewN ?_ _ | (with_reducible refine bel_set ?_ ?_ _; rotate_left; ((try simp); (try omega))))) hbZw8)
    obtain ⟨hcw8, hfzw8, -⟩ := bcell hbZw8
    clear hbZw8
    go_wp2_with fail
    have ctw9 : ((TCSet.tcn p0 : Nat) : Int) ≤ 449999999 := (by have h1 := TCSet.tcn_le p0; have h2 := z0; omega)
    refine (markCacheSet_any _ p0 _ _ _ (by exact Cod.bel hrw4 (by repeat (first | with_reducible exact Below.refl _ _ | with_reducible assumption | with_reducible refine bel_alloc ?_ _ | with_reducible refine bel_drew ?_ | with_reducible refine bel_drewN ?_ _ | (with_reducible refine bel_set ?_ ?_ _; rotate_left; ((try simp); (try omega)))))) hfw4.2 (by omega) (by omega)).mono ?_
    rintro e w9 ⟨rfl, how9, hmw9⟩
    have hsw9 := how9.size
    (try simp at hsw9)
    have hzw9_0 : w.heap.size < w9.heap.size := by omega
    have hzw9_1 : w3.heap.size < w9.heap.size := by omega
    have hzw9_2 : w4.heap.size < w9.heap.size := by omega
    have hzw9_3 : w5.heap.size < w9.heap.size := by omega
    have hnw9_0 : w.heap.size ∉ Gw4 := fun hm => by have h1 := hfw4.1 _ hm; have h2 := hlrw4 _ hm; (try simp at h1); omega
    have hcw9_0 : ∀ o : Nat, w9.cell? ⟨w.heap.size, o, none⟩ = _ := fun o => World.cell?_of_block (a := ⟨w.heap.size, o, none⟩) (how9.block (w.heap.size) (by (try simp); (try omega)) hnw9_0)
    clear hnw9_0
    have hnw9_1 : w3.heap.size ∉ Gw4 := fun hm => by have h1 := hfw4.1 _ hm; have h2 := hlrw4 _ hm; (try simp at h1); omega
    have hcw9_1 : ∀ o : Nat, w9.cell? ⟨w3.heap.size, o, none⟩ = _ := fun o => World.cell?_of_block (a := ⟨w3.heap.size, o, none⟩) (how9.block (w3.heap.size) (by (try simp); (try omega)) hnw9_1)
    clear hnw9_1
    have hnw9_2 : w4.heap.size ∉ Gw4 := fun hm => by have h1 := hfw4.1 _ hm; have h2 := hlrw4 _ hm; (try simp at h1); omega
    have hcw9_2 : ∀ o : Nat, w9.cell? ⟨w4.heap.size, o, none⟩ = _ := fun o => World.cell?_of_block (a := ⟨w4.heap.size, o, none⟩) (how9.block (w4.heap.size) (by (try simp); (try omega)) hnw9_2)
    clear hnw9_2
    have hnw9_3 : w5.heap.size ∉ Gw4 := fun hm => by have h1 := hfw4.1 _ hm; have h2 := hlrw4 _ hm; (try simp at h1); omega
    have hcw9_3 : ∀ o : Nat, w9.cell? ⟨w5.heap.size, o, none⟩ = _ := fun o => World.cell?_of_block (a := ⟨w5.heap.size, o, none⟩) (how9.block (w5.heap.size) (by (try simp); (try omega)) hnw9_3)
    clear hnw9_3
    have hBw9 : Below w.heap.size w w9 := Below.trans (show Below w.heap.size w _ from (by repeat (first | with_reducible exact Below.refl _ _ | with_reducible assumption | with_reducible refine bel_alloc ?_ _ | with_reducible refine bel_drew ?_ | with_reducible refine bel_drewN ?_ _ | (with_reducible refine bel_set ?_ ?_ _; rotate_left; ((try simp); (try omega)))))) (how9.bel _ (by have := hBw8.size; (try simp); (try omega)) (fun b hb => by have h1 := hfw4.1 _ hb; have := hBw8.size; (try simp at h1); omega))
    replace hrw2 := Cod.only (Cod.bel hrw2 (by repeat (first | with_reducible exact Below.refl _ _ | with_reducible assumption | with_reducible refine bel_alloc ?_ _ | with_reducible refine bel_drew ?_ | with_reducible refine bel_drewN ?_ _ | (with_reducible refine bel_set ?_ ?_ _; rotate_left; ((try simp); (try omega)))))) how9 (fun b h1 h2 => by have e1 := hlrw2 b h1; have e2 := hfw4.1 b h2; (try simp at e2); omega)
    replace hrw3 := Cod.only (Cod.bel hrw3 (by repeat (first | with_reducible exact Below.refl _ _ | with_reducible assumption | with_reducible refine bel_alloc ?_ _ | with_reducible refine bel_drew ?_ | with_reducible refine bel_drewN ?_ _ | (with_reducible refine bel_set ?_ ?_ _; rotate_left; ((try simp); (try omega)))))) how9 (fun b h1 h2 => by have e1 := hlrw3 b h1; have e2 := hfw4.1 b h2; (try simp at e2); omega)
    replace hrw5 := Cod.only (Cod.bel hrw5 (by repeat (first | with_reducible exact Below.refl _ _ | with_reducible assumption | with_reducible refine bel_alloc ?_ _ | with_reducible refine bel_drew ?_ | with_reducible refine bel_drewN ?_ _ | (with_reducible refine bel_set ?_ ?_ _; rotate_left; ((try simp); (try omega)))))) how9 (fun b h1 h2 => by have e1 := hlrw4 b h2; have e2 := hfw5.1 b h1; (try simp at e2); omega)
    clear hrw4
    have hrw4 := hmw9
    clear how9
    go_wp2_with fail
    refine (eqCacheSet_any _ _ ((openCache p0 p1).1) _ _ _ (by exact Cod.bel hrw5 (by repeat (first | with_reducible exact Below.refl _ _ | with_reducible assumption | with_reducible refine bel_alloc ?_ _ | with_reducible refine bel_drew ?_ | with_reducible refine bel_drewN ?_ _ | (with_reducible refine bel_set ?_ ?_ _; rotate_left; ((try simp); (try omega)))))) (by exact Cod.bel hrw3 (by repeat (first | with_reducible exact Below.refl _ _ | with_reducible assumption | with_reducible refine bel_alloc ?_ _ | with_reducible refine bel_drew ?_ | with_reducible refine bel_drewN ?_ _ | (with_reducible refine bel_set ?_ ?_ _; rotate_left; ((try simp); (try omega))))))).mono ?_
    rintro e w10 ⟨rfl, hbw10⟩
    have hsw10 := hbw10.size
    (try simp at hsw10)
    have hzw10_0 : w.heap.size < w10.heap.size := by omega
    have hzw10_1 : w3.heap.size < w10.heap.size := by omega
    have hzw10_2 : w4.heap.size < w10.heap.size := by omega
    have hzw10_3 : w5.heap.size < w10.heap.size := by omega
    have hBw10 : Below w.heap.size w w10 := bel_then (by repeat (first | with_reducible exact Below.refl _ _ | with_reducible assumption | with_reducible refine bel_alloc ?_ _ | with_reducible refine bel_drew ?_ | with_reducible refine bel_drewN ?_ _ | (with_reducible refine bel_set ?_ ?_ _; rotate_left; ((try simp); (try omega))))) hbw10
    replace hrw2 := Cod.bel hrw2 (show Below _ _ w10 from bel_then (by repeat (first | with_reducible exact Below.refl _ _ | with_reducible assumption | with_reducible refine bel_alloc ?_ _ | with_reducible refine bel_drew ?_ | with_reducible refine bel_drewN ?_ _ | (with_reducible refine bel_set ?_ ?_ _; rotate_left; ((try simp); (try omega))))) hbw10)
    replace hrw3 := Cod.bel hrw3 (show Below _ _ w10 from bel_then (by repeat (first | with_reducible exact Below.refl _ _ | with_reducible assumption | with_reducible refine bel_alloc ?_ _ | with_reducible refine bel_drew ?_ | with_reducible refine bel_drewN ?_ _ | (with_reducible refine bel_set ?_ ?_ _; rotate_left; ((try simp); (try omega))))) hbw10)
    replace hrw4 := Cod.bel hrw4 (show Below _ _ w10 from bel_then (by repeat (first | with_reducible exact Below.refl _ _ | with_reducible assumption | with_reducible refine bel_alloc ?_ _ | with_reducible refine bel_drew ?_ | with_reducible refine bel_drewN ?_ _ | (with_reducible refine bel_set ?_ ?_ _; rotate_left; ((try simp); (try omega))))) hbw10)
    replace hrw5 := Cod.bel hrw5 (show Below _ _ w10 from bel_then (by repeat (first | with_reducible exact Below.refl _ _ | with_reducible assumption | with_reducible refine bel_alloc ?_ _ | with_reducible refine bel_drew ?_ | with_reducible refine bel_drewN ?_ _ | (with_reducible refine bel_set ?_ ?_ _; rotate_left; ((try simp); (try omega))))) hbw10)
    obtain ⟨hcw10, hfzw10, -⟩ := bcell hbw10
    clear hbw10
    go_wp2_with fail
    have ctw11 : ((TCSet.tcn ((openCache p0 p1).1) : Nat) : Int) ≤ 449999999 := (by have h1 := TCSet.tcn_le ((openCache p0 p1).1); have h2 := zr; omega)
    refine (markCacheSet_any _ ((openCache p0 p1).1) _ _ _ (by exact Cod.bel hrw5 (by repeat (first | with_reducible exact Below.refl _ _ | with_reducible assumption | with_reducible refine bel_alloc ?_ _ | with_reducible refine bel_drew ?_ | with_reducible refine bel_drewN ?_ _ | (with_reducible refine bel_set ?_ ?_ _; rotate_left; ((try simp); (try omega)))))) hfw5.2 (by omega) (by omega)).mono ?_
    rintro e w11 ⟨rfl, how11, hmw11⟩
    have hsw11 := how11.size
    (try simp at hsw11)
    have hzw11_0 : w.heap.size < w11.heap.size := by omega
    have hzw11_1 : w3.heap.size < w11.heap.size := by omega
    have hzw11_2 : w4.heap.size < w11.heap.size := by omega
    have hzw11_3 : w5.heap.size < w11.heap.size := by omega
    have hnw11_0 : w.heap.size ∉ Gw5 := fun hm => by have h1 := hfw5.1 _ hm; have h2 := hlrw5 _ hm; (try simp at h1); omega
    have hcw11_0 : ∀ o : Nat, w11.cell? ⟨w.heap.size, o, none⟩ = _ := fun o => World.cell?_of_block (a := ⟨w.heap.size, o, none⟩) (how11.block (w.heap.size) (by (try simp); (try omega)) hnw11_0)
    clear hnw11_0
    have hnw11_1 : w3.heap.size ∉ Gw5 := fun hm => by have h1 := hfw5.1 _ hm; have h2 := hlrw5 _ hm; (try simp at h1); omega
    have hcw11_1 : ∀ o : Nat, w11.cell? ⟨w3.heap.size, o, none⟩ = _ := fun o => World.cell?_of_block (a := ⟨w3.heap.size, o, none⟩) (how11.block (w3.heap.size) (by (try simp); (try omega)) hnw11_1)
    clear hnw11_1
    have hnw11_2 : w4.heap.size ∉ Gw5 := fun hm => by have h1 := hfw5.1 _ hm; have h2 := hlrw5 _ hm; (try simp at h1); omega
    have hcw11_2 : ∀ o : Nat, w11.cell? ⟨w4.heap.size, o, none⟩ = _ := fun o => World.cell?_of_block (a := ⟨w4.heap.size, o, none⟩) (how11.block (w4.heap.size) (by (try simp); (try omega)) hnw11_2)
    clear hnw11_2
    have hnw11_3 : w5.heap.size ∉ Gw5 := fun hm => by have h1 := hfw5.1 _ hm; have h2 := hlrw5 _ hm; (try simp at h1); omega
    have hcw11_3 : ∀ o : Nat, w11.cell? ⟨w5.heap.size, o, none⟩ = _ := fun o => World.cell?_of_block (a := ⟨w5.heap.size, o, none⟩) (how11.block (w5.heap.size) (by (try simp); (try omega)) hnw11_3)
    clear hnw11_3
    have hBw11 : Below w.heap.size w w11 := Below.trans (show Below w.heap.size w _ from (by repeat (first | with_reducible exact Below.refl _ _ | with_reducible assumption | with_reducible refine bel_alloc ?_ _ | with_reducible refine bel_drew ?_ | with_reducible refine bel_drewN ?_ _ | (with_reducible refine bel_set ?_ ?_ _; rotate_left; ((try simp); (try omega)))))) (how11.bel _ (by have := hBw10.size; (try simp); (try omega)) (fun b hb => by have h1 := hfw5.1 _ hb; have := hBw10.size; (try simp at h1); omega))
    replace hrw2 := Cod.only (Cod.bel hrw2 (by repeat (first | with_reducible exact Below.refl _ _ | with_reducible assumption | with_reducible refine bel_alloc ?_ _ | with_reducible refine bel_drew ?_ | with_reducible refine bel_drewN ?_ _ | (with_reducible refine bel_set ?_ ?_ _; rotate_left; ((try simp); (try omega)))))) how11 (fun b h1 h2 => by have e1 := hlrw2 b h1; have e2 := hfw5.1 b h2; (try simp at e2); omega)
    replace hrw3 := Cod.only (Cod.bel hrw3 (by repeat (first | with_reducible exact Below.refl _ _ | with_reducible assumption | with_reducible refine bel_alloc ?_ _ | with_reducible refine bel_drew ?_ | with_reducible refine bel_drewN ?_ _ | (with_reducible refine bel_set ?_ ?_ _; rotate_left; ((try simp); (try omega)))))) how11 (fun b h1 h2 => by have e1 := hlrw3 b h1; have e2 := hfw5.1 b h2; (try simp at e2); omega)
    replace hrw4 := Cod.only (Cod.bel hrw4 (by repeat (first | with_reducible exact Below.refl _ _ | with_reducible assumption | with_reducible refine bel_alloc ?_ _ | with_reducible refine bel_drew ?_ | with_reducible refine bel_drewN ?_ _ | (with_reducible refine bel_set ?_ ?_ _; rotate_left; ((try simp); (try omega)))))) how11 (fun b h1 h2 => by have e1 := hlrw4 b h1; have e2 := hfw5.1 b h2; (try simp at e2); omega)
    clear hrw5
    have hrw5 := hmw11
    clear how11
    go_wp2_with fail
    refine (heldCacheSet_any _ ((openCache p0 p1).1) _ _ _ (by exact Cod.bel hrw5 (by repeat (first | with_reducible exact Below.refl _ _ | with_reducible assumption | with_reducible refine bel_alloc ?_ _ | with_reducible refine bel_drew ?_ | with_reducible refine bel_drewN ?_ _ | (with_reducible refine bel_set ?_ ?_ _; rotate_left; ((try simp); (try omega)))))) (by omega) (by omega)).mono ?_
    rintro e w12 ⟨rfl, hbw12⟩
    have hsw12 := hbw12.size
    (try simp at hsw12)
    have hzw12_0 : w.heap.size < w12.heap.size := by omega
    have hzw12_1 : w3.heap.size < w12.heap.size := by omega
    have hzw12_2 : w4.heap.size < w12.heap.size := by omega
    have hzw12_3 : w5.heap.size < w12.heap.size := by omega
    have hBw12 : Below w.heap.size w w12 := bel_then (by repeat (first | with_reducible exact Below.refl _ _ | with_reducible assumption | with_reducible refine bel_alloc ?_ _ | with_reducible refine bel_drew ?_ | with_reducible refine bel_drewN ?_ _ | (with_reducible refine bel_set ?_ ?_ _; rotate_left; ((try simp); (try omega))))) hbw12
    replace hrw2 := Cod.bel hrw2 (show Below _ _ w12 from bel_then (by repeat (first | with_reducible exact Below.refl _ _ | with_reducible assumption | with_reducible refine bel_alloc ?_ _ | with_reducible refine bel_drew ?_ | with_reducible refine bel_drewN ?_ _ | (with_reducible refine bel_set ?_ ?_ _; rotate_left; ((try simp); (try omega))))) hbw12)
    replace hrw3 := Cod.bel hrw3 (show Below _ _ w12 from bel_then (by repeat (first | with_reducible exact Below.refl _ _ | with_reducible assumption | with_reducible refine bel_alloc ?_ _ | with_reducible refine bel_drew ?_ | with_reducible refine bel_drewN ?_ _ | (with_reducible refine bel_set ?_ ?_ _; rotate_left; ((try simp); (try omega))))) hbw12)
    replace hrw4 := Cod.bel hrw4 (show Below _ _ w12 from bel_then (by repeat (first | with_reducible exact Below.refl _ _ | with_reducible assumption | with_reducible refine bel_alloc ?_ _ | with_reducible refine bel_drew ?_ | with_reducible refine bel_drewN ?_ _ | (with_reducible refine bel_set ?_ ?_ _; rotate_left; ((try simp); (try omega))))) hbw12)
    replace hrw5 := Cod.bel hrw5 (show Below _ _ w12 from bel_then (by repeat (first | with_reducible exact Below.refl _ _ | with_reducible assumption | with_reducible refine bel_alloc ?_ _ | with_reducible refine bel_drew ?_ | with_reducible refine bel_drewN ?_ _ | (with_reducible refine bel_set ?_ ?_ _; rotate_left; ((try simp); (try omega))))) hbw12)
    obtain ⟨hcw12, hfzw12, -⟩ := bcell hbw12
    clear hbw12
    go_wp2_with fail
    refine (toCacheSet_any _ p0 _ _ (by exact Cod.bel h0 (by repeat (first | with_reducible exact Below.refl _ _ | with_reducible assumption | with_reducible refine bel_alloc ?_ _ | with_reducible refine bel_drew ?_ | with_reducible refine bel_drewN ?_ _ | (with_reducible refine bel_set ?_ ?_ _; rotate_left; ((try simp); (try omega)))))) z0).mono ?_
    rintro e w13 ⟨uw13, Gw13, rfl, hbw13, hrw13, hfw13⟩
    have drw13 := hrw13
    obtain ⟨vrw13_0, Erw13_0, rfl, -, -, mrw13_0⟩ := TCSet.outA drw13
    obtain ⟨Arw13_0, crw13_0, erw13_0⟩ := cL_form mrw13_0
    subst erw13_0
    clear mrw13_0 drw13
    have hsw13 := hbw13.size
    (try simp at hsw13)
    have hzw13_0 : w.heap.size < w13.heap.size := by omega
    have hzw13_1 : w3.heap.size < w13.heap.size := by omega
    have hzw13_2 : w4.heap.size < w13.heap.size := by omega
    have hzw13_3 : w5.heap.size < w13.heap.size := by omega
    have hBw13 : Below w.heap.size w w13 := bel_then (by repeat (first | with_reducible exact Below.refl _ _ | with_reducible assumption | with_reducible refine bel_alloc ?_ _ | with_reducible refine bel_drew ?_ | with_reducible refine bel_drewN ?_ _ | (with_reducible refine bel_set ?_ ?_ _; rotate_left; ((try simp); (try omega))))) hbw13
    replace hrw2 := Cod.bel hrw2 (show Below _ _ w13 from bel_then (by repeat (first | with_reducible exact Below.refl _ _ | with_reducible assumption | with_reducible refine bel_alloc ?_ _ | with_reducible refine bel_drew ?_ | with_reducible refine bel_drewN ?_ _ | (with_reducible refine bel_set ?_ ?_ _; rotate_left; ((try simp); (try omega))))) hbw13)
    replace hrw3 := Cod.bel hrw3 (show Below _ _ w13 from bel_then (by repeat (first | with_reducible exact Below.refl _ _ | with_reducible assumption | with_reducible refine bel_alloc ?_ _ | with_reducible refine bel_drew ?_ | with_reducible refine bel_drewN ?_ _ | (with_reducible refine bel_set ?_ ?_ _; rotate_left; ((try simp); (try omega))))) hbw13)
    replace hrw4 := Cod.bel hrw4 (show Below _ _ w13 from bel_then (by repeat (first | with_reducible exact Below.refl _ _ | with_reducible assumption | with_reducible refine bel_alloc ?_ _ | with_reducible refine bel_drew ?_ | with_reducible refine bel_drewN ?_ _ | (with_reducible refine bel_set ?_ ?_ _; rotate_left; ((try simp); (try omega))))) hbw13)
    replace hrw5 := Cod.bel hrw5 (show Below _ _ w13 from bel_then (by repeat (first | with_reducible exact Below.refl _ _ | with_reducible assumption | with_reducible refine bel_alloc ?_ _ | with_reducible refine bel_drew ?_ | with_reducible refine bel_drewN ?_ _ | (with_reducible refine bel_set ?_ ?_ _; rotate_left; ((try simp); (try omega))))) hbw13)
    have hlrw13 : ∀ b, b ∈ Gw13 → b < w13.heap.size := fun b hb => Cod.lt _ hrw13 b hb
    obtain ⟨hcw13, hfzw13, -⟩ := bcell hbw13
    clear hbw13
    go_wp2_with fail
    refine (implOpenCache_any _ p0 _ p1 _ (by exact Cod.bel hrw13 (by repeat (first | with_reducible exact Below.refl _ _ | with_reducible assumption | with_reducible refine bel_alloc ?_ _ | with_reducible refine bel_drew ?_ | with_reducible refine bel_drewN ?_ _ | (with_reducible refine bel_set ?_ ?_ _; rotate_left; ((try simp); (try omega)))))) z0 h1).mono ?_
    rintro e w14 ⟨uw14, Gw14, rfl, hbw14, hrw14, hfw14⟩
    have drw14 := hrw14
    obtain ⟨vrw14_0, Erw14_0, rfl, -, -, mrw14_0⟩ := TCSet.outA drw14
    obtain ⟨Arw14_0, crw14_0, erw14_0⟩ := cL_form mrw14_0
    subst erw14_0
    clear mrw14_0 drw14
    have hsw14 := hbw14.size
    (try simp at hsw14)
    have hzw14_0 : w.heap.size < w14.heap.size := by omega
    have hzw14_1 : w3.heap.size < w14.heap.size := by omega
    have hzw14_2 : w4.heap.size < w14.heap.size := by omega
    have hzw14_3 : w5.heap.size < w14.heap.size := by omega
    have hBw14 : Below w.heap.size w w14 := bel_then (by repeat (first | with_reducible exact Below.refl _ _ | with_reducible assumption | with_reducible refine bel_alloc ?_ _ | with_reducible refine bel_drew ?_ | with_reducible refine bel_drewN ?_ _ | (with_reducible refine bel_set ?_ ?_ _; rotate_left; ((try simp); (try omega))))) hbw14
    replace hrw2 := Cod.bel hrw2 (show Below _ _ w14 from bel_then (by repeat (first | with_reducible exact Below.refl _ _ | with_reducible assumption | with_reducible refine bel_alloc ?_ _ | with_reducible refine bel_drew ?_ | with_reducible refine bel_drewN ?_ _ | (with_reducible refine bel_set ?_ ?_ _; rotate_left; ((try simp); (try omega))))) hbw14)
    replace hrw3 := Cod.bel hrw3 (show Below _ _ w14 from bel_then (by repeat (first | with_reducible exact Below.refl _ _ | with_reducible assumption | with_reducible refine bel_alloc ?_ _ | with_reducible refine bel_drew ?_ | with_reducible refine bel_drewN ?_ _ | (with_reducible refine bel_set ?_ ?_ _; rotate_left; ((try simp); (try omega))))) hbw14)
    replace hrw4 := Cod.bel hrw4 (show Below _ _ w14 from bel_then (by repeat (first | with_reducible exact Below.refl _ _ | with_reducible assumption | with_reducible refine bel_alloc ?_ _ | with_reducible refine bel_drew ?_ | with_reducible refine bel_drewN ?_ _ | (with_reducible refine bel_set ?_ ?_ _; rotate_left; ((try simp); (try omega))))) hbw14)
    replace hrw5 := Cod.bel hrw5 (show Below _ _ w14 from bel_then (by repeat (first | with_reducible exact Below.refl _ _ | with_reducible assumption | with_reducible refine bel_alloc ?_ _ | with_reducible refine bel_drew ?_ | with_reducible refine bel_drewN ?_ _ | (with_reducible refine bel_set ?_ ?_ _; rotate_left; ((try simp); (try omega))))) hbw14)
    replace hrw13 := Cod.bel hrw13 (show Below _ _ w14 from bel_then (by repeat (first | with_reducible exact Below.refl _ _ | with_reducible assumption | with_reducible refine bel_alloc ?_ _ | with_reducible refine bel_drew ?_ | with_reducible refine bel_drewN ?_ _ | (with_reducible refine bel_set ?_ ?_ _; rotate_left; ((try simp); (try omega))))) hbw14)
    have hlrw14 : ∀ b, b ∈ Gw14 → b < w14.heap.size := fun b hb => Cod.lt _ hrw14 b hb
    obtain ⟨hcw14, hfzw14, -⟩ := bcell hbw14
    clear hbw14
    go_wp2_with fail
    refine (eqCacheSet_any _ _ ((openCache p0 p1).1) _ _ _ (by exact Cod.bel hrw14 (by repeat (first | with_reducible exact Below.refl _ _ | with_reducible assumption | with_reducible refine bel_alloc ?_ _ | with_reducible refine bel_drew ?_ | with_reducible refine bel_drewN ?_ _ | (with_reducible refine bel_set ?_ ?_ _; rotate_left; ((try simp); (try omega)))))) (by exact Cod.bel hrw3 (by repeat (first | with_reducible exact Below.refl _ _ | with_reducible assumption | with_reducible refine bel_alloc ?_ _ | with_reducible refine bel_drew ?_ | with_reducible refine bel_drewN ?_ _ | (with_reducible refine bel_set ?_ ?_ _; rotate_left; ((try simp); (try omega))))))).mono ?_
    rintro e w15 ⟨rfl, hbw15⟩
    have hsw15 := hbw15.size
    (try simp at hsw15)
    have hzw15_0 : w.heap.size < w15.heap.size := by omega
    have hzw15_1 : w3.heap.size < w15.heap.size := by omega
    have hzw15_2 : w4.heap.size < w15.heap.size := by omega
    have hzw15_3 : w5.heap.size < w15.heap.size := by omega
    have hzw15_4 : w14.heap.size < w15.heap.size := by omega
    have hBw15 : Below w.heap.size w w15 := bel_then (by repeat (first | with_reducible exact Below.refl _ _ | with_reducible assumption | with_reducible refine bel_alloc ?_ _ | with_reducible refine bel_drew ?_ | with_reducible refine bel_drewN ?_ _ | (with_reducible refine bel_set ?_ ?_ _; rotate_left; ((try simp); (try omega))))) hbw15
    replace hrw2 := Cod.bel hrw2 (show Below _ _ w15 from bel_then (by repeat (first | with_reducible exact Below.refl _ _ | with_reducible assumption | with_reducible refine bel_alloc ?_ _ | with_reducible refine bel_drew ?_ | with_reducible refine bel_drewN ?_ _ | (with_reducible refine bel_set ?_ ?_ _; rotate_left; ((try simp); (try omega))))) hbw15)
    replace hrw3 := Cod.bel hrw3 (show Below _ _ w15 from bel_then (by repeat (first | with_reducible exact Below.refl _ _ | with_reducible assumption | with_reducible refine bel_alloc ?_ _ | with_reducible refine bel_drew ?_ | with_reducible refine bel_drewN ?_ _ | (with_reducible refine bel_set ?_ ?_ _; rotate_left; ((try simp); (try omega))))) hbw15)
    replace hrw4 := Cod.bel hrw4 (show Below _ _ w15 from bel_then (by repeat (first | with_reducible exact Below.refl _ _ | with_reducible assumption | with_reducible refine bel_alloc ?_ _ | with_reducible refine bel_drew ?_ | with_reducible refine bel_drewN ?_ _ | (with_reducible refine bel_set ?_ ?_ _; rotate_left; ((try simp); (try omega))))) hbw15)
    replace hrw5 := Cod.bel hrw5 (show Below _ _ w15 from bel_then (by repeat (first | with_reducible exact Below.refl _ _ | with_reducible assumption | with_reducible refine bel_alloc ?_ _ | with_reducible refine bel_drew ?_ | with_reducible refine bel_drewN ?_ _ | (with_reducible refine bel_set ?_ ?_ _; rotate_left; ((try simp); (try omega))))) hbw15)
    replace hrw13 := Cod.bel hrw13 (show Below _ _ w15 from bel_then (by repeat (first | with_reducible exact Below.refl _ _ | with_reducible assumption | with_reducible refine bel_alloc ?_ _ | with_reducible refine bel_drew ?_ | with_reducible refine bel_drewN ?_ _ | (with_reducible refine bel_set ?_ ?_ _; rotate_left; ((try simp); (try omega))))) hbw15)
    replace hrw14 := Cod.bel hrw14 (show Below _ _ w15 from bel_then (by repeat (first | with_reducible exact Below.refl _ _ | with_reducible assumption | with_reducible refine bel_alloc ?_ _ | with_reducible refine bel_drew ?_ | with_reducible refine bel_drewN ?_ _ | (with_reducible refine bel_set ?_ ?_ _; rotate_left; ((try simp); (try omega))))) hbw15)
    obtain ⟨hcw15, hfzw15, -⟩ := bcell hbw15
    clear hbw15
    go_wp2_with fail
    refine (heldCacheSet_any _ ((openCache p0 p1).1) _ _ _ (by exact Cod.bel hrw5 (by repeat (first | with_reducible exact Below.refl _ _ | with_reducible assumption | with_reducible refine bel_alloc ?_ _ | with_reducible refine bel_drew ?_ | with_reducible refine bel_drewN ?_ _ | (with_reducible refine bel_set ?_ ?_ _; rotate_left; ((try simp); (try omega)))))) (by omega) (by omega)).mono ?_
    rintro e w16 ⟨rfl, hbw16⟩
    have hsw16 := hbw16.size
    (try simp at hsw16)
    have hzw16_0 : w.heap.size < w16.heap.size := by omega
    have hzw16_1 : w3.heap.size < w16.heap.size := by omega
    have hzw16_2 : w4.heap.size < w16.heap.size := by omega
    have hzw16_3 : w5.heap.size < w16.heap.size := by omega
    have hzw16_4 : w14.heap.size < w16.heap.size := by omega
    have hBw16 : Below w.heap.size w w16 := bel_then (by repeat (first | with_reducible exact Below.refl _ _ | with_reducible assumption | with_reducible refine bel_alloc ?_ _ | with_reducible refine bel_drew ?_ | with_reducible refine bel_drewN ?_ _ | (with_reducible refine bel_set ?_ ?_ _; rotate_left; ((try simp); (try omega))))) hbw16
    replace hrw2 := Cod.bel hrw2 (show Below _ _ w16 from bel_then (by repeat (first | with_reducible exact Below.refl _ _ | with_reducible assumption | with_reducible refine bel_alloc ?_ _ | with_reducible refine bel_drew ?_ | with_reducible refine bel_drewN ?_ _ | (with_reducible refine bel_set ?_ ?_ _; rotate_left; ((try simp); (try omega))))) hbw16)
    replace hrw3 := Cod.bel hrw3 (show Below _ _ w16 from bel_then (by repeat (first | with_reducible exact Below.refl _ _ | with_reducible assumption | with_reducible refine bel_alloc ?_ _ | with_reducible refine bel_drew ?_ | with_reducible refine bel_drewN ?_ _ | (with_reducible refine bel_set ?_ ?_ _; rotate_left; ((try simp); (try omega))))) hbw16)
    replace hrw4 := Cod.bel hrw4 (show Below _ _ w16 from bel_then (by repeat (first | with_reducible exact Below.refl _ _ | with_reducible assumption | with_reducible refine bel_alloc ?_ _ | with_reducible refine bel_drew ?_ | with_reducible refine bel_drewN ?_ _ | (with_reducible refine bel_set ?_ ?_ _; rotate_left; ((try simp); (try omega))))) hbw16)
    replace hrw5 := Cod.bel hrw5 (show Below _ _ w16 from bel_then (by repeat (first | with_reducible exact Below.refl _ _ | with_reducible assumption | with_reducible refine bel_alloc ?_ _ | with_reducible refine bel_drew ?_ | with_reducible refine bel_drewN ?_ _ | (with_reducible refine bel_set ?_ ?_ _; rotate_left; ((try simp); (try omega))))) hbw16)
    replace hrw13 := Cod.bel hrw13 (show Below _ _ w16 from bel_then (by repeat (first | with_reducible exact Below.refl _ _ | with_reducible assumption | with_reducible refine bel_alloc ?_ _ | with_reducible refine bel_drew ?_ | with_reducible refine bel_drewN ?_ _ | (with_reducible refine bel_set ?_ ?_ _; rotate_left; ((try simp); (try omega))))) hbw16)
    replace hrw14 := Cod.bel hrw14 (show Below _ _ w16 from bel_then (by repeat (first | with_reducible exact Below.refl _ _ | with_reducible assumption | with_reducible refine bel_alloc ?_ _ | with_reducible refine bel_drew ?_ | with_reducible refine bel_drewN ?_ _ | (with_reducible refine bel_set ?_ ?_ _; rotate_left; ((try simp); (try omega))))) hbw16)
    obtain ⟨hcw16, hfzw16, -⟩ := bcell hbw16
    clear hbw16
    go_wp2_with fail
    go_ret
    exact ⟨rfl, (by repeat (first | with_reducible exact Below.refl _ _ | with_reducible assumption | with_reducible refine bel_alloc ?_ _ | with_reducible refine bel_drew ?_ | with_reducible refine bel_drewN ?_ _ | (with_reducible refine bel_set ?_ ?_ _; rotate_left; ((try simp); (try omega)))))⟩

set_option maxRecDepth 100000 in
theorem lawOpenCache_walk (H : Type) (enc : TypeId × Value → H) (W : World) (base : Nat) (args : Array Value) (ds : List (DataW H)) (p : List MemPlace)
    (hval : ∀ (j : Nat) t v, Try.f7.params[j]? = some t → args[j]? = some v → Value.okWide Try.prog W .any base t v)
    (hA : DataW.TrodAll enc Try.prog W 0 (fun _ => true) true Try.f7.params.toList args.toList ds p) (hf : W.noneFrozen p) :
    Calls Try.prog 7 args W (Gives W (.bool true)) := by
  rw [Try.params7] at hA hval
  obtain ⟨v0, vs0, d0, ds0, q0, s0, hargs, rfl, rfl, k0, t0⟩ := trodAll_cons hA
  obtain ⟨v1, vs1, d1, ds1, q1, s1, rfl, rfl, rfl, k1, t1⟩ := trodAll_cons t0
  obtain ⟨rfl, rfl, rfl⟩ := trodAll_nil t1
  obtain rfl : args = #[v0, v1] := by cases args; simp_all
  obtain ⟨cs0, x0, F0, rfl, hx0⟩ := opens_lCSet.struct_ Try.underlying86 (hval 0 _ _ rfl rfl) k0 (noneFrozen_mono hf fun y hy => by simp [hy])
  obtain ⟨x1, rfl, rfl, rfl, hx1⟩ := open_int Try.underlying3 (hval 1 _ _ rfl rfl) k1
  exact lawOpenCache_any cs0 x0 F0 x1 W hx0 (by simpa [Lit.wf, IntKind.min, IntKind.max, IntKind.signed, IntKind.bits] using hx1)

set_option maxRecDepth 100000 in
theorem lawOpenCache_lifted (os : Os) (started : os.Started) (H : Type) (enc : TypeId × Value → H) :
    ReturnsInHanded {} Try.checked os 7 .any (Rows.fnExactOpenCacheSpec.pre6 enc Try.prog Try.f7 Rows.fnExactOpenCacheRow.domain false) (Rows.fnExactOpenCacheSpec.post enc Try.prog Try.f7 false true false false) := by
  refine returnsInHanded_of_change (C := Try.checked) (by kernel_rfl) started (by kernel_rfl) Try.func7
    (ChangeSpec.witness6 (enc := enc) (C := Try.checked) false ⟨#[], #[.agg #[.slice none 0 0], .int .i64 0], []⟩ 16 (by kernel_rfl) (by kernel_rfl) (by kernel_rfl) (by kernel_rfl)) ?_
  intro W base args ds gs before hval hW _ _
  have hW' := hW
  obtain ⟨p, q, hA, hV, rfl, hfz, hnd⟩ := hW
  refine (lawOpenCache_walk H enc W base args ds p hval hA (noneFrozen_mono hfz fun y hy => by simp [hy])).mono fun e W' ⟨he, hb⟩ => ⟨_, he, ?_⟩
  exact law_post (by kernel_rfl) rfl (by kernel_rfl) Try.underlying4 (by kernel_rfl) (fun ds h => by
    match ds, h with
    | [d0, d1], _ => exact ⟨rfl, rfl, rfl⟩) hW' hb
theorem lawOpenCache_over : Rows.fnExactOpenCacheRow.holds Try.pinned (OpenSpec.ofChange Rows.fnExactOpenCacheSpec) :=
  OpenClaim.holds_of_wide 7 Try.f7 rfl rfl rfl rfl rfl rfl rfl ⟨rfl, rfl, rfl, rfl, rfl⟩ rfl rfl rfl rfl rfl (by kernel_rfl) Try.func7 (by kernel_rfl)
    (of_decide_eq_true (by kernel_rfl)) (by unfold Func.isWrapper; rw [if_neg (of_decide_eq_false (by kernel_rfl))]; exact ⟨rfl, rfl⟩)
    (fun os started H enc _ => lawOpenCache_lifted os started H enc)
/-- THE STATEMENT -/
theorem lawOpenCache_holds : Rows.FnExactOpenCacheSaid := lawOpenCache_over

end Go.Proofs.Ytlicnppfgfjkgaa
