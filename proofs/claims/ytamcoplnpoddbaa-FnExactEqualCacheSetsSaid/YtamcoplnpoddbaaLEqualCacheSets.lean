/-
  The law FnExactEqualCacheSets: for all arguments the program's EqualCacheSets returns what the reference's returns. No conditions.
-/
import Derived.Test.YtamcoplnpoddbaaRows
import Derived.Deep.RegionHeld3
import Derived.Test.YtamcoplnpoddbaaEqCSet
import Derived.Test.YtamcoplnpoddbaaEqCs
import Derived.Test.YtamcoplnpoddbaaToCSet
namespace Go.Proofs.Ytamcoplnpoddbaa
open Go.ChangeShapes Go.WideShapes Go.RowKit
open Go.ChangeMaps (open_string shut_string)
set_option linter.unusedVariables false

set_option maxRecDepth 100000 in
set_option maxHeartbeats 4000000 in
theorem lawEqualCacheSets_any (a0 : Array Value) (p0 : TCSet) (F0 : List Nat) (a1 : Array Value) (p1 : TCSet) (F1 : List Nat) (w : World) (h0 : cCSet.rep w a0.toList p0 F0) (h1 : cCSet.rep w a1.toList p1 F1) :
    Calls Try.prog 8 #[.agg a0, .agg a1] w (Gives w (.bool true)) := by
  have r0 := h0
  obtain ⟨v0_0, E0_0, rfl, -, -, m0_0⟩ := TCSet.outA r0
  obtain ⟨A0_0, c0_0, e0_0⟩ := cL_form m0_0
  subst e0_0
  clear m0_0
  clear r0
  have r1 := h1
  obtain ⟨v1_0, E1_0, rfl, -, -, m1_0⟩ := TCSet.outA r1
  obtain ⟨A1_0, c1_0, e1_0⟩ := cL_form m1_0
  subst e1_0
  clear m1_0
  clear r1
  go_enter Try.func8, Try.ntmps8
  go_wp2_with fail
  by_cases l0 : (1048576 - (cCSet.sz p0 : Nat) : Int) < 0
  · have HV := Lib.hid (leftOf_neg l0)
    refine (szCacheSet_any _ p0 _ _ _ (by exact Cod.bel h0 (by repeat (first | with_reducible exact Below.refl _ _ | with_reducible assumption | with_reducible refine bel_alloc ?_ _ | with_reducible refine bel_drew ?_ | with_reducible refine bel_drewN ?_ _ | (with_reducible refine bel_set ?_ ?_ _; rotate_left; ((try simp); (try omega)))))) (by omega) (by omega)).mono ?_
    rintro e w1 ⟨rfl, hbw1⟩
    rw [HV.out]
    have hBw1 : Below w.heap.size w w1 := bel_then (by repeat (first | with_reducible exact Below.refl _ _ | with_reducible assumption | with_reducible refine bel_alloc ?_ _ | with_reducible refine bel_drew ?_ | with_reducible refine bel_drewN ?_ _ | (with_reducible refine bel_set ?_ ?_ _; rotate_left; ((try simp); (try omega))))) hbw1
    go_wp2_with fail
    go_ret
    exact ⟨rfl, hBw1⟩
  · have HV := Lib.hid (leftOf_pos l0)
    have pz0 : 0 ≤ (1048576 - (cCSet.sz p0 : Nat) : Int) := by omega
    have z0 : cCSet.sz p0 ≤ 1048576 := by omega
    refine (szCacheSet_any _ p0 _ _ _ (by exact Cod.bel h0 (by repeat (first | with_reducible exact Below.refl _ _ | with_reducible assumption | with_reducible refine bel_alloc ?_ _ | with_reducible refine bel_drew ?_ | with_reducible refine bel_drewN ?_ _ | (with_reducible refine bel_set ?_ ?_ _; rotate_left; ((try simp); (try omega)))))) (by omega) (by omega)).mono ?_
    rintro e w1 ⟨rfl, hbw1⟩
    rw [HV.out]
    clear HV
    have hsw1 := hbw1.size
    (try simp at hsw1)
    have hzw1_0 : w.heap.size < w1.heap.size := by omega
    have hzw1_1 : w.heap.size + 1 < w1.heap.size := by omega
    have hBw1 : Below w.heap.size w w1 := bel_then (by repeat (first | with_reducible exact Below.refl _ _ | with_reducible assumption | with_reducible refine bel_alloc ?_ _ | with_reducible refine bel_drew ?_ | with_reducible refine bel_drewN ?_ _ | (with_reducible refine bel_set ?_ ?_ _; rotate_left; ((try simp); (try omega))))) hbw1
    obtain ⟨hcw1, hfzw1, -⟩ := bcell hbw1
    clear hbw1
    go_wp2_with fail
    by_cases l1 : (1048576 - (cCSet.sz p0 : Nat) - (cCSet.sz p1 : Nat) : Int) < 0
    · have HV := Lib.hid (leftOf_neg l1)
      refine (szCacheSet_any _ p1 _ _ _ (by exact Cod.bel h1 (by repeat (first | with_reducible exact Below.refl _ _ | with_reducible assumption | with_reducible refine bel_alloc ?_ _ | with_reducible refine bel_drew ?_ | with_reducible refine bel_drewN ?_ _ | (with_reducible refine bel_set ?_ ?_ _; rotate_left; ((try simp); (try omega)))))) (by omega) (by omega)).mono ?_
      rintro e w2 ⟨rfl, hbw2⟩
      rw [HV.out]
      have hBw2 : Below w.heap.size w w2 := bel_then (by repeat (first | with_reducible exact Below.refl _ _ | with_reducible assumption | with_reducible refine bel_alloc ?_ _ | with_reducible refine bel_drew ?_ | with_reducible refine bel_drewN ?_ _ | (with_reducible refine bel_set ?_ ?_ _; rotate_left; ((try simp); (try omega))))) hbw2
      go_wp2_with fail
      go_ret
      exact ⟨rfl, hBw2⟩
    · have HV := Lib.hid (leftOf_pos l1)
      have pz1 : 0 ≤ (1048576 - (cCSet.sz p0 : Nat) - (cCSet.sz p1 : Nat) : Int) := by omega
      have z1 : cCSet.sz p1 ≤ 1048576 := by omega
      refine (szCacheSet_any _ p1 _ _ _ (by exact Cod.bel h1 (by repeat (first | with_reducible exact Below.refl _ _ | with_reducible assumption | with_reducible refine bel_alloc ?_ _ | with_reducible refine bel_drew ?_ | with_reducible refine bel_drewN ?_ _ | (with_reducible refine bel_set ?_ ?_ _; rotate_left; ((try simp); (try omega)))))) (by omega) (by omega)).mono ?_
      rintro e w2 ⟨rfl, hbw2⟩
      rw [HV.out]
      clear HV
      have hsw2 := hbw2.size
      (try simp at hsw2)
      have hzw2_0 : w.heap.size < w2.heap.size := by omega
      have hzw2_1 : w.heap.size + 1 < w2.heap.size := by omega
      have hBw2 : Below w.heap.size w w2 := bel_then (by repeat (first | with_reducible exact Below.refl _ _ | with_reducible assumption | with_reducible refine bel_alloc ?_ _ | with_reducible refine bel_drew ?_ | with_reducible refine bel_drewN ?_ _ | (with_reducible refine bel_set ?_ ?_ _; rotate_left; ((try simp); (try omega))))) hbw2
      obtain ⟨hcw2, hfzw2, -⟩ := bcell hbw2
      clear hbw2
      go_wp2_with fail
      have kz3_0 : w2.cell? ⟨w.heap.size, 0, none⟩ = some (.slice A0_0 p0.caches.length c0_0) := by go_simp
      have kz3_1 : w2.cell? ⟨w.heap.size + 1, 0, none⟩ = some (.slice A1_0 p1.caches.length c1_0) := by go_simp
      have hS : ∀ wS, Below w2.heap.size w2 wS → Below w2.heap.size w2 wS ∧ wS.cell? ⟨w.heap.size, 0, none⟩ = some (.slice A0_0 p0.caches.length c0_0) ∧ wS.cell? ⟨w.heap.size + 1, 0, none⟩ = some (.slice A1_0 p1.caches.length c1_0) := fun wS hb => ⟨hb, (hb.cell (p := ⟨w.heap.size, 0, none⟩) (by simpa using hzw2_0)).trans kz3_0, (hb.cell (p := ⟨w.heap.size + 1, 0, none⟩) (by simpa using hzw2_1)).trans kz3_1⟩
      have hwb : Below w2.heap.size w2 w2 := Below.refl _ _
      clear kz3_0 kz3_1
      go_region_held3 (fun wS => Below w2.heap.size w2 wS ∧ wS.cell? ⟨w.heap.size, 0, none⟩ = some (.slice A0_0 p0.caches.length c0_0) ∧ wS.cell? ⟨w.heap.size + 1, 0, none⟩ = some (.slice A1_0 p1.caches.length c1_0)) (exact hS _ (by repeat (first | with_reducible exact Below.refl _ _ | with_reducible assumption | with_reducible refine bel_alloc ?_ _ | with_reducible refine bel_drew ?_ | with_reducible refine bel_drewN ?_ _ | (with_reducible refine bel_set ?_ ?_ _; rotate_left; ((try simp); (try omega)))))) (first | (go_at_call 34; refine (toCacheSet_any _ p0 _ _ (by exact Cod.bel h0 (bel_then hBw2 (by repeat (first | with_reducible exact Below.refl _ _ | with_reducible assumption | with_reducible refine bel_alloc ?_ _ | with_reducible refine bel_drew ?_ | with_reducible refine bel_drewN ?_ _ | (with_reducible refine bel_set ?_ ?_ _; rotate_left; ((try simp); (try omega))))))) z0).mono ?_; rintro e w3 ⟨uw3, Gw3, rfl, hbw3, hrw3, hfw3⟩; have hbww3 : Below w2.heap.size w2 w3 := bel_then (by repeat (first | with_reducible exact Below.refl _ _ | with_reducible assumption | with_reducible refine bel_alloc ?_ _ | with_reducible refine bel_drew ?_ | with_reducible refine bel_drewN ?_ _ | (with_reducible refine bel_set ?_ ?_ _; rotate_left; ((try simp); (try omega))))) hbw3; clear hfw3) | (go_at_call 34; refine (toCacheSet_any _ p1 _ _ (by exact Cod.bel h1 (bel_then hBw2 (by repeat (first | with_reducible exact Below.refl _ _ | with_reducible assumption | with_reducible refine bel_alloc ?_ _ | with_reducible refine bel_drew ?_ | with_reducible refine bel_drewN ?_ _ | (with_reducible refine bel_set ?_ ?_ _; rotate_left; ((try simp); (try omega))))))) z1).mono ?_; rintro e w4 ⟨uw4, Gw4, rfl, hbw4, hrw4, hfw4⟩; have hbww4 : Below w2.heap.size w2 w4 := bel_then (by repeat (first | with_reducible exact Below.refl _ _ | with_reducible assumption | with_reducible refine bel_alloc ?_ _ | with_reducible refine bel_drew ?_ | with_reducible refine bel_drewN ?_ _ | (with_reducible refine bel_set ?_ ?_ _; rotate_left; ((try simp); (try omega))))) hbw4; clear hfw4) | (go_at_call 39; refine (specEqualCacheSets_any _ p0 _ _ p1 _ _ (by exact Cod.bel hrw3 (by repeat (first | with_reducible exact Below.refl _ _ | with_reducible assumption | with_reducible refine bel_alloc ?_ _ | with_reducible refine bel_drew ?_ | with_reducible refine bel_drewN ?_ _ | (with_reducible refine bel_set ?_ ?_ _; rotate_left; ((try simp); (try omega)))))) z0 (by exact Cod.bel hrw4 (by repeat (first | with_reducible exact Below.refl _ _ | with_reducible assumption | with_reducible refine bel_alloc ?_ _ | with_reducible refine bel_drew ?_ | with_reducible refine bel_drewN ?_ _ | (with_reducible refine bel_set ?_ ?_ _; rotate_left; ((try simp); (try omega)))))) z1).mono ?_; rintro e w5 ⟨rfl, hbw5⟩; have hbww5 : Below w2.heap.size w2 w5 := bel_then (by repeat (first | with_reducible exact Below.refl _ _ | with_reducible assumption | with_reducible refine bel_alloc ?_ _ | with_reducible refine bel_drew ?_ | with_reducible refine bel_drewN ?_ _ | (with_reducible refine bel_set ?_ ?_ _; rotate_left; ((try simp); (try omega))))) hbw5))
      have hsw3 := hbw3.size
      (try simp at hsw3)
      have hsw4 := hbw4.size
      (try simp at hsw4)
      have hsxw5 := hbw5.size
      (try simp at hsxw5)
      have hbZw5 := hbww5
      have hsw5 := hbZw5.size
      (try simp at hsw5)
      have hzw5_0 : w.heap.size < w5.heap.size := by omega
      have hzw5_1 : w.heap.size + 1 < w5.heap.size := by omega
      have hBw5 : Below w.heap.size w w5 := bel_then (by repeat (first | with_reducible exact Below.refl _ _ | with_reducible assumption | with_reducible refine bel_alloc ?_ _ | with_reducible refine bel_drew ?_ | with_reducible refine bel_drewN ?_ _ | (with_reducible refine bel_set ?_ ?_ _; rotate_left; ((try simp); (try omega))))) hbZw5
      obtain ⟨hcw5, hfzw5, -⟩ := bcell hbZw5
      clear hbZw5
      go_wp2_with fail
      refine (toCacheSet_any _ p0 _ _ (by exact Cod.bel h0 (by repeat (first | with_reducible exact Below.refl _ _ | with_reducible assumption | with_reducible refine bel_alloc ?_ _ | with_reducible refine bel_drew ?_ | with_reducible refine bel_drewN ?_ _ | (with_reducible refine bel_set ?_ ?_ _; rotate_left; ((try simp); (try omega)))))) z0).mono ?_
      rintro e w6 ⟨uw6, Gw6, rfl, hbw6, hrw6, hfw6⟩
      have drw6 := hrw6
      obtain ⟨vrw6_0, Erw6_0, rfl, -, -, mrw6_0⟩ := TCSet.outA drw6
      obtain ⟨Arw6_0, crw6_0, erw6_0⟩ := cL_form mrw6_0
      subst erw6_0
      clear mrw6_0 drw6
      have hsw6 := hbw6.size
      (try simp at hsw6)
      have hzw6_0 : w.heap.size < w6.heap.size := by omega
      have hzw6_1 : w.heap.size + 1 < w6.heap.size := by omega
      have hBw6 : Below w.heap.size w w6 := bel_then (by repeat (first | with_reducible exact Below.refl _ _ | with_reducible assumption | with_reducible refine bel_alloc ?_ _ | with_reducible refine bel_drew ?_ | with_reducible refine bel_drewN ?_ _ | (with_reducible refine bel_set ?_ ?_ _; rotate_left; ((try simp); (try omega))))) hbw6
      have hlrw6 : ∀ b, b ∈ Gw6 → b < w6.heap.size := fun b hb => Cod.lt _ hrw6 b hb
      obtain ⟨hcw6, hfzw6, -⟩ := bcell hbw6
      clear hbw6
      go_wp2_with fail
      refine (toCacheSet_any _ p1 _ _ (by exact Cod.bel h1 (by repeat (first | with_reducible exact Below.refl _ _ | with_reducible assumption | with_reducible refine bel_alloc ?_ _ | with_reducible refine bel_drew ?_ | with_reducible refine bel_drewN ?_ _ | (with_reducible refine bel_set ?_ ?_ _; rotate_left; ((try simp); (try omega)))))) z1).mono ?_
      rintro e w7 ⟨uw7, Gw7, rfl, hbw7, hrw7, hfw7⟩
      have drw7 := hrw7
      obtain ⟨vrw7_0, Erw7_0, rfl, -, -, mrw7_0⟩ := TCSet.outA drw7
      obtain ⟨Arw7_0, crw7_0, erw7_0⟩ := cL_form mrw7_0
      subst erw7_0
      clear mrw7_0 drw7
      have hsw7 := hbw7.size
      (try simp at hsw7)
      have hzw7_0 : w.heap.size < w7.heap.size := by omega
      have hzw7_1 : w.heap.size + 1 < w7.heap.size := by omega
      have hzw7_2 : w6.heap.size < w7.heap.size := by omega
      have hBw7 : Below w.heap.size w w7 := bel_then (by repeat (first | with_reducible exact Below.refl _ _ | with_reducible assumption | with_reducible refine bel_alloc ?_ _ | with_reducible refine bel_drew ?_ | with_reducible refine bel_drewN ?_ _ | (with_reducible refine bel_set ?_ ?_ _; rotate_left; ((try simp); (try omega))))) hbw7
      replace hrw6 := Cod.bel hrw6 (show Below _ _ w7 from bel_then (by repeat (first | with_reducible exact Below.refl _ _ | with_reducible assumption | with_reducible refine bel_alloc ?_ _ | with_reducible refine bel_drew ?_ | with_reducible refine bel_drewN ?_ _ | (with_reducible refine bel_set ?_ ?_ _; rotate_left; ((try simp); (try omega))))) hbw7)
      have hlrw7 : ∀ b, b ∈ Gw7 → b < w7.heap.size := fun b hb => Cod.lt _ hrw7 b hb
      obtain ⟨hcw7, hfzw7, -⟩ := bcell hbw7
      clear hbw7
      go_wp2_with fail
      refine (implEqualCacheSets_any _ p0 _ _ p1 _ _ (by exact Cod.bel hrw6 (by repeat (first | with_reducible exact Below.refl _ _ | with_reducible assumption | with_reducible refine bel_alloc ?_ _ | with_reducible refine bel_drew ?_ | with_reducible refine bel_drewN ?_ _ | (with_reducible refine bel_set ?_ ?_ _; rotate_left; ((try simp); (try omega)))))) z0 (by exact Cod.bel hrw7 (by repeat (first | with_reducible exact Below.refl _ _ | with_reducible assumption | with_reducible refine bel_alloc ?_ _ | with_reducible refine bel_drew ?_ | with_reducible refine bel_drewN ?_ _ | (with_reducible refine bel_set ?_ ?_ _; rotate_left; ((try simp); (try omega)))))) z1).mono ?_
      rintro e w8 ⟨rfl, hbw8⟩
      have hsw8 := hbw8.size
      (try simp at hsw8)
      have hzw8_0 : w.heap.size < w8.heap.size := by omega
      have hzw8_1 : w.heap.size + 1 < w8.heap.size := by omega
      have hzw8_2 : w6.heap.size < w8.heap.size := by omega
      have hzw8_3 : w7.heap.size < w8.heap.size := by omega
      have hBw8 : Below w.heap.size w w8 := bel_then (by repeat (first | with_reducible exact Below.refl _ _ | with_reducible assumption | with_reducible refine bel_alloc ?_ _ | with_reducible refine bel_drew ?_ | with_reducible refine bel_drewN ?_ _ | (with_reducible refine bel_set ?_ ?_ _; rotate_left; ((try simp); (try omega))))) hbw8
      replace hrw6 := Cod.bel hrw6 (show Below _ _ w8 from bel_then (by repeat (first | with_reducible exact Below.refl _ _ | with_reducible assumption | with_reducible refine bel_alloc ?_ _ | with_reducible refine bel_drew ?_ | with_reducible refine bel_drewN ?_ _ | (with_reducible refine bel_set ?_ ?_ _; rotate_left; ((try simp); (try omega))))) hbw8)
      replace hrw7 := Cod.bel hrw7 (show Below _ _ w8 from bel_then (by repeat (first | with_reducible exact Below.refl _ _ | with_reducible assumption | with_reducible refine bel_alloc ?_ _ | with_reducible refine bel_drew ?_ | with_reducible refine bel_drewN ?_ _ | (with_reducible refine bel_set ?_ ?_ _; rotate_left; ((try simp); (try omega))))) hbw8)
      obtain ⟨hcw8, hfzw8, -⟩ := bcell hbw8
      clear hbw8
      go_wp2_with fail
      have kw10_0 : w8.cell? ⟨w6.heap.size, 0, none⟩ = some (.slice Arw6_0 p0.caches.length crw6_0) := by go_simp
      have kw10_1 : w8.cell? ⟨w.heap.size, 0, none⟩ = some (.slice A0_0 p0.caches.length c0_0) := by go_simp
      have hS : ∀ wS, Below w8.heap.size w8 wS → Below w8.heap.size w8 wS ∧ wS.cell? ⟨w6.heap.size, 0, none⟩ = some (.slice Arw6_0 p0.caches.length crw6_0) ∧ wS.cell? ⟨w.heap.size, 0, none⟩ = some (.slice A0_0 p0.caches.length c0_0) := fun wS hb => ⟨hb, (hb.cell (p := ⟨w6.heap.size, 0, none⟩) (by simpa using hzw8_2)).trans kw10_0, (hb.cell (p := ⟨w.heap.size, 0, none⟩) (by simpa using hzw8_0)).trans kw10_1⟩
      have hwb : Below w8.heap.size w8 w8 := Below.refl _ _
      clear kw10_0 kw10_1
      go_region_held3 (fun wS => Below w8.heap.size w8 wS ∧ wS.cell? ⟨w6.heap.size, 0, none⟩ = some (.slice Arw6_0 p0.caches.length crw6_0) ∧ wS.cell? ⟨w.heap.size, 0, none⟩ = some (.slice A0_0 p0.caches.length c0_0)) (exact hS _ (by repeat (first | with_reducible exact Below.refl _ _ | with_reducible assumption | with_reducible refine bel_alloc ?_ _ | with_reducible refine bel_drew ?_ | with_reducible refine bel_drewN ?_ _ | (with_reducible refine bel_set ?_ ?_ _; rotate_left; ((try simp); (try omega)))))) (first | (go_at_call 34; refine (toCacheSet_any _ p0 _ _ (by exact Cod.bel h0 (bel_then hBw8 (by repeat (first | with_reducible exact Below.refl _ _ | with_reducible assumption | with_reducible refine bel_alloc ?_ _ | with_reducible refine bel_drew ?_ | with_reducible refine bel_drewN ?_ _ | (with_reducible refine bel_set ?_ ?_ _; rotate_left; ((try simp); (try omega))))))) z0).mono ?_; rintro e w9 ⟨uw9, Gw9, rfl, hbw9, hrw9, hfw9⟩; have hbww9 : Below w8.heap.size w8 w9 := bel_then (by repeat (first | with_reducible exact Below.refl _ _ | with_reducible assumption | with_reducible refine bel_alloc ?_ _ | with_reducible refine bel_drew ?_ | with_reducible refine bel_drewN ?_ _ | (with_reducible refine bel_set ?_ ?_ _; rotate_left; ((try simp); (try omega))))) hbw9; clear hfw9) | (go_at_call 36; refine (eqCacheSet_any _ _ p0 _ _ _ (by exact Cod.bel hrw6 (by repeat (first | with_reducible exact Below.refl _ _ | with_reducible assumption | with_reducible refine bel_alloc ?_ _ | with_reducible refine bel_drew ?_ | with_reducible refine bel_drewN ?_ _ | (with_reducible refine bel_set ?_ ?_ _; rotate_left; ((try simp); (try omega)))))) (by exact Cod.bel hrw9 (by repeat (first | with_reducible exact Below.refl _ _ | with_reducible assumption | with_reducible refine bel_alloc ?_ _ | with_reducible refine bel_drew ?_ | with_reducible refine bel_drewN ?_ _ | (with_reducible refine bel_set ?_ ?_ _; rotate_left; ((try simp); (try omega))))))).mono ?_; rintro e w10 ⟨rfl, hbw10⟩; have hbww10 : Below w8.heap.size w8 w10 := bel_then (by repeat (first | with_reducible exact Below.refl _ _ | with_reducible assumption | with_reducible refine bel_alloc ?_ _ | with_reducible refine bel_drew ?_ | with_reducible refine bel_drewN ?_ _ | (with_reducible refine bel_set ?_ ?_ _; rotate_left; ((try simp); (try omega))))) hbw10))
      have hbZw10 := hbww10
      have hsw10 := hbZw10.size
      (try simp at hsw10)
      have hzw10_0 : w.heap.size < w10.heap.size := by omega
      have hzw10_1 : w.heap.size + 1 < w10.heap.size := by omega
      have hzw10_2 : w6.heap.size < w10.heap.size := by omega
      have hzw10_3 : w7.heap.size < w10.heap.size := by omega
      have hBw10 : Below w.heap.size w w10 := bel_then (by repeat (first | with_reducible exact Below.refl _ _ | with_reducible assumption | with_reducible refine bel_alloc ?_ _ | with_reducible refine bel_drew ?_ | with_reducible refine bel_drewN ?_ _ | (with_reducible refine bel_set ?_ ?_ _; rotate_left; ((try simp); (try omega))))) hbZw10
      replace hrw6 := Cod.bel hrw6 (show Below _ _ w10 from bel_then (by repeat (first | with_reducible exact Below.refl _ _ | with_reducible assumption | with_reducible refine bel_alloc ?_ _ | with_reducible refine bel_drew ?_ | with_reducible refine bel_drewN ?_ _ | (with_reducible refine bel_set ?_ ?_ _; rotate_left; ((try simp); (try omega))))) hbZw10)
      replace hrw7 := Cod.bel hrw7 (show Below _ _ w10 from bel_then (by repeat (first | with_reducible exact Below.refl _ _ | with_reducible assumption | with_reducible refine bel_alloc ?_ _ | with_reducible refine bel_drew ?_ | with_reducible refine bel_drewN ?_ _ | (with_reducible refine bel_set ?_ ?_ _; rotate_left; ((try simp); (try omega))))) hbZw10)
      obtain ⟨hcw10, hfzw10, -⟩ := bcell hbZw10
      clear hbZw10
      go_wp2_with fail
      have kw12_0 : w10.cell? ⟨w7.heap.size, 0, none⟩ = some (.slice Arw7_0 p1.caches.length crw7_0) := by go_simp
      have kw12_1 : w10.cell? ⟨w.heap.size + 1, 0, none⟩ = some (.slice A1_0 p1.caches.length c1_0) := by go_simp
      have hS : ∀ wS, Below w10.heap.size w10 wS → Below w10.heap.size w10 wS ∧ wS.cell? ⟨w7.heap.size, 0, none⟩ = some (.slice Arw7_0 p1.caches.length crw7_0) ∧ wS.cell? ⟨w.heap.size + 1, 0, none⟩ = some (.slice A1_0 p1.caches.length c1_0) := fun wS hb => ⟨hb, (hb.cell (p := ⟨w7.heap.size, 0, none⟩) (by simpa using hzw10_3)).trans kw12_0, (hb.cell (p := ⟨w.heap.size + 1, 0, none⟩) (by simpa using hzw10_1)).trans kw12_1⟩
      have hwb : Below w10.heap.size w10 w10 := Below.refl _ _
      clear kw12_0 kw12_1
      go_region_held3 (fun wS => Below w10.heap.size w10 wS ∧ wS.cell? ⟨w7.heap.size, 0, none⟩ = some (.slice Arw7_0 p1.caches.length crw7_0) ∧ wS.cell? ⟨w.heap.size + 1, 0, none⟩ = some (.slice A1_0 p1.caches.length c1_0)) (exact hS _ (by repeat (first | with_reducible exact Below.refl _ _ | with_reducible assumption | with_reducible refine bel_alloc ?_ _ | with_reducible refine bel_drew ?_ | with_reducible refine bel_drewN ?_ _ | (with_reducible refine bel_set ?_ ?_ _; rotate_left; ((try simp); (try omega)))))) (first | (go_at_call 34; refine (toCacheSet_any _ p1 _ _ (by exact Cod.bel h1 (bel_then hBw10 (by repeat (first | with_reducible exact Below.refl _ _ | with_reducible assumption | with_reducible refine bel_alloc ?_ _ | with_reducible refine bel_drew ?_ | with_reducible refine bel_drewN ?_ _ | (with_reducible refine bel_set ?_ ?_ _; rotate_left; ((try simp); (try omega))))))) z1).mono ?_; rintro e w11 ⟨uw11, Gw11, rfl, hbw11, hrw11, hfw11⟩; have hbww11 : Below w10.heap.size w10 w11 := bel_then (by repeat (first | with_reducible exact Below.refl _ _ | with_reducible assumption | with_reducible refine bel_alloc ?_ _ | with_reducible refine bel_drew ?_ | with_reducible refine bel_drewN ?_ _ | (with_reducible refine bel_set ?_ ?_ _; rotate_left; ((try simp); (try omega))))) hbw11; clear hfw11) | (go_at_call 36; refine (eqCacheSet_any _ _ p1 _ _ _ (by exact Cod.bel hrw7 (by repeat (first | with_reducible exact Below.refl _ _ | with_reducible assumption | with_reducible refine bel_alloc ?_ _ | with_reducible refine bel_drew ?_ | with_reducible refine bel_drewN ?_ _ | (with_reducible refine bel_set ?_ ?_ _; rotate_left; ((try simp); (try omega)))))) (by exact Cod.bel hrw11 (by repeat (first | with_reducible exact Below.refl _ _ | with_reducible assumption | with_reducible refine bel_alloc ?_ _ | with_reducible refine bel_drew ?_ | with_reducible refine bel_drewN ?_ _ | (with_reducible refine bel_set ?_ ?_ _; rotate_left; ((try simp); (try omega))))))).mono ?_; rintro e w12 ⟨rfl, hbw12⟩; have hbww12 : Below w10.heap.size w10 w12 := bel_then (by repeat (first | with_reducible exact Below.refl _ _ | with_reducible assumption | with_reducible refine bel_alloc ?_ _ | with_reducible refine bel_drew ?_ | with_reducible refine bel_drewN ?_ _ | (with_reducible refine bel_set ?_ ?_ _; rotate_left; ((try simp); (try omega))))) hbw12))
      have hbZw12 := hbww12
      have hsw12 := hbZw12.size
      (try simp at hsw12)
      have hzw12_0 : w.heap.size < w12.heap.size := by omega
      have hzw12_1 : w.heap.size + 1 < w12.heap.size := by omega
      have hzw12_2 : w6.heap.size < w12.heap.size := by omega
      have hzw12_3 : w7.heap.size < w12.heap.size := by omega
      have hBw12 : Below w.heap.size w w12 := bel_then (by repeat (first | with_reducible exact Below.refl _ _ | with_reducible assumption | with_reducible refine bel_alloc ?_ _ | with_reducible refine bel_drew ?_ | with_reducible refine bel_drewN ?_ _ | (with_reducible refine bel_set ?_ ?_ _; rotate_left; ((try simp); (try omega))))) hbZw12
      replace hrw6 := Cod.bel hrw6 (show Below _ _ w12 from bel_then (by repeat (first | with_reducible exact Below.refl _ _ | with_reducible assumption | with_reducible refine bel_alloc ?_ _ | with_reducible refine bel_drew ?_ | with_reducible refine bel_drewN ?_ _ | (with_reducible refine bel_set ?_ ?_ _; rotate_left; ((try simp); (try omega))))) hbZw12)
      replace hrw7 := Cod.bel hrw7 (show Below _ _ w12 from bel_then (by repeat (first | with_reducible exact Below.refl _ _ | with_reducible assumption | with_reducible refine bel_alloc ?_ _ | with_reducible refine bel_drew ?_ | with_reducible refine bel_drewN ?_ _ | (with_reducible refine bel_set ?_ ?_ _; rotate_left; ((try simp); (try omega))))) hbZw12)
      obtain ⟨hcw12, hfzw12, -⟩ := bcell hbZw12
      clear hbZw12
      go_wp2_with fail
      go_ret
      exact ⟨rfl, (by repeat (first | with_reducible exact Below.refl _ _ | with_reducible assumption | with_reducible refine bel_alloc ?_ _ | with_reducible refine bel_drew ?_ | with_reducible refine bel_drewN ?_ _ | (with_reducible refine bel_set ?_ ?_ _; rotate_left; ((try simp); (try omega)))))⟩

set_option maxRecDepth 100000 in
theorem lawEqualCacheSets_walk (H : Type) (enc : TypeId × Value → H) (W : World) (base : Nat) (args : Array Value) (ds : List (DataW H)) (p : List MemPlace)
    (hval : ∀ (j : Nat) t v, Try.f8.params[j]? = some t → args[j]? = some v → Value.okWide Try.prog W .any base t v)
    (hA : DataW.TrodAll enc Try.prog W 0 (fun _ => true) true Try.f8.params.toList args.toList ds p) (hf : W.noneFrozen p) :
    Calls Try.prog 8 args W (Gives W (.bool true)) := by
  rw [Try.params8] at hA hval
  obtain ⟨v0, vs0, d0, ds0, q0, s0, hargs, rfl, rfl, k0, t0⟩ := trodAll_cons hA
  obtain ⟨v1, vs1, d1, ds1, q1, s1, rfl, rfl, rfl, k1, t1⟩ := trodAll_cons t0
  obtain ⟨rfl, rfl, rfl⟩ := trodAll_nil t1
  obtain rfl : args = #[v0, v1] := by cases args; simp_all
  obtain ⟨cs0, x0, F0, rfl, hx0⟩ := opens_lCSet.struct_ Try.underlying46 (hval 0 _ _ rfl rfl) k0 (noneFrozen_mono hf fun y hy => by simp [hy])
  obtain ⟨cs1, x1, F1, rfl, hx1⟩ := opens_lCSet.struct_ Try.underlying46 (hval 1 _ _ rfl rfl) k1 (noneFrozen_mono hf fun y hy => by simp [hy])
  exact lawEqualCacheSets_any cs0 x0 F0 cs1 x1 F1 W hx0 hx1

set_option maxRecDepth 100000 in
theorem lawEqualCacheSets_lifted (os : Os) (started : os.Started) (H : Type) (enc : TypeId × Value → H) :
    ReturnsInHanded {} Try.checked os 8 .any (Rows.fnExactEqualCacheSetsSpec.pre6 enc Try.prog Try.f8 Rows.fnExactEqualCacheSetsRow.domain false) (Rows.fnExactEqualCacheSetsSpec.post enc Try.prog Try.f8 false true false false) := by
  refine returnsInHanded_of_change (C := Try.checked) (by kernel_rfl) started (by kernel_rfl) Try.func8
    (ChangeSpec.witness6 (enc := enc) (C := Try.checked) false ⟨#[], #[.agg #[.slice none 0 0], .agg #[.slice none 0 0]], []⟩ 16 (by kernel_rfl) (by kernel_rfl) (by kernel_rfl) (by kernel_rfl)) ?_
  intro W base args ds gs before hval hW _ _
  have hW' := hW
  obtain ⟨p, q, hA, hV, rfl, hfz, hnd⟩ := hW
  refine (lawEqualCacheSets_walk H enc W base args ds p hval hA (noneFrozen_mono hfz fun y hy => by simp [hy])).mono fun e W' ⟨he, hb⟩ => ⟨_, he, ?_⟩
  exact law_post (by kernel_rfl) rfl (by kernel_rfl) Try.underlying4 (by kernel_rfl) (fun ds h => by
    match ds, h with
    | [d0, d1], _ => exact ⟨rfl, rfl, rfl⟩) hW' hb
theorem lawEqualCacheSets_over : Rows.fnExactEqualCacheSetsRow.holds Try.pinned (OpenSpec.ofChange Rows.fnExactEqualCacheSetsSpec) :=
  OpenClaim.holds_of_wide 8 Try.f8 rfl rfl rfl rfl rfl rfl rfl ⟨rfl, rfl, rfl, rfl, rfl⟩ rfl rfl rfl rfl rfl (by kernel_rfl) Try.func8 (by kernel_rfl)
    (of_decide_eq_true (by kernel_rfl)) (by unfold Func.isWrapper; rw [if_neg (of_decide_eq_false (by kernel_rfl))]; exact ⟨rfl, rfl⟩)
    (fun os started H enc _ => lawEqualCacheSets_lifted os started H enc)
/-- THE STATEMENT -/
theorem lawEqualCacheSets_holds : Rows.FnExactEqualCacheSetsSaid := lawEqualCacheSets_over

end Go.Proofs.Ytamcoplnpoddbaa
