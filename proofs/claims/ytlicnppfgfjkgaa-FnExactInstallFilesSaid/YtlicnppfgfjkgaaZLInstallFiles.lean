/-
  The law FnExactInstallFiles: for all arguments the program's InstallFiles returns what the reference's returns. No conditions.
-/
import Derived.Test.YtlicnppfgfjkgaaRows
import Derived.Deep.RegionHeld3
import Derived.Deep.CutRange
import Derived.Test.YtlicnppfgfjkgaaZA
import Derived.Test.YtlicnppfgfjkgaaZInstS
import Derived.Test.YtlicnppfgfjkgaaZMkCSet
import Derived.Test.YtlicnppfgfjkgaaZMkSite
import Derived.Test.YtlicnppfgfjkgaaZToCSet
import Derived.Test.YtlicnppfgfjkgaaZToSite
namespace Go.Proofs.Ytlicnppfgfjkgaa
open Go.ChangeShapes Go.WideShapes Go.RowKit
open Go.ChangeMaps (open_string shut_string)
set_option linter.unusedVariables false

set_option maxRecDepth 100000 in
set_option maxHeartbeats 4000000 in
theorem lawInstallFiles_any (a0 : Array Value) (p0 : TCSet) (F0 : List Nat) (a1 : Array Value) (p1 : TSite) (F1 : List Nat) (p2 : Int) (p3 : Bool) (w : World) (h0 : cCSet.rep w a0.toList p0 F0) (h1 : cSite.rep w a1.toList p1 F1) (h2 : -9223372036854775808 ≤ p2 ∧ p2 ≤ 9223372036854775807) :
    Calls Try.prog 9 #[.agg a0, .agg a1, .int .i64 p2, .bool p3] w (Gives w (.bool true)) := by
  have r0 := h0
  obtain ⟨v0_0, E0_0, rfl, -, -, m0_0⟩ := TCSet.outA r0
  obtain ⟨A0_0, c0_0, e0_0⟩ := cL_form m0_0
  subst e0_0
  clear m0_0
  clear r0
  have r1 := h1
  obtain ⟨v1_2, E1_2, rfl, -, -, m1_2⟩ := TSite.outA r1
  obtain ⟨A1_2, c1_2, e1_2⟩ := cL_form m1_2
  subst e1_2
  clear m1_2
  clear r1
  go_enter Try.func9, Try.ntmps9
  go_wp2_with fail
  by_cases l0 : (1048576 - (cCSet.sz p0 : Nat) : Int) < 0
  · have HV := Lib.hid (leftOf_neg l0)
    refine (szCacheSet_any _ p0 _ _ _ (by exact Cod.bel h0 (by repeat (first | with_reducible exact Below.refl _ _ | with_reducible assumption | with_reducible refine bel_alloc ?_ _ | with_reducible refine bel_drew ?_ | with_reducible refine bel_drewN ?_ _ | (with_reducible refine bel_set ?_ ?_ _; rotate_left; ((try simp); (try omega)))))) (by omega) (by omega)).mono ?_
    rintro e w1 ⟨rfl, hbw1⟩
    rw [HV.out]
    have hBw1 : Below w.heap.size w w1 := bel_then (by repeat (first | with_reducible exact Below.refl _ _ | with_reducible assumption | with_reducible refine bel_alloc ?_ _ | with_reducible refine bel_drew ?_ | with_reducible refine bel_drewN ?_ _ | (with_reducible refine bel_set ?_ ?_ _; rotate_left; ((try simp); (try omega))))) hbw1
    go_wp2_with fail
    go_ret
    exact ⟨rfl, hBw1⟩
  · have HV := Lib.hid (leftOf_pos l0)
    have pz0 : 0 ≤ (1048576 - (cCSet.sz p0 : Nat) : Int) := by omega
    have z0 : cCSet.sz p0 ≤ 1048576 := by omega
    refine (szCacheSet_any _ p0 _ _ _ (by exact Cod.bel h0 (by repeat (first | with_reducible exact Below.refl _ _ | with_reducible assumption | with_reducible refine bel_alloc ?_ _ | with_reducible refine bel_drew ?_ | with_reducible refine bel_drewN ?_ _ | (with_reducible refine bel_set ?_ ?_ _; rotate_left; ((try simp); (try omega)))))) (by omega) (by omega)).mono ?_
    rintro e w1 ⟨rfl, hbw1⟩
    rw [HV.out]
    clear HV
    have hsw1 := hbw1.size
    (try simp at hsw1)
    have hzw1_0 : w.heap.size < w1.heap.size := by omega
    have hzw1_1 : w.heap.size + 1 < w1.heap.size := by omega
    have hBw1 : Below w.heap.size w w1 := bel_then (by repeat (first | with_reducible exact Below.refl _ _ | with_reducible assumption | with_reducible refine bel_alloc ?_ _ | with_reducible refine bel_drew ?_ | with_reducible refine bel_drewN ?_ _ | (with_reducible refine bel_set ?_ ?_ _; rotate_left; ((try simp); (try omega))))) hbw1
    obtain ⟨hcw1, hfzw1, -⟩ := bcell hbw1
    clear hbw1
    go_wp2_with fail
    by_cases l1 : (1048576 - (cCSet.sz p0 : Nat) - (cSite.sz p1 : Nat) : Int) < 0
    · have HV := Lib.hid (leftOf_neg l1)
      refine (szSite_any _ p1 _ _ _ (by exact Cod.bel h1 (by repeat (first | with_reducible exact Below.refl _ _ | with_reducible assumption | with_reducible refine bel_alloc ?_ _ | with_reducible refine bel_drew ?_ | with_reducible refine bel_drewN ?_ _ | (with_reducible refine bel_set ?_ ?_ _; rotate_left; ((try simp); (try omega)))))) (by omega) (by omega)).mono ?_
      rintro e w2 ⟨rfl, hbw2⟩
      rw [HV.out]
      have hBw2 : Below w.heap.size w w2 := bel_then (by repeat (first | with_reducible exact Below.refl _ _ | with_reducible assumption | with_reducible refine bel_alloc ?_ _ | with_reducible refine bel_drew ?_ | with_reducible refine bel_drewN ?_ _ | (with_reducible refine bel_set ?_ ?_ _; rotate_left; ((try simp); (try omega))))) hbw2
      go_wp2_with fail
      go_ret
      exact ⟨rfl, hBw2⟩
    · have HV := Lib.hid (leftOf_pos l1)
      have pz1 : 0 ≤ (1048576 - (cCSet.sz p0 : Nat) - (cSite.sz p1 : Nat) : Int) := by omega
      have z1 : cSite.sz p1 ≤ 1048576 := by omega
      refine (szSite_any _ p1 _ _ _ (by exact Cod.bel h1 (by repeat (first | with_reducible exact Below.refl _ _ | with_reducible assumption | with_reducible refine bel_alloc ?_ _ | with_reducible refine bel_drew ?_ | with_reducible refine bel_drewN ?_ _ | (with_reducible refine bel_set ?_ ?_ _; rotate_left; ((try simp); (try omega)))))) (by omega) (by omega)).mono ?_
      rintro e w2 ⟨rfl, hbw2⟩
      rw [HV.out]
      clear HV
      have hsw2 := hbw2.size
      (try simp at hsw2)
      have hzw2_0 : w.heap.size < w2.heap.size := by omega
      have hzw2_1 : w.heap.size + 1 < w2.heap.size := by omega
      have hBw2 : Below w.heap.size w w2 := bel_then (by repeat (first | with_reducible exact Below.refl _ _ | with_reducible assumption | with_reducible refine bel_alloc ?_ _ | with_reducible refine bel_drew ?_ | with_reducible refine bel_drewN ?_ _ | (with_reducible refine bel_set ?_ ?_ _; rotate_left; ((try simp); (try omega))))) hbw2
      obtain ⟨hcw2, hfzw2, -⟩ := bcell hbw2
      clear hbw2
      go_wp2_with fail
      have kz3_0 : w2.cell? ⟨w.heap.size, 0, none⟩ = some (.slice A0_0 p0.caches.length c0_0) := by go_simp
      have kz3_1 : w2.cell? ⟨w.heap.size + 1, 0, none⟩ = some (.string p1.name) := by go_simp
      have kz3_2 : w2.cell? ⟨w.heap.size + 1, 1, none⟩ = some (.int .i64 p1.ver) := by go_simp
      have kz3_3 : w2.cell? ⟨w.heap.size + 1, 2, none⟩ = some (.slice A1_2 p1.files.length c1_2) := by go_simp
      have kz3_4 : w2.cell? ⟨w.heap.size + 1, 3, none⟩ = some (.bool p1.shared) := by go_simp
      have hS : ∀ wS, Below w2.heap.size w2 wS → Below w2.heap.size w2 wS ∧ wS.cell? ⟨w.heap.size, 0, none⟩ = some (.slice A0_0 p0.caches.length c0_0) ∧ wS.cell? ⟨w.heap.size + 1, 0, none⟩ = some (.string p1.name) ∧ wS.cell? ⟨w.heap.size + 1, 1, none⟩ = some (.int .i64 p1.ver) ∧ wS.cell? ⟨w.heap.size + 1, 2, none⟩ = some (.slice A1_2 p1.files.length c1_2) ∧ wS.cell? ⟨w.heap.size + 1, 3, none⟩ = some (.bool p1.shared) := fun wS hb => ⟨hb, (hb.cell (p := ⟨w.heap.size, 0, none⟩) (by simpa using hzw2_0)).trans kz3_0, (hb.cell (p := ⟨w.heap.size + 1, 0, none⟩) (by simpa using hzw2_1)).trans kz3_1, (hb.cell (p := ⟨w.heap.size + 1, 1, none⟩) (by simpa using hzw2_1)).trans kz3_2, (hb.cell (p := ⟨w.heap.size + 1, 2, none⟩) (by simpa using hzw2_1)).trans kz3_3, (hb.cell (p := ⟨w.heap.size + 1, 3, none⟩) (by simpa using hzw2_1)).trans kz3_4⟩
      have hwb : Below w2.heap.size w2 w2 := Below.refl _ _
      clear kz3_0 kz3_1 kz3_2 kz3_3 kz3_4
      go_cut [10, 11] from 31 (fun v10 v11 wq => ∃ (gw5 : Nat) (Arw5_0 : Option Addr) (crw5_0 : Nat) (Gw5 : List Nat), v10 = .pointer (some ⟨gw5, 0, none⟩) ∧ v11 = .bool ((installFiles p0 p1 p2 p3).2) ∧ Below w2.heap.size w2 wq ∧ w2.heap.size ≤ gw5 ∧ gw5 < wq.heap.size ∧ wq.cell? ⟨gw5, 0, none⟩ = some (.slice Arw5_0 ((installFiles p0 p1 p2 p3).1).caches.length crw5_0) ∧ cCSet.rep wq [(.slice Arw5_0 ((installFiles p0 p1 p2 p3).1).caches.length crw5_0)] ((installFiles p0 p1 p2 p3).1) Gw5 ∧ Fresh w2.heap.size Gw5 ∧ gw5 ∉ Gw5)
      case first =>
        go_region_held3 (fun wS => Below w2.heap.size w2 wS ∧ wS.cell? ⟨w.heap.size, 0, none⟩ = some (.slice A0_0 p0.caches.length c0_0) ∧ wS.cell? ⟨w.heap.size + 1, 0, none⟩ = some (.string p1.name) ∧ wS.cell? ⟨w.heap.size + 1, 1, none⟩ = some (.int .i64 p1.ver) ∧ wS.cell? ⟨w.heap.size + 1, 2, none⟩ = some (.slice A1_2 p1.files.length c1_2) ∧ wS.cell? ⟨w.heap.size + 1, 3, none⟩ = some (.bool p1.shared)) (exact hS _ (by repeat (first | with_reducible exact Below.refl _ _ | with_reducible assumption | with_reducible refine bel_alloc ?_ _ | with_reducible refine bel_drew ?_ | with_reducible refine bel_drewN ?_ _ | (with_reducible refine bel_set ?_ ?_ _; rotate_left; ((try simp); (try omega)))))) (first | (go_at_call 47; refine (toCacheSet_any _ p0 _ _ (by exact Cod.bel h0 (bel_then hBw2 (by repeat (first | with_reducible exact Below.refl _ _ | with_reducible assumption | with_reducible refine bel_alloc ?_ _ | with_reducible refine bel_drew ?_ | with_reducible refine bel_drewN ?_ _ | (with_reducible refine bel_set ?_ ?_ _; rotate_left; ((try simp); (try omega))))))) z0).mono ?_; rintro e w3 ⟨uw3, Gw3, rfl, hbw3, hrw3, hfw3⟩; have hbww3 : Below w2.heap.size w2 w3 := bel_then (by repeat (first | with_reducible exact Below.refl _ _ | with_reducible assumption | with_reducible refine bel_alloc ?_ _ | with_reducible refine bel_drew ?_ | with_reducible refine bel_drewN ?_ _ | (with_reducible refine bel_set ?_ ?_ _; rotate_left; ((try simp); (try omega))))) hbw3; clear hfw3; obtain ⟨hccw3, hffw3, hzzw3⟩ := bcell hbw3; (try simp at hzzw3); (try have hyyw3_0 : w2.heap.size < w3.heap.size := (by omega)); (try have hbpw3_0 : Below w2.heap.size w2 w3 := bel_then (by repeat (first | with_reducible exact Below.refl _ _ | with_reducible assumption | with_reducible refine bel_alloc ?_ _ | with_reducible refine bel_drew ?_ | with_reducible refine bel_drewN ?_ _ | (with_reducible refine bel_set ?_ ?_ _; rotate_left; ((try simp); (try omega))))) hbw3)) | (go_at_call 57; refine (toSite_any _ p1 _ _ (by exact Cod.bel h1 (bel_then hBw2 (by repeat (first | with_reducible exact Below.refl _ _ | with_reducible assumption | with_reducible refine bel_alloc ?_ _ | with_reducible refine bel_drew ?_ | with_reducible refine bel_drewN ?_ _ | (with_reducible refine bel_set ?_ ?_ _; rotate_left; ((try simp); (try omega))))))) z1).mono ?_; rintro e w4 ⟨uw4, Gw4, rfl, hbw4, hrw4, hfw4⟩; have hbww4 : Below w2.heap.size w2 w4 := bel_then (by repeat (first | with_reducible exact Below.refl _ _ | with_reducible assumption | with_reducible refine bel_alloc ?_ _ | with_reducible refine bel_drew ?_ | with_reducible refine bel_drewN ?_ _ | (with_reducible refine bel_set ?_ ?_ _; rotate_left; ((try simp); (try omega))))) hbw4; clear hfw4; obtain ⟨hccw4, hffw4, hzzw4⟩ := bcell hbw4; (try simp at hzzw4); (try have hyyw4_0 : w2.heap.size < w4.heap.size := (by omega)); (try have hbpw4_0 : Below w2.heap.size w2 w4 := bel_then (by repeat (first | with_reducible exact Below.refl _ _ | with_reducible assumption | with_reducible refine bel_alloc ?_ _ | with_reducible refine bel_drew ?_ | with_reducible refine bel_drewN ?_ _ | (with_reducible refine bel_set ?_ ?_ _; rotate_left; ((try simp); (try omega))))) hbw4); (try have hyyw4_1 : w3.heap.size < w4.heap.size := (by omega)); (try have hbpw4_1 : Below w3.heap.size w3 w4 := bel_then (by repeat (first | with_reducible exact Below.refl _ _ | with_reducible assumption | with_reducible refine bel_alloc ?_ _ | with_reducible refine bel_drew ?_ | with_reducible refine bel_drewN ?_ _ | (with_reducible refine bel_set ?_ ?_ _; rotate_left; ((try simp); (try omega))))) hbw4)) | (go_at_call 54; refine (specInstallFiles_any _ p0 _ _ p1 _ p2 p3 _ (by exact Cod.bel hrw3 (by repeat (first | with_reducible exact Below.refl _ _ | with_reducible assumption | with_reducible refine bel_alloc ?_ _ | with_reducible refine bel_drew ?_ | with_reducible refine bel_drewN ?_ _ | (with_reducible refine bel_set ?_ ?_ _; rotate_left; ((try simp); (try omega)))))) z0 (by exact Cod.bel hrw4 (by repeat (first | with_reducible exact Below.refl _ _ | with_reducible assumption | with_reducible refine bel_alloc ?_ _ | with_reducible refine bel_drew ?_ | with_reducible refine bel_drewN ?_ _ | (with_reducible refine bel_set ?_ ?_ _; rotate_left; ((try simp); (try omega)))))) z1 h2).mono ?_; rintro e w5 ⟨uw5, Gw5, rfl, hbw5, hrw5, hfw5⟩; have drw5 := hrw5; obtain ⟨vrw5_0, Erw5_0, rfl, -, -, mrw5_0⟩ := TCSet.outA drw5; obtain ⟨Arw5_0, crw5_0, erw5_0⟩ := cL_form mrw5_0; subst erw5_0; clear mrw5_0 drw5; have hbww5 : Below w2.heap.size w2 w5 := bel_then (by repeat (first | with_reducible exact Below.refl _ _ | with_reducible assumption | with_reducible refine bel_alloc ?_ _ | with_reducible refine bel_drew ?_ | with_reducible refine bel_drewN ?_ _ | (with_reducible refine bel_set ?_ ?_ _; rotate_left; ((try simp); (try omega))))) hbw5; obtain ⟨hccw5, hffw5, hzzw5⟩ := bcell hbw5; (try simp at hzzw5); (try have hyyw5_0 : w2.heap.size < w5.heap.size := (by omega)); (try have hbpw5_0 : Below w2.heap.size w2 w5 := bel_then (by repeat (first | with_reducible exact Below.refl _ _ | with_reducible assumption | with_reducible refine bel_alloc ?_ _ | with_reducible refine bel_drew ?_ | with_reducible refine bel_drewN ?_ _ | (with_reducible refine bel_set ?_ ?_ _; rotate_left; ((try simp); (try omega))))) hbw5); (try have hyyw5_1 : w3.heap.size < w5.heap.size := (by omega)); (try have hbpw5_1 : Below w3.heap.size w3 w5 := bel_then (by repeat (first | with_reducible exact Below.refl _ _ | with_reducible assumption | with_reducible refine bel_alloc ?_ _ | with_reducible refine bel_drew ?_ | with_reducible refine bel_drewN ?_ _ | (with_reducible refine bel_set ?_ ?_ _; rotate_left; ((try simp); (try omega))))) hbw5); (try have hyyw5_2 : w4.heap.size < w5.heap.size := (by omega)); (try have hbpw5_2 : Below w4.heap.size w4 w5 := bel_then (by repeat (first | with_reducible exact Below.refl _ _ | with_reducible assumption | with_reducible refine bel_alloc ?_ _ | with_reducible refine bel_drew ?_ | with_reducible refine bel_drewN ?_ _ | (with_reducible refine bel_set ?_ ?_ _; rotate_left; ((try simp); (try omega))))) hbw5)))
        all_goals
          have hnbw5 : ∀ b, b ∈ Gw5 → _ ≤ b ∧ b < w5.heap.size := fun b hb => ⟨hfw5.1 b hb, Cod.lt _ hrw5 b hb⟩
          go_wp2_with fail
          go_meet
          case rel =>
            refine ⟨_, Arw5_0, crw5_0, Gw5, rfl, rfl, (by repeat (first | with_reducible exact Below.refl _ _ | with_reducible assumption | with_reducible refine bel_alloc ?_ _ | with_reducible refine bel_drew ?_ | with_reducible refine bel_drewN ?_ _ | (with_reducible refine bel_set ?_ ?_ _; rotate_left; ((try simp); (try omega))))), ?hA, ?hB, by go_simp, ?hR, hfw5.mono (by (try simp); (try omega)), ?hN⟩
            case hA => (try simp); (try omega)
            case hB => (try simp); (try omega)
            case hR => exact (by repeat (first | with_reducible exact hrw5 | with_reducible refine Cod.allocA ?_ _ | with_reducible refine Cod.drewA ?_ | with_reducible refine Cod.drewNA ?_ _ | ((with_reducible refine Cod.setA ?_ ?_ _); rotate_left; ((intro hm9; have hm8 := hnbw5 _ hm9; (try simp at hm8); (try omega))))))
            case hN => (intro hm; have hh := hnbw5 _ hm; (try simp at hh); (try omega))
      case rest =>
        obtain ⟨gw5, Arw5_0, crw5_0, Gw5, rfl, rfl, hbww5, hgew5, hzgw5, kgw5_0, hrw5, hfw5, hngw5⟩ := hcut
        obtain ⟨w5, rfl⟩ : ∃ x9 : World, x9 = wc := ⟨_, rfl⟩
        have hbZw5 := hbww5
        have hsw5 := hbZw5.size
        (try simp at hsw5)
        have hzw5_0 : w.heap.size < w5.heap.size := by omega
        have hzw5_1 : w.heap.size + 1 < w5.heap.size := by omega
        have hBw5 : Below w.heap.size w w5 := bel_then (by repeat (first | with_reducible exact Below.refl _ _ | with_reducible assumption | with_reducible refine bel_alloc ?_ _ | with_reducible refine bel_drew ?_ | with_reducible refine bel_drewN ?_ _ | (with_reducible refine bel_set ?_ ?_ _; rotate_left; ((try simp); (try omega))))) hbZw5
        have hlrw5 : ∀ b, b ∈ Gw5 → b < w5.heap.size := fun b hb => Cod.lt _ hrw5 b hb
        obtain ⟨hcw5, hfzw5, -⟩ := bcell hbZw5
        clear hbZw5
        go_wp2_with fail
        refine (toCacheSet_any _ p0 _ _ (by exact Cod.bel h0 (by repeat (first | with_reducible exact Below.refl _ _ | with_reducible assumption | with_reducible refine bel_alloc ?_ _ | with_reducible refine bel_drew ?_ | with_reducible refine bel_drewN ?_ _ | (with_reducible refine bel_set ?_ ?_ _; rotate_left; ((try simp); (try omega)))))) z0).mono ?_
        rintro e w6 ⟨uw6, Gw6, rfl, hbw6, hrw6, hfw6⟩
        have drw6 := hrw6
        obtain ⟨vrw6_0, Erw6_0, rfl, -, -, mrw6_0⟩ := TCSet.outA drw6
        obtain ⟨Arw6_0, crw6_0, erw6_0⟩ := cL_form mrw6_0
        subst erw6_0
        clear mrw6_0 drw6
        have hsw6 := hbw6.size
        (try simp at hsw6)
        have hzw6_0 : w.heap.size < w6.heap.size := by omega
        have hzw6_1 : w.heap.size + 1 < w6.heap.size := by omega
        have hzw6_2 : gw5 < w6.heap.size := by omega
        have hBw6 : Below w.heap.size w w6 := bel_then (by repeat (first | with_reducible exact Below.refl _ _ | with_reducible assumption | with_reducible refine bel_alloc ?_ _ | with_reducible refine bel_drew ?_ | with_reducible refine bel_drewN ?_ _ | (with_reducible refine bel_set ?_ ?_ _; rotate_left; ((try simp); (try omega))))) hbw6
        replace hrw5 := Cod.bel hrw5 (show Below _ _ w6 from bel_then (by repeat (first | with_reducible exact Below.refl _ _ | with_reducible assumption | with_reducible refine bel_alloc ?_ _ | with_reducible refine bel_drew ?_ | with_reducible refine bel_drewN ?_ _ | (with_reducible refine bel_set ?_ ?_ _; rotate_left; ((try simp); (try omega))))) hbw6)
        have hlrw6 : ∀ b, b ∈ Gw6 → b < w6.heap.size := fun b hb => Cod.lt _ hrw6 b hb
        obtain ⟨hcw6, hfzw6, -⟩ := bcell hbw6
        clear hbw6
        go_wp2_with fail
        refine (toSite_any _ p1 _ _ (by exact Cod.bel h1 (by repeat (first | with_reducible exact Below.refl _ _ | with_reducible assumption | with_reducible refine bel_alloc ?_ _ | with_reducible refine bel_drew ?_ | with_reducible refine bel_drewN ?_ _ | (with_reducible refine bel_set ?_ ?_ _; rotate_left; ((try simp); (try omega)))))) z1).mono ?_
        rintro e w7 ⟨uw7, Gw7, rfl, hbw7, hrw7, hfw7⟩
        have drw7 := hrw7
        obtain ⟨vrw7_2, Erw7_2, rfl, -, -, mrw7_2⟩ := TSite.outA drw7
        obtain ⟨Arw7_2, crw7_2, erw7_2⟩ := cL_form mrw7_2
        subst erw7_2
        clear mrw7_2 drw7
        have hsw7 := hbw7.size
        (try simp at hsw7)
        have hzw7_0 : w.heap.size < w7.heap.size := by omega
        have hzw7_1 : w.heap.size + 1 < w7.heap.size := by omega
        have hzw7_2 : gw5 < w7.heap.size := by omega
        have hzw7_3 : w6.heap.size < w7.heap.size := by omega
        have hBw7 : Below w.heap.size w w7 := bel_then (by repeat (first | with_reducible exact Below.refl _ _ | with_reducible assumption | with_reducible refine bel_alloc ?_ _ | with_reducible refine bel_drew ?_ | with_reducible refine bel_drewN ?_ _ | (with_reducible refine bel_set ?_ ?_ _; rotate_left; ((try simp); (try omega))))) hbw7
        replace hrw5 := Cod.bel hrw5 (show Below _ _ w7 from bel_then (by repeat (first | with_reducible exact Below.refl _ _ | with_reducible assumption | with_reducible refine bel_alloc ?_ _ | with_reducible refine bel_drew ?_ | with_reducible refine bel_drewN ?_ _ | (with_reducible refine bel_set ?_ ?_ _; rotate_left; ((try simp); (try omega))))) hbw7)
        replace hrw6 := Cod.bel hrw6 (show Below _ _ w7 from bel_then (by repeat (first | with_reducible exact Below.refl _ _ | with_reducible assumption | with_reducible refine bel_alloc ?_ _ | with_reducible refine bel_drew ?_ | with_reducible refine bel_drewN ?_ _ | (with_reducible refine bel_set ?_ ?_ _; rotate_left; ((try simp); (try omega))))) hbw7)
        have hlrw7 : ∀ b, b ∈ Gw7 → b < w7.heap.size := fun b hb => Cod.lt _ hrw7 b hb
        obtain ⟨hcw7, hfzw7, -⟩ := bcell hbw7
        clear hbw7
        go_wp2_with fail
        refine (implInstallFiles_any _ p0 _ _ p1 _ p2 p3 _ (by exact Cod.bel hrw6 (by repeat (first | with_reducible exact Below.refl _ _ | with_reducible assumption | with_reducible refine bel_alloc ?_ _ | with_reducible refine bel_drew ?_ | with_reducible refine bel_drewN ?_ _ | (with_reducible refine bel_set ?_ ?_ _; rotate_left; ((try simp); (try omega)))))) z0 (by exact Cod.bel hrw7 (by repeat (first | with_reducible exact Below.refl _ _ | with_reducible assumption | with_reducible refine bel_alloc ?_ _ | with_reducible refine bel_drew ?_ | with_reducible refine bel_drewN ?_ _ | (with_reducible refine bel_set ?_ ?_ _; rotate_left; ((try simp); (try omega)))))) z1 h2).mono ?_
        rintro e w8 ⟨uw8, Gw8, rfl, hbw8, hrw8, hfw8⟩
        have drw8 := hrw8
        obtain ⟨vrw8_0, Erw8_0, rfl, -, -, mrw8_0⟩ := TCSet.outA drw8
        obtain ⟨Arw8_0, crw8_0, erw8_0⟩ := cL_form mrw8_0
        subst erw8_0
        clear mrw8_0 drw8
        have hsw8 := hbw8.size
        (try simp at hsw8)
        have hzw8_0 : w.heap.size < w8.heap.size := by omega
        have hzw8_1 : w.heap.size + 1 < w8.heap.size := by omega
        have hzw8_2 : gw5 < w8.heap.size := by omega
        have hzw8_3 : w6.heap.size < w8.heap.size := by omega
        have hzw8_4 : w7.heap.size < w8.heap.size := by omega
        have hBw8 : Below w.heap.size w w8 := bel_then (by repeat (first | with_reducible exact Below.refl _ _ | with_reducible assumption | with_reducible refine bel_alloc ?_ _ | with_reducible refine bel_drew ?_ | with_reducible refine bel_drewN ?_ _ | (with_reducible refine bel_set ?_ ?_ _; rotate_left; ((try simp); (try omega))))) hbw8
        replace hrw5 := Cod.bel hrw5 (show Below _ _ w8 from bel_then (by repeat (first | with_reducible exact Below.refl _ _ | with_reducible assumption | with_reducible refine bel_alloc ?_ _ | with_reducible refine bel_drew ?_ | with_reducible refine bel_drewN ?_ _ | (with_reducible refine bel_set ?_ ?_ _; rotate_left; ((try simp); (try omega))))) hbw8)
        replace hrw6 := Cod.bel hrw6 (show Below _ _ w8 from bel_then (by repeat (first | with_reducible exact Below.refl _ _ | with_reducible assumption | with_reducible refine bel_alloc ?_ _ | with_reducible refine bel_drew ?_ | with_reducible refine bel_drewN ?_ _ | (with_reducible refine bel_set ?_ ?_ _; rotate_left; ((try simp); (try omega))))) hbw8)
        replace hrw7 := Cod.bel hrw7 (show Below _ _ w8 from bel_then (by repeat (first | with_reducible exact Below.refl _ _ | with_reducible assumption | with_reducible refine bel_alloc ?_ _ | with_reducible refine bel_drew ?_ | with_reducible refine bel_drewN ?_ _ | (with_reducible refine bel_set ?_ ?_ _; rotate_left; ((try simp); (try omega))))) hbw8)
        have hlrw8 : ∀ b, b ∈ Gw8 → b < w8.heap.size := fun b hb => Cod.lt _ hrw8 b hb
        have zr : cCSet.sz ((installFiles p0 p1 p2 p3).1) ≤ 8000000 := (by have h := installFiles_sz p0 p1 p2 p3; have := z0; omega)
        obtain ⟨hcw8, hfzw8, -⟩ := bcell hbw8
        clear hbw8
        go_wp2_with fail
        refine (eqCacheSet_any _ _ ((installFiles p0 p1 p2 p3).1) _ _ _ (by exact Cod.bel hrw8 (by repeat (first | with_reducible exact Below.refl _ _ | with_reducible assumption | with_reducible refine bel_alloc ?_ _ | with_reducible refine bel_drew ?_ | with_reducible refine bel_drewN ?_ _ | (with_reducible refine bel_set ?_ ?_ _; rotate_left; ((try simp); (try omega)))))) (by exact Cod.bel hrw5 (by repeat (first | with_reducible exact Below.refl _ _ | with_reducible assumption | with_reducible refine bel_alloc ?_ _ | with_reducible refine bel_drew ?_ | with_reducible refine bel_drewN ?_ _ | (with_reducible refine bel_set ?_ ?_ _; rotate_left; ((try simp); (try omega))))))).mono ?_
        rintro e w9 ⟨rfl, hbw9⟩
        have hsw9 := hbw9.size
        (try simp at hsw9)
        have hzw9_0 : w.heap.size < w9.heap.size := by omega
        have hzw9_1 : w.heap.size + 1 < w9.heap.size := by omega
        have hzw9_2 : gw5 < w9.heap.size := by omega
        have hzw9_3 : w6.heap.size < w9.heap.size := by omega
        have hzw9_4 : w7.heap.size < w9.heap.size := by omega
        have hzw9_5 : w8.heap.size < w9.heap.size := by omega
        have hBw9 : Below w.heap.size w w9 := bel_then (by repeat (first | with_reducible exact Below.refl _ _ | with_reducible assumption | with_reducible refine bel_alloc ?_ _ | with_reducible refine bel_drew ?_ | with_reducible refine bel_drewN ?_ _ | (with_reducible refine bel_set ?_ ?_ _; rotate_left; ((try simp); (try omega))))) hbw9
        replace hrw5 := Cod.bel hrw5 (show Below _ _ w9 from bel_then (by repeat (first | with_reducible exact Below.refl _ _ | with_reducible assumption | with_reducible refine bel_alloc ?_ _ | with_reducible refine bel_drew ?_ | with_reducible refine bel_drewN ?_ _ | (with_reducible refine bel_set ?_ ?_ _; rotate_left; ((try simp); (try omega))))) hbw9)
        replace hrw6 := Cod.bel hrw6 (show Below _ _ w9 from bel_then (by repeat (first | with_reducible exact Below.refl _ _ | with_reducible assumption | with_reducible refine bel_alloc ?_ _ | with_reducible refine bel_drew ?_ | with_reducible refine bel_drewN ?_ _ | (with_reducible refine bel_set ?_ ?_ _; rotate_left; ((try simp); (try omega))))) hbw9)
        replace hrw7 := Cod.bel hrw7 (show Below _ _ w9 from bel_then (by repeat (first | with_reducible exact Below.refl _ _ | with_reducible assumption | with_reducible refine bel_alloc ?_ _ | with_reducible refine bel_drew ?_ | with_reducible refine bel_drewN ?_ _ | (with_reducible refine bel_set ?_ ?_ _; rotate_left; ((try simp); (try omega))))) hbw9)
        replace hrw8 := Cod.bel hrw8 (show Below _ _ w9 from bel_then (by repeat (first | with_reducible exact Below.refl _ _ | with_reducible assumption | with_reducible refine bel_alloc ?_ _ | with_reducible refine bel_drew ?_ | with_reducible refine bel_drewN ?_ _ | (with_reducible refine bel_set ?_ ?_ _; rotate_left; ((try simp); (try omega))))) hbw9)
        obtain ⟨hcw9, hfzw9, -⟩ := bcell hbw9
        clear hbw9
        go_wp2_with fail
        have kw11_0 : w9.cell? ⟨w6.heap.size, 0, none⟩ = some (.slice Arw6_0 p0.caches.length crw6_0) := by go_simp
        have kw11_1 : w9.cell? ⟨w.heap.size, 0, none⟩ = some (.slice A0_0 p0.caches.length c0_0) := by go_simp
        have hS : ∀ wS, Below w9.heap.size w9 wS → Below w9.heap.size w9 wS ∧ wS.cell? ⟨w6.heap.size, 0, none⟩ = some (.slice Arw6_0 p0.caches.length crw6_0) ∧ wS.cell? ⟨w.heap.size, 0, none⟩ = some (.slice A0_0 p0.caches.length c0_0) := fun wS hb => ⟨hb, (hb.cell (p := ⟨w6.heap.size, 0, none⟩) (by simpa using hzw9_3)).trans kw11_0, (hb.cell (p := ⟨w.heap.size, 0, none⟩) (by simpa using hzw9_0)).trans kw11_1⟩
        have hwb : Below w9.heap.size w9 w9 := Below.refl _ _
        clear kw11_0 kw11_1
        go_region_held3 (fun wS => Below w9.heap.size w9 wS ∧ wS.cell? ⟨w6.heap.size, 0, none⟩ = some (.slice Arw6_0 p0.caches.length crw6_0) ∧ wS.cell? ⟨w.heap.size, 0, none⟩ = some (.slice A0_0 p0.caches.length c0_0)) (exact hS _ (by repeat (first | with_reducible exact Below.refl _ _ | with_reducible assumption | with_reducible refine bel_alloc ?_ _ | with_reducible refine bel_drew ?_ | with_reducible refine bel_drewN ?_ _ | (with_reducible refine bel_set ?_ ?_ _; rotate_left; ((try simp); (try omega)))))) (first | (go_at_call 47; refine (toCacheSet_any _ p0 _ _ (by exact Cod.bel h0 (bel_then hBw9 (by repeat (first | with_reducible exact Below.refl _ _ | with_reducible assumption | with_reducible refine bel_alloc ?_ _ | with_reducible refine bel_drew ?_ | with_reducible refine bel_drewN ?_ _ | (with_reducible refine bel_set ?_ ?_ _; rotate_left; ((try simp); (try omega))))))) z0).mono ?_; rintro e w10 ⟨uw10, Gw10, rfl, hbw10, hrw10, hfw10⟩; have hbww10 : Below w9.heap.size w9 w10 := bel_then (by repeat (first | with_reducible exact Below.refl _ _ | with_reducible assumption | with_reducible refine bel_alloc ?_ _ | with_reducible refine bel_drew ?_ | with_reducible refine bel_drewN ?_ _ | (with_reducible refine bel_set ?_ ?_ _; rotate_left; ((try simp); (try omega))))) hbw10; clear hfw10) | (go_at_call 49; refine (eqCacheSet_any _ _ p0 _ _ _ (by exact Cod.bel hrw6 (by repeat (first | with_reducible exact Below.refl _ _ | with_reducible assumption | with_reducible refine bel_alloc ?_ _ | with_reducible refine bel_drew ?_ | with_reducible refine bel_drewN ?_ _ | (with_reducible refine bel_set ?_ ?_ _; rotate_left; ((try simp); (try omega)))))) (by exact Cod.bel hrw10 (by repeat (first | with_reducible exact Below.refl _ _ | with_reducible assumption | with_reducible refine bel_alloc ?_ _ | with_reducible refine bel_drew ?_ | with_reducible refine bel_drewN ?_ _ | (with_reducible refine bel_set ?_ ?_ _; rotate_left; ((try simp); (try omega))))))).mono ?_; rintro e w11 ⟨rfl, hbw11⟩; have hbww11 : Below w9.heap.size w9 w11 := bel_then (by repeat (first | with_reducible exact Below.refl _ _ | with_reducible assumption | with_reducible refine bel_alloc ?_ _ | with_reducible refine bel_drew ?_ | with_reducible refine bel_drewN ?_ _ | (with_reducible refine bel_set ?_ ?_ _; rotate_left; ((try simp); (try omega))))) hbw11))
        have hbZw11 := hbww11
        have hsw11 := hbZw11.size
        (try simp at hsw11)
        have hzw11_0 : w.heap.size < w11.heap.size := by omega
        have hzw11_1 : w.heap.size + 1 < w11.heap.size := by omega
        have hzw11_2 : gw5 < w11.heap.size := by omega
        have hzw11_3 : w6.heap.size < w11.heap.size := by omega
        have hzw11_4 : w7.heap.size < w11.heap.size := by omega
        have hzw11_5 : w8.heap.size < w11.heap.size := by omega
        have hBw11 : Below w.heap.size w w11 := bel_then (by repeat (first | with_reducible exact Below.refl _ _ | with_reducible assumption | with_reducible refine bel_alloc ?_ _ | with_reducible refine bel_drew ?_ | with_reducible refine bel_drewN ?_ _ | (with_reducible refine bel_set ?_ ?_ _; rotate_left; ((try simp); (try omega))))) hbZw11
        replace hrw5 := Cod.bel hrw5 (show Below _ _ w11 from bel_then (by repeat (first | with_reducible exact Below.refl _ _ | with_reducible assumption | with_reducible refine bel_alloc ?_ _ | with_reducible refine bel_drew ?_ | with_reducible refine bel_drewN ?_ _ | (with_reducible refine bel_set ?_ ?_ _; rotate_left; ((try simp); (try omega))))) hbZw11)
        replace hrw6 := Cod.bel hrw6 (show Below _ _ w11 from bel_then (by repeat (first | with_reducible exact Below.refl _ _ | with_reducible assumption | with_reducible refine bel_alloc ?_ _ | with_reducible refine bel_drew ?_ | with_reducible refine bel_drewN ?_ _ | (with_reducible refine bel_set ?_ ?_ _; rotate_left; ((try simp); (try omega))))) hbZw11)
        replace hrw7 := Cod.bel hrw7 (show Below _ _ w11 from bel_then (by repeat (first | with_reducible exact Below.refl _ _ | with_reducible assumption | with_reducible refine bel_alloc ?_ _ | with_reducible refine bel_drew ?_ | with_reducible refine bel_drewN ?_ _ | (with_reducible refine bel_set ?_ ?_ _; rotate_left; ((try simp); (try omega))))) hbZw11)
        replace hrw8 := Cod.bel hrw8 (show Below _ _ w11 from bel_then (by repeat (first | with_reducible exact Below.refl _ _ | with_reducible assumption | with_reducible refine bel_alloc ?_ _ | with_reducible refine bel_drew ?_ | with_reducible refine bel_drewN ?_ _ | (with_reducible refine bel_set ?_ ?_ _; rotate_left; ((try simp); (try omega))))) hbZw11)
        obtain ⟨hcw11, hfzw11, -⟩ := bcell hbZw11
        clear hbZw11
        go_wp2_with fail
        have kw13_0 : w11.cell? ⟨w7.heap.size, 0, none⟩ = some (.string p1.name) := by go_simp
        have kw13_1 : w11.cell? ⟨w7.heap.size, 1, none⟩ = some (.int .i64 p1.ver) := by go_simp
        have kw13_2 : w11.cell? ⟨w7.heap.size, 2, none⟩ = some (.slice Arw7_2 p1.files.length crw7_2) := by go_simp
        have kw13_3 : w11.cell? ⟨w7.heap.size, 3, none⟩ = some (.bool p1.shared) := by go_simp
        have kw13_4 : w11.cell? ⟨w.heap.size + 1, 0, none⟩ = some (.string p1.name) := by go_simp
        have kw13_5 : w11.cell? ⟨w.heap.size + 1, 1, none⟩ = some (.int .i64 p1.ver) := by go_simp
        have kw13_6 : w11.cell? ⟨w.heap.size + 1, 2, none⟩ = some (.slice A1_2 p1.files.length c1_2) := by go_simp
        have kw13_7 : w11.cell? ⟨w.heap.size + 1, 3, none⟩ = some (.bool p1.shared) := by go_simp
        have hS : ∀ wS, Below w11.heap.size w11 wS → Below w11.heap.size w11 wS ∧ wS.cell? ⟨w7.heap.size, 0, none⟩ = some (.string p1.name) ∧ wS.cell? ⟨w7.heap.size, 1, none⟩ = some (.int .i64 p1.ver) ∧ wS.cell? ⟨w7.heap.size, 2, none⟩ = some (.slice Arw7_2 p1.files.length crw7_2) ∧ wS.cell? ⟨w7.heap.size, 3, none⟩ = some (.bool p1.shared) ∧ wS.cell? ⟨w.heap.size + 1, 0, none⟩ = some (.string p1.name) ∧ wS.cell? ⟨w.heap.size + 1, 1, none⟩ = some (.int .i64 p1.ver) ∧ wS.cell? ⟨w.heap.size + 1, 2, none⟩ = some (.slice A1_2 p1.files.length c1_2) ∧ wS.cell? ⟨w.heap.size + 1, 3, none⟩ = some (.bool p1.shared) := fun wS hb => ⟨hb, (hb.cell (p := ⟨w7.heap.size, 0, none⟩) (by simpa using hzw11_4)).trans kw13_0, (hb.cell (p := ⟨w7.heap.size, 1, none⟩) (by simpa using hzw11_4)).trans kw13_1, (hb.cell (p := ⟨w7.heap.size, 2, none⟩) (by simpa using hzw11_4)).trans kw13_2, (hb.cell (p := ⟨w7.heap.size, 3, none⟩) (by simpa using hzw11_4)).trans kw13_3, (hb.cell (p := ⟨w.heap.size + 1, 0, none⟩) (by simpa using hzw11_1)).trans kw13_4, (hb.cell (p := ⟨w.heap.size + 1, 1, none⟩) (by simpa using hzw11_1)).trans kw13_5, (hb.cell (p := ⟨w.heap.size + 1, 2, none⟩) (by simpa using hzw11_1)).trans kw13_6, (hb.cell (p := ⟨w.heap.size + 1, 3, none⟩) (by simpa using hzw11_1)).trans kw13_7⟩
        have hwb : Below w11.heap.size w11 w11 := Below.refl _ _
        clear kw13_0 kw13_1 kw13_2 kw13_3 kw13_4 kw13_5 kw13_6 kw13_7
        go_region_held3 (fun wS => Below w11.heap.size w11 wS ∧ wS.cell? ⟨w7.heap.size, 0, none⟩ = some (.string p1.name) ∧ wS.cell? ⟨w7.heap.size, 1, none⟩ = some (.int .i64 p1.ver) ∧ wS.cell? ⟨w7.heap.size, 2, none⟩ = some (.slice Arw7_2 p1.files.length crw7_2) ∧ wS.cell? ⟨w7.heap.size, 3, none⟩ = some (.bool p1.shared) ∧ wS.cell? ⟨w.heap.size + 1, 0, none⟩ = some (.string p1.name) ∧ wS.cell? ⟨w.heap.size + 1, 1, none⟩ = some (.int .i64 p1.ver) ∧ wS.cell? ⟨w.heap.size + 1, 2, none⟩ = some (.slice A1_2 p1.files.length c1_2) ∧ wS.cell? ⟨w.heap.size + 1, 3, none⟩ = some (.bool p1.shared)) (exact hS _ (by repeat (first | with_reducible exact Below.refl _ _ | with_reducible assumption | with_reducible refine bel_alloc ?_ _ | with_reducible refine bel_drew ?_ | with_reducible refine bel_drewN ?_ _ | (with_reducible refine bel_set ?_ ?_ _; rotate_left; ((try simp); (try omega)))))) (first | (go_at_call 57; refine (toSite_any _ p1 _ _ (by exact Cod.bel h1 (bel_then hBw11 (by repeat (first | with_reducible exact Below.refl _ _ | with_reducible assumption | with_reducible refine bel_alloc ?_ _ | with_reducible refine bel_drew ?_ | with_reducible refine bel_drewN ?_ _ | (with_reducible refine bel_set ?_ ?_ _; rotate_left; ((try simp); (try omega))))))) z1).mono ?_; rintro e w12 ⟨uw12, Gw12, rfl, hbw12, hrw12, hfw12⟩; have hbww12 : Below w11.heap.size w11 w12 := bel_then (by repeat (first | with_reducible exact Below.refl _ _ | with_reducible assumption | with_reducible refine bel_alloc ?_ _ | with_reducible refine bel_drew ?_ | with_reducible refine bel_drewN ?_ _ | (with_reducible refine bel_set ?_ ?_ _; rotate_left; ((try simp); (try omega))))) hbw12; clear hfw12) | (go_at_call 58; refine (eqSite_any _ _ p1 _ _ _ (by exact Cod.bel hrw7 (by repeat (first | with_reducible exact Below.refl _ _ | with_reducible assumption | with_reducible refine bel_alloc ?_ _ | with_reducible refine bel_drew ?_ | with_reducible refine bel_drewN ?_ _ | (with_reducible refine bel_set ?_ ?_ _; rotate_left; ((try simp); (try omega)))))) (by exact Cod.bel hrw12 (by repeat (first | with_reducible exact Below.refl _ _ | with_reducible assumption | with_reducible refine bel_alloc ?_ _ | with_reducible refine bel_drew ?_ | with_reducible refine bel_drewN ?_ _ | (with_reducible refine bel_set ?_ ?_ _; rotate_left; ((try simp); (try omega))))))).mono ?_; rintro e w13 ⟨rfl, hbw13⟩; have hbww13 : Below w11.heap.size w11 w13 := bel_then (by repeat (first | with_reducible exact Below.refl _ _ | with_reducible assumption | with_reducible refine bel_alloc ?_ _ | with_reducible refine bel_drew ?_ | with_reducible refine bel_drewN ?_ _ | (with_reducible refine bel_set ?_ ?_ _; rotate_left; ((try simp); (try omega))))) hbw13))
        have hbZw13 := hbww13
        have hsw13 := hbZw13.size
        (try simp at hsw13)
        have hzw13_0 : w.heap.size < w13.heap.size := by omega
        have hzw13_1 : w.heap.size + 1 < w13.heap.size := by omega
        have hzw13_2 : gw5 < w13.heap.size := by omega
        have hzw13_3 : w6.heap.size < w13.heap.size := by omega
        have hzw13_4 : w7.heap.size < w13.heap.size := by omega
        have hzw13_5 : w8.heap.size < w13.heap.size := by omega
        have hBw13 : Below w.heap.size w w13 := bel_then (by repeat (first | with_reducible exact Below.refl _ _ | with_reducible assumption | with_reducible refine bel_alloc ?_ _ | with_reducible refine bel_drew ?_ | with_reducible refine bel_drewN ?_ _ | (with_reducible refine bel_set ?_ ?_ _; rotate_left; ((try simp); (try omega))))) hbZw13
        replace hrw5 := Cod.bel hrw5 (show Below _ _ w13 from bel_then (by repeat (first | with_reducible exact Below.refl _ _ | with_reducible assumption | with_reducible refine bel_alloc ?_ _ | with_reducible refine bel_drew ?_ | with_reducible refine bel_drewN ?_ _ | (with_reducible refine bel_set ?_ ?_ _; rotate_left; ((try simp); (try omega))))) hbZw13)
        replace hrw6 := Cod.bel hrw6 (show Below _ _ w13 from bel_then (by repeat (first | with_reducible exact Below.refl _ _ | with_reducible assumption | with_reducible refine bel_alloc ?_ _ | with_reducible refine bel_drew ?_ | with_reducible refine bel_drewN ?_ _ | (with_reducible refine bel_set ?_ ?_ _; rotate_left; ((try simp); (try omega))))) hbZw13)
        replace hrw7 := Cod.bel hrw7 (show Below _ _ w13 from bel_then (by repeat (first | with_reducible exact Below.refl _ _ | with_reducible assumption | with_reducible refine bel_alloc ?_ _ | with_reducible refine bel_drew ?_ | with_reducible refine bel_drewN ?_ _ | (with_reducible refine bel_set ?_ ?_ _; rotate_left; ((try simp); (try omega))))) hbZw13)
        replace hrw8 := Cod.bel hrw8 (show Below _ _ w13 from bel_then (by repeat (first | with_reducible exact Below.refl _ _ | with_reducible assumption | with_reducible refine bel_alloc ?_ _ | with_reducible refine bel_drew ?_ | with_reducible refine bel_drewN ?_ _ | (with_reducible refine bel_set ?_ ?_ _; rotate_left; ((try simp); (try omega))))) hbZw13)
        obtain ⟨hcw13, hfzw13, -⟩ := bcell hbZw13
        clear hbZw13
        go_wp2_with fail
        have ctw14 : ((TCSet.tcn p0 : Nat) : Int) ≤ 449999999 := (by have h1 := TCSet.tcn_le p0; have h2 := z0; omega)
        refine (markCacheSet_any _ p0 _ _ _ (by exact Cod.bel hrw6 (by repeat (first | with_reducible exact Below.refl _ _ | with_reducible assumption | with_reducible refine bel_alloc ?_ _ | with_reducible refine bel_drew ?_ | with_reducible refine bel_drewN ?_ _ | (with_reducible refine bel_set ?_ ?_ _; rotate_left; ((try simp); (try omega)))))) hfw6.2 (by omega) (by omega)).mono ?_
        rintro e w14 ⟨rfl, how14, hmw14⟩
        have hsw14 := how14.size
        (try simp at hsw14)
        have hzw14_0 : w.heap.size < w14.heap.size := by omega
        have hzw14_1 : w.heap.size + 1 < w14.heap.size := by omega
        have hzw14_2 : gw5 < w14.heap.size := by omega
        have hzw14_3 : w6.heap.size < w14.heap.size := by omega
        have hzw14_4 : w7.heap.size < w14.heap.size := by omega
        have hzw14_5 : w8.heap.size < w14.heap.size := by omega
        have hnw14_0 : w.heap.size ∉ Gw6 := fun hm => by have h1 := hfw6.1 _ hm; have h2 := hlrw6 _ hm; (try simp at h1); omega
        have hcw14_0 : ∀ o : Nat, w14.cell? ⟨w.heap.size, o, none⟩ = _ := fun o => World.cell?_of_block (a := ⟨w.heap.size, o, none⟩) (how14.block (w.heap.size) (by (try simp); (try omega)) hnw14_0)
        clear hnw14_0
        have hnw14_1 : w.heap.size + 1 ∉ Gw6 := fun hm => by have h1 := hfw6.1 _ hm; have h2 := hlrw6 _ hm; (try simp at h1); omega
        have hcw14_1 : ∀ o : Nat, w14.cell? ⟨w.heap.size + 1, o, none⟩ = _ := fun o => World.cell?_of_block (a := ⟨w.heap.size + 1, o, none⟩) (how14.block (w.heap.size + 1) (by (try simp); (try omega)) hnw14_1)
        clear hnw14_1
        have hnw14_2 : gw5 ∉ Gw6 := fun hm => by have h1 := hfw6.1 _ hm; have h2 := hlrw6 _ hm; (try simp at h1); omega
        have hcw14_2 : ∀ o : Nat, w14.cell? ⟨gw5, o, none⟩ = _ := fun o => World.cell?_of_block (a := ⟨gw5, o, none⟩) (how14.block (gw5) (by (try simp); (try omega)) hnw14_2)
        clear hnw14_2
        have hnw14_3 : w6.heap.size ∉ Gw6 := fun hm => by have h1 := hfw6.1 _ hm; have h2 := hlrw6 _ hm; (try simp at h1); omega
        have hcw14_3 : ∀ o : Nat, w14.cell? ⟨w6.heap.size, o, none⟩ = _ := fun o => World.cell?_of_block (a := ⟨w6.heap.size, o, none⟩) (how14.block (w6.heap.size) (by (try simp); (try omega)) hnw14_3)
        clear hnw14_3
        have hnw14_4 : w7.heap.size ∉ Gw6 := fun hm => by have h1 := hfw6.1 _ hm; have h2 := hlrw6 _ hm; (try simp at h1); omega
        have hcw14_4 : ∀ o : Nat, w14.cell? ⟨w7.heap.size, o, none⟩ = _ := fun o => World.cell?_of_block (a := ⟨w7.heap.size, o, none⟩) (how14.block (w7.heap.size) (by (try simp); (try omega)) hnw14_4)
        clear hnw14_4
        have hnw14_5 : w8.heap.size ∉ Gw6 := fun hm => by have h1 := hfw6.1 _ hm; have h2 := hlrw6 _ hm; (try simp at h1); omega
        have hcw14_5 : ∀ o : Nat, w14.cell? ⟨w8.heap.size, o, none⟩ = _ := fun o => World.cell?_of_block (a := ⟨w8.heap.size, o, none⟩) (how14.block (w8.heap.size) (by (try simp); (try omega)) hnw14_5)
        clear hnw14_5
        have hBw14 : Below w.heap.size w w14 := Below.trans (show Below w.heap.size w _ from (by repeat (first | with_reducible exact Below.refl _ _ | with_reducible assumption | with_reducible refine bel_alloc ?_ _ | with_reducible refine bel_drew ?_ | with_reducible refine bel_drewN ?_ _ | (with_reducible refine bel_set ?_ ?_ _; rotate_left; ((try simp); (try omega)))))) (how14.bel _ (by have := hBw13.size; (try simp); (try omega)) (fun b hb => by have h1 := hfw6.1 _ hb; have := hBw13.size; (try simp at h1); omega))
        replace hrw5 := Cod.only (Cod.bel hrw5 (by repeat (first | with_reducible exact Below.refl _ _ | with_reducible assumption | with_reducible refine bel_alloc ?_ _ | with_reducible refine bel_drew ?_ | with_reducible refine bel_drewN ?_ _ | (with_reducible refine bel_set ?_ ?_ _; rotate_left; ((try simp); (try omega)))))) how14 (fun b h1 h2 => by have e1 := hlrw5 b h1; have e2 := hfw6.1 b h2; (try simp at e2); omega)
        replace hrw7 := Cod.only (Cod.bel hrw7 (by repeat (first | with_reducible exact Below.refl _ _ | with_reducible assumption | with_reducible refine bel_alloc ?_ _ | with_reducible refine bel_drew ?_ | with_reducible refine bel_drewN ?_ _ | (with_reducible refine bel_set ?_ ?_ _; rotate_left; ((try simp); (try omega)))))) how14 (fun b h1 h2 => by have e1 := hlrw6 b h2; have e2 := hfw7.1 b h1; (try simp at e2); omega)
        replace hrw8 := Cod.only (Cod.bel hrw8 (by repeat (first | with_reducible exact Below.refl _ _ | with_reducible assumption | with_reducible refine bel_alloc ?_ _ | with_reducible refine bel_drew ?_ | with_reducible refine bel_drewN ?_ _ | (with_reducible refine bel_set ?_ ?_ _; rotate_left; ((try simp); (try omega)))))) how14 (fun b h1 h2 => by have e1 := hlrw6 b h2; have e2 := hfw8.1 b h1; (try simp at e2); omega)
        clear hrw6
        have hrw6 := hmw14
        clear how14
        go_wp2_with fail
        have ctw15 : ((TSite.tcn p1 : Nat) : Int) ≤ 449999999 := (by have h1 := TSite.tcn_le p1; have h2 := z1; omega)
        refine (markSite_any _ p1 _ _ _ (by exact Cod.bel hrw7 (by repeat (first | with_reducible exact Below.refl _ _ | with_reducible assumption | with_reducible refine bel_alloc ?_ _ | with_reducible refine bel_drew ?_ | with_reducible refine bel_drewN ?_ _ | (with_reducible refine bel_set ?_ ?_ _; rotate_left; ((try simp); (try omega)))))) hfw7.2 (by omega) (by omega)).mono ?_
        rintro e w15 ⟨rfl, how15, hmw15⟩
        have hsw15 := how15.size
        (try simp at hsw15)
        have hzw15_0 : w.heap.size < w15.heap.size := by omega
        have hzw15_1 : w.heap.size + 1 < w15.heap.size := by omega
        have hzw15_2 : gw5 < w15.heap.size := by omega
        have hzw15_3 : w6.heap.size < w15.heap.size := by omega
        have hzw15_4 : w7.heap.size < w15.heap.size := by omega
        have hzw15_5 : w8.heap.size < w15.heap.size := by omega
        have hnw15_0 : w.heap.size ∉ Gw7 := fun hm => by have h1 := hfw7.1 _ hm; have h2 := hlrw7 _ hm; (try simp at h1); omega
        have hcw15_0 : ∀ o : Nat, w15.cell? ⟨w.heap.size, o, none⟩ = _ := fun o => World.cell?_of_block (a := ⟨w.heap.size, o, none⟩) (how15.block (w.heap.size) (by (try simp); (try omega)) hnw15_0)
        clear hnw15_0
        have hnw15_1 : w.heap.size + 1 ∉ Gw7 := fun hm => by have h1 := hfw7.1 _ hm; have h2 := hlrw7 _ hm; (try simp at h1); omega
        have hcw15_1 : ∀ o : Nat, w15.cell? ⟨w.heap.size + 1, o, none⟩ = _ := fun o => World.cell?_of_block (a := ⟨w.heap.size + 1, o, none⟩) (how15.block (w.heap.size + 1) (by (try simp); (try omega)) hnw15_1)
        clear hnw15_1
        have hnw15_2 : gw5 ∉ Gw7 := fun hm => by have h1 := hfw7.1 _ hm; have h2 := hlrw7 _ hm; (try simp at h1); omega
        have hcw15_2 : ∀ o : Nat, w15.cell? ⟨gw5, o, none⟩ = _ := fun o => World.cell?_of_block (a := ⟨gw5, o, none⟩) (how15.block (gw5) (by (try simp); (try omega)) hnw15_2)
        clear hnw15_2
        have hnw15_3 : w6.heap.size ∉ Gw7 := fun hm => by have h1 := hfw7.1 _ hm; have h2 := hlrw7 _ hm; (try simp at h1); omega
        have hcw15_3 : ∀ o : Nat, w15.cell? ⟨w6.heap.size, o, none⟩ = _ := fun o => World.cell?_of_block (a := ⟨w6.heap.size, o, none⟩) (how15.block (w6.heap.size) (by (try simp); (try omega)) hnw15_3)
        clear hnw15_3
        have hnw15_4 : w7.heap.size ∉ Gw7 := fun hm => by have h1 := hfw7.1 _ hm; have h2 := hlrw7 _ hm; (try simp at h1); omega
        have hcw15_4 : ∀ o : Nat, w15.cell? ⟨w7.heap.size, o, none⟩ = _ := fun o => World.cell?_of_block (a := ⟨w7.heap.size, o, none⟩) (how15.block (w7.heap.size) (by (try simp); (try omega)) hnw15_4)
        clear hnw15_4
        have hnw15_5 : w8.heap.size ∉ Gw7 := fun hm => by have h1 := hfw7.1 _ hm; have h2 := hlrw7 _ hm; (try simp at h1); omega
        have hcw15_5 : ∀ o : Nat, w15.cell? ⟨w8.heap.size, o, none⟩ = _ := fun o => World.cell?_of_block (a := ⟨w8.heap.size, o, none⟩) (how15.block (w8.heap.size) (by (try simp); (try omega)) hnw15_5)
        clear hnw15_5
        have hBw15 : Below w.heap.size w w15 := Below.trans (show Below w.heap.size w _ from (by repeat (first | with_reducible exact Below.refl _ _ | with_reducible assumption | with_reducible refine bel_alloc ?_ _ | with_reducible refine bel_drew ?_ | with_reducible refine bel_drewN ?_ _ | (with_reducible refine bel_set ?_ ?_ _; rotate_left; ((try simp); (try omega)))))) (how15.bel _ (by have := hBw14.size; (try simp); (try omega)) (fun b hb => by have h1 := hfw7.1 _ hb; have := hBw14.size; (try simp at h1); omega))
        replace hrw5 := Cod.only (Cod.bel hrw5 (by repeat (first | with_reducible exact Below.refl _ _ | with_reducible assumption | with_reducible refine bel_alloc ?_ _ | with_reducible refine bel_drew ?_ | with_reducible refine bel_drewN ?_ _ | (with_reducible refine bel_set ?_ ?_ _; rotate_left; ((try simp); (try omega)))))) how15 (fun b h1 h2 => by have e1 := hlrw5 b h1; have e2 := hfw7.1 b h2; (try simp at e2); omega)
        replace hrw6 := Cod.only (Cod.bel hrw6 (by repeat (first | with_reducible exact Below.refl _ _ | with_reducible assumption | with_reducible refine bel_alloc ?_ _ | with_reducible refine bel_drew ?_ | with_reducible refine bel_drewN ?_ _ | (with_reducible refine bel_set ?_ ?_ _; rotate_left; ((try simp); (try omega)))))) how15 (fun b h1 h2 => by have e1 := hlrw6 b h1; have e2 := hfw7.1 b h2; (try simp at e2); omega)
        replace hrw8 := Cod.only (Cod.bel hrw8 (by repeat (first | with_reducible exact Below.refl _ _ | with_reducible assumption | with_reducible refine bel_alloc ?_ _ | with_reducible refine bel_drew ?_ | with_reducible refine bel_drewN ?_ _ | (with_reducible refine bel_set ?_ ?_ _; rotate_left; ((try simp); (try omega)))))) how15 (fun b h1 h2 => by have e1 := hlrw7 b h2; have e2 := hfw8.1 b h1; (try simp at e2); omega)
        clear hrw7
        have hrw7 := hmw15
        clear how15
        go_wp2_with fail
        refine (eqCacheSet_any _ _ ((installFiles p0 p1 p2 p3).1) _ _ _ (by exact Cod.bel hrw8 (by repeat (first | with_reducible exact Below.refl _ _ | with_reducible assumption | with_reducible refine bel_alloc ?_ _ | with_reducible refine bel_drew ?_ | with_reducible refine bel_drewN ?_ _ | (with_reducible refine bel_set ?_ ?_ _; rotate_left; ((try simp); (try omega)))))) (by exact Cod.bel hrw5 (by repeat (first | with_reducible exact Below.refl _ _ | with_reducible assumption | with_reducible refine bel_alloc ?_ _ | with_reducible refine bel_drew ?_ | with_reducible refine bel_drewN ?_ _ | (with_reducible refine bel_set ?_ ?_ _; rotate_left; ((try simp); (try omega))))))).mono ?_
        rintro e w16 ⟨rfl, hbw16⟩
        have hsw16 := hbw16.size
        (try simp at hsw16)
        have hzw16_0 : w.heap.size < w16.heap.size := by omega
        have hzw16_1 : w.heap.size + 1 < w16.heap.size := by omega
        have hzw16_2 : gw5 < w16.heap.size := by omega
        have hzw16_3 : w6.heap.size < w16.heap.size := by omega
        have hzw16_4 : w7.heap.size < w16.heap.size := by omega
        have hzw16_5 : w8.heap.size < w16.heap.size := by omega
        have hBw16 : Below w.heap.size w w16 := bel_then (by repeat (first | with_reducible exact Below.refl _ _ | with_reducible assumption | with_reducible refine bel_alloc ?_ _ | with_reducible refine bel_drew ?_ | with_reducible refine bel_drewN ?_ _ | (with_reducible refine bel_set ?_ ?_ _; rotate_left; ((try simp); (try omega))))) hbw16
        replace hrw5 := Cod.bel hrw5 (show Below _ _ w16 from bel_then (by repeat (first | with_reducible exact Below.refl _ _ | with_reducible assumption | with_reducible refine bel_alloc ?_ _ | with_reducible refine bel_drew ?_ | with_reducible refine bel_drewN ?_ _ | (with_reducible refine bel_set ?_ ?_ _; rotate_left; ((try simp); (try omega))))) hbw16)
        replace hrw6 := Cod.bel hrw6 (show Below _ _ w16 from bel_then (by repeat (first | with_reducible exact Below.refl _ _ | with_reducible assumption | with_reducible refine bel_alloc ?_ _ | with_reducible refine bel_drew ?_ | with_reducible refine bel_drewN ?_ _ | (with_reducible refine bel_set ?_ ?_ _; rotate_left; ((try simp); (try omega))))) hbw16)
        replace hrw7 := Cod.bel hrw7 (show Below _ _ w16 from bel_then (by repeat (first | with_reducible exact Below.refl _ _ | with_reducible assumption | with_reducible refine bel_alloc ?_ _ | with_reducible refine bel_drew ?_ | with_reducible refine bel_drewN ?_ _ | (with_reducible refine bel_set ?_ ?_ _; rotate_left; ((try simp); (try omega))))) hbw16)
        replace hrw8 := Cod.bel hrw8 (show Below _ _ w16 from bel_then (by repeat (first | with_reducible exact Below.refl _ _ | with_reducible assumption | with_reducible refine bel_alloc ?_ _ | with_reducible refine bel_drew ?_ | with_reducible refine bel_drewN ?_ _ | (with_reducible refine bel_set ?_ ?_ _; rotate_left; ((try simp); (try omega))))) hbw16)
        obtain ⟨hcw16, hfzw16, -⟩ := bcell hbw16
        clear hbw16
        go_wp2_with fail
        have ctw17 : ((TCSet.tcn ((installFiles p0 p1 p2 p3).1) : Nat) : Int) ≤ 449999999 := (by have h1 := TCSet.tcn_le ((installFiles p0 p1 p2 p3).1); have h2 := zr; omega)
        refine (markCacheSet_any _ ((installFiles p0 p1 p2 p3).1) _ _ _ (by exact Cod.bel hrw8 (by repeat (first | with_reducible exact Below.refl _ _ | with_reducible assumption | with_reducible refine bel_alloc ?_ _ | with_reducible refine bel_drew ?_ | with_reducible refine bel_drewN ?_ _ | (with_reducible refine bel_set ?_ ?_ _; rotate_left; ((try simp); (try omega)))))) hfw8.2 (by omega) (by omega)).mono ?_
        rintro e w17 ⟨rfl, how17, hmw17⟩
        have hsw17 := how17.size
        (try simp at hsw17)
        have hzw17_0 : w.heap.size < w17.heap.size := by omega
        have hzw17_1 : w.heap.size + 1 < w17.heap.size := by omega
        have hzw17_2 : gw5 < w17.heap.size := by omega
        have hzw17_3 : w6.heap.size < w17.heap.size := by omega
        have hzw17_4 : w7.heap.size < w17.heap.size := by omega
        have hzw17_5 : w8.heap.size < w17.heap.size := by omega
        have hnw17_0 : w.heap.size ∉ Gw8 := fun hm => by have h1 := hfw8.1 _ hm; have h2 := hlrw8 _ hm; (try simp at h1); omega
        have hcw17_0 : ∀ o : Nat, w17.cell? ⟨w.heap.size, o, none⟩ = _ := fun o => World.cell?_of_block (a := ⟨w.heap.size, o, none⟩) (how17.block (w.heap.size) (by (try simp); (try omega)) hnw17_0)
        clear hnw17_0
        have hnw17_1 : w.heap.size + 1 ∉ Gw8 := fun hm => by have h1 := hfw8.1 _ hm; have h2 := hlrw8 _ hm; (try simp at h1); omega
        have hcw17_1 : ∀ o : Nat, w17.cell? ⟨w.heap.size + 1, o, none⟩ = _ := fun o => World.cell?_of_block (a := ⟨w.heap.size + 1, o, none⟩) (how17.block (w.heap.size + 1) (by (try simp); (try omega)) hnw17_1)
        clear hnw17_1
        have hnw17_2 : gw5 ∉ Gw8 := fun hm => by have h1 := hfw8.1 _ hm; have h2 := hlrw8 _ hm; (try simp at h1); omega
        have hcw17_2 : ∀ o : Nat, w17.cell? ⟨gw5, o, none⟩ = _ := fun o => World.cell?_of_block (a := ⟨gw5, o, none⟩) (how17.block (gw5) (by (try simp); (try omega)) hnw17_2)
        clear hnw17_2
        have hnw17_3 : w6.heap.size ∉ Gw8 := fun hm => by have h1 := hfw8.1 _ hm; have h2 := hlrw8 _ hm; (try simp at h1); omega
        have hcw17_3 : ∀ o : Nat, w17.cell? ⟨w6.heap.size, o, none⟩ = _ := fun o => World.cell?_of_block (a := ⟨w6.heap.size, o, none⟩) (how17.block (w6.heap.size) (by (try simp); (try omega)) hnw17_3)
        clear hnw17_3
        have hnw17_4 : w7.heap.size ∉ Gw8 := fun hm => by have h1 := hfw8.1 _ hm; have h2 := hlrw8 _ hm; (try simp at h1); omega
        have hcw17_4 : ∀ o : Nat, w17.cell? ⟨w7.heap.size, o, none⟩ = _ := fun o => World.cell?_of_block (a := ⟨w7.heap.size, o, none⟩) (how17.block (w7.heap.size) (by (try simp); (try omega)) hnw17_4)
        clear hnw17_4
        have hnw17_5 : w8.heap.size ∉ Gw8 := fun hm => by have h1 := hfw8.1 _ hm; have h2 := hlrw8 _ hm; (try simp at h1); omega
        have hcw17_5 : ∀ o : Nat, w17.cell? ⟨w8.heap.size, o, none⟩ = _ := fun o => World.cell?_of_block (a := ⟨w8.heap.size, o, none⟩) (how17.block (w8.heap.size) (by (try simp); (try omega)) hnw17_5)
        clear hnw17_5
        have hBw17 : Below w.heap.size w w17 := Below.trans (show Below w.heap.size w _ from (by repeat (first | with_reducible exact Below.refl _ _ | with_reducible assumption | with_reducible refine bel_alloc ?_ _ | with_reducible refine bel_drew ?_ | with_reducible refine bel_drewN ?_ _ | (with_reducible refine bel_set ?_ ?_ _; rotate_left; ((try simp); (try omega)))))) (how17.bel _ (by have := hBw16.size; (try simp); (try omega)) (fun b hb => by have h1 := hfw8.1 _ hb; have := hBw16.size; (try simp at h1); omega))
        replace hrw5 := Cod.only (Cod.bel hrw5 (by repeat (first | with_reducible exact Below.refl _ _ | with_reducible assumption | with_reducible refine bel_alloc ?_ _ | with_reducible refine bel_drew ?_ | with_reducible refine bel_drewN ?_ _ | (with_reducible refine bel_set ?_ ?_ _; rotate_left; ((try simp); (try omega)))))) how17 (fun b h1 h2 => by have e1 := hlrw5 b h1; have e2 := hfw8.1 b h2; (try simp at e2); omega)
        replace hrw6 := Cod.only (Cod.bel hrw6 (by repeat (first | with_reducible exact Below.refl _ _ | with_reducible assumption | with_reducible refine bel_alloc ?_ _ | with_reducible refine bel_drew ?_ | with_reducible refine bel_drewN ?_ _ | (with_reducible refine bel_set ?_ ?_ _; rotate_left; ((try simp); (try omega)))))) how17 (fun b h1 h2 => by have e1 := hlrw6 b h1; have e2 := hfw8.1 b h2; (try simp at e2); omega)
        replace hrw7 := Cod.only (Cod.bel hrw7 (by repeat (first | with_reducible exact Below.refl _ _ | with_reducible assumption | with_reducible refine bel_alloc ?_ _ | with_reducible refine bel_drew ?_ | with_reducible refine bel_drewN ?_ _ | (with_reducible refine bel_set ?_ ?_ _; rotate_left; ((try simp); (try omega)))))) how17 (fun b h1 h2 => by have e1 := hlrw7 b h1; have e2 := hfw8.1 b h2; (try simp at e2); omega)
        clear hrw8
        have hrw8 := hmw17
        clear how17
        go_wp2_with fail
        refine (heldCacheSet_any _ ((installFiles p0 p1 p2 p3).1) _ _ _ (by exact Cod.bel hrw8 (by repeat (first | with_reducible exact Below.refl _ _ | with_reducible assumption | with_reducible refine bel_alloc ?_ _ | with_reducible refine bel_drew ?_ | with_reducible refine bel_drewN ?_ _ | (with_reducible refine bel_set ?_ ?_ _; rotate_left; ((try simp); (try omega)))))) (by omega) (by omega)).mono ?_
        rintro e w18 ⟨rfl, hbw18⟩
        have hsw18 := hbw18.size
        (try simp at hsw18)
        have hzw18_0 : w.heap.size < w18.heap.size := by omega
        have hzw18_1 : w.heap.size + 1 < w18.heap.size := by omega
        have hzw18_2 : gw5 < w18.heap.size := by omega
        have hzw18_3 : w6.heap.size < w18.heap.size := by omega
        have hzw18_4 : w7.heap.size < w18.heap.size := by omega
        have hzw18_5 : w8.heap.size < w18.heap.size := by omega
        have hBw18 : Below w.heap.size w w18 := bel_then (by repeat (first | with_reducible exact Below.refl _ _ | with_reducible assumption | with_reducible refine bel_alloc ?_ _ | with_reducible refine bel_drew ?_ | with_reducible refine bel_drewN ?_ _ | (with_reducible refine bel_set ?_ ?_ _; rotate_left; ((try simp); (try omega))))) hbw18
        replace hrw5 := Cod.bel hrw5 (show Below _ _ w18 from bel_then (by repeat (first | with_reducible exact Below.refl _ _ | with_reducible assumption | with_reducible refine bel_alloc ?_ _ | with_reducible refine bel_drew ?_ | with_reducible refine bel_drewN ?_ _ | (with_reducible refine bel_set ?_ ?_ _; rotate_left; ((try simp); (try omega))))) hbw18)
        replace hrw6 := Cod.bel hrw6 (show Below _ _ w18 from bel_then (by repeat (first | with_reducible exact Below.refl _ _ | with_reducible assumption | with_reducible refine bel_alloc ?_ _ | with_reducible refine bel_drew ?_ | with_reducible refine bel_drewN ?_ _ | (with_reducible refine bel_set ?_ ?_ _; rotate_left; ((try simp); (try omega))))) hbw18)
        replace hrw7 := Cod.bel hrw7 (show Below _ _ w18 from bel_then (by repeat (first | with_reducible exact Below.refl _ _ | with_reducible assumption | with_reducible refine bel_alloc ?_ _ | with_reducible refine bel_drew ?_ | with_reducible refine bel_drewN ?_ _ | (with_reducible refine bel_set ?_ ?_ _; rotate_left; ((try simp); (try omega))))) hbw18)
        replace hrw8 := Cod.bel hrw8 (show Below _ _ w18 from bel_then (by repeat (first | with_reducible exact Below.refl _ _ | with_reducible assumption | with_reducible refine bel_alloc ?_ _ | with_reducible refine bel_drew ?_ | with_reducible refine bel_drewN ?_ _ | (with_reducible refine bel_set ?_ ?_ _; rotate_left; ((try simp); (try omega))))) hbw18)
        obtain ⟨hcw18, hfzw18, -⟩ := bcell hbw18
        clear hbw18
        go_wp2_with fail
        have kz19_0 : w18.cell? ⟨w.heap.size, 0, none⟩ = some (.slice A0_0 p0.caches.length c0_0) := by go_simp
        have kz19_1 : w18.cell? ⟨w.heap.size + 1, 0, none⟩ = some (.string p1.name) := by go_simp
        have kz19_2 : w18.cell? ⟨w.heap.size + 1, 1, none⟩ = some (.int .i64 p1.ver) := by go_simp
        have kz19_3 : w18.cell? ⟨w.heap.size + 1, 2, none⟩ = some (.slice A1_2 p1.files.length c1_2) := by go_simp
        have kz19_4 : w18.cell? ⟨w.heap.size + 1, 3, none⟩ = some (.bool p1.shared) := by go_simp
        have hS : ∀ wS, Below w18.heap.size w18 wS → Below w18.heap.size w18 wS ∧ wS.cell? ⟨w.heap.size, 0, none⟩ = some (.slice A0_0 p0.caches.length c0_0) ∧ wS.cell? ⟨w.heap.size + 1, 0, none⟩ = some (.string p1.name) ∧ wS.cell? ⟨w.heap.size + 1, 1, none⟩ = some (.int .i64 p1.ver) ∧ wS.cell? ⟨w.heap.size + 1, 2, none⟩ = some (.slice A1_2 p1.files.length c1_2) ∧ wS.cell? ⟨w.heap.size + 1, 3, none⟩ = some (.bool p1.shared) := fun wS hb => ⟨hb, (hb.cell (p := ⟨w.heap.size, 0, none⟩) (by simpa using hzw18_0)).trans kz19_0, (hb.cell (p := ⟨w.heap.size + 1, 0, none⟩) (by simpa using hzw18_1)).trans kz19_1, (hb.cell (p := ⟨w.heap.size + 1, 1, none⟩) (by simpa using hzw18_1)).trans kz19_2, (hb.cell (p := ⟨w.heap.size + 1, 2, none⟩) (by simpa using hzw18_1)).trans kz19_3, (hb.cell (p := ⟨w.heap.size + 1, 3, none⟩) (by simpa using hzw18_1)).trans kz19_4⟩
        have hwb : Below w18.heap.size w18 w18 := Below.refl _ _
        clear kz19_0 kz19_1 kz19_2 kz19_3 kz19_4
        go_cut [19, 20] from 102 (fun v19 v20 wq => ∃ (gw21 : Nat) (Arw21_0 : Option Addr) (crw21_0 : Nat) (Gw21 : List Nat), v19 = .pointer (some ⟨gw21, 0, none⟩) ∧ v20 = .bool ((installFiles p0 p1 p2 p3).2) ∧ Below w18.heap.size w18 wq ∧ w18.heap.size ≤ gw21 ∧ gw21 < wq.heap.size ∧ wq.cell? ⟨gw21, 0, none⟩ = some (.slice Arw21_0 ((installFiles p0 p1 p2 p3).1).caches.length crw21_0) ∧ cCSet.rep wq [(.slice Arw21_0 ((installFiles p0 p1 p2 p3).1).caches.length crw21_0)] ((installFiles p0 p1 p2 p3).1) Gw21 ∧ Fresh w18.heap.size Gw21 ∧ gw21 ∉ Gw21)
        case first =>
          go_region_held3 (fun wS => Below w18.heap.size w18 wS ∧ wS.cell? ⟨w.heap.size, 0, none⟩ = some (.slice A0_0 p0.caches.length c0_0) ∧ wS.cell? ⟨w.heap.size + 1, 0, none⟩ = some (.string p1.name) ∧ wS.cell? ⟨w.heap.size + 1, 1, none⟩ = some (.int .i64 p1.ver) ∧ wS.cell? ⟨w.heap.size + 1, 2, none⟩ = some (.slice A1_2 p1.files.length c1_2) ∧ wS.cell? ⟨w.heap.size + 1, 3, none⟩ = some (.bool p1.shared)) (exact hS _ (by repeat (first | with_reducible exact Below.refl _ _ | with_reducible assumption | with_reducible refine bel_alloc ?_ _ | with_reducible refine bel_drew ?_ | with_reducible refine bel_drewN ?_ _ | (with_reducible refine bel_set ?_ ?_ _; rotate_left; ((try simp); (try omega)))))) (first | (go_at_call 47; refine (toCacheSet_any _ p0 _ _ (by exact Cod.bel h0 (bel_then hBw18 (by repeat (first | with_reducible exact Below.refl _ _ | with_reducible assumption | with_reducible refine bel_alloc ?_ _ | with_reducible refine bel_drew ?_ | with_reducible refine bel_drewN ?_ _ | (with_reducible refine bel_set ?_ ?_ _; rotate_left; ((try simp); (try omega))))))) z0).mono ?_; rintro e w19 ⟨uw19, Gw19, rfl, hbw19, hrw19, hfw19⟩; have hbww19 : Below w18.heap.size w18 w19 := bel_then (by repeat (first | with_reducible exact Below.refl _ _ | with_reducible assumption | with_reducible refine bel_alloc ?_ _ | with_reducible refine bel_drew ?_ | with_reducible refine bel_drewN ?_ _ | (with_reducible refine bel_set ?_ ?_ _; rotate_left; ((try simp); (try omega))))) hbw19; clear hfw19; obtain ⟨hccw19, hffw19, hzzw19⟩ := bcell hbw19; (try simp at hzzw19); (try have hyyw19_0 : w18.heap.size < w19.heap.size := (by omega)); (try have hbpw19_0 : Below w18.heap.size w18 w19 := bel_then (by repeat (first | with_reducible exact Below.refl _ _ | with_reducible assumption | with_reducible refine bel_alloc ?_ _ | with_reducible refine bel_drew ?_ | with_reducible refine bel_drewN ?_ _ | (with_reducible refine bel_set ?_ ?_ _; rotate_left; ((try simp); (try omega))))) hbw19)) | (go_at_call 57; refine (toSite_any _ p1 _ _ (by exact Cod.bel h1 (bel_then hBw18 (by repeat (first | with_reducible exact Below.refl _ _ | with_reducible assumption | with_reducible refine bel_alloc ?_ _ | with_reducible refine bel_drew ?_ | with_reducible refine bel_drewN ?_ _ | (with_reducible refine bel_set ?_ ?_ _; rotate_left; ((try simp); (try omega))))))) z1).mono ?_; rintro e w20 ⟨uw20, Gw20, rfl, hbw20, hrw20, hfw20⟩; have hbww20 : Below w18.heap.size w18 w20 := bel_then (by repeat (first | with_reducible exact Below.refl _ _ | with_reducible assumption | with_reducible refine bel_alloc ?_ _ | with_reducible refine bel_drew ?_ | with_reducible refine bel_drewN ?_ _ | (with_reducible refine bel_set ?_ ?_ _; rotate_left; ((try simp); (try omega))))) hbw20; clear hfw20; obtain ⟨hccw20, hffw20, hzzw20⟩ := bcell hbw20; (try simp at hzzw20); (try have hyyw20_0 : w18.heap.size < w20.heap.size := (by omega)); (try have hbpw20_0 : Below w18.heap.size w18 w20 := bel_then (by repeat (first | with_reducible exact Below.refl _ _ | with_reducible assumption | with_reducible refine bel_alloc ?_ _ | with_reducible refine bel_drew ?_ | with_reducible refine bel_drewN ?_ _ | (with_reducible refine bel_set ?_ ?_ _; rotate_left; ((try simp); (try omega))))) hbw20); (try have hyyw20_1 : w19.heap.size < w20.heap.size := (by omega)); (try have hbpw20_1 : Below w19.heap.size w19 w20 := bel_then (by repeat (first | with_reducible exact Below.refl _ _ | with_reducible assumption | with_reducible refine bel_alloc ?_ _ | with_reducible refine bel_drew ?_ | with_reducible refine bel_drewN ?_ _ | (with_reducible refine bel_set ?_ ?_ _; rotate_left; ((try simp); (try omega))))) hbw20)) | (go_at_call 53; refine (implInstallFiles_any _ p0 _ _ p1 _ p2 p3 _ (by exact Cod.bel hrw19 (by repeat (first | with_reducible exact Below.refl _ _ | with_reducible assumption | with_reducible refine bel_alloc ?_ _ | with_reducible refine bel_drew ?_ | with_reducible refine bel_drewN ?_ _ | (with_reducible refine bel_set ?_ ?_ _; rotate_left; ((try simp); (try omega)))))) z0 (by exact Cod.bel hrw20 (by repeat (first | with_reducible exact Below.refl _ _ | with_reducible assumption | with_reducible refine bel_alloc ?_ _ | with_reducible refine bel_drew ?_ | with_reducible refine bel_drewN ?_ _ | (with_reducible refine bel_set ?_ ?_ _; rotate_left; ((try simp); (try omega)))))) z1 h2).mono ?_; rintro e w21 ⟨uw21, Gw21, rfl, hbw21, hrw21, hfw21⟩; have drw21 := hrw21; obtain ⟨vrw21_0, Erw21_0, rfl, -, -, mrw21_0⟩ := TCSet.outA drw21; obtain ⟨Arw21_0, crw21_0, erw21_0⟩ := cL_form mrw21_0; subst erw21_0; clear mrw21_0 drw21; have hbww21 : Below w18.heap.size w18 w21 := bel_then (by repeat (first | with_reducible exact Below.refl _ _ | with_reducible assumption | with_reducible refine bel_alloc ?_ _ | with_reducible refine bel_drew ?_ | with_reducible refine bel_drewN ?_ _ | (with_reducible refine bel_set ?_ ?_ _; rotate_left; ((try simp); (try omega))))) hbw21; obtain ⟨hccw21, hffw21, hzzw21⟩ := bcell hbw21; (try simp at hzzw21); (try have hyyw21_0 : w18.heap.size < w21.heap.size := (by omega)); (try have hbpw21_0 : Below w18.heap.size w18 w21 := bel_then (by repeat (first | with_reducible exact Below.refl _ _ | with_reducible assumption | with_reducible refine bel_alloc ?_ _ | with_reducible refine bel_drew ?_ | with_reducible refine bel_drewN ?_ _ | (with_reducible refine bel_set ?_ ?_ _; rotate_left; ((try simp); (try omega))))) hbw21); (try have hyyw21_1 : w19.heap.size < w21.heap.size := (by omega)); (try have hbpw21_1 : Below w19.heap.size w19 w21 := bel_then (by repeat (first | with_reducible exact Below.refl _ _ | with_reducible assumption | with_reducible refine bel_alloc ?_ _ | with_reducible refine bel_drew ?_ | with_reducible refine bel_drewN ?_ _ | (with_reducible refine bel_set ?_ ?_ _; rotate_left; ((try simp); (try omega))))) hbw21); (try have hyyw21_2 : w20.heap.size < w21.heap.size := (by omega)); (try have hbpw21_2 : Below w20.heap.size w20 w21 := bel_then (by repeat (first | with_reducible exact Below.refl _ _ | with_reducible assumption | with_reducible refine bel_alloc ?_ _ | with_reducible refine bel_drew ?_ | with_reducible refine bel_drewN ?_ _ | (with_reducible refine bel_set ?_ ?_ _; rotate_left; ((try simp); (try omega))))) hbw21)))
          all_goals
            have hnbw21 : ∀ b, b ∈ Gw21 → _ ≤ b ∧ b < w21.heap.size := fun b hb => ⟨hfw21.1 b hb, Cod.lt _ hrw21 b hb⟩
            go_wp2_with fail
            go_meet
            case rel =>
              refine ⟨_, Arw21_0, crw21_0, Gw21, rfl, rfl, (by repeat (first | with_reducible exact Below.refl _ _ | with_reducible assumption | with_reducible refine bel_alloc ?_ _ | with_reducible refine bel_drew ?_ | with_reducible refine bel_drewN ?_ _ | (with_reducible refine bel_set ?_ ?_ _; rotate_left; ((try simp); (try omega))))), ?hA, ?hB, by go_simp, ?hR, hfw21.mono (by (try simp); (try omega)), ?hN⟩
              case hA => (try simp); (try omega)
              case hB => (try simp); (try omega)
              case hR => exact (by repeat (first | with_reducible exact hrw21 | with_reducible refine Cod.allocA ?_ _ | with_reducible refine Cod.drewA ?_ | with_reducible refine Cod.drewNA ?_ _ | ((with_reducible refine Cod.setA ?_ ?_ _); rotate_left; ((intro hm9; have hm8 := hnbw21 _ hm9; (try simp at hm8); (try omega))))))
              case hN => (intro hm; have hh := hnbw21 _ hm; (try simp at hh); (try omega))
        case rest =>
          obtain ⟨gw21, Arw21_0, crw21_0, Gw21, rfl, rfl, hbww21, hgew21, hzgw21, kgw21_0, hrw21, hfw21, hngw21⟩ := hcut
          obtain ⟨w21, rfl⟩ : ∃ x9 : World, x9 = wc := ⟨_, rfl⟩
          have hbZw21 := hbww21
          have hsw21 := hbZw21.size
          (try simp at hsw21)
          have hzw21_0 : w.heap.size < w21.heap.size := by omega
          have hzw21_1 : w.heap.size + 1 < w21.heap.size := by omega
          have hzw21_2 : gw5 < w21.heap.size := by omega
          have hzw21_3 : w6.heap.size < w21.heap.size := by omega
          have hzw21_4 : w7.heap.size < w21.heap.size := by omega
          have hzw21_5 : w8.heap.size < w21.heap.size := by omega
          have hBw21 : Below w.heap.size w w21 := bel_then (by repeat (first | with_reducible exact Below.refl _ _ | with_reducible assumption | with_reducible refine bel_alloc ?_ _ | with_reducible refine bel_drew ?_ | with_reducible refine bel_drewN ?_ _ | (with_reducible refine bel_set ?_ ?_ _; rotate_left; ((try simp); (try omega))))) hbZw21
          replace hrw5 := Cod.bel hrw5 (show Below _ _ w21 from bel_then (by repeat (first | with_reducible exact Below.refl _ _ | with_reducible assumption | with_reducible refine bel_alloc ?_ _ | with_reducible refine bel_drew ?_ | with_reducible refine bel_drewN ?_ _ | (with_reducible refine bel_set ?_ ?_ _; rotate_left; ((try simp); (try omega))))) hbZw21)
          replace hrw6 := Cod.bel hrw6 (show Below _ _ w21 from bel_then (by repeat (first | with_reducible exact Below.refl _ _ | with_reducible assumption | with_reducible refine bel_alloc ?_ _ | with_reducible refine bel_drew ?_ | with_reducible refine bel_drewN ?_ _ | (with_reducible refine bel_set ?_ ?_ _; rotate_left; ((try simp); (try omega))))) hbZw21)
          replace hrw7 := Cod.bel hrw7 (show Below _ _ w21 from bel_then (by repeat (first | with_reducible exact Below.refl _ _ | with_reducible assumption | with_reducible refine bel_alloc ?_ _ | with_reducible refine bel_drew ?_ | with_reducible refine bel_drewN ?_ _ | (with_reducible refine bel_set ?_ ?_ _; rotate_left; ((try simp); (try omega))))) hbZw21)
          replace hrw8 := Cod.bel hrw8 (show Below _ _ w21 from bel_then (by repeat (first | with_reducible exact Below.refl _ _ | with_reducible assumption | with_reducible refine bel_alloc ?_ _ | with_reducible refine bel_drew ?_ | with_reducible refine bel_drewN ?_ _ | (with_reducible refine bel_set ?_ ?_ _; rotate_left; ((try simp); (try omega))))) hbZw21)
          have hlrw21 : ∀ b, b ∈ Gw21 → b < w21.heap.size := fun b hb => Cod.lt _ hrw21 b hb
          obtain ⟨hcw21, hfzw21, -⟩ := bcell hbZw21
          clear hbZw21
          go_wp2_with fail
          refine (eqCacheSet_any _ _ ((installFiles p0 p1 p2 p3).1) _ _ _ (by exact Cod.bel hrw21 (by repeat (first | with_reducible exact Below.refl _ _ | with_reducible assumption | with_reducible refine bel_alloc ?_ _ | with_reducible refine bel_drew ?_ | with_reducible refine bel_drewN ?_ _ | (with_reducible refine bel_set ?_ ?_ _; rotate_left; ((try simp); (try omega)))))) (by exact Cod.bel hrw5 (by repeat (first | with_reducible exact Below.refl _ _ | with_reducible assumption | with_reducible refine bel_alloc ?_ _ | with_reducible refine bel_drew ?_ | with_reducible refine bel_drewN ?_ _ | (with_reducible refine bel_set ?_ ?_ _; rotate_left; ((try simp); (try omega))))))).mono ?_
          rintro e w22 ⟨rfl, hbw22⟩
          have hsw22 := hbw22.size
          (try simp at hsw22)
          have hzw22_0 : w.heap.size < w22.heap.size := by omega
          have hzw22_1 : w.heap.size + 1 < w22.heap.size := by omega
          have hzw22_2 : gw5 < w22.heap.size := by omega
          have hzw22_3 : w6.heap.size < w22.heap.size := by omega
          have hzw22_4 : w7.heap.size < w22.heap.size := by omega
          have hzw22_5 : w8.heap.size < w22.heap.size := by omega
          have hzw22_6 : gw21 < w22.heap.size := by omega
          have hBw22 : Below w.heap.size w w22 := bel_then (by repeat (first | with_reducible exact Below.refl _ _ | with_reducible assumption | with_reducible refine bel_alloc ?_ _ | with_reducible refine bel_drew ?_ | with_reducible refine bel_drewN ?_ _ | (with_reducible refine bel_set ?_ ?_ _; rotate_left; ((try simp); (try omega))))) hbw22
          replace hrw5 := Cod.bel hrw5 (show Below _ _ w22 from bel_then (by repeat (first | with_reducible exact Below.refl _ _ | with_reducible assumption | with_reducible refine bel_alloc ?_ _ | with_reducible refine bel_drew ?_ | with_reducible refine bel_drewN ?_ _ | (with_reducible refine bel_set ?_ ?_ _; rotate_left; ((try simp); (try omega))))) hbw22)
          replace hrw6 := Cod.bel hrw6 (show Below _ _ w22 from bel_then (by repeat (first | with_reducible exact Below.refl _ _ | with_reducible assumption | with_reducible refine bel_alloc ?_ _ | with_reducible refine bel_drew ?_ | with_reducible refine bel_drewN ?_ _ | (with_reducible refine bel_set ?_ ?_ _; rotate_left; ((try simp); (try omega))))) hbw22)
          replace hrw7 := Cod.bel hrw7 (show Below _ _ w22 from bel_then (by repeat (first | with_reducible exact Below.refl _ _ | with_reducible assumption | with_reducible refine bel_alloc ?_ _ | with_reducible refine bel_drew ?_ | with_reducible refine bel_drewN ?_ _ | (with_reducible refine bel_set ?_ ?_ _; rotate_left; ((try simp); (try omega))))) hbw22)
          replace hrw8 := Cod.bel hrw8 (show Below _ _ w22 from bel_then (by repeat (first | with_reducible exact Below.refl _ _ | with_reducible assumption | with_reducible refine bel_alloc ?_ _ | with_reducible refine bel_drew ?_ | with_reducible refine bel_drewN ?_ _ | (with_reducible refine bel_set ?_ ?_ _; rotate_left; ((try simp); (try omega))))) hbw22)
          replace hrw21 := Cod.bel hrw21 (show Below _ _ w22 from bel_then (by repeat (first | with_reducible exact Below.refl _ _ | with_reducible assumption | with_reducible refine bel_alloc ?_ _ | with_reducible refine bel_drew ?_ | with_reducible refine bel_drewN ?_ _ | (with_reducible refine bel_set ?_ ?_ _; rotate_left; ((try simp); (try omega))))) hbw22)
          obtain ⟨hcw22, hfzw22, -⟩ := bcell hbw22
          clear hbw22
          go_wp2_with fail
          refine (heldCacheSet_any _ ((installFiles p0 p1 p2 p3).1) _ _ _ (by exact Cod.bel hrw8 (by repeat (first | with_reducible exact Below.refl _ _ | with_reducible assumption | with_reducible refine bel_alloc ?_ _ | with_reducible refine bel_drew ?_ | with_reducible refine bel_drewN ?_ _ | (with_reducible refine bel_set ?_ ?_ _; rotate_left; ((try simp); (try omega)))))) (by omega) (by omega)).mono ?_
          rintro e w23 ⟨rfl, hbw23⟩
          have hsw23 := hbw23.size
          (try simp at hsw23)
          have hzw23_0 : w.heap.size < w23.heap.size := by omega
          have hzw23_1 : w.heap.size + 1 < w23.heap.size := by omega
          have hzw23_2 : gw5 < w23.heap.size := by omega
          have hzw23_3 : w6.heap.size < w23.heap.size := by omega
          have hzw23_4 : w7.heap.size < w23.heap.size := by omega
          have hzw23_5 : w8.heap.size < w23.heap.size := by omega
          have hzw23_6 : gw21 < w23.heap.size := by omega
          have hBw23 : Below w.heap.size w w23 := bel_then (by repeat (first | with_reducible exact Below.refl _ _ | with_reducible assumption | with_reducible refine bel_alloc ?_ _ | with_reducible refine bel_drew ?_ | with_reducible refine bel_drewN ?_ _ | (with_reducible refine bel_set ?_ ?_ _; rotate_left; ((try simp); (try omega))))) hbw23
          replace hrw5 := Cod.bel hrw5 (show Below _ _ w23 from bel_then (by repeat (first | with_reducible exact Below.refl _ _ | with_reducible assumption | with_reducible refine bel_alloc ?_ _ | with_reducible refine bel_drew ?_ | with_reducible refine bel_drewN ?_ _ | (with_reducible refine bel_set ?_ ?_ _; rotate_left; ((try simp); (try omega))))) hbw23)
          replace hrw6 := Cod.bel hrw6 (show Below _ _ w23 from bel_then (by repeat (first | with_reducible exact Below.refl _ _ | with_reducible assumption | with_reducible refine bel_alloc ?_ _ | with_reducible refine bel_drew ?_ | with_reducible refine bel_drewN ?_ _ | (with_reducible refine bel_set ?_ ?_ _; rotate_left; ((try simp); (try omega))))) hbw23)
          replace hrw7 := Cod.bel hrw7 (show Below _ _ w23 from bel_then (by repeat (first | with_reducible exact Below.refl _ _ | with_reducible assumption | with_reducible refine bel_alloc ?_ _ | with_reducible refine bel_drew ?_ | with_reducible refine bel_drewN ?_ _ | (with_reducible refine bel_set ?_ ?_ _; rotate_left; ((try simp); (try omega))))) hbw23)
          replace hrw8 := Cod.bel hrw8 (show Below _ _ w23 from bel_then (by repeat (first | with_reducible exact Below.refl _ _ | with_reducible assumption | with_reducible refine bel_alloc ?_ _ | with_reducible refine bel_drew ?_ | with_reducible refine bel_drewN ?_ _ | (with_reducible refine bel_set ?_ ?_ _; rotate_left; ((try simp); (try omega))))) hbw23)
          replace hrw21 := Cod.bel hrw21 (show Below _ _ w23 from bel_then (by repeat (first | with_reducible exact Below.refl _ _ | with_reducible assumption | with_reducible refine bel_alloc ?_ _ | with_reducible refine bel_drew ?_ | with_reducible refine bel_drewN ?_ _ | (with_reducible refine bel_set ?_ ?_ _; rotate_left; ((try simp); (try omega))))) hbw23)
          obtain ⟨hcw23, hfzw23, -⟩ := bcell hbw23
          clear hbw23
          go_wp2_with fail
          go_ret
          exact ⟨rfl, (by repeat (first | with_reducible exact Below.refl _ _ | with_reducible assumption | with_reducible refine bel_alloc ?_ _ | with_reducible refine bel_drew ?_ | with_reducible refine bel_drewN ?_ _ | (with_reducible refine bel_set ?_ ?_ _; rotate_left; ((try simp); (try omega)))))⟩

set_option maxRecDepth 100000 in
theorem lawInstallFiles_walk (H : Type) (enc : TypeId × Value → H) (W : World) (base : Nat) (args : Array Value) (ds : List (DataW H)) (p : List MemPlace)
    (hval : ∀ (j : Nat) t v, Try.f9.params[j]? = some t → args[j]? = some v → Value.okWide Try.prog W .any base t v)
    (hA : DataW.TrodAll enc Try.prog W 0 (fun _ => true) true Try.f9.params.toList args.toList ds p) (hf : W.noneFrozen p) :
    Calls Try.prog 9 args W (Gives W (.bool true)) := by
  rw [Try.params9] at hA hval
  obtain ⟨v0, vs0, d0, ds0, q0, s0, hargs, rfl, rfl, k0, t0⟩ := trodAll_cons hA
  obtain ⟨v1, vs1, d1, ds1, q1, s1, rfl, rfl, rfl, k1, t1⟩ := trodAll_cons t0
  obtain ⟨v2, vs2, d2, ds2, q2, s2, rfl, rfl, rfl, k2, t2⟩ := trodAll_cons t1
  obtain ⟨v3, vs3, d3, ds3, q3, s3, rfl, rfl, rfl, k3, t3⟩ := trodAll_cons t2
  obtain ⟨rfl, rfl, rfl⟩ := trodAll_nil t3
  obtain rfl : args = #[v0, v1, v2, v3] := by cases args; simp_all
  obtain ⟨cs0, x0, F0, rfl, hx0⟩ := opens_lCSet.struct_ Try.underlying86 (hval 0 _ _ rfl rfl) k0 (noneFrozen_mono hf fun y hy => by simp [hy])
  obtain ⟨cs1, x1, F1, rfl, hx1⟩ := opens_lSite.struct_ Try.underlying93 (hval 1 _ _ rfl rfl) k1 (noneFrozen_mono hf fun y hy => by simp [hy])
  obtain ⟨x2, rfl, rfl, rfl, hx2⟩ := open_int Try.underlying3 (hval 2 _ _ rfl rfl) k2
  obtain ⟨x3, rfl, rfl, rfl⟩ := open_bool Try.underlying4 (hval 3 _ _ rfl rfl) k3
  exact lawInstallFiles_any cs0 x0 F0 cs1 x1 F1 x2 x3 W hx0 hx1 (by simpa [Lit.wf, IntKind.min, IntKind.max, IntKind.signed, IntKind.bits] using hx2)

set_option maxRecDepth 100000 in
theorem lawInstallFiles_lifted (os : Os) (started : os.Started) (H : Type) (enc : TypeId × Value → H) :
    ReturnsInHanded {} Try.checked os 9 .any (Rows.fnExactInstallFilesSpec.pre6 enc Try.prog Try.f9 Rows.fnExactInstallFilesRow.domain false) (Rows.fnExactInstallFilesSpec.post enc Try.prog Try.f9 false true false false) := by
  refine returnsInHanded_of_change (C := Try.checked) (by kernel_rfl) started (by kernel_rfl) Try.func9
    (ChangeSpec.witness6 (enc := enc) (C := Try.checked) false ⟨#[], #[.agg #[.slice none 0 0], .agg #[.string ByteArray.empty, .int .i64 0, .slice none 0 0, .bool false], .int .i64 0, .bool false], []⟩ 16 (by kernel_rfl) (by kernel_rfl) (by kernel_rfl) (by kernel_rfl)) ?_
  intro W base args ds gs before hval hW _ _
  have hW' := hW
  obtain ⟨p, q, hA, hV, rfl, hfz, hnd⟩ := hW
  refine (lawInstallFiles_walk H enc W base args ds p hval hA (noneFrozen_mono hfz fun y hy => by simp [hy])).mono fun e W' ⟨he, hb⟩ => ⟨_, he, ?_⟩
  exact law_post (by kernel_rfl) rfl (by kernel_rfl) Try.underlying4 (by kernel_rfl) (fun ds h => by
    match ds, h with
    | [d0, d1, d2, d3], _ => exact ⟨rfl, rfl, rfl⟩) hW' hb
theorem lawInstallFiles_over : Rows.fnExactInstallFilesRow.holds Try.pinned (OpenSpec.ofChange Rows.fnExactInstallFilesSpec) :=
  OpenClaim.holds_of_wide 9 Try.f9 rfl rfl rfl rfl rfl rfl rfl ⟨rfl, rfl, rfl, rfl, rfl⟩ rfl rfl rfl rfl rfl (by kernel_rfl) Try.func9 (by kernel_rfl)
    (of_decide_eq_true (by kernel_rfl)) (by unfold Func.isWrapper; rw [if_neg (of_decide_eq_false (by kernel_rfl))]; exact ⟨rfl, rfl⟩)
    (fun os started H enc _ => lawInstallFiles_lifted os started H enc)
/-- THE STATEMENT -/
theorem lawInstallFiles_holds : Rows.FnExactInstallFilesSaid := lawInstallFiles_over

end Go.Proofs.Ytlicnppfgfjkgaa
