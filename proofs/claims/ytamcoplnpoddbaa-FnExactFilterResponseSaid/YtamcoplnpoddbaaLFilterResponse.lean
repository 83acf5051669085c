/-
  The law FnExactFilterResponse: for all arguments the program's FilterResponse returns what the reference's returns. No conditions.
-/
import Derived.Test.YtamcoplnpoddbaaRows
import Derived.Deep.RegionHeld3
import Derived.Deep.CutRange
import Derived.Test.YtamcoplnpoddbaaEqResp
import Derived.Test.YtamcoplnpoddbaaFilter
import Derived.Test.YtamcoplnpoddbaaMkResp
import Derived.Test.YtamcoplnpoddbaaSets
import Derived.Test.YtamcoplnpoddbaaToReq
import Derived.Test.YtamcoplnpoddbaaToResp
namespace Go.Proofs.Ytamcoplnpoddbaa
open Go.ChangeShapes Go.WideShapes Go.RowKit
open Go.ChangeMaps (open_string shut_string)
set_option linter.unusedVariables false

set_option maxRecDepth 100000 in
set_option maxHeartbeats 4000000 in
theorem lawFilterResponse_any (a0 : Array Value) (p0 : TReq) (F0 : List Nat) (a1 : Array Value) (p1 : TResp) (F1 : List Nat) (w : World) (h0 : cReq.rep w a0.toList p0 F0) (h1 : cResp.rep w a1.toList p1 F1) :
    Calls Try.prog 5 #[.agg a0, .agg a1] w (Gives w (.bool true)) := by
  have r0 := h0
  obtain ⟨e0, -, -⟩ := TReq.out r0
  obtain rfl : a0 = #[Value.string p0.frm, .string p0.dst, .string p0.path, .int .i64 p0.mode] := Array.toList_inj.1 e0
  clear e0
  clear r0
  have r1 := h1
  obtain ⟨v1_3, E1_3, rfl, -, -, m1_3⟩ := TResp.outA r1
  obtain ⟨A1_3, c1_3, e1_3⟩ := cL_form m1_3
  subst e1_3
  clear m1_3
  clear r1
  go_enter Try.func5, Try.ntmps5
  go_wp2_with fail
  by_cases l0 : (1048576 - (cReq.sz p0 : Nat) : Int) < 0
  · have HV := Lib.hid (leftOf_neg l0)
    refine (szRequest_any _ p0 _ _ _ (by exact Cod.bel h0 (by repeat (first | with_reducible exact Below.refl _ _ | with_reducible assumption | with_reducible refine bel_alloc ?_ _ | with_reducible refine bel_drew ?_ | with_reducible refine bel_drewN ?_ _ | (with_reducible refine bel_set ?_ ?_ _; rotate_left; ((try simp); (try omega)))))) (by omega) (by omega)).mono ?_
    rintro e w1 ⟨rfl, hbw1⟩
    rw [HV.out]
    have hBw1 : Below w.heap.size w w1 := bel_then (by repeat (first | with_reducible exact Below.refl _ _ | with_reducible assumption | with_reducible refine bel_alloc ?_ _ | with_reducible refine bel_drew ?_ | with_reducible refine bel_drewN ?_ _ | (with_reducible refine bel_set ?_ ?_ _; rotate_left; ((try simp); (try omega))))) hbw1
    go_wp2_with fail
    go_ret
    exact ⟨rfl, hBw1⟩
  · have HV := Lib.hid (leftOf_pos l0)
    have pz0 : 0 ≤ (1048576 - (cReq.sz p0 : Nat) : Int) := by omega
    have z0 : cReq.sz p0 ≤ 1048576 := by omega
    refine (szRequest_any _ p0 _ _ _ (by exact Cod.bel h0 (by repeat (first | with_reducible exact Below.refl _ _ | with_reducible assumption | with_reducible refine bel_alloc ?_ _ | with_reducible refine bel_drew ?_ | with_reducible refine bel_drewN ?_ _ | (with_reducible refine bel_set ?_ ?_ _; rotate_left; ((try simp); (try omega)))))) (by omega) (by omega)).mono ?_
    rintro e w1 ⟨rfl, hbw1⟩
    rw [HV.out]
    clear HV
    have hsw1 := hbw1.size
    (try simp at hsw1)
    have hzw1_0 : w.heap.size < w1.heap.size := by omega
    have hzw1_1 : w.heap.size + 1 < w1.heap.size := by omega
    have hBw1 : Below w.heap.size w w1 := bel_then (by repeat (first | with_reducible exact Below.refl _ _ | with_reducible assumption | with_reducible refine bel_alloc ?_ _ | with_reducible refine bel_drew ?_ | with_reducible refine bel_drewN ?_ _ | (with_reducible refine bel_set ?_ ?_ _; rotate_left; ((try simp); (try omega))))) hbw1
    obtain ⟨hcw1, hfzw1, -⟩ := bcell hbw1
    clear hbw1
    go_wp2_with fail
    by_cases l1 : (1048576 - (cReq.sz p0 : Nat) - (cResp.sz p1 : Nat) : Int) < 0
    · have HV := Lib.hid (leftOf_neg l1)
      refine (szResponse_any _ p1 _ _ _ (by exact Cod.bel h1 (by repeat (first | with_reducible exact Below.refl _ _ | with_reducible assumption | with_reducible refine bel_alloc ?_ _ | with_reducible refine bel_drew ?_ | with_reducible refine bel_drewN ?_ _ | (with_reducible refine bel_set ?_ ?_ _; rotate_left; ((try simp); (try omega)))))) (by omega) (by omega)).mono ?_
      rintro e w2 ⟨rfl, hbw2⟩
      rw [HV.out]
      have hBw2 : Below w.heap.size w w2 := bel_then (by repeat (first | with_reducible exact Below.refl _ _ | with_reducible assumption | with_reducible refine bel_alloc ?_ _ | with_reducible refine bel_drew ?_ | with_reducible refine bel_drewN ?_ _ | (with_reducible refine bel_set ?_ ?_ _; rotate_left; ((try simp); (try omega))))) hbw2
      go_wp2_with fail
      go_ret
      exact ⟨rfl, hBw2⟩
    · have HV := Lib.hid (leftOf_pos l1)
      have pz1 : 0 ≤ (1048576 - (cReq.sz p0 : Nat) - (cResp.sz p1 : Nat) : Int) := by omega
      have z1 : cResp.sz p1 ≤ 1048576 := by omega
      refine (szResponse_any _ p1 _ _ _ (by exact Cod.bel h1 (by repeat (first | with_reducible exact Below.refl _ _ | with_reducible assumption | with_reducible refine bel_alloc ?_ _ | with_reducible refine bel_drew ?_ | with_reducible refine bel_drewN ?_ _ | (with_reducible refine bel_set ?_ ?_ _; rotate_left; ((try simp); (try omega)))))) (by omega) (by omega)).mono ?_
      rintro e w2 ⟨rfl, hbw2⟩
      rw [HV.out]
      clear HV
      have hsw2 := hbw2.size
      (try simp at hsw2)
      have hzw2_0 : w.heap.size < w2.heap.size := by omega
      have hzw2_1 : w.heap.size + 1 < w2.heap.size := by omega
      have hBw2 : Below w.heap.size w w2 := bel_then (by repeat (first | with_reducible exact Below.refl _ _ | with_reducible assumption | with_reducible refine bel_alloc ?_ _ | with_reducible refine bel_drew ?_ | with_reducible refine bel_drewN ?_ _ | (with_reducible refine bel_set ?_ ?_ _; rotate_left; ((try simp); (try omega))))) hbw2
      obtain ⟨hcw2, hfzw2, -⟩ := bcell hbw2
      clear hbw2
      go_wp2_with fail
      have kz3_0 : w2.cell? ⟨w.heap.size, 0, none⟩ = some (.string p0.frm) := by go_simp
      have kz3_1 : w2.cell? ⟨w.heap.size, 1, none⟩ = some (.string p0.dst) := by go_simp
      have kz3_2 : w2.cell? ⟨w.heap.size, 2, none⟩ = some (.string p0.path) := by go_simp
      have kz3_3 : w2.cell? ⟨w.heap.size, 3, none⟩ = some (.int .i64 p0.mode) := by go_simp
      have kz3_4 : w2.cell? ⟨w.heap.size + 1, 0, none⟩ = some (.int .i64 p1.type) := by go_simp
      have kz3_5 : w2.cell? ⟨w.heap.size + 1, 1, none⟩ = some (.int .i64 p1.status) := by go_simp
      have kz3_6 : w2.cell? ⟨w.heap.size + 1, 2, none⟩ = some (.int .i64 p1.ver) := by go_simp
      have kz3_7 : w2.cell? ⟨w.heap.size + 1, 3, none⟩ = some (.slice A1_3 p1.body.length c1_3) := by go_simp
      have kz3_8 : w2.cell? ⟨w.heap.size + 1, 4, none⟩ = some (.bool p1.shares) := by go_simp
      have hS : ∀ wS, Below w2.heap.size w2 wS → Below w2.heap.size w2 wS ∧ wS.cell? ⟨w.heap.size, 0, none⟩ = some (.string p0.frm) ∧ wS.cell? ⟨w.heap.size, 1, none⟩ = some (.string p0.dst) ∧ wS.cell? ⟨w.heap.size, 2, none⟩ = some (.string p0.path) ∧ wS.cell? ⟨w.heap.size, 3, none⟩ = some (.int .i64 p0.mode) ∧ wS.cell? ⟨w.heap.size + 1, 0, none⟩ = some (.int .i64 p1.type) ∧ wS.cell? ⟨w.heap.size + 1, 1, none⟩ = some (.int .i64 p1.status) ∧ wS.cell? ⟨w.heap.size + 1, 2, none⟩ = some (.int .i64 p1.ver) ∧ wS.cell? ⟨w.heap.size + 1, 3, none⟩ = some (.slice A1_3 p1.body.length c1_3) ∧ wS.cell? ⟨w.heap.size + 1, 4, none⟩ = some (.bool p1.shares) := fun wS hb => ⟨hb, (hb.cell (p := ⟨w.heap.size, 0, none⟩) (by simpa using hzw2_0)).trans kz3_0, (hb.cell (p := ⟨w.heap.size, 1, none⟩) (by simpa using hzw2_0)).trans kz3_1, (hb.cell (p := ⟨w.heap.size, 2, none⟩) (by simpa using hzw2_0)).trans kz3_2, (hb.cell (p := ⟨w.heap.size, 3, none⟩) (by simpa using hzw2_0)).trans kz3_3, (hb.cell (p := ⟨w.heap.size + 1, 0, none⟩) (by simpa using hzw2_1)).trans kz3_4, (hb.cell (p := ⟨w.heap.size + 1, 1, none⟩) (by simpa using hzw2_1)).trans kz3_5, (hb.cell (p := ⟨w.heap.size + 1, 2, none⟩) (by simpa using hzw2_1)).trans kz3_6, (hb.cell (p := ⟨w.heap.size + 1, 3, none⟩) (by simpa using hzw2_1)).trans kz3_7, (hb.cell (p := ⟨w.heap.size + 1, 4, none⟩) (by simpa using hzw2_1)).trans kz3_8⟩
      have hwb : Below w2.heap.size w2 w2 := Below.refl _ _
      clear kz3_0 kz3_1 kz3_2 kz3_3 kz3_4 kz3_5 kz3_6 kz3_7 kz3_8
      go_cut [6] from 23 (fun v6 wq => ∃ (gw5 : Nat) (Arw5_3 : Option Addr) (crw5_3 : Nat) (Gw5 : List Nat), v6 = .pointer (some ⟨gw5, 0, none⟩) ∧ Below w2.heap.size w2 wq ∧ w2.heap.size ≤ gw5 ∧ gw5 < wq.heap.size ∧ wq.cell? ⟨gw5, 0, none⟩ = some (.int .i64 ((filterResponse p0 p1)).type) ∧ wq.cell? ⟨gw5, 1, none⟩ = some (.int .i64 ((filterResponse p0 p1)).status) ∧ wq.cell? ⟨gw5, 2, none⟩ = some (.int .i64 ((filterResponse p0 p1)).ver) ∧ wq.cell? ⟨gw5, 3, none⟩ = some (.slice Arw5_3 ((filterResponse p0 p1)).body.length crw5_3) ∧ wq.cell? ⟨gw5, 4, none⟩ = some (.bool ((filterResponse p0 p1)).shares) ∧ cResp.rep wq [(.int .i64 ((filterResponse p0 p1)).type), (.int .i64 ((filterResponse p0 p1)).status), (.int .i64 ((filterResponse p0 p1)).ver), (.slice Arw5_3 ((filterResponse p0 p1)).body.length crw5_3), (.bool ((filterResponse p0 p1)).shares)] ((filterResponse p0 p1)) Gw5 ∧ Fresh w2.heap.size Gw5 ∧ gw5 ∉ Gw5)
      case first =>
        go_region_held3 (fun wS => Below w2.heap.size w2 wS ∧ wS.cell? ⟨w.heap.size, 0, none⟩ = some (.string p0.frm) ∧ wS.cell? ⟨w.heap.size, 1, none⟩ = some (.string p0.dst) ∧ wS.cell? ⟨w.heap.size, 2, none⟩ = some (.string p0.path) ∧ wS.cell? ⟨w.heap.size, 3, none⟩ = some (.int .i64 p0.mode) ∧ wS.cell? ⟨w.heap.size + 1, 0, none⟩ = some (.int .i64 p1.type) ∧ wS.cell? ⟨w.heap.size + 1, 1, none⟩ = some (.int .i64 p1.status) ∧ wS.cell? ⟨w.heap.size + 1, 2, none⟩ = some (.int .i64 p1.ver) ∧ wS.cell? ⟨w.heap.size + 1, 3, none⟩ = some (.slice A1_3 p1.body.length c1_3) ∧ wS.cell? ⟨w.heap.size + 1, 4, none⟩ = some (.bool p1.shares)) (exact hS _ (by repeat (first | with_reducible exact Below.refl _ _ | with_reducible assumption | with_reducible refine bel_alloc ?_ _ | with_reducible refine bel_drew ?_ | with_reducible refine bel_drewN ?_ _ | (with_reducible refine bel_set ?_ ?_ _; rotate_left; ((try simp); (try omega)))))) (first | (go_at_call 18; refine (toRequest_any _ p0 _ _ (by exact Cod.bel h0 (bel_then hBw2 (by repeat (first | with_reducible exact Below.refl _ _ | with_reducible assumption | with_reducible refine bel_alloc ?_ _ | with_reducible refine bel_drew ?_ | with_reducible refine bel_drewN ?_ _ | (with_reducible refine bel_set ?_ ?_ _; rotate_left; ((try simp); (try omega))))))) z0).mono ?_; rintro e w3 ⟨uw3, Gw3, rfl, hbw3, hrw3, hfw3⟩; have hbww3 : Below w2.heap.size w2 w3 := bel_then (by repeat (first | with_reducible exact Below.refl _ _ | with_reducible assumption | with_reducible refine bel_alloc ?_ _ | with_reducible refine bel_drew ?_ | with_reducible refine bel_drewN ?_ _ | (with_reducible refine bel_set ?_ ?_ _; rotate_left; ((try simp); (try omega))))) hbw3; clear hfw3; obtain ⟨hccw3, hffw3, hzzw3⟩ := bcell hbw3; (try simp at hzzw3); (try have hyyw3_0 : w2.heap.size < w3.heap.size := (by omega)); (try have hbpw3_0 : Below w2.heap.size w2 w3 := bel_then (by repeat (first | with_reducible exact Below.refl _ _ | with_reducible assumption | with_reducible refine bel_alloc ?_ _ | with_reducible refine bel_drew ?_ | with_reducible refine bel_drewN ?_ _ | (with_reducible refine bel_set ?_ ?_ _; rotate_left; ((try simp); (try omega))))) hbw3)) | (go_at_call 19; refine (toResponse_any _ p1 _ _ (by exact Cod.bel h1 (bel_then hBw2 (by repeat (first | with_reducible exact Below.refl _ _ | with_reducible assumption | with_reducible refine bel_alloc ?_ _ | with_reducible refine bel_drew ?_ | with_reducible refine bel_drewN ?_ _ | (with_reducible refine bel_set ?_ ?_ _; rotate_left; ((try simp); (try omega))))))) z1).mono ?_; rintro e w4 ⟨uw4, Gw4, rfl, hbw4, hrw4, hfw4⟩; have hbww4 : Below w2.heap.size w2 w4 := bel_then (by repeat (first | with_reducible exact Below.refl _ _ | with_reducible assumption | with_reducible refine bel_alloc ?_ _ | with_reducible refine bel_drew ?_ | with_reducible refine bel_drewN ?_ _ | (with_reducible refine bel_set ?_ ?_ _; rotate_left; ((try simp); (try omega))))) hbw4; clear hfw4; obtain ⟨hccw4, hffw4, hzzw4⟩ := bcell hbw4; (try simp at hzzw4); (try have hyyw4_0 : w2.heap.size < w4.heap.size := (by omega)); (try have hbpw4_0 : Below w2.heap.size w2 w4 := bel_then (by repeat (first | with_reducible exact Below.refl _ _ | with_reducible assumption | with_reducible refine bel_alloc ?_ _ | with_reducible refine bel_drew ?_ | with_reducible refine bel_drewN ?_ _ | (with_reducible refine bel_set ?_ ?_ _; rotate_left; ((try simp); (try omega))))) hbw4); (try have hyyw4_1 : w3.heap.size < w4.heap.size := (by omega)); (try have hbpw4_1 : Below w3.heap.size w3 w4 := bel_then (by repeat (first | with_reducible exact Below.refl _ _ | with_reducible assumption | with_reducible refine bel_alloc ?_ _ | with_reducible refine bel_drew ?_ | with_reducible refine bel_drewN ?_ _ | (with_reducible refine bel_set ?_ ?_ _; rotate_left; ((try simp); (try omega))))) hbw4)) | (go_at_call 26; refine (specFilterResponse_any _ p0 _ _ p1 _ _ (by exact Cod.bel hrw3 (by repeat (first | with_reducible exact Below.refl _ _ | with_reducible assumption | with_reducible refine bel_alloc ?_ _ | with_reducible refine bel_drew ?_ | with_reducible refine bel_drewN ?_ _ | (with_reducible refine bel_set ?_ ?_ _; rotate_left; ((try simp); (try omega)))))) z0 (by exact Cod.bel hrw4 (by repeat (first | with_reducible exact Below.refl _ _ | with_reducible assumption | with_reducible refine bel_alloc ?_ _ | with_reducible refine bel_drew ?_ | with_reducible refine bel_drewN ?_ _ | (with_reducible refine bel_set ?_ ?_ _; rotate_left; ((try simp); (try omega)))))) z1).mono ?_; rintro e w5 ⟨uw5, Gw5, rfl, hbw5, hrw5, hfw5⟩; have drw5 := hrw5; obtain ⟨vrw5_3, Erw5_3, rfl, -, -, mrw5_3⟩ := TResp.outA drw5; obtain ⟨Arw5_3, crw5_3, erw5_3⟩ := cL_form mrw5_3; subst erw5_3; clear mrw5_3 drw5; have hbww5 : Below w2.heap.size w2 w5 := bel_then (by repeat (first | with_reducible exact Below.refl _ _ | with_reducible assumption | with_reducible refine bel_alloc ?_ _ | with_reducible refine bel_drew ?_ | with_reducible refine bel_drewN ?_ _ | (with_reducible refine bel_set ?_ ?_ _; rotate_left; ((try simp); (try omega))))) hbw5; obtain ⟨hccw5, hffw5, hzzw5⟩ := bcell hbw5; (try simp at hzzw5); (try have hyyw5_0 : w2.heap.size < w5.heap.size := (by omega)); (try have hbpw5_0 : Below w2.heap.size w2 w5 := bel_then (by repeat (first | with_reducible exact Below.refl _ _ | with_reducible assumption | with_reducible refine bel_alloc ?_ _ | with_reducible refine bel_drew ?_ | with_reducible refine bel_drewN ?_ _ | (with_reducible refine bel_set ?_ ?_ _; rotate_left; ((try simp); (try omega))))) hbw5); (try have hyyw5_1 : w3.heap.size < w5.heap.size := (by omega)); (try have hbpw5_1 : Below w3.heap.size w3 w5 := bel_then (by repeat (first | with_reducible exact Below.refl _ _ | with_reducible assumption | with_reducible refine bel_alloc ?_ _ | with_reducible refine bel_drew ?_ | with_reducible refine bel_drewN ?_ _ | (with_reducible refine bel_set ?_ ?_ _; rotate_left; ((try simp); (try omega))))) hbw5); (try have hyyw5_2 : w4.heap.size < w5.heap.size := (by omega)); (try have hbpw5_2 : Below w4.heap.size w4 w5 := bel_then (by repeat (first | with_reducible exact Below.refl _ _ | with_reducible assumption | with_reducible refine bel_alloc ?_ _ | with_reducible refine bel_drew ?_ | with_reducible refine bel_drewN ?_ _ | (with_reducible refine bel_set ?_ ?_ _; rotate_left; ((try simp); (try omega))))) hbw5)))
        all_goals
          have hnbw5 : ∀ b, b ∈ Gw5 → _ ≤ b ∧ b < w5.heap.size := fun b hb => ⟨hfw5.1 b hb, Cod.lt _ hrw5 b hb⟩
          go_wp2_with fail
          go_meet
          case rel =>
            refine ⟨_, Arw5_3, crw5_3, Gw5, rfl, (by repeat (first | with_reducible exact Below.refl _ _ | with_reducible assumption | with_reducible refine bel_alloc ?_ _ | with_reducible refine bel_drew ?_ | with_reducible refine bel_drewN ?_ _ | (with_reducible refine bel_set ?_ ?_ _; rotate_left; ((try simp); (try omega))))), ?hA, ?hB, by go_simp, by go_simp, by go_simp, by go_simp, by go_simp, ?hR, hfw5.mono (by (try simp); (try omega)), ?hN⟩
            case hA => (try simp); (try omega)
            case hB => (try simp); (try omega)
            case hR => exact (by repeat (first | with_reducible exact hrw5 | with_reducible refine Cod.allocA ?_ _ | with_reducible refine Cod.drewA ?_ | with_reducible refine Cod.drewNA ?_ _ | ((with_reducible refine Cod.setA ?_ ?_ _); rotate_left; ((intro hm9; have hm8 := hnbw5 _ hm9; (try simp at hm8); (try omega))))))
            case hN => (intro hm; have hh := hnbw5 _ hm; (try simp at hh); (try omega))
      case rest =>
        obtain ⟨gw5, Arw5_3, crw5_3, Gw5, rfl, hbww5, hgew5, hzgw5, kgw5_0, kgw5_1, kgw5_2, kgw5_3, kgw5_4, hrw5, hfw5, hngw5⟩ := hcut
        obtain ⟨w5, rfl⟩ : ∃ x9 : World, x9 = wc := ⟨_, rfl⟩
        have hbZw5 := hbww5
        have hsw5 := hbZw5.size
        (try simp at hsw5)
        have hzw5_0 : w.heap.size < w5.heap.size := by omega
        have hzw5_1 : w.heap.size + 1 < w5.heap.size := by omega
        have hBw5 : Below w.heap.size w w5 := bel_then (by repeat (first | with_reducible exact Below.refl _ _ | with_reducible assumption | with_reducible refine bel_alloc ?_ _ | with_reducible refine bel_drew ?_ | with_reducible refine bel_drewN ?_ _ | (with_reducible refine bel_set ?_ ?_ _; rotate_left; ((try simp); (try omega))))) hbZw5
        have hlrw5 : ∀ b, b ∈ Gw5 → b < w5.heap.size := fun b hb => Cod.lt _ hrw5 b hb
        obtain ⟨hcw5, hfzw5, -⟩ := bcell hbZw5
        clear hbZw5
        go_wp2_with fail
        refine (toResponse_any _ p1 _ _ (by exact Cod.bel h1 (by repeat (first | with_reducible exact Below.refl _ _ | with_reducible assumption | with_reducible refine bel_alloc ?_ _ | with_reducible refine bel_drew ?_ | with_reducible refine bel_drewN ?_ _ | (with_reducible refine bel_set ?_ ?_ _; rotate_left; ((try simp); (try omega)))))) z1).mono ?_
        rintro e w6 ⟨uw6, Gw6, rfl, hbw6, hrw6, hfw6⟩
        have drw6 := hrw6
        obtain ⟨vrw6_3, Erw6_3, rfl, -, -, mrw6_3⟩ := TResp.outA drw6
        obtain ⟨Arw6_3, crw6_3, erw6_3⟩ := cL_form mrw6_3
        subst erw6_3
        clear mrw6_3 drw6
        have hsw6 := hbw6.size
        (try simp at hsw6)
        have hzw6_0 : w.heap.size < w6.heap.size := by omega
        have hzw6_1 : w.heap.size + 1 < w6.heap.size := by omega
        have hzw6_2 : gw5 < w6.heap.size := by omega
        have hBw6 : Below w.heap.size w w6 := bel_then (by repeat (first | with_reducible exact Below.refl _ _ | with_reducible assumption | with_reducible refine bel_alloc ?_ _ | with_reducible refine bel_drew ?_ | with_reducible refine bel_drewN ?_ _ | (with_reducible refine bel_set ?_ ?_ _; rotate_left; ((try simp); (try omega))))) hbw6
        replace hrw5 := Cod.bel hrw5 (show Below _ _ w6 from bel_then (by repeat (first | with_reducible exact Below.refl _ _ | with_reducible assumption | with_reducible refine bel_alloc ?_ _ | with_reducible refine bel_drew ?_ | with_reducible refine bel_drewN ?_ _ | (with_reducible refine bel_set ?_ ?_ _; rotate_left; ((try simp); (try omega))))) hbw6)
        have hlrw6 : ∀ b, b ∈ Gw6 → b < w6.heap.size := fun b hb => Cod.lt _ hrw6 b hb
        obtain ⟨hcw6, hfzw6, -⟩ := bcell hbw6
        clear hbw6
        go_wp2_with fail
        generalize hW : World.alloc _ _ = w6b
        have hbw6b : Below w6.heap.size w6 w6b := by rw [← hW]; exact (by repeat (first | with_reducible exact Below.refl _ _ | with_reducible assumption | with_reducible refine bel_alloc ?_ _ | with_reducible refine bel_drew ?_ | with_reducible refine bel_drewN ?_ _ | (with_reducible refine bel_set ?_ ?_ _; rotate_left; ((try simp); (try omega)))))
        have hszw6b : w6.heap.size < w6b.heap.size := by rw [← hW]; clear hW; simp
        have kbw6b_0 : w6b.cell? ⟨w6.heap.size, 0, none⟩ = some (.int .i64 p1.type) := by rw [← hW]; clear hW; go_simp
        have kbw6b_1 : w6b.cell? ⟨w6.heap.size, 1, none⟩ = some (.int .i64 p1.status) := by rw [← hW]; clear hW; go_simp
        have kbw6b_2 : w6b.cell? ⟨w6.heap.size, 2, none⟩ = some (.int .i64 p1.ver) := by rw [← hW]; clear hW; go_simp
        have kbw6b_3 : w6b.cell? ⟨w6.heap.size, 3, none⟩ = some (.slice Arw6_3 p1.body.length crw6_3) := by rw [← hW]; clear hW; go_simp
        have kbw6b_4 : w6b.cell? ⟨w6.heap.size, 4, none⟩ = some (.bool p1.shares) := by rw [← hW]; clear hW; go_simp
        clear hW
        have hsw6b := hbw6b.size
        (try simp at hsw6b)
        have hzw6b_0 : w.heap.size < w6b.heap.size := by omega
        have hzw6b_1 : w.heap.size + 1 < w6b.heap.size := by omega
        have hzw6b_2 : gw5 < w6b.heap.size := by omega
        have hzw6b_3 : w6.heap.size < w6b.heap.size := by omega
        have hBw6b : Below w.heap.size w w6b := bel_then (by repeat (first | with_reducible exact Below.refl _ _ | with_reducible assumption | with_reducible refine bel_alloc ?_ _ | with_reducible refine bel_drew ?_ | with_reducible refine bel_drewN ?_ _ | (with_reducible refine bel_set ?_ ?_ _; rotate_left; ((try simp); (try omega))))) hbw6b
        replace hrw5 := Cod.bel hrw5 (show Below _ _ w6b from bel_then (by repeat (first | with_reducible exact Below.refl _ _ | with_reducible assumption | with_reducible refine bel_alloc ?_ _ | with_reducible refine bel_drew ?_ | with_reducible refine bel_drewN ?_ _ | (with_reducible refine bel_set ?_ ?_ _; rotate_left; ((try simp); (try omega))))) hbw6b)
        replace hrw6 := Cod.bel hrw6 (show Below _ _ w6b from bel_then (by repeat (first | with_reducible exact Below.refl _ _ | with_reducible assumption | with_reducible refine bel_alloc ?_ _ | with_reducible refine bel_drew ?_ | with_reducible refine bel_drewN ?_ _ | (with_reducible refine bel_set ?_ ?_ _; rotate_left; ((try simp); (try omega))))) hbw6b)
        obtain ⟨hcw6b, hfzw6b, -⟩ := bcell hbw6b
        clear hbw6b
        have kz7_0 : w6b.cell? ⟨w.heap.size, 0, none⟩ = some (.string p0.frm) := by go_simp
        have kz7_1 : w6b.cell? ⟨w.heap.size, 1, none⟩ = some (.string p0.dst) := by go_simp
        have kz7_2 : w6b.cell? ⟨w.heap.size, 2, none⟩ = some (.string p0.path) := by go_simp
        have kz7_3 : w6b.cell? ⟨w.heap.size, 3, none⟩ = some (.int .i64 p0.mode) := by go_simp
        have kz7_4 : w6b.cell? ⟨w6.heap.size, 0, none⟩ = some (.int .i64 p1.type) := by go_simp
        have kz7_5 : w6b.cell? ⟨w6.heap.size, 1, none⟩ = some (.int .i64 p1.status) := by go_simp
        have kz7_6 : w6b.cell? ⟨w6.heap.size, 2, none⟩ = some (.int .i64 p1.ver) := by go_simp
        have kz7_7 : w6b.cell? ⟨w6.heap.size, 3, none⟩ = some (.slice Arw6_3 p1.body.length crw6_3) := by go_simp
        have kz7_8 : w6b.cell? ⟨w6.heap.size, 4, none⟩ = some (.bool p1.shares) := by go_simp
        have hS : ∀ wS, Below w6b.heap.size w6b wS → Below w6b.heap.size w6b wS ∧ wS.cell? ⟨w.heap.size, 0, none⟩ = some (.string p0.frm) ∧ wS.cell? ⟨w.heap.size, 1, none⟩ = some (.string p0.dst) ∧ wS.cell? ⟨w.heap.size, 2, none⟩ = some (.string p0.path) ∧ wS.cell? ⟨w.heap.size, 3, none⟩ = some (.int .i64 p0.mode) ∧ wS.cell? ⟨w6.heap.size, 0, none⟩ = some (.int .i64 p1.type) ∧ wS.cell? ⟨w6.heap.size, 1, none⟩ = some (.int .i64 p1.status) ∧ wS.cell? ⟨w6.heap.size, 2, none⟩ = some (.int .i64 p1.ver) ∧ wS.cell? ⟨w6.heap.size, 3, none⟩ = some (.slice Arw6_3 p1.body.length crw6_3) ∧ wS.cell? ⟨w6.heap.size, 4, none⟩ = some (.bool p1.shares) := fun wS hb => ⟨hb, (hb.cell (p := ⟨w.heap.size, 0, none⟩) (by simpa using hzw6b_0)).trans kz7_0, (hb.cell (p := ⟨w.heap.size, 1, none⟩) (by simpa using hzw6b_0)).trans kz7_1, (hb.cell (p := ⟨w.heap.size, 2, none⟩) (by simpa using hzw6b_0)).trans kz7_2, (hb.cell (p := ⟨w.heap.size, 3, none⟩) (by simpa using hzw6b_0)).trans kz7_3, (hb.cell (p := ⟨w6.heap.size, 0, none⟩) (by simpa using hzw6b_3)).trans kz7_4, (hb.cell (p := ⟨w6.heap.size, 1, none⟩) (by simpa using hzw6b_3)).trans kz7_5, (hb.cell (p := ⟨w6.heap.size, 2, none⟩) (by simpa using hzw6b_3)).trans kz7_6, (hb.cell (p := ⟨w6.heap.size, 3, none⟩) (by simpa using hzw6b_3)).trans kz7_7, (hb.cell (p := ⟨w6.heap.size, 4, none⟩) (by simpa using hzw6b_3)).trans kz7_8⟩
        have hwb : Below w6b.heap.size w6b w6b := Below.refl _ _
        clear kz7_0 kz7_1 kz7_2 kz7_3 kz7_4 kz7_5 kz7_6 kz7_7 kz7_8
        go_cut [8] from 30 (fun v8 wq => ∃ (gw8 : Nat) (Arw8_3 : Option Addr) (crw8_3 : Nat) (Gw8 : List Nat), v8 = .pointer (some ⟨gw8, 0, none⟩) ∧ Below w6b.heap.size w6b wq ∧ w6b.heap.size ≤ gw8 ∧ gw8 < wq.heap.size ∧ wq.cell? ⟨gw8, 0, none⟩ = some (.int .i64 ((filterResponse p0 p1)).type) ∧ wq.cell? ⟨gw8, 1, none⟩ = some (.int .i64 ((filterResponse p0 p1)).status) ∧ wq.cell? ⟨gw8, 2, none⟩ = some (.int .i64 ((filterResponse p0 p1)).ver) ∧ wq.cell? ⟨gw8, 3, none⟩ = some (.slice Arw8_3 ((filterResponse p0 p1)).body.length crw8_3) ∧ wq.cell? ⟨gw8, 4, none⟩ = some (.bool ((filterResponse p0 p1)).shares) ∧ cResp.rep wq [(.int .i64 ((filterResponse p0 p1)).type), (.int .i64 ((filterResponse p0 p1)).status), (.int .i64 ((filterResponse p0 p1)).ver), (.slice Arw8_3 ((filterResponse p0 p1)).body.length crw8_3), (.bool ((filterResponse p0 p1)).shares)] ((filterResponse p0 p1)) Gw8 ∧ Fresh w6b.heap.size Gw8 ∧ gw8 ∉ Gw8)
        case first =>
          go_region_held3 (fun wS => Below w6b.heap.size w6b wS ∧ wS.cell? ⟨w.heap.size, 0, none⟩ = some (.string p0.frm) ∧ wS.cell? ⟨w.heap.size, 1, none⟩ = some (.string p0.dst) ∧ wS.cell? ⟨w.heap.size, 2, none⟩ = some (.string p0.path) ∧ wS.cell? ⟨w.heap.size, 3, none⟩ = some (.int .i64 p0.mode) ∧ wS.cell? ⟨w6.heap.size, 0, none⟩ = some (.int .i64 p1.type) ∧ wS.cell? ⟨w6.heap.size, 1, none⟩ = some (.int .i64 p1.status) ∧ wS.cell? ⟨w6.heap.size, 2, none⟩ = some (.int .i64 p1.ver) ∧ wS.cell? ⟨w6.heap.size, 3, none⟩ = some (.slice Arw6_3 p1.body.length crw6_3) ∧ wS.cell? ⟨w6.heap.size, 4, none⟩ = some (.bool p1.shares)) (exact hS _ (by repeat (first | with_reducible exact Below.refl _ _ | with_reducible assumption | with_reducible refine bel_alloc ?_ _ | with_reducible refine bel_drew ?_ | with_reducible refine bel_drewN ?_ _ | (with_reducible refine bel_set ?_ ?_ _; rotate_left; ((try simp); (try omega)))))) (first | (go_at_call 18; refine (toRequest_any _ p0 _ _ (by exact Cod.bel h0 (bel_then hBw6b (by repeat (first | with_reducible exact Below.refl _ _ | with_reducible assumption | with_reducible refine bel_alloc ?_ _ | with_reducible refine bel_drew ?_ | with_reducible refine bel_drewN ?_ _ | (with_reducible refine bel_set ?_ ?_ _; rotate_left; ((try simp); (try omega))))))) z0).mono ?_; rintro e w7 ⟨uw7, Gw7, rfl, hbw7, hrw7, hfw7⟩; have hbww7 : Below w6b.heap.size w6b w7 := bel_then (by repeat (first | with_reducible exact Below.refl _ _ | with_reducible assumption | with_reducible refine bel_alloc ?_ _ | with_reducible refine bel_drew ?_ | with_reducible refine bel_drewN ?_ _ | (with_reducible refine bel_set ?_ ?_ _; rotate_left; ((try simp); (try omega))))) hbw7; clear hfw7; obtain ⟨hccw7, hffw7, hzzw7⟩ := bcell hbw7; (try simp at hzzw7); (try have hyyw7_0 : w6b.heap.size < w7.heap.size := (by omega)); (try have hbpw7_0 : Below w6b.heap.size w6b w7 := bel_then (by repeat (first | with_reducible exact Below.refl _ _ | with_reducible assumption | with_reducible refine bel_alloc ?_ _ | with_reducible refine bel_drew ?_ | with_reducible refine bel_drewN ?_ _ | (with_reducible refine bel_set ?_ ?_ _; rotate_left; ((try simp); (try omega))))) hbw7)) | (go_at_call 24; refine (implFilterResponse_any _ p0 _ _ p1 _ _ (by exact Cod.bel hrw7 (by repeat (first | with_reducible exact Below.refl _ _ | with_reducible assumption | with_reducible refine bel_alloc ?_ _ | with_reducible refine bel_drew ?_ | with_reducible refine bel_drewN ?_ _ | (with_reducible refine bel_set ?_ ?_ _; rotate_left; ((try simp); (try omega)))))) z0 (by exact Cod.bel hrw6 (by repeat (first | with_reducible exact Below.refl _ _ | with_reducible assumption | with_reducible refine bel_alloc ?_ _ | with_reducible refine bel_drew ?_ | with_reducible refine bel_drewN ?_ _ | (with_reducible refine bel_set ?_ ?_ _; rotate_left; ((try simp); (try omega)))))) z1).mono ?_; rintro e w8 ⟨uw8, Gw8, rfl, hbw8, hrw8, hfw8⟩; have drw8 := hrw8; obtain ⟨vrw8_3, Erw8_3, rfl, -, -, mrw8_3⟩ := TResp.outA drw8; obtain ⟨Arw8_3, crw8_3, erw8_3⟩ := cL_form mrw8_3; subst erw8_3; clear mrw8_3 drw8; have hbww8 : Below w6b.heap.size w6b w8 := bel_then (by repeat (first | with_reducible exact Below.refl _ _ | with_reducible assumption | with_reducible refine bel_alloc ?_ _ | with_reducible refine bel_drew ?_ | with_reducible refine bel_drewN ?_ _ | (with_reducible refine bel_set ?_ ?_ _; rotate_left; ((try simp); (try omega))))) hbw8; obtain ⟨hccw8, hffw8, hzzw8⟩ := bcell hbw8; (try simp at hzzw8); (try have hyyw8_0 : w6b.heap.size < w8.heap.size := (by omega)); (try have hbpw8_0 : Below w6b.heap.size w6b w8 := bel_then (by repeat (first | with_reducible exact Below.refl _ _ | with_reducible assumption | with_reducible refine bel_alloc ?_ _ | with_reducible refine bel_drew ?_ | with_reducible refine bel_drewN ?_ _ | (with_reducible refine bel_set ?_ ?_ _; rotate_left; ((try simp); (try omega))))) hbw8); (try have hyyw8_1 : w7.heap.size < w8.heap.size := (by omega)); (try have hbpw8_1 : Below w7.heap.size w7 w8 := bel_then (by repeat (first | with_reducible exact Below.refl _ _ | with_reducible assumption | with_reducible refine bel_alloc ?_ _ | with_reducible refine bel_drew ?_ | with_reducible refine bel_drewN ?_ _ | (with_reducible refine bel_set ?_ ?_ _; rotate_left; ((try simp); (try omega))))) hbw8)))
          all_goals
            have hnbw8 : ∀ b, b ∈ Gw8 → _ ≤ b ∧ b < w8.heap.size := fun b hb => ⟨hfw8.1 b hb, Cod.lt _ hrw8 b hb⟩
            go_wp2_with fail
            go_meet
            case rel =>
              refine ⟨_, Arw8_3, crw8_3, Gw8, rfl, (by repeat (first | with_reducible exact Below.refl _ _ | with_reducible assumption | with_reducible refine bel_alloc ?_ _ | with_reducible refine bel_drew ?_ | with_reducible refine bel_drewN ?_ _ | (with_reducible refine bel_set ?_ ?_ _; rotate_left; ((try simp); (try omega))))), ?hA, ?hB, by go_simp, by go_simp, by go_simp, by go_simp, by go_simp, ?hR, hfw8.mono (by (try simp); (try omega)), ?hN⟩
              case hA => (try simp); (try omega)
              case hB => (try simp); (try omega)
              case hR => exact (by repeat (first | with_reducible exact hrw8 | with_reducible refine Cod.allocA ?_ _ | with_reducible refine Cod.drewA ?_ | with_reducible refine Cod.drewNA ?_ _ | ((with_reducible refine Cod.setA ?_ ?_ _); rotate_left; ((intro hm9; have hm8 := hnbw8 _ hm9; (try simp at hm8); (try omega))))))
              case hN => (intro hm; have hh := hnbw8 _ hm; (try simp at hh); (try omega))
        case rest =>
          obtain ⟨gw8, Arw8_3, crw8_3, Gw8, rfl, hbww8, hgew8, hzgw8, kgw8_0, kgw8_1, kgw8_2, kgw8_3, kgw8_4, hrw8, hfw8, hngw8⟩ := hcut
          obtain ⟨w8, rfl⟩ : ∃ x9 : World, x9 = wc := ⟨_, rfl⟩
          have hbZw8 := hbww8
          have hsw8 := hbZw8.size
          (try simp at hsw8)
          have hzw8_0 : w.heap.size < w8.heap.size := by omega
          have hzw8_1 : w.heap.size + 1 < w8.heap.size := by omega
          have hzw8_2 : gw5 < w8.heap.size := by omega
          have hzw8_3 : w6.heap.size < w8.heap.size := by omega
          have hBw8 : Below w.heap.size w w8 := bel_then (by repeat (first | with_reducible exact Below.refl _ _ | with_reducible assumption | with_reducible refine bel_alloc ?_ _ | with_reducible refine bel_drew ?_ | with_reducible refine bel_drewN ?_ _ | (with_reducible refine bel_set ?_ ?_ _; rotate_left; ((try simp); (try omega))))) hbZw8
          replace hrw5 := Cod.bel hrw5 (show Below _ _ w8 from bel_then (by repeat (first | with_reducible exact Below.refl _ _ | with_reducible assumption | with_reducible refine bel_alloc ?_ _ | with_reducible refine bel_drew ?_ | with_reducible refine bel_drewN ?_ _ | (with_reducible refine bel_set ?_ ?_ _; rotate_left; ((try simp); (try omega))))) hbZw8)
          replace hrw6 := Cod.bel hrw6 (show Below _ _ w8 from bel_then (by repeat (first | with_reducible exact Below.refl _ _ | with_reducible assumption | with_reducible refine bel_alloc ?_ _ | with_reducible refine bel_drew ?_ | with_reducible refine bel_drewN ?_ _ | (with_reducible refine bel_set ?_ ?_ _; rotate_left; ((try simp); (try omega))))) hbZw8)
          have hlrw8 : ∀ b, b ∈ Gw8 → b < w8.heap.size := fun b hb => Cod.lt _ hrw8 b hb
          have zr : cResp.sz ((filterResponse p0 p1)) ≤ 8000000 := (by have h := filterResponse_sz p0 p1; have := z1; omega)
          obtain ⟨hcw8, hfzw8, -⟩ := bcell hbZw8
          clear hbZw8
          go_wp2_with fail
          refine (eqResponse_any _ _ ((filterResponse p0 p1)) _ _ _ (by exact Cod.bel hrw8 (by repeat (first | with_reducible exact Below.refl _ _ | with_reducible assumption | with_reducible refine bel_alloc ?_ _ | with_reducible refine bel_drew ?_ | with_reducible refine bel_drewN ?_ _ | (with_reducible refine bel_set ?_ ?_ _; rotate_left; ((try simp); (try omega)))))) (by exact Cod.bel hrw5 (by repeat (first | with_reducible exact Below.refl _ _ | with_reducible assumption | with_reducible refine bel_alloc ?_ _ | with_reducible refine bel_drew ?_ | with_reducible refine bel_drewN ?_ _ | (with_reducible refine bel_set ?_ ?_ _; rotate_left; ((try simp); (try omega))))))).mono ?_
          rintro e w9 ⟨rfl, hbw9⟩
          have hsw9 := hbw9.size
          (try simp at hsw9)
          have hzw9_0 : w.heap.size < w9.heap.size := by omega
          have hzw9_1 : w.heap.size + 1 < w9.heap.size := by omega
          have hzw9_2 : gw5 < w9.heap.size := by omega
          have hzw9_3 : w6.heap.size < w9.heap.size := by omega
          have hzw9_4 : gw8 < w9.heap.size := by omega
          have hBw9 : Below w.heap.size w w9 := bel_then (by repeat (first | with_reducible exact Below.refl _ _ | with_reducible assumption | with_reducible refine bel_alloc ?_ _ | with_reducible refine bel_drew ?_ | with_reducible refine bel_drewN ?_ _ | (with_reducible refine bel_set ?_ ?_ _; rotate_left; ((try simp); (try omega))))) hbw9
          replace hrw5 := Cod.bel hrw5 (show Below _ _ w9 from bel_then (by repeat (first | with_reducible exact Below.refl _ _ | with_reducible assumption | with_reducible refine bel_alloc ?_ _ | with_reducible refine bel_drew ?_ | with_reducible refine bel_drewN ?_ _ | (with_reducible refine bel_set ?_ ?_ _; rotate_left; ((try simp); (try omega))))) hbw9)
          replace hrw6 := Cod.bel hrw6 (show Below _ _ w9 from bel_then (by repeat (first | with_reducible exact Below.refl _ _ | with_reducible assumption | with_reducible refine bel_alloc ?_ _ | with_reducible refine bel_drew ?_ | with_reducible refine bel_drewN ?_ _ | (with_reducible refine bel_set ?_ ?_ _; rotate_left; ((try simp); (try omega))))) hbw9)
          replace hrw8 := Cod.bel hrw8 (show Below _ _ w9 from bel_then (by repeat (first | with_reducible exact Below.refl _ _ | with_reducible assumption | with_reducible refine bel_alloc ?_ _ | with_reducible refine bel_drew ?_ | with_reducible refine bel_drewN ?_ _ | (with_reducible refine bel_set ?_ ?_ _; rotate_left; ((try simp); (try omega))))) hbw9)
          obtain ⟨hcw9, hfzw9, -⟩ := bcell hbw9
          clear hbw9
          go_wp2_with fail
          have kw11_0 : w9.cell? ⟨w6.heap.size, 0, none⟩ = some (.int .i64 p1.type) := by go_simp
          have kw11_1 : w9.cell? ⟨w6.heap.size, 1, none⟩ = some (.int .i64 p1.status) := by go_simp
          have kw11_2 : w9.cell? ⟨w6.heap.size, 2, none⟩ = some (.int .i64 p1.ver) := by go_simp
          have kw11_3 : w9.cell? ⟨w6.heap.size, 3, none⟩ = some (.slice Arw6_3 p1.body.length crw6_3) := by go_simp
          have kw11_4 : w9.cell? ⟨w6.heap.size, 4, none⟩ = some (.bool p1.shares) := by go_simp
          have kw11_5 : w9.cell? ⟨w.heap.size + 1, 0, none⟩ = some (.int .i64 p1.type) := by go_simp
          have kw11_6 : w9.cell? ⟨w.heap.size + 1, 1, none⟩ = some (.int .i64 p1.status) := by go_simp
          have kw11_7 : w9.cell? ⟨w.heap.size + 1, 2, none⟩ = some (.int .i64 p1.ver) := by go_simp
          have kw11_8 : w9.cell? ⟨w.heap.size + 1, 3, none⟩ = some (.slice A1_3 p1.body.length c1_3) := by go_simp
          have kw11_9 : w9.cell? ⟨w.heap.size + 1, 4, none⟩ = some (.bool p1.shares) := by go_simp
          have hS : ∀ wS, Below w9.heap.size w9 wS → Below w9.heap.size w9 wS ∧ wS.cell? ⟨w6.heap.size, 0, none⟩ = some (.int .i64 p1.type) ∧ wS.cell? ⟨w6.heap.size, 1, none⟩ = some (.int .i64 p1.status) ∧ wS.cell? ⟨w6.heap.size, 2, none⟩ = some (.int .i64 p1.ver) ∧ wS.cell? ⟨w6.heap.size, 3, none⟩ = some (.slice Arw6_3 p1.body.length crw6_3) ∧ wS.cell? ⟨w6.heap.size, 4, none⟩ = some (.bool p1.shares) ∧ wS.cell? ⟨w.heap.size + 1, 0, none⟩ = some (.int .i64 p1.type) ∧ wS.cell? ⟨w.heap.size + 1, 1, none⟩ = some (.int .i64 p1.status) ∧ wS.cell? ⟨w.heap.size + 1, 2, none⟩ = some (.int .i64 p1.ver) ∧ wS.cell? ⟨w.heap.size + 1, 3, none⟩ = some (.slice A1_3 p1.body.length c1_3) ∧ wS.cell? ⟨w.heap.size + 1, 4, none⟩ = some (.bool p1.shares) := fun wS hb => ⟨hb, (hb.cell (p := ⟨w6.heap.size, 0, none⟩) (by simpa using hzw9_3)).trans kw11_0, (hb.cell (p := ⟨w6.heap.size, 1, none⟩) (by simpa using hzw9_3)).trans kw11_1, (hb.cell (p := ⟨w6.heap.size, 2, none⟩) (by simpa using hzw9_3)).trans kw11_2, (hb.cell (p := ⟨w6.heap.size, 3, none⟩) (by simpa using hzw9_3)).trans kw11_3, (hb.cell (p := ⟨w6.heap.size, 4, none⟩) (by simpa using hzw9_3)).trans kw11_4, (hb.cell (p := ⟨w.heap.size + 1, 0, none⟩) (by simpa using hzw9_1)).trans kw11_5, (hb.cell (p := ⟨w.heap.size + 1, 1, none⟩) (by simpa using hzw9_1)).trans kw11_6, (hb.cell (p := ⟨w.heap.size + 1, 2, none⟩) (by simpa using hzw9_1)).trans kw11_7, (hb.cell (p := ⟨w.heap.size + 1, 3, none⟩) (by simpa using hzw9_1)).trans kw11_8, (hb.cell (p := ⟨w.heap.size + 1, 4, none⟩) (by simpa using hzw9_1)).trans kw11_9⟩
          have hwb : Below w9.heap.size w9 w9 := Below.refl _ _
          clear kw11_0 kw11_1 kw11_2 kw11_3 kw11_4 kw11_5 kw11_6 kw11_7 kw11_8 kw11_9
          go_region_held3 (fun wS => Below w9.heap.size w9 wS ∧ wS.cell? ⟨w6.heap.size, 0, none⟩ = some (.int .i64 p1.type) ∧ wS.cell? ⟨w6.heap.size, 1, none⟩ = some (.int .i64 p1.status) ∧ wS.cell? ⟨w6.heap.size, 2, none⟩ = some (.int .i64 p1.ver) ∧ wS.cell? ⟨w6.heap.size, 3, none⟩ = some (.slice Arw6_3 p1.body.length crw6_3) ∧ wS.cell? ⟨w6.heap.size, 4, none⟩ = some (.bool p1.shares) ∧ wS.cell? ⟨w.heap.size + 1, 0, none⟩ = some (.int .i64 p1.type) ∧ wS.cell? ⟨w.heap.size + 1, 1, none⟩ = some (.int .i64 p1.status) ∧ wS.cell? ⟨w.heap.size + 1, 2, none⟩ = some (.int .i64 p1.ver) ∧ wS.cell? ⟨w.heap.size + 1, 3, none⟩ = some (.slice A1_3 p1.body.length c1_3) ∧ wS.cell? ⟨w.heap.size + 1, 4, none⟩ = some (.bool p1.shares)) (exact hS _ (by repeat (first | with_reducible exact Below.refl _ _ | with_reducible assumption | with_reducible refine bel_alloc ?_ _ | with_reducible refine bel_drew ?_ | with_reducible refine bel_drewN ?_ _ | (with_reducible refine bel_set ?_ ?_ _; rotate_left; ((try simp); (try omega)))))) (first | (go_at_call 19; refine (toResponse_any _ p1 _ _ (by exact Cod.bel h1 (bel_then hBw9 (by repeat (first | with_reducible exact Below.refl _ _ | with_reducible assumption | with_reducible refine bel_alloc ?_ _ | with_reducible refine bel_drew ?_ | with_reducible refine bel_drewN ?_ _ | (with_reducible refine bel_set ?_ ?_ _; rotate_left; ((try simp); (try omega))))))) z1).mono ?_; rintro e w10 ⟨uw10, Gw10, rfl, hbw10, hrw10, hfw10⟩; have hbww10 : Below w9.heap.size w9 w10 := bel_then (by repeat (first | with_reducible exact Below.refl _ _ | with_reducible assumption | with_reducible refine bel_alloc ?_ _ | with_reducible refine bel_drew ?_ | with_reducible refine bel_drewN ?_ _ | (with_reducible refine bel_set ?_ ?_ _; rotate_left; ((try simp); (try omega))))) hbw10; clear hfw10) | (go_at_call 21; refine (eqResponse_any _ _ p1 _ _ _ (by exact Cod.bel hrw6 (by repeat (first | with_reducible exact Below.refl _ _ | with_reducible assumption | with_reducible refine bel_alloc ?_ _ | with_reducible refine bel_drew ?_ | with_reducible refine bel_drewN ?_ _ | (with_reducible refine bel_set ?_ ?_ _; rotate_left; ((try simp); (try omega)))))) (by exact Cod.bel hrw10 (by repeat (first | with_reducible exact Below.refl _ _ | with_reducible assumption | with_reducible refine bel_alloc ?_ _ | with_reducible refine bel_drew ?_ | with_reducible refine bel_drewN ?_ _ | (with_reducible refine bel_set ?_ ?_ _; rotate_left; ((try simp); (try omega))))))).mono ?_; rintro e w11 ⟨rfl, hbw11⟩; have hbww11 : Below w9.heap.size w9 w11 := bel_then (by repeat (first | with_reducible exact Below.refl _ _ | with_reducible assumption | with_reducible refine bel_alloc ?_ _ | with_reducible refine bel_drew ?_ | with_reducible refine bel_drewN ?_ _ | (with_reducible refine bel_set ?_ ?_ _; rotate_left; ((try simp); (try omega))))) hbw11))
          have hbZw11 := hbww11
          have hsw11 := hbZw11.size
          (try simp at hsw11)
          have hzw11_0 : w.heap.size < w11.heap.size := by omega
          have hzw11_1 : w.heap.size + 1 < w11.heap.size := by omega
          have hzw11_2 : gw5 < w11.heap.size := by omega
          have hzw11_3 : w6.heap.size < w11.heap.size := by omega
          have hzw11_4 : gw8 < w11.heap.size := by omega
          have hBw11 : Below w.heap.size w w11 := bel_then (by repeat (first | with_reducible exact Below.refl _ _ | with_reducible assumption | with_reducible refine bel_alloc ?_ _ | with_reducible refine bel_drew ?_ | with_reducible refine bel_drewN ?_ _ | (with_reducible refine bel_set ?_ ?_ _; rotate_left; ((try simp); (try omega))))) hbZw11
          replace hrw5 := Cod.bel hrw5 (show Below _ _ w11 from bel_then (by repeat (first | with_reducible exact Below.refl _ _ | with_reducible assumption | with_reducible refine bel_alloc ?_ _ | with_reducible refine bel_drew ?_ | with_reducible refine bel_drewN ?_ _ | (with_reducible refine bel_set ?_ ?_ _; rotate_left; ((try simp); (try omega))))) hbZw11)
          replace hrw6 := Cod.bel hrw6 (show Below _ _ w11 from bel_then (by repeat (first | with_reducible exact Below.refl _ _ | with_reducible assumption | with_reducible refine bel_alloc ?_ _ | with_reducible refine bel_drew ?_ | with_reducible refine bel_drewN ?_ _ | (with_reducible refine bel_set ?_ ?_ _; rotate_left; ((try simp); (try omega))))) hbZw11)
          replace hrw8 := Cod.bel hrw8 (show Below _ _ w11 from bel_then (by repeat (first | with_reducible exact Below.refl _ _ | with_reducible assumption | with_reducible refine bel_alloc ?_ _ | with_reducible refine bel_drew ?_ | with_reducible refine bel_drewN ?_ _ | (with_reducible refine bel_set ?_ ?_ _; rotate_left; ((try simp); (try omega))))) hbZw11)
          obtain ⟨hcw11, hfzw11, -⟩ := bcell hbZw11
          clear hbZw11
          go_wp2_with fail
          have ctw12 : ((TResp.tcn p1 : Nat) : Int) ≤ 899999999 := (by have h1 := TResp.tcn_le p1; have h2 := z1; omega)
          refine (markResponse_any _ p1 _ _ _ (by exact Cod.bel hrw6 (by repeat (first | with_reducible exact Below.refl _ _ | with_reducible assumption | with_reducible refine bel_alloc ?_ _ | with_reducible refine bel_drew ?_ | with_reducible refine bel_drewN ?_ _ | (with_reducible refine bel_set ?_ ?_ _; rotate_left; ((try simp); (try omega)))))) hfw6.2 (by omega) (by omega)).mono ?_
          rintro e w12 ⟨rfl, how12, hmw12⟩
          have hsw12 := how12.size
          (try simp at hsw12)
          have hzw12_0 : w.heap.size < w12.heap.size := by omega
          have hzw12_1 : w.heap.size + 1 < w12.heap.size := by omega
          have hzw12_2 : gw5 < w12.heap.size := by omega
          have hzw12_3 : w6.heap.size < w12.heap.size := by omega
          have hzw12_4 : gw8 < w12.heap.size := by omega
          have hnw12_0 : w.heap.size ∉ Gw6 := fun hm => by have h1 := hfw6.1 _ hm; have h2 := hlrw6 _ hm; (try simp at h1); omega
          have hcw12_0 : ∀ o : Nat, w12.cell? ⟨w.heap.size, o, none⟩ = _ := fun o => World.cell?_of_block (a := ⟨w.heap.size, o, none⟩) (how12.block (w.heap.size) (by (try simp); (try omega)) hnw12_0)
          clear hnw12_0
          have hnw12_1 : w.heap.size + 1 ∉ Gw6 := fun hm => by have h1 := hfw6.1 _ hm; have h2 := hlrw6 _ hm; (try simp at h1); omega
          have hcw12_1 : ∀ o : Nat, w12.cell? ⟨w.heap.size + 1, o, none⟩ = _ := fun o => World.cell?_of_block (a := ⟨w.heap.size + 1, o, none⟩) (how12.block (w.heap.size + 1) (by (try simp); (try omega)) hnw12_1)
          clear hnw12_1
          have hnw12_2 : gw5 ∉ Gw6 := fun hm => by have h1 := hfw6.1 _ hm; have h2 := hlrw6 _ hm; (try simp at h1); omega
          have hcw12_2 : ∀ o : Nat, w12.cell? ⟨gw5, o, none⟩ = _ := fun o => World.cell?_of_block (a := ⟨gw5, o, none⟩) (how12.block (gw5) (by (try simp); (try omega)) hnw12_2)
          clear hnw12_2
          have hnw12_3 : w6.heap.size ∉ Gw6 := fun hm => by have h1 := hfw6.1 _ hm; have h2 := hlrw6 _ hm; (try simp at h1); omega
          have hcw12_3 : ∀ o : Nat, w12.cell? ⟨w6.heap.size, o, none⟩ = _ := fun o => World.cell?_of_block (a := ⟨w6.heap.size, o, none⟩) (how12.block (w6.heap.size) (by (try simp); (try omega)) hnw12_3)
          clear hnw12_3
          have hnw12_4 : gw8 ∉ Gw6 := fun hm => by have h1 := hfw6.1 _ hm; have h2 := hlrw6 _ hm; (try simp at h1); omega
          have hcw12_4 : ∀ o : Nat, w12.cell? ⟨gw8, o, none⟩ = _ := fun o => World.cell?_of_block (a := ⟨gw8, o, none⟩) (how12.block (gw8) (by (try simp); (try omega)) hnw12_4)
          clear hnw12_4
          have hBw12 : Below w.heap.size w w12 := Below.trans (show Below w.heap.size w _ from (by repeat (first | with_reducible exact Below.refl _ _ | with_reducible assumption | with_reducible refine bel_alloc ?_ _ | with_reducible refine bel_drew ?_ | with_reducible refine bel_drewN ?_ _ | (with_reducible refine bel_set ?_ ?_ _; rotate_left; ((try simp); (try omega)))))) (how12.bel _ (by have := hBw11.size; (try simp); (try omega)) (fun b hb => by have h1 := hfw6.1 _ hb; have := hBw11.size; (try simp at h1); omega))
          replace hrw5 := Cod.only (Cod.bel hrw5 (by repeat (first | with_reducible exact Below.refl _ _ | with_reducible assumption | with_reducible refine bel_alloc ?_ _ | with_reducible refine bel_drew ?_ | with_reducible refine bel_drewN ?_ _ | (with_reducible refine bel_set ?_ ?_ _; rotate_left; ((try simp); (try omega)))))) how12 (fun b h1 h2 => by have e1 := hlrw5 b h1; have e2 := hfw6.1 b h2; (try simp at e2); omega)
          replace hrw8 := Cod.only (Cod.bel hrw8 (by repeat (first | with_reducible exact Below.refl _ _ | with_reducible assumption | with_reducible refine bel_alloc ?_ _ | with_reducible refine bel_drew ?_ | with_reducible refine bel_drewN ?_ _ | (with_reducible refine bel_set ?_ ?_ _; rotate_left; ((try simp); (try omega)))))) how12 (fun b h1 h2 => by have e1 := hlrw6 b h2; have e2 := hfw8.1 b h1; (try simp at e2); omega)
          clear hrw6
          have hrw6 := hmw12
          clear how12
          go_wp2_with fail
          refine (eqResponse_any _ _ ((filterResponse p0 p1)) _ _ _ (by exact Cod.bel hrw8 (by repeat (first | with_reducible exact Below.refl _ _ | with_reducible assumption | with_reducible refine bel_alloc ?_ _ | with_reducible refine bel_drew ?_ | with_reducible refine bel_drewN ?_ _ | (with_reducible refine bel_set ?_ ?_ _; rotate_left; ((try simp); (try omega)))))) (by exact Cod.bel hrw5 (by repeat (first | with_reducible exact Below.refl _ _ | with_reducible assumption | with_reducible refine bel_alloc ?_ _ | with_reducible refine bel_drew ?_ | with_reducible refine bel_drewN ?_ _ | (with_reducible refine bel_set ?_ ?_ _; rotate_left; ((try simp); (try omega))))))).mono ?_
          rintro e w13 ⟨rfl, hbw13⟩
          have hsw13 := hbw13.size
          (try simp at hsw13)
          have hzw13_0 : w.heap.size < w13.heap.size := by omega
          have hzw13_1 : w.heap.size + 1 < w13.heap.size := by omega
          have hzw13_2 : gw5 < w13.heap.size := by omega
          have hzw13_3 : w6.heap.size < w13.heap.size := by omega
          have hzw13_4 : gw8 < w13.heap.size := by omega
          have hBw13 : Below w.heap.size w w13 := bel_then (by repeat (first | with_reducible exact Below.refl _ _ | with_reducible assumption | with_reducible refine bel_alloc ?_ _ | with_reducible refine bel_drew ?_ | with_reducible refine bel_drewN ?_ _ | (with_reducible refine bel_set ?_ ?_ _; rotate_left; ((try simp); (try omega))))) hbw13
          replace hrw5 := Cod.bel hrw5 (show Below _ _ w13 from bel_then (by repeat (first | with_reducible exact Below.refl _ _ | with_reducible assumption | with_reducible refine bel_alloc ?_ _ | with_reducible refine bel_drew ?_ | with_reducible refine bel_drewN ?_ _ | (with_reducible refine bel_set ?_ ?_ _; rotate_left; ((try simp); (try omega))))) hbw13)
          replace hrw6 := Cod.bel hrw6 (show Below _ _ w13 from bel_then (by repeat (first | with_reducible exact Below.refl _ _ | with_reducible assumption | with_reducible refine bel_alloc ?_ _ | with_reducible refine bel_drew ?_ | with_reducible refine bel_drewN ?_ _ | (with_reducible refine bel_set ?_ ?_ _; rotate_left; ((try simp); (try omega))))) hbw13)
          replace hrw8 := Cod.bel hrw8 (show Below _ _ w13 from bel_then (by repeat (first | with_reducible exact Below.refl _ _ | with_reducible assumption | with_reducible refine bel_alloc ?_ _ | with_reducible refine bel_drew ?_ | with_reducible refine bel_drewN ?_ _ | (with_reducible refine bel_set ?_ ?_ _; rotate_left; ((try simp); (try omega))))) hbw13)
          obtain ⟨hcw13, hfzw13, -⟩ := bcell hbw13
          clear hbw13
          go_wp2_with fail
          have ctw14 : ((TResp.tcn ((filterResponse p0 p1)) : Nat) : Int) ≤ 899999999 := (by have h1 := TResp.tcn_le ((filterResponse p0 p1)); have h2 := zr; omega)
          refine (markResponse_any _ ((filterResponse p0 p1)) _ _ _ (by exact Cod.bel hrw8 (by repeat (first | with_reducible exact Below.refl _ _ | with_reducible assumption | with_reducible refine bel_alloc ?_ _ | with_reducible refine bel_drew ?_ | with_reducible refine bel_drewN ?_ _ | (with_reducible refine bel_set ?_ ?_ _; rotate_left; ((try simp); (try omega)))))) hfw8.2 (by omega) (by omega)).mono ?_
          rintro e w14 ⟨rfl, how14, hmw14⟩
          have hsw14 := how14.size
          (try simp at hsw14)
          have hzw14_0 : w.heap.size < w14.heap.size := by omega
          have hzw14_1 : w.heap.size + 1 < w14.heap.size := by omega
          have hzw14_2 : gw5 < w14.heap.size := by omega
          have hzw14_3 : w6.heap.size < w14.heap.size := by omega
          have hzw14_4 : gw8 < w14.heap.size := by omega
          have hnw14_0 : w.heap.size ∉ Gw8 := fun hm => by have h1 := hfw8.1 _ hm; have h2 := hlrw8 _ hm; (try simp at h1); omega
          have hcw14_0 : ∀ o : Nat, w14.cell? ⟨w.heap.size, o, none⟩ = _ := fun o => World.cell?_of_block (a := ⟨w.heap.size, o, none⟩) (how14.block (w.heap.size) (by (try simp); (try omega)) hnw14_0)
          clear hnw14_0
          have hnw14_1 : w.heap.size + 1 ∉ Gw8 := fun hm => by have h1 := hfw8.1 _ hm; have h2 := hlrw8 _ hm; (try simp at h1); omega
          have hcw14_1 : ∀ o : Nat, w14.cell? ⟨w.heap.size + 1, o, none⟩ = _ := fun o => World.cell?_of_block (a := ⟨w.heap.size + 1, o, none⟩) (how14.block (w.heap.size + 1) (by (try simp); (try omega)) hnw14_1)
          clear hnw14_1
          have hnw14_2 : gw5 ∉ Gw8 := fun hm => by have h1 := hfw8.1 _ hm; have h2 := hlrw8 _ hm; (try simp at h1); omega
          have hcw14_2 : ∀ o : Nat, w14.cell? ⟨gw5, o, none⟩ = _ := fun o => World.cell?_of_block (a := ⟨gw5, o, none⟩) (how14.block (gw5) (by (try simp); (try omega)) hnw14_2)
          clear hnw14_2
          have hnw14_3 : w6.heap.size ∉ Gw8 := fun hm => by have h1 := hfw8.1 _ hm; have h2 := hlrw8 _ hm; (try simp at h1); omega
          have hcw14_3 : ∀ o : Nat, w14.cell? ⟨w6.heap.size, o, none⟩ = _ := fun o => World.cell?_of_block (a := ⟨w6.heap.size, o, none⟩) (how14.block (w6.heap.size) (by (try simp); (try omega)) hnw14_3)
          clear hnw14_3
          have hnw14_4 : gw8 ∉ Gw8 := fun hm => by have h1 := hfw8.1 _ hm; have h2 := hlrw8 _ hm; exact hngw8 hm
          have hcw14_4 : ∀ o : Nat, w14.cell? ⟨gw8, o, none⟩ = _ := fun o => World.cell?_of_block (a := ⟨gw8, o, none⟩) (how14.block (gw8) (by (try simp); (try omega)) hnw14_4)
          clear hnw14_4
          have hBw14 : Below w.heap.size w w14 := Below.trans (show Below w.heap.size w _ from (by repeat (first | with_reducible exact Below.refl _ _ | with_reducible assumption | with_reducible refine bel_alloc ?_ _ | with_reducible refine bel_drew ?_ | with_reducible refine bel_drewN ?_ _ | (with_reducible refine bel_set ?_ ?_ _; rotate_left; ((try simp); (try omega)))))) (how14.bel _ (by have := hBw13.size; (try simp); (try omega)) (fun b hb => by have h1 := hfw8.1 _ hb; have := hBw13.size; (try simp at h1); omega))
          replace hrw5 := Cod.only (Cod.bel hrw5 (by repeat (first | with_reducible exact Below.refl _ _ | with_reducible assumption | with_reducible refine bel_alloc ?_ _ | with_reducible refine bel_drew ?_ | with_reducible refine bel_drewN ?_ _ | (with_reducible refine bel_set ?_ ?_ _; rotate_left; ((try simp); (try omega)))))) how14 (fun b h1 h2 => by have e1 := hlrw5 b h1; have e2 := hfw8.1 b h2; (try simp at e2); omega)
          replace hrw6 := Cod.only (Cod.bel hrw6 (by repeat (first | with_reducible exact Below.refl _ _ | with_reducible assumption | with_reducible refine bel_alloc ?_ _ | with_reducible refine bel_drew ?_ | with_reducible refine bel_drewN ?_ _ | (with_reducible refine bel_set ?_ ?_ _; rotate_left; ((try simp); (try omega)))))) how14 (fun b h1 h2 => by have e1 := hlrw6 b h1; have e2 := hfw8.1 b h2; (try simp at e2); omega)
          clear hrw8
          have hrw8 := hmw14
          clear how14
          go_wp2_with fail
          refine (heldResponse_any _ ((filterResponse p0 p1)) _ _ _ (by exact Cod.bel hrw8 (by repeat (first | with_reducible exact Below.refl _ _ | with_reducible assumption | with_reducible refine bel_alloc ?_ _ | with_reducible refine bel_drew ?_ | with_reducible refine bel_drewN ?_ _ | (with_reducible refine bel_set ?_ ?_ _; rotate_left; ((try simp); (try omega)))))) (by omega) (by omega)).mono ?_
          rintro e w15 ⟨rfl, hbw15⟩
          have hsw15 := hbw15.size
          (try simp at hsw15)
          have hzw15_0 : w.heap.size < w15.heap.size := by omega
          have hzw15_1 : w.heap.size + 1 < w15.heap.size := by omega
          have hzw15_2 : gw5 < w15.heap.size := by omega
          have hzw15_3 : w6.heap.size < w15.heap.size := by omega
          have hzw15_4 : gw8 < w15.heap.size := by omega
          have hBw15 : Below w.heap.size w w15 := bel_then (by repeat (first | with_reducible exact Below.refl _ _ | with_reducible assumption | with_reducible refine bel_alloc ?_ _ | with_reducible refine bel_drew ?_ | with_reducible refine bel_drewN ?_ _ | (with_reducible refine bel_set ?_ ?_ _; rotate_left; ((try simp); (try omega))))) hbw15
          replace hrw5 := Cod.bel hrw5 (show Below _ _ w15 from bel_then (by repeat (first | with_reducible exact Below.refl _ _ | with_reducible assumption | with_reducible refine bel_alloc ?_ _ | with_reducible refine bel_drew ?_ | with_reducible refine bel_drewN ?_ _ | (with_reducible refine bel_set ?_ ?_ _; rotate_left; ((try simp); (try omega))))) hbw15)
          replace hrw6 := Cod.bel hrw6 (show Below _ _ w15 from bel_then (by repeat (first | with_reducible exact Below.refl _ _ | with_reducible assumption | with_reducible refine bel_alloc ?_ _ | with_reducible refine bel_drew ?_ | with_reducible refine bel_drewN ?_ _ | (with_reducible refine bel_set ?_ ?_ _; rotate_left; ((try simp); (try omega))))) hbw15)
          replace hrw8 := Cod.bel hrw8 (show Below _ _ w15 from bel_then (by repeat (first | with_reducible exact Below.refl _ _ | with_reducible assumption | with_reducible refine bel_alloc ?_ _ | with_reducible refine bel_drew ?_ | with_reducible refine bel_drewN ?_ _ | (with_reducible refine bel_set ?_ ?_ _; rotate_left; ((try simp); (try omega))))) hbw15)
          obtain ⟨hcw15, hfzw15, -⟩ := bcell hbw15
          clear hbw15
          go_wp2_with fail
          have kz16_0 : w15.cell? ⟨w.heap.size, 0, none⟩ = some (.string p0.frm) := by go_simp
          have kz16_1 : w15.cell? ⟨w.heap.size, 1, none⟩ = some (.string p0.dst) := by go_simp
          have kz16_2 : w15.cell? ⟨w.heap.size, 2, none⟩ = some (.string p0.path) := by go_simp
          have kz16_3 : w15.cell? ⟨w.heap.size, 3, none⟩ = some (.int .i64 p0.mode) := by go_simp
          have kz16_4 : w15.cell? ⟨w.heap.size + 1, 0, none⟩ = some (.int .i64 p1.type) := by go_simp
          have kz16_5 : w15.cell? ⟨w.heap.size + 1, 1, none⟩ = some (.int .i64 p1.status) := by go_simp
          have kz16_6 : w15.cell? ⟨w.heap.size + 1, 2, none⟩ = some (.int .i64 p1.ver) := by go_simp
          have kz16_7 : w15.cell? ⟨w.heap.size + 1, 3, none⟩ = some (.slice A1_3 p1.body.length c1_3) := by go_simp
          have kz16_8 : w15.cell? ⟨w.heap.size + 1, 4, none⟩ = some (.bool p1.shares) := by go_simp
          have hS : ∀ wS, Below w15.heap.size w15 wS → Below w15.heap.size w15 wS ∧ wS.cell? ⟨w.heap.size, 0, none⟩ = some (.string p0.frm) ∧ wS.cell? ⟨w.heap.size, 1, none⟩ = some (.string p0.dst) ∧ wS.cell? ⟨w.heap.size, 2, none⟩ = some (.string p0.path) ∧ wS.cell? ⟨w.heap.size, 3, none⟩ = some (.int .i64 p0.mode) ∧ wS.cell? ⟨w.heap.size + 1, 0, none⟩ = some (.int .i64 p1.type) ∧ wS.cell? ⟨w.heap.size + 1, 1, none⟩ = some (.int .i64 p1.status) ∧ wS.cell? ⟨w.heap.size + 1, 2, none⟩ = some (.int .i64 p1.ver) ∧ wS.cell? ⟨w.heap.size + 1, 3, none⟩ = some (.slice A1_3 p1.body.length c1_3) ∧ wS.cell? ⟨w.heap.size + 1, 4, none⟩ = some (.bool p1.shares) := fun wS hb => ⟨hb, (hb.cell (p := ⟨w.heap.size, 0, none⟩) (by simpa using hzw15_0)).trans kz16_0, (hb.cell (p := ⟨w.heap.size, 1, none⟩) (by simpa using hzw15_0)).trans kz16_1, (hb.cell (p := ⟨w.heap.size, 2, none⟩) (by simpa using hzw15_0)).trans kz16_2, (hb.cell (p := ⟨w.heap.size, 3, none⟩) (by simpa using hzw15_0)).trans kz16_3, (hb.cell (p := ⟨w.heap.size + 1, 0, none⟩) (by simpa using hzw15_1)).trans kz16_4, (hb.cell (p := ⟨w.heap.size + 1, 1, none⟩) (by simpa using hzw15_1)).trans kz16_5, (hb.cell (p := ⟨w.heap.size + 1, 2, none⟩) (by simpa using hzw15_1)).trans kz16_6, (hb.cell (p := ⟨w.heap.size + 1, 3, none⟩) (by simpa using hzw15_1)).trans kz16_7, (hb.cell (p := ⟨w.heap.size + 1, 4, none⟩) (by simpa using hzw15_1)).trans kz16_8⟩
          have hwb : Below w15.heap.size w15 w15 := Below.refl _ _
          clear kz16_0 kz16_1 kz16_2 kz16_3 kz16_4 kz16_5 kz16_6 kz16_7 kz16_8
          go_cut [12] from 65 (fun v12 wq => ∃ (gw18 : Nat) (Arw18_3 : Option Addr) (crw18_3 : Nat) (Gw18 : List Nat), v12 = .pointer (some ⟨gw18, 0, none⟩) ∧ Below w15.heap.size w15 wq ∧ w15.heap.size ≤ gw18 ∧ gw18 < wq.heap.size ∧ wq.cell? ⟨gw18, 0, none⟩ = some (.int .i64 ((filterResponse p0 p1)).type) ∧ wq.cell? ⟨gw18, 1, none⟩ = some (.int .i64 ((filterResponse p0 p1)).status) ∧ wq.cell? ⟨gw18, 2, none⟩ = some (.int .i64 ((filterResponse p0 p1)).ver) ∧ wq.cell? ⟨gw18, 3, none⟩ = some (.slice Arw18_3 ((filterResponse p0 p1)).body.length crw18_3) ∧ wq.cell? ⟨gw18, 4, none⟩ = some (.bool ((filterResponse p0 p1)).shares) ∧ cResp.rep wq [(.int .i64 ((filterResponse p0 p1)).type), (.int .i64 ((filterResponse p0 p1)).status), (.int .i64 ((filterResponse p0 p1)).ver), (.slice Arw18_3 ((filterResponse p0 p1)).body.length crw18_3), (.bool ((filterResponse p0 p1)).shares)] ((filterResponse p0 p1)) Gw18 ∧ Fresh w15.heap.size Gw18 ∧ gw18 ∉ Gw18)
          case first =>
            go_region_held3 (fun wS => Below w15.heap.size w15 wS ∧ wS.cell? ⟨w.heap.size, 0, none⟩ = some (.string p0.frm) ∧ wS.cell? ⟨w.heap.size, 1, none⟩ = some (.string p0.dst) ∧ wS.cell? ⟨w.heap.size, 2, none⟩ = some (.string p0.path) ∧ wS.cell? ⟨w.heap.size, 3, none⟩ = some (.int .i64 p0.mode) ∧ wS.cell? ⟨w.heap.size + 1, 0, none⟩ = some (.int .i64 p1.type) ∧ wS.cell? ⟨w.heap.size + 1, 1, none⟩ = some (.int .i64 p1.status) ∧ wS.cell? ⟨w.heap.size + 1, 2, none⟩ = some (.int .i64 p1.ver) ∧ wS.cell? ⟨w.heap.size + 1, 3, none⟩ = some (.slice A1_3 p1.body.length c1_3) ∧ wS.cell? ⟨w.heap.size + 1, 4, none⟩ = some (.bool p1.shares)) (exact hS _ (by repeat (first | with_reducible exact Below.refl _ _ | with_reducible assumption | with_reducible refine bel_alloc ?_ _ | with_reducible refine bel_drew ?_ | with_reducible refine bel_drewN ?_ _ | (with_reducible refine bel_set ?_ ?_ _; rotate_left; ((try simp); (try omega)))))) (first | (go_at_call 18; refine (toRequest_any _ p0 _ _ (by exact Cod.bel h0 (bel_then hBw15 (by repeat (first | with_reducible exact Below.refl _ _ | with_reducible assumption | with_reducible refine bel_alloc ?_ _ | with_reducible refine bel_drew ?_ | with_reducible refine bel_drewN ?_ _ | (with_reducible refine bel_set ?_ ?_ _; rotate_left; ((try simp); (try omega))))))) z0).mono ?_; rintro e w16 ⟨uw16, Gw16, rfl, hbw16, hrw16, hfw16⟩; have hbww16 : Below w15.heap.size w15 w16 := bel_then (by repeat (first | with_reducible exact Below.refl _ _ | with_reducible assumption | with_reducible refine bel_alloc ?_ _ | with_reducible refine bel_drew ?_ | with_reducible refine bel_drewN ?_ _ | (with_reducible refine bel_set ?_ ?_ _; rotate_left; ((try simp); (try omega))))) hbw16; clear hfw16; obtain ⟨hccw16, hffw16, hzzw16⟩ := bcell hbw16; (try simp at hzzw16); (try have hyyw16_0 : w15.heap.size < w16.heap.size := (by omega)); (try have hbpw16_0 : Below w15.heap.size w15 w16 := bel_then (by repeat (first | with_reducible exact Below.refl _ _ | with_reducible assumption | with_reducible refine bel_alloc ?_ _ | with_reducible refine bel_drew ?_ | with_reducible refine bel_drewN ?_ _ | (with_reducible refine bel_set ?_ ?_ _; rotate_left; ((try simp); (try omega))))) hbw16)) | (go_at_call 19; refine (toResponse_any _ p1 _ _ (by exact Cod.bel h1 (bel_then hBw15 (by repeat (first | with_reducible exact Below.refl _ _ | with_reducible assumption | with_reducible refine bel_alloc ?_ _ | with_reducible refine bel_drew ?_ | with_reducible refine bel_drewN ?_ _ | (with_reducible refine bel_set ?_ ?_ _; rotate_left; ((try simp); (try omega))))))) z1).mono ?_; rintro e w17 ⟨uw17, Gw17, rfl, hbw17, hrw17, hfw17⟩; have hbww17 : Below w15.heap.size w15 w17 := bel_then (by repeat (first | with_reducible exact Below.refl _ _ | with_reducible assumption | with_reducible refine bel_alloc ?_ _ | with_reducible refine bel_drew ?_ | with_reducible refine bel_drewN ?_ _ | (with_reducible refine bel_set ?_ ?_ _; rotate_left; ((try simp); (try omega))))) hbw17; clear hfw17; obtain ⟨hccw17, hffw17, hzzw17⟩ := bcell hbw17; (try simp at hzzw17); (try have hyyw17_0 : w15.heap.size < w17.heap.size := (by omega)); (try have hbpw17_0 : Below w15.heap.size w15 w17 := bel_then (by repeat (first | with_reducible exact Below.refl _ _ | with_reducible assumption | with_reducible refine bel_alloc ?_ _ | with_reducible refine bel_drew ?_ | with_reducible refine bel_drewN ?_ _ | (with_reducible refine bel_set ?_ ?_ _; rotate_left; ((try simp); (try omega))))) hbw17); (try have hyyw17_1 : w16.heap.size < w17.heap.size := (by omega)); (try have hbpw17_1 : Below w16.heap.size w16 w17 := bel_then (by repeat (first | with_reducible exact Below.refl _ _ | with_reducible assumption | with_reducible refine bel_alloc ?_ _ | with_reducible refine bel_drew ?_ | with_reducible refine bel_drewN ?_ _ | (with_reducible refine bel_set ?_ ?_ _; rotate_left; ((try simp); (try omega))))) hbw17)) | (go_at_call 24; refine (implFilterResponse_any _ p0 _ _ p1 _ _ (by exact Cod.bel hrw16 (by repeat (first | with_reducible exact Below.refl _ _ | with_reducible assumption | with_reducible refine bel_alloc ?_ _ | with_reducible refine bel_drew ?_ | with_reducible refine bel_drewN ?_ _ | (with_reducible refine bel_set ?_ ?_ _; rotate_left; ((try simp); (try omega)))))) z0 (by exact Cod.bel hrw17 (by repeat (first | with_reducible exact Below.refl _ _ | with_reducible assumption | with_reducible refine bel_alloc ?_ _ | with_reducible refine bel_drew ?_ | with_reducible refine bel_drewN ?_ _ | (with_reducible refine bel_set ?_ ?_ _; rotate_left; ((try simp); (try omega)))))) z1).mono ?_; rintro e w18 ⟨uw18, Gw18, rfl, hbw18, hrw18, hfw18⟩; have drw18 := hrw18; obtain ⟨vrw18_3, Erw18_3, rfl, -, -, mrw18_3⟩ := TResp.outA drw18; obtain ⟨Arw18_3, crw18_3, erw18_3⟩ := cL_form mrw18_3; subst erw18_3; clear mrw18_3 drw18; have hbww18 : Below w15.heap.size w15 w18 := bel_then (by repeat (first | with_reducible exact Below.refl _ _ | with_reducible assumption | with_reducible refine bel_alloc ?_ _ | with_reducible refine bel_drew ?_ | with_reducible refine bel_drewN ?_ _ | (with_reducible refine bel_set ?_ ?_ _; rotate_left; ((try simp); (try omega))))) hbw18; obtain ⟨hccw18, hffw18, hzzw18⟩ := bcell hbw18; (try simp at hzzw18); (try have hyyw18_0 : w15.heap.size < w18.heap.size := (by omega)); (try have hbpw18_0 : Below w15.heap.size w15 w18 := bel_then (by repeat (first | with_reducible exact Below.refl _ _ | with_reducible assumption | with_reducible refine bel_alloc ?_ _ | with_reducible refine bel_drew ?_ | with_reducible refine bel_drewN ?_ _ | (with_reducible refine bel_set ?_ ?_ _; rotate_left; ((try simp); (try omega))))) hbw18); (try have hyyw18_1 : w16.heap.size < w18.heap.size := (by omega)); (try have hbpw18_1 : Below w16.heap.size w16 w18 := bel_then (by repeat (first | with_reducible exact Below.refl _ _ | with_reducible assumption | with_reducible refine bel_alloc ?_ _ | with_reducible refine bel_drew ?_ | with_reducible refine bel_drewN ?_ _ | (with_reducible refine bel_set ?_ ?_ _; rotate_left; ((try simp); (try omega))))) hbw18); (try have hyyw18_2 : w17.heap.size < w18.heap.size := (by omega)); (try have hbpw18_2 : Below w17.heap.size w17 w18 := bel_then (by repeat (first | with_reducible exact Below.refl _ _ | with_reducible assumption | with_reducible refine bel_alloc ?_ _ | with_reducible refine bel_drew ?_ | with_reducible refine bel_drewN ?_ _ | (with_reducible refine bel_set ?_ ?_ _; rotate_left; ((try simp); (try omega))))) hbw18)))
            all_goals
              have hnbw18 : ∀ b, b ∈ Gw18 → _ ≤ b ∧ b < w18.heap.size := fun b hb => ⟨hfw18.1 b hb, Cod.lt _ hrw18 b hb⟩
              go_wp2_with fail
              go_meet
              case rel =>
                refine ⟨_, Arw18_3, crw18_3, Gw18, rfl, (by repeat (first | with_reducible exact Below.refl _ _ | with_reducible assumption | with_reducible refine bel_alloc ?_ _ | with_reducible refine bel_drew ?_ | with_reducible refine bel_drewN ?_ _ | (with_reducible refine bel_set ?_ ?_ _; rotate_left; ((try simp); (try omega))))), ?hA, ?hB, by go_simp, by go_simp, by go_simp, by go_simp, by go_simp, ?hR, hfw18.mono (by (try simp); (try omega)), ?hN⟩
                case hA => (try simp); (try omega)
                case hB => (try simp); (try omega)
                case hR => exact (by repeat (first | with_reducible exact hrw18 | with_reducible refine Cod.allocA ?_ _ | with_reducible refine Cod.drewA ?_ | with_reducible refine Cod.drewNA ?_ _ | ((with_reducible refine Cod.setA ?_ ?_ _); rotate_left; ((intro hm9; have hm8 := hnbw18 _ hm9; (try simp at hm8); (try omega))))))
                case hN => (intro hm; have hh := hnbw18 _ hm; (try simp at hh); (try omega))
          case rest =>
            obtain ⟨gw18, Arw18_3, crw18_3, Gw18, rfl, hbww18, hgew18, hzgw18, kgw18_0, kgw18_1, kgw18_2, kgw18_3, kgw18_4, hrw18, hfw18, hngw18⟩ := hcut
            obtain ⟨w18, rfl⟩ : ∃ x9 : World, x9 = wc := ⟨_, rfl⟩
            have hbZw18 := hbww18
            have hsw18 := hbZw18.size
            (try simp at hsw18)
            have hzw18_0 : w.heap.size < w18.heap.size := by omega
            have hzw18_1 : w.heap.size + 1 < w18.heap.size := by omega
            have hzw18_2 : gw5 < w18.heap.size := by omega
            have hzw18_3 : w6.heap.size < w18.heap.size := by omega
            have hzw18_4 : gw8 < w18.heap.size := by omega
            have hBw18 : Below w.heap.size w w18 := bel_then (by repeat (first | with_reducible exact Below.refl _ _ | with_reducible assumption | with_reducible refine bel_alloc ?_ _ | with_reducible refine bel_drew ?_ | with_reducible refine bel_drewN ?_ _ | (with_reducible refine bel_set ?_ ?_ _; rotate_left; ((try simp); (try omega))))) hbZw18
            replace hrw5 := Cod.bel hrw5 (show Below _ _ w18 from bel_then (by repeat (first | with_reducible exact Below.refl _ _ | with_reducible assumption | with_reducible refine bel_alloc ?_ _ | with_reducible refine bel_drew ?_ | with_reducible refine bel_drewN ?_ _ | (with_reducible refine bel_set ?_ ?_ _; rotate_left; ((try simp); (try omega))))) hbZw18)
            replace hrw6 := Cod.bel hrw6 (show Below _ _ w18 from bel_then (by repeat (first | with_reducible exact Below.refl _ _ | with_reducible assumption | with_reducible refine bel_alloc ?_ _ | with_reducible refine bel_drew ?_ | with_reducible refine bel_drewN ?_ _ | (with_reducible refine bel_set ?_ ?_ _; rotate_left; ((try simp); (try omega))))) hbZw18)
            replace hrw8 := Cod.bel hrw8 (show Below _ _ w18 from bel_then (by repeat (first | with_reducible exact Below.refl _ _ | with_reducible assumption | with_reducible refine bel_alloc ?_ _ | with_reducible refine bel_drew ?_ | with_reducible refine bel_drewN ?_ _ | (with_reducible refine bel_set ?_ ?_ _; rotate_left; ((try simp); (try omega))))) hbZw18)
            have hlrw18 : ∀ b, b ∈ Gw18 → b < w18.heap.size := fun b hb => Cod.lt _ hrw18 b hb
            obtain ⟨hcw18, hfzw18, -⟩ := bcell hbZw18
            clear hbZw18
            go_wp2_with fail
            refine (eqResponse_any _ _ ((filterResponse p0 p1)) _ _ _ (by exact Cod.bel hrw18 (by repeat (first | with_reducible exact Below.refl _ _ | with_reducible assumption | with_reducible refine bel_alloc ?_ _ | with_reducible refine bel_drew ?_ | with_reducible refine bel_drewN ?_ _ | (with_reducible refine bel_set ?_ ?_ _; rotate_left; ((try simp); (try omega)))))) (by exact Cod.bel hrw5 (by repeat (first | with_reducible exact Below.refl _ _ | with_reducible assumption | with_reducible refine bel_alloc ?_ _ | with_reducible refine bel_drew ?_ | with_reducible refine bel_drewN ?_ _ | (with_reducible refine bel_set ?_ ?_ _; rotate_left; ((try simp); (try omega))))))).mono ?_
            rintro e w19 ⟨rfl, hbw19⟩
            have hsw19 := hbw19.size
            (try simp at hsw19)
            have hzw19_0 : w.heap.size < w19.heap.size := by omega
            have hzw19_1 : w.heap.size + 1 < w19.heap.size := by omega
            have hzw19_2 : gw5 < w19.heap.size := by omega
            have hzw19_3 : w6.heap.size < w19.heap.size := by omega
            have hzw19_4 : gw8 < w19.heap.size := by omega
            have hzw19_5 : gw18 < w19.heap.size := by omega
            have hBw19 : Below w.heap.size w w19 := bel_then (by repeat (first | with_reducible exact Below.refl _ _ | with_reducible assumption | with_reducible refine bel_alloc ?_ _ | with_reducible refine bel_drew ?_ | with_reducible refine bel_drewN ?_ _ | (with_reducible refine bel_set ?_ ?_ _; rotate_left; ((try simp); (try omega))))) hbw19
            replace hrw5 := Cod.bel hrw5 (show Below _ _ w19 from bel_then (by repeat (first | with_reducible exact Below.refl _ _ | with_reducible assumption | with_reducible refine bel_alloc ?_ _ | with_reducible refine bel_drew ?_ | with_reducible refine bel_drewN ?_ _ | (with_reducible refine bel_set ?_ ?_ _; rotate_left; ((try simp); (try omega))))) hbw19)
            replace hrw6 := Cod.bel hrw6 (show Below _ _ w19 from bel_then (by repeat (first | with_reducible exact Below.refl _ _ | with_reducible assumption | with_reducible refine bel_alloc ?_ _ | with_reducible refine bel_drew ?_ | with_reducible refine bel_drewN ?_ _ | (with_reducible refine bel_set ?_ ?_ _; rotate_left; ((try simp); (try omega))))) hbw19)
            replace hrw8 := Cod.bel hrw8 (show Below _ _ w19 from bel_then (by repeat (first | with_reducible exact Below.refl _ _ | with_reducible assumption | with_reducible refine bel_alloc ?_ _ | with_reducible refine bel_drew ?_ | with_reducible refine bel_drewN ?_ _ | (with_reducible refine bel_set ?_ ?_ _; rotate_left; ((try simp); (try omega))))) hbw19)
            replace hrw18 := Cod.bel hrw18 (show Below _ _ w19 from bel_then (by repeat (first | with_reducible exact Below.refl _ _ | with_reducible assumption | with_reducible refine bel_alloc ?_ _ | with_reducible refine bel_drew ?_ | with_reducible refine bel_drewN ?_ _ | (with_reducible refine bel_set ?_ ?_ _; rotate_left; ((try simp); (try omega))))) hbw19)
            obtain ⟨hcw19, hfzw19, -⟩ := bcell hbw19
            clear hbw19
            go_wp2_with fail
            refine (heldResponse_any _ ((filterResponse p0 p1)) _ _ _ (by exact Cod.bel hrw8 (by repeat (first | with_reducible exact Below.refl _ _ | with_reducible assumption | with_reducible refine bel_alloc ?_ _ | with_reducible refine bel_drew ?_ | with_reducible refine bel_drewN ?_ _ | (with_reducible refine bel_set ?_ ?_ _; rotate_left; ((try simp); (try omega)))))) (by omega) (by omega)).mono ?_
            rintro e w20 ⟨rfl, hbw20⟩
            have hsw20 := hbw20.size
            (try simp at hsw20)
            have hzw20_0 : w.heap.size < w20.heap.size := by omega
            have hzw20_1 : w.heap.size + 1 < w20.heap.size := by omega
            have hzw20_2 : gw5 < w20.heap.size := by omega
            have hzw20_3 : w6.heap.size < w20.heap.size := by omega
            have hzw20_4 : gw8 < w20.heap.size := by omega
            have hzw20_5 : gw18 < w20.heap.size := by omega
            have hBw20 : Below w.heap.size w w20 := bel_then (by repeat (first | with_reducible exact Below.refl _ _ | with_reducible assumption | with_reducible refine bel_alloc ?_ _ | with_reducible refine bel_drew ?_ | with_reducible refine bel_drewN ?_ _ | (with_reducible refine bel_set ?_ ?_ _; rotate_left; ((try simp); (try omega))))) hbw20
            replace hrw5 := Cod.bel hrw5 (show Below _ _ w20 from bel_then (by repeat (first | with_reducible exact Below.refl _ _ | with_reducible assumption | with_reducible refine bel_alloc ?_ _ | with_reducible refine bel_drew ?_ | with_reducible refine bel_drewN ?_ _ | (with_reducible refine bel_set ?_ ?_ _; rotate_left; ((try simp); (try omega))))) hbw20)
            replace hrw6 := Cod.bel hrw6 (show Below _ _ w20 from bel_then (by repeat (first | with_reducible exact Below.refl _ _ | with_reducible assumption | with_reducible refine bel_alloc ?_ _ | with_reducible refine bel_drew ?_ | with_reducible refine bel_drewN ?_ _ | (with_reducible refine bel_set ?_ ?_ _; rotate_left; ((try simp); (try omega))))) hbw20)
            replace hrw8 := Cod.bel hrw8 (show Below _ _ w20 from bel_then (by repeat (first | with_reducible exact Below.refl _ _ | with_reducible assumption | with_reducible refine bel_alloc ?_ _ | with_reducible refine bel_drew ?_ | with_reducible refine bel_drewN ?_ _ | (with_reducible refine bel_set ?_ ?_ _; rotate_left; ((try simp); (try omega))))) hbw20)
            replace hrw18 := Cod.bel hrw18 (show Below _ _ w20 from bel_then (by repeat (first | with_reducible exact Below.refl _ _ | with_reducible assumption | with_reducible refine bel_alloc ?_ _ | with_reducible refine bel_drew ?_ | with_reducible refine bel_drewN ?_ _ | (with_reducible refine bel_set ?_ ?_ _; rotate_left; ((try simp); (try omega))))) hbw20)
            obtain ⟨hcw20, hfzw20, -⟩ := bcell hbw20
            clear hbw20
            go_wp2_with fail
            go_ret
            exact ⟨rfl, (by repeat (first | with_reducible exact Below.refl _ _ | with_reducible assumption | with_reducible refine bel_alloc ?_ _ | with_reducible refine bel_drew ?_ | with_reducible refine bel_drewN ?_ _ | (with_reducible refine bel_set ?_ ?_ _; rotate_left; ((try simp); (try omega)))))⟩

set_option maxRecDepth 100000 in
theorem lawFilterResponse_walk (H : Type) (enc : TypeId × Value → H) (W : World) (base : Nat) (args : Array Value) (ds : List (DataW H)) (p : List MemPlace)
    (hval : ∀ (j : Nat) t v, Try.f5.params[j]? = some t → args[j]? = some v → Value.okWide Try.prog W .any base t v)
    (hA : DataW.TrodAll enc Try.prog W 0 (fun _ => true) true Try.f5.params.toList args.toList ds p) (hf : W.noneFrozen p) :
    Calls Try.prog 5 args W (Gives W (.bool true)) := by
  rw [Try.params5] at hA hval
  obtain ⟨v0, vs0, d0, ds0, q0, s0, hargs, rfl, rfl, k0, t0⟩ := trodAll_cons hA
  obtain ⟨v1, vs1, d1, ds1, q1, s1, rfl, rfl, rfl, k1, t1⟩ := trodAll_cons t0
  obtain ⟨rfl, rfl, rfl⟩ := trodAll_nil t1
  obtain rfl : args = #[v0, v1] := by cases args; simp_all
  obtain ⟨cs0, x0, F0, rfl, hx0⟩ := opens_lReq.struct_ Try.underlying23 (hval 0 _ _ rfl rfl) k0 (noneFrozen_mono hf fun y hy => by simp [hy])
  obtain ⟨cs1, x1, F1, rfl, hx1⟩ := opens_lResp.struct_ Try.underlying26 (hval 1 _ _ rfl rfl) k1 (noneFrozen_mono hf fun y hy => by simp [hy])
  exact lawFilterResponse_any cs0 x0 F0 cs1 x1 F1 W hx0 hx1

set_option maxRecDepth 100000 in
theorem lawFilterResponse_lifted (os : Os) (started : os.Started) (H : Type) (enc : TypeId × Value → H) :
    ReturnsInHanded {} Try.checked os 5 .any (Rows.fnExactFilterResponseSpec.pre6 enc Try.prog Try.f5 Rows.fnExactFilterResponseRow.domain false) (Rows.fnExactFilterResponseSpec.post enc Try.prog Try.f5 false true false false) := by
  refine returnsInHanded_of_change (C := Try.checked) (by kernel_rfl) started (by kernel_rfl) Try.func5
    (ChangeSpec.witness6 (enc := enc) (C := Try.checked) false ⟨#[], #[.agg #[.string ByteArray.empty, .string ByteArray.empty, .string ByteArray.empty, .int .i64 0], .agg #[.int .i64 0, .int .i64 0, .int .i64 0, .slice none 0 0, .bool false]], []⟩ 16 (by kernel_rfl) (by kernel_rfl) (by kernel_rfl) (by kernel_rfl)) ?_
  intro W base args ds gs before hval hW _ _
  have hW' := hW
  obtain ⟨p, q, hA, hV, rfl, hfz, hnd⟩ := hW
  refine (lawFilterResponse_walk H enc W base args ds p hval hA (noneFrozen_mono hfz fun y hy => by simp [hy])).mono fun e W' ⟨he, hb⟩ => ⟨_, he, ?_⟩
  exact law_post (by kernel_rfl) rfl (by kernel_rfl) Try.underlying4 (by kernel_rfl) (fun ds h => by
    match ds, h with
    | [d0, d1], _ => exact ⟨rfl, rfl, rfl⟩) hW' hb
theorem lawFilterResponse_over : Rows.fnExactFilterResponseRow.holds Try.pinned (OpenSpec.ofChange Rows.fnExactFilterResponseSpec) :=
  OpenClaim.holds_of_wide 5 Try.f5 rfl rfl rfl rfl rfl rfl rfl ⟨rfl, rfl, rfl, rfl, rfl⟩ rfl rfl rfl rfl rfl (by kernel_rfl) Try.func5 (by kernel_rfl)
    (of_decide_eq_true (by kernel_rfl)) (by unfold Func.isWrapper; rw [if_neg (of_decide_eq_false (by kernel_rfl))]; exact ⟨rfl, rfl⟩)
    (fun os started H enc _ => lawFilterResponse_lifted os started H enc)
/-- THE STATEMENT -/
theorem lawFilterResponse_holds : Rows.FnExactFilterResponseSaid := lawFilterResponse_over

end Go.Proofs.Ytamcoplnpoddbaa
