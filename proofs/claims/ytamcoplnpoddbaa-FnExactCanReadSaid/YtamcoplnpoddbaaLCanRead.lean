/-
  The law FnExactCanRead: for all arguments the program's CanRead returns what the reference's returns. No conditions.
-/
import Derived.Test.YtamcoplnpoddbaaRows
import Derived.Deep.RegionHeld3
import Derived.Test.YtamcoplnpoddbaaCanRead
import Derived.Test.YtamcoplnpoddbaaEqResp
import Derived.Test.YtamcoplnpoddbaaToReq
import Derived.Test.YtamcoplnpoddbaaToResp
namespace Go.Proofs.Ytamcoplnpoddbaa
open Go.ChangeShapes Go.WideShapes Go.RowKit
open Go.ChangeMaps (open_string shut_string)
set_option linter.unusedVariables false

set_option maxRecDepth 100000 in
set_option maxHeartbeats 4000000 in
theorem lawCanRead_any (a0 : Array Value) (p0 : TReq) (F0 : List Nat) (a1 : Array Value) (p1 : TResp) (F1 : List Nat) (w : World) (h0 : cReq.rep w a0.toList p0 F0) (h1 : cResp.rep w a1.toList p1 F1) :
    Calls Try.prog 3 #[.agg a0, .agg a1] w (Gives w (.bool true)) := by
  have r0 := h0
  obtain ⟨e0, -, -⟩ := TReq.out r0
  obtain rfl : a0 = #[Value.string p0.frm, .string p0.dst, .string p0.path, .int .i64 p0.mode] := Array.toList_inj.1 e0
  clear e0
  clear r0
  have r1 := h1
  obtain ⟨v1_3, E1_3, rfl, -, -, m1_3⟩ := TResp.outA r1
  obtain ⟨A1_3, c1_3, e1_3⟩ := cL_form m1_3
  subst e1_3
  clear m1_3
  clear r1
  go_enter Try.func3, Try.ntmps3
  go_wp2_with fail
  by_cases l0 : (1048576 - (cReq.sz p0 : Nat) : Int) < 0
  · have HV := Lib.hid (leftOf_neg l0)
    refine (szRequest_any _ p0 _ _ _ (by exact Cod.bel h0 (by repeat (first | with_reducible exact Below.refl _ _ | with_reducible assumption | with_reducible refine bel_alloc ?_ _ | with_reducible refine bel_drew ?_ | with_reducible refine bel_drewN ?_ _ | (with_reducible refine bel_set ?_ ?_ _; rotate_left; ((try simp); (try omega)))))) (by omega) (by omega)).mono ?_
    rintro e w1 ⟨rfl, hbw1⟩
    rw [HV.out]
    have hBw1 : Below w.heap.size w w1 := bel_then (by repeat (first | with_reducible exact Below.refl _ _ | with_reducible assumption | with_reducible refine bel_alloc ?_ _ | with_reducible refine bel_drew ?_ | with_reducible refine bel_drewN ?_ _ | (with_reducible refine bel_set ?_ ?_ _; rotate_left; ((try simp); (try omega))))) hbw1
    go_wp2_with fail
    go_ret
    exact ⟨rfl, hBw1⟩
  · have HV := Lib.hid (leftOf_pos l0)
    have pz0 : 0 ≤ (1048576 - (cReq.sz p0 : Nat) : Int) := by omega
    have z0 : cReq.sz p0 ≤ 1048576 := by omega
    refine (szRequest_any _ p0 _ _ _ (by exact Cod.bel h0 (by repeat (first | with_reducible exact Below.refl _ _ | with_reducible assumption | with_reducible refine bel_alloc ?_ _ | with_reducible refine bel_drew ?_ | with_reducible refine bel_drewN ?_ _ | (with_reducible refine bel_set ?_ ?_ _; rotate_left; ((try simp); (try omega)))))) (by omega) (by omega)).mono ?_
    rintro e w1 ⟨rfl, hbw1⟩
    rw [HV.out]
    clear HV
    have hsw1 := hbw1.size
    (try simp at hsw1)
    have hzw1_0 : w.heap.size < w1.heap.size := by omega
    have hzw1_1 : w.heap.size + 1 < w1.heap.size := by omega
    have hBw1 : Below w.heap.size w w1 := bel_then (by repeat (first | with_reducible exact Below.refl _ _ | with_reducible assumption | with_reducible refine bel_alloc ?_ _ | with_reducible refine bel_drew ?_ | with_reducible refine bel_drewN ?_ _ | (with_reducible refine bel_set ?_ ?_ _; rotate_left; ((try simp); (try omega))))) hbw1
    obtain ⟨hcw1, hfzw1, -⟩ := bcell hbw1
    clear hbw1
    go_wp2_with fail
    by_cases l1 : (1048576 - (cReq.sz p0 : Nat) - (cResp.sz p1 : Nat) : Int) < 0
    · have HV := Lib.hid (leftOf_neg l1)
      refine (szResponse_any _ p1 _ _ _ (by exact Cod.bel h1 (by repeat (first | with_reducible exact Below.refl _ _ | with_reducible assumption | with_reducible refine bel_alloc ?_ _ | with_reducible refine bel_drew ?_ | with_reducible refine bel_drewN ?_ _ | (with_reducible refine bel_set ?_ ?_ _; rotate_left; ((try simp); (try omega)))))) (by omega) (by omega)).mono ?_
      rintro e w2 ⟨rfl, hbw2⟩
      rw [HV.out]
      have hBw2 : Below w.heap.size w w2 := bel_then (by repeat (first | with_reducible exact Below.refl _ _ | with_reducible assumption | with_reducible refine bel_alloc ?_ _ | with_reducible refine bel_drew ?_ | with_reducible refine bel_drewN ?_ _ | (with_reducible refine bel_set ?_ ?_ _; rotate_left; ((try simp); (try omega))))) hbw2
      go_wp2_with fail
      go_ret
      exact ⟨rfl, hBw2⟩
    · have HV := Lib.hid (leftOf_pos l1)
      have pz1 : 0 ≤ (1048576 - (cReq.sz p0 : Nat) - (cResp.sz p1 : Nat) : Int) := by omega
      have z1 : cResp.sz p1 ≤ 1048576 := by omega
      refine (szResponse_any _ p1 _ _ _ (by exact Cod.bel h1 (by repeat (first | with_reducible exact Below.refl _ _ | with_reducible assumption | with_reducible refine bel_alloc ?_ _ | with_reducible refine bel_drew ?_ | with_reducible refine bel_drewN ?_ _ | (with_reducible refine bel_set ?_ ?_ _; rotate_left; ((try simp); (try omega)))))) (by omega) (by omega)).mono ?_
      rintro e w2 ⟨rfl, hbw2⟩
      rw [HV.out]
      clear HV
      have hsw2 := hbw2.size
      (try simp at hsw2)
      have hzw2_0 : w.heap.size < w2.heap.size := by omega
      have hzw2_1 : w.heap.size + 1 < w2.heap.size := by omega
      have hBw2 : Below w.heap.size w w2 := bel_then (by repeat (first | with_reducible exact Below.refl _ _ | with_reducible assumption | with_reducible refine bel_alloc ?_ _ | with_reducible refine bel_drew ?_ | with_reducible refine bel_drewN ?_ _ | (with_reducible refine bel_set ?_ ?_ _; rotate_left; ((try simp); (try omega))))) hbw2
      obtain ⟨hcw2, hfzw2, -⟩ := bcell hbw2
      clear hbw2
      go_wp2_with fail
      have kz3_0 : w2.cell? ⟨w.heap.size, 0, none⟩ = some (.string p0.frm) := by go_simp
      have kz3_1 : w2.cell? ⟨w.heap.size, 1, none⟩ = some (.string p0.dst) := by go_simp
      have kz3_2 : w2.cell? ⟨w.heap.size, 2, none⟩ = some (.string p0.path) := by go_simp
      have kz3_3 : w2.cell? ⟨w.heap.size, 3, none⟩ = some (.int .i64 p0.mode) := by go_simp
      have kz3_4 : w2.cell? ⟨w.heap.size + 1, 0, none⟩ = some (.int .i64 p1.type) := by go_simp
      have kz3_5 : w2.cell? ⟨w.heap.size + 1, 1, none⟩ = some (.int .i64 p1.status) := by go_simp
      have kz3_6 : w2.cell? ⟨w.heap.size + 1, 2, none⟩ = some (.int .i64 p1.ver) := by go_simp
      have kz3_7 : w2.cell? ⟨w.heap.size + 1, 3, none⟩ = some (.slice A1_3 p1.body.length c1_3) := by go_simp
      have kz3_8 : w2.cell? ⟨w.heap.size + 1, 4, none⟩ = some (.bool p1.shares) := by go_simp
      have hS : ∀ w9, Below w2.heap.size w2 w9 → Below w2.heap.size w2 w9 ∧ w9.cell? ⟨w.heap.size, 0, none⟩ = some (.string p0.frm) ∧ w9.cell? ⟨w.heap.size, 1, none⟩ = some (.string p0.dst) ∧ w9.cell? ⟨w.heap.size, 2, none⟩ = some (.string p0.path) ∧ w9.cell? ⟨w.heap.size, 3, none⟩ = some (.int .i64 p0.mode) ∧ w9.cell? ⟨w.heap.size + 1, 0, none⟩ = some (.int .i64 p1.type) ∧ w9.cell? ⟨w.heap.size + 1, 1, none⟩ = some (.int .i64 p1.status) ∧ w9.cell? ⟨w.heap.size + 1, 2, none⟩ = some (.int .i64 p1.ver) ∧ w9.cell? ⟨w.heap.size + 1, 3, none⟩ = some (.slice A1_3 p1.body.length c1_3) ∧ w9.cell? ⟨w.heap.size + 1, 4, none⟩ = some (.bool p1.shares) := fun w9 hb => ⟨hb, (hb.cell (p := ⟨w.heap.size, 0, none⟩) (by simpa using hzw2_0)).trans kz3_0, (hb.cell (p := ⟨w.heap.size, 1, none⟩) (by simpa using hzw2_0)).trans kz3_1, (hb.cell (p := ⟨w.heap.size, 2, none⟩) (by simpa using hzw2_0)).trans kz3_2, (hb.cell (p := ⟨w.heap.size, 3, none⟩) (by simpa using hzw2_0)).trans kz3_3, (hb.cell (p := ⟨w.heap.size + 1, 0, none⟩) (by simpa using hzw2_1)).trans kz3_4, (hb.cell (p := ⟨w.heap.size + 1, 1, none⟩) (by simpa using hzw2_1)).trans kz3_5, (hb.cell (p := ⟨w.heap.size + 1, 2, none⟩) (by simpa using hzw2_1)).trans kz3_6, (hb.cell (p := ⟨w.heap.size + 1, 3, none⟩) (by simpa using hzw2_1)).trans kz3_7, (hb.cell (p := ⟨w.heap.size + 1, 4, none⟩) (by simpa using hzw2_1)).trans kz3_8⟩
      have hwb : Below w2.heap.size w2 w2 := Below.refl _ _
      clear kz3_0 kz3_1 kz3_2 kz3_3 kz3_4 kz3_5 kz3_6 kz3_7 kz3_8
      go_region_held3 (fun w9 => Below w2.heap.size w2 w9 ∧ w9.cell? ⟨w.heap.size, 0, none⟩ = some (.string p0.frm) ∧ w9.cell? ⟨w.heap.size, 1, none⟩ = some (.string p0.dst) ∧ w9.cell? ⟨w.heap.size, 2, none⟩ = some (.string p0.path) ∧ w9.cell? ⟨w.heap.size, 3, none⟩ = some (.int .i64 p0.mode) ∧ w9.cell? ⟨w.heap.size + 1, 0, none⟩ = some (.int .i64 p1.type) ∧ w9.cell? ⟨w.heap.size + 1, 1, none⟩ = some (.int .i64 p1.status) ∧ w9.cell? ⟨w.heap.size + 1, 2, none⟩ = some (.int .i64 p1.ver) ∧ w9.cell? ⟨w.heap.size + 1, 3, none⟩ = some (.slice A1_3 p1.body.length c1_3) ∧ w9.cell? ⟨w.heap.size + 1, 4, none⟩ = some (.bool p1.shares)) (exact hS _ (by repeat (first | with_reducible exact Below.refl _ _ | with_reducible assumption | with_reducible refine bel_alloc ?_ _ | with_reducible refine bel_drew ?_ | with_reducible refine bel_drewN ?_ _ | (with_reducible refine bel_set ?_ ?_ _; rotate_left; ((try simp); (try omega)))))) (first | (go_at_call 18; refine (toRequest_any _ p0 _ _ (by exact Cod.bel h0 (bel_then hBw2 (by repeat (first | with_reducible exact Below.refl _ _ | with_reducible assumption | with_reducible refine bel_alloc ?_ _ | with_reducible refine bel_drew ?_ | with_reducible refine bel_drewN ?_ _ | (with_reducible refine bel_set ?_ ?_ _; rotate_left; ((try simp); (try omega))))))) z0).mono ?_; rintro e w3 ⟨uw3, Gw3, rfl, hbw3, hrw3, hfw3⟩; have hbww3 : Below w2.heap.size w2 w3 := bel_then (by repeat (first | with_reducible exact Below.refl _ _ | with_reducible assumption | with_reducible refine bel_alloc ?_ _ | with_reducible refine bel_drew ?_ | with_reducible refine bel_drewN ?_ _ | (with_reducible refine bel_set ?_ ?_ _; rotate_left; ((try simp); (try omega))))) hbw3; clear hfw3) | (go_at_call 19; refine (toResponse_any _ p1 _ _ (by exact Cod.bel h1 (bel_then hBw2 (by repeat (first | with_reducible exact Below.refl _ _ | with_reducible assumption | with_reducible refine bel_alloc ?_ _ | with_reducible refine bel_drew ?_ | with_reducible refine bel_drewN ?_ _ | (with_reducible refine bel_set ?_ ?_ _; rotate_left; ((try simp); (try omega))))))) z1).mono ?_; rintro e w4 ⟨uw4, Gw4, rfl, hbw4, hrw4, hfw4⟩; have hbww4 : Below w2.heap.size w2 w4 := bel_then (by repeat (first | with_reducible exact Below.refl _ _ | with_reducible assumption | with_reducible refine bel_alloc ?_ _ | with_reducible refine bel_drew ?_ | with_reducible refine bel_drewN ?_ _ | (with_reducible refine bel_set ?_ ?_ _; rotate_left; ((try simp); (try omega))))) hbw4; clear hfw4) | (go_at_call 17; refine (specCanRead_any _ p0 _ _ p1 _ _ (by exact Cod.bel hrw3 (by repeat (first | with_reducible exact Below.refl _ _ | with_reducible assumption | with_reducible refine bel_alloc ?_ _ | with_reducible refine bel_drew ?_ | with_reducible refine bel_drewN ?_ _ | (with_reducible refine bel_set ?_ ?_ _; rotate_left; ((try simp); (try omega)))))) z0 (by exact Cod.bel hrw4 (by repeat (first | with_reducible exact Below.refl _ _ | with_reducible assumption | with_reducible refine bel_alloc ?_ _ | with_reducible refine bel_drew ?_ | with_reducible refine bel_drewN ?_ _ | (with_reducible refine bel_set ?_ ?_ _; rotate_left; ((try simp); (try omega)))))) z1).mono ?_; rintro e w5 ⟨rfl, hbw5⟩; have hbww5 : Below w2.heap.size w2 w5 := bel_then (by repeat (first | with_reducible exact Below.refl _ _ | with_reducible assumption | with_reducible refine bel_alloc ?_ _ | with_reducible refine bel_drew ?_ | with_reducible refine bel_drewN ?_ _ | (with_reducible refine bel_set ?_ ?_ _; rotate_left; ((try simp); (try omega))))) hbw5))
      have hsw3 := hbw3.size
      (try simp at hsw3)
      have hsw4 := hbw4.size
      (try simp at hsw4)
      have hsxw5 := hbw5.size
      (try simp at hsxw5)
      have hbZw5 := hbww5
      have hsw5 := hbZw5.size
      (try simp at hsw5)
      have hzw5_0 : w.heap.size < w5.heap.size := by omega
      have hzw5_1 : w.heap.size + 1 < w5.heap.size := by omega
      have hBw5 : Below w.heap.size w w5 := bel_then (by repeat (first | with_reducible exact Below.refl _ _ | with_reducible assumption | with_reducible refine bel_alloc ?_ _ | with_reducible refine bel_drew ?_ | with_reducible refine bel_drewN ?_ _ | (with_reducible refine bel_set ?_ ?_ _; rotate_left; ((try simp); (try omega))))) hbZw5
      obtain ⟨hcw5, hfzw5, -⟩ := bcell hbZw5
      clear hbZw5
      go_wp2_with fail
      refine (toResponse_any _ p1 _ _ (by exact Cod.bel h1 (by repeat (first | with_reducible exact Below.refl _ _ | with_reducible assumption | with_reducible refine bel_alloc ?_ _ | with_reducible refine bel_drew ?_ | with_reducible refine bel_drewN ?_ _ | (with_reducible refine bel_set ?_ ?_ _; rotate_left; ((try simp); (try omega)))))) z1).mono ?_
      rintro e w6 ⟨uw6, Gw6, rfl, hbw6, hrw6, hfw6⟩
      have drw6 := hrw6
      obtain ⟨vrw6_3, Erw6_3, rfl, -, -, mrw6_3⟩ := TResp.outA drw6
      obtain ⟨Arw6_3, crw6_3, erw6_3⟩ := cL_form mrw6_3
      subst erw6_3
      clear mrw6_3 drw6
      have hsw6 := hbw6.size
      (try simp at hsw6)
      have hzw6_0 : w.heap.size < w6.heap.size := by omega
      have hzw6_1 : w.heap.size + 1 < w6.heap.size := by omega
      have hBw6 : Below w.heap.size w w6 := bel_then (by repeat (first | with_reducible exact Below.refl _ _ | with_reducible assumption | with_reducible refine bel_alloc ?_ _ | with_reducible refine bel_drew ?_ | with_reducible refine bel_drewN ?_ _ | (with_reducible refine bel_set ?_ ?_ _; rotate_left; ((try simp); (try omega))))) hbw6
      have hlrw6 : ∀ b, b ∈ Gw6 → b < w6.heap.size := fun b hb => Cod.lt _ hrw6 b hb
      obtain ⟨hcw6, hfzw6, -⟩ := bcell hbw6
      clear hbw6
      go_wp2_with fail
      generalize hW : World.alloc _ _ = w6b
      have hbw6b : Below w6.heap.size w6 w6b := by rw [← hW]; exact (by repeat (first | with_reducible exact Below.refl _ _ | with_reducible assumption | with_reducible refine bel_alloc ?_ _ | with_reducible refine bel_drew ?_ | with_reducible refine bel_drewN ?_ _ | (with_reducible refine bel_set ?_ ?_ _; rotate_left; ((try simp); (try omega)))))
      have hszw6b : w6.heap.size < w6b.heap.size := by rw [← hW]; clear hW; simp
      have kbw6b_0 : w6b.cell? ⟨w6.heap.size, 0, none⟩ = some (.int .i64 p1.type) := by rw [← hW]; clear hW; go_simp
      have kbw6b_1 : w6b.cell? ⟨w6.heap.size, 1, none⟩ = some (.int .i64 p1.status) := by rw [← hW]; clear hW; go_simp
      have kbw6b_2 : w6b.cell? ⟨w6.heap.size, 2, none⟩ = some (.int .i64 p1.ver) := by rw [← hW]; clear hW; go_simp
      have kbw6b_3 : w6b.cell? ⟨w6.heap.size, 3, none⟩ = some (.slice Arw6_3 p1.body.length crw6_3) := by rw [← hW]; clear hW; go_simp
      have kbw6b_4 : w6b.cell? ⟨w6.heap.size, 4, none⟩ = some (.bool p1.shares) := by rw [← hW]; clear hW; go_simp
      clear hW
      have hsw6b := hbw6b.size
      (try simp at hsw6b)
      have hzw6b_0 : w.heap.size < w6b.heap.size := by omega
      have hzw6b_1 : w.heap.size + 1 < w6b.heap.size := by omega
      have hzw6b_2 : w6.heap.size < w6b.heap.size := by omega
      have hBw6b : Below w.heap.size w w6b := bel_then (by repeat (first | with_reducible exact Below.refl _ _ | with_reducible assumption | with_reducible refine bel_alloc ?_ _ | with_reducible refine bel_drew ?_ | with_reducible refine bel_drewN ?_ _ | (with_reducible refine bel_set ?_ ?_ _; rotate_left; ((try simp); (try omega))))) hbw6b
      replace hrw6 := Cod.bel hrw6 (show Below _ _ w6b from bel_then (by repeat (first | with_reducible exact Below.refl _ _ | with_reducible assumption | with_reducible refine bel_alloc ?_ _ | with_reducible refine bel_drew ?_ | with_reducible refine bel_drewN ?_ _ | (with_reducible refine bel_set ?_ ?_ _; rotate_left; ((try simp); (try omega))))) hbw6b)
      obtain ⟨hcw6b, hfzw6b, -⟩ := bcell hbw6b
      clear hbw6b
      have kz7_0 : w6b.cell? ⟨w.heap.size, 0, none⟩ = some (.string p0.frm) := by go_simp
      have kz7_1 : w6b.cell? ⟨w.heap.size, 1, none⟩ = some (.string p0.dst) := by go_simp
      have kz7_2 : w6b.cell? ⟨w.heap.size, 2, none⟩ = some (.string p0.path) := by go_simp
      have kz7_3 : w6b.cell? ⟨w.heap.size, 3, none⟩ = some (.int .i64 p0.mode) := by go_simp
      have kz7_4 : w6b.cell? ⟨w6.heap.size, 0, none⟩ = some (.int .i64 p1.type) := by go_simp
      have kz7_5 : w6b.cell? ⟨w6.heap.size, 1, none⟩ = some (.int .i64 p1.status) := by go_simp
      have kz7_6 : w6b.cell? ⟨w6.heap.size, 2, none⟩ = some (.int .i64 p1.ver) := by go_simp
      have kz7_7 : w6b.cell? ⟨w6.heap.size, 3, none⟩ = some (.slice Arw6_3 p1.body.length crw6_3) := by go_simp
      have kz7_8 : w6b.cell? ⟨w6.heap.size, 4, none⟩ = some (.bool p1.shares) := by go_simp
      have hS : ∀ w9, Below w6b.heap.size w6b w9 → Below w6b.heap.size w6b w9 ∧ w9.cell? ⟨w.heap.size, 0, none⟩ = some (.string p0.frm) ∧ w9.cell? ⟨w.heap.size, 1, none⟩ = some (.string p0.dst) ∧ w9.cell? ⟨w.heap.size, 2, none⟩ = some (.string p0.path) ∧ w9.cell? ⟨w.heap.size, 3, none⟩ = some (.int .i64 p0.mode) ∧ w9.cell? ⟨w6.heap.size, 0, none⟩ = some (.int .i64 p1.type) ∧ w9.cell? ⟨w6.heap.size, 1, none⟩ = some (.int .i64 p1.status) ∧ w9.cell? ⟨w6.heap.size, 2, none⟩ = some (.int .i64 p1.ver) ∧ w9.cell? ⟨w6.heap.size, 3, none⟩ = some (.slice Arw6_3 p1.body.length crw6_3) ∧ w9.cell? ⟨w6.heap.size, 4, none⟩ = some (.bool p1.shares) := fun w9 hb => ⟨hb, (hb.cell (p := ⟨w.heap.size, 0, none⟩) (by simpa using hzw6b_0)).trans kz7_0, (hb.cell (p := ⟨w.heap.size, 1, none⟩) (by simpa using hzw6b_0)).trans kz7_1, (hb.cell (p := ⟨w.heap.size, 2, none⟩) (by simpa using hzw6b_0)).trans kz7_2, (hb.cell (p := ⟨w.heap.size, 3, none⟩) (by simpa using hzw6b_0)).trans kz7_3, (hb.cell (p := ⟨w6.heap.size, 0, none⟩) (by simpa using hzw6b_2)).trans kz7_4, (hb.cell (p := ⟨w6.heap.size, 1, none⟩) (by simpa using hzw6b_2)).trans kz7_5, (hb.cell (p := ⟨w6.heap.size, 2, none⟩) (by simpa using hzw6b_2)).trans kz7_6, (hb.cell (p := ⟨w6.heap.size, 3, none⟩) (by simpa using hzw6b_2)).trans kz7_7, (hb.cell (p := ⟨w6.heap.size, 4, none⟩) (by simpa using hzw6b_2)).trans kz7_8⟩
      have hwb : Below w6b.heap.size w6b w6b := Below.refl _ _
      clear kz7_0 kz7_1 kz7_2 kz7_3 kz7_4 kz7_5 kz7_6 kz7_7 kz7_8
      go_region_held3 (fun w9 => Below w6b.heap.size w6b w9 ∧ w9.cell? ⟨w.heap.size, 0, none⟩ = some (.string p0.frm) ∧ w9.cell? ⟨w.heap.size, 1, none⟩ = some (.string p0.dst) ∧ w9.cell? ⟨w.heap.size, 2, none⟩ = some (.string p0.path) ∧ w9.cell? ⟨w.heap.size, 3, none⟩ = some (.int .i64 p0.mode) ∧ w9.cell? ⟨w6.heap.size, 0, none⟩ = some (.int .i64 p1.type) ∧ w9.cell? ⟨w6.heap.size, 1, none⟩ = some (.int .i64 p1.status) ∧ w9.cell? ⟨w6.heap.size, 2, none⟩ = some (.int .i64 p1.ver) ∧ w9.cell? ⟨w6.heap.size, 3, none⟩ = some (.slice Arw6_3 p1.body.length crw6_3) ∧ w9.cell? ⟨w6.heap.size, 4, none⟩ = some (.bool p1.shares)) (exact hS _ (by repeat (first | with_reducible exact Below.refl _ _ | with_reducible assumption | with_reducible refine bel_alloc ?_ _ | with_reducible refine bel_drew ?_ | with_reducible refine bel_drewN ?_ _ | (with_reducible refine bel_set ?_ ?_ _; rotate_left; ((try simp); (try omega)))))) (first | (go_at_call 18; refine (toRequest_any _ p0 _ _ (by exact Cod.bel h0 (bel_then hBw6b (by repeat (first | with_reducible exact Below.refl _ _ | with_reducible assumption | with_reducible refine bel_alloc ?_ _ | with_reducible refine bel_drew ?_ | with_reducible refine bel_drewN ?_ _ | (with_reducible refine bel_set ?_ ?_ _; rotate_left; ((try simp); (try omega))))))) z0).mono ?_; rintro e w7 ⟨uw7, Gw7, rfl, hbw7, hrw7, hfw7⟩; have hbww7 : Below w6b.heap.size w6b w7 := bel_then (by repeat (first | with_reducible exact Below.refl _ _ | with_reducible assumption | with_reducible refine bel_alloc ?_ _ | with_reducible refine bel_drew ?_ | with_reducible refine bel_drewN ?_ _ | (with_reducible refine bel_set ?_ ?_ _; rotate_left; ((try simp); (try omega))))) hbw7; clear hfw7) | (go_at_call 20; refine (implCanRead_any _ p0 _ _ p1 _ _ (by exact Cod.bel hrw7 (by repeat (first | with_reducible exact Below.refl _ _ | with_reducible assumption | with_reducible refine bel_alloc ?_ _ | with_reducible refine bel_drew ?_ | with_reducible refine bel_drewN ?_ _ | (with_reducible refine bel_set ?_ ?_ _; rotate_left; ((try simp); (try omega)))))) z0 (by exact Cod.bel hrw6 (by repeat (first | with_reducible exact Below.refl _ _ | with_reducible assumption | with_reducible refine bel_alloc ?_ _ | with_reducible refine bel_drew ?_ | with_reducible refine bel_drewN ?_ _ | (with_reducible refine bel_set ?_ ?_ _; rotate_left; ((try simp); (try omega)))))) z1).mono ?_; rintro e w8 ⟨rfl, hbw8⟩; have hbww8 : Below w6b.heap.size w6b w8 := bel_then (by repeat (first | with_reducible exact Below.refl _ _ | with_reducible assumption | with_reducible refine bel_alloc ?_ _ | with_reducible refine bel_drew ?_ | with_reducible refine bel_drewN ?_ _ | (with_reducible refine bel_set ?_ ?_ _; rotate_left; ((try simp); (try omega))))) hbw8))
      have hsw7 := hbw7.size
      (try simp at hsw7)
      have hsxw8 := hbw8.size
      (try simp at hsxw8)
      have hbZw8 := hbww8
      have hsw8 := hbZw8.size
      (try simp at hsw8)
      have hzw8_0 : w.heap.size < w8.heap.size := by omega
      have hzw8_1 : w.heap.size + 1 < w8.heap.size := by omega
      have hzw8_2 : w6.heap.size < w8.heap.size := by omega
      have hBw8 : Below w.heap.size w w8 := bel_then (by repeat (first | with_reducible exact Below.refl _ _ | with_reducible assumption | with_reducible refine bel_alloc ?_ _ | with_reducible refine bel_drew ?_ | with_reducible refine bel_drewN ?_ _ | (with_reducible refine bel_set ?_ ?_ _; rotate_left; ((try simp); (try omega))))) hbZw8
      replace hrw6 := Cod.bel hrw6 (show Below _ _ w8 from bel_then (by repeat (first | with_reducible exact Below.refl _ _ | with_reducible assumption | with_reducible refine bel_alloc ?_ _ | with_reducible refine bel_drew ?_ | with_reducible refine bel_drewN ?_ _ | (with_reducible refine bel_set ?_ ?_ _; rotate_left; ((try simp); (try omega))))) hbZw8)
      obtain ⟨hcw8, hfzw8, -⟩ := bcell hbZw8
      clear hbZw8
      go_wp2_with fail
      have kw10_0 : w8.cell? ⟨w6.heap.size, 0, none⟩ = some (.int .i64 p1.type) := by go_simp
      have kw10_1 : w8.cell? ⟨w6.heap.size, 1, none⟩ = some (.int .i64 p1.status) := by go_simp
      have kw10_2 : w8.cell? ⟨w6.heap.size, 2, none⟩ = some (.int .i64 p1.ver) := by go_simp
      have kw10_3 : w8.cell? ⟨w6.heap.size, 3, none⟩ = some (.slice Arw6_3 p1.body.length crw6_3) := by go_simp
      have kw10_4 : w8.cell? ⟨w6.heap.size, 4, none⟩ = some (.bool p1.shares) := by go_simp
      have kw10_5 : w8.cell? ⟨w.heap.size + 1, 0, none⟩ = some (.int .i64 p1.type) := by go_simp
      have kw10_6 : w8.cell? ⟨w.heap.size + 1, 1, none⟩ = some (.int .i64 p1.status) := by go_simp
      have kw10_7 : w8.cell? ⟨w.heap.size + 1, 2, none⟩ = some (.int .i64 p1.ver) := by go_simp
      have kw10_8 : w8.cell? ⟨w.heap.size + 1, 3, none⟩ = some (.slice A1_3 p1.body.length c1_3) := by go_simp
      have kw10_9 : w8.cell? ⟨w.heap.size + 1, 4, none⟩ = some (.bool p1.shares) := by go_simp
      have hS : ∀ w9, Below w8.heap.size w8 w9 → Below w8.heap.size w8 w9 ∧ w9.cell? ⟨w6.heap.size, 0, none⟩ = some (.int .i64 p1.type) ∧ w9.cell? ⟨w6.heap.size, 1, none⟩ = some (.int .i64 p1.status) ∧ w9.cell? ⟨w6.heap.size, 2, none⟩ = some (.int .i64 p1.ver) ∧ w9.cell? ⟨w6.heap.size, 3, none⟩ = some (.slice Arw6_3 p1.body.length crw6_3) ∧ w9.cell? ⟨w6.heap.size, 4, none⟩ = some (.bool p1.shares) ∧ w9.cell? ⟨w.heap.size + 1, 0, none⟩ = some (.int .i64 p1.type) ∧ w9.cell? ⟨w.heap.size + 1, 1, none⟩ = some (.int .i64 p1.status) ∧ w9.cell? ⟨w.heap.size + 1, 2, none⟩ = some (.int .i64 p1.ver) ∧ w9.cell? ⟨w.heap.size + 1, 3, none⟩ = some (.slice A1_3 p1.body.length c1_3) ∧ w9.cell? ⟨w.heap.size + 1, 4, none⟩ = some (.bool p1.shares) := fun w9 hb => ⟨hb, (hb.cell (p := ⟨w6.heap.size, 0, none⟩) (by simpa using hzw8_2)).trans kw10_0, (hb.cell (p := ⟨w6.heap.size, 1, none⟩) (by simpa using hzw8_2)).trans kw10_1, (hb.cell (p := ⟨w6.heap.size, 2, none⟩) (by simpa using hzw8_2)).trans kw10_2, (hb.cell (p := ⟨w6.heap.size, 3, none⟩) (by simpa using hzw8_2)).trans kw10_3, (hb.cell (p := ⟨w6.heap.size, 4, none⟩) (by simpa using hzw8_2)).trans kw10_4, (hb.cell (p := ⟨w.heap.size + 1, 0, none⟩) (by simpa using hzw8_1)).trans kw10_5, (hb.cell (p := ⟨w.heap.size + 1, 1, none⟩) (by simpa using hzw8_1)).trans kw10_6, (hb.cell (p := ⟨w.heap.size + 1, 2, none⟩) (by simpa using hzw8_1)).trans kw10_7, (hb.cell (p := ⟨w.heap.size + 1, 3, none⟩) (by simpa using hzw8_1)).trans kw10_8, (hb.cell (p := ⟨w.heap.size + 1, 4, none⟩) (by simpa using hzw8_1)).trans kw10_9⟩
      have hwb : Below w8.heap.size w8 w8 := Below.refl _ _
      clear kw10_0 kw10_1 kw10_2 kw10_3 kw10_4 kw10_5 kw10_6 kw10_7 kw10_8 kw10_9
      go_region_held3 (fun w9 => Below w8.heap.size w8 w9 ∧ w9.cell? ⟨w6.heap.size, 0, none⟩ = some (.int .i64 p1.type) ∧ w9.cell? ⟨w6.heap.size, 1, none⟩ = some (.int .i64 p1.status) ∧ w9.cell? ⟨w6.heap.size, 2, none⟩ = some (.int .i64 p1.ver) ∧ w9.cell? ⟨w6.heap.size, 3, none⟩ = some (.slice Arw6_3 p1.body.length crw6_3) ∧ w9.cell? ⟨w6.heap.size, 4, none⟩ = some (.bool p1.shares) ∧ w9.cell? ⟨w.heap.size + 1, 0, none⟩ = some (.int .i64 p1.type) ∧ w9.cell? ⟨w.heap.size + 1, 1, none⟩ = some (.int .i64 p1.status) ∧ w9.cell? ⟨w.heap.size + 1, 2, none⟩ = some (.int .i64 p1.ver) ∧ w9.cell? ⟨w.heap.size + 1, 3, none⟩ = some (.slice A1_3 p1.body.length c1_3) ∧ w9.cell? ⟨w.heap.size + 1, 4, none⟩ = some (.bool p1.shares)) (exact hS _ (by repeat (first | with_reducible exact Below.refl _ _ | with_reducible assumption | with_reducible refine bel_alloc ?_ _ | with_reducible refine bel_drew ?_ | with_reducible refine bel_drewN ?_ _ | (with_reducible refine bel_set ?_ ?_ _; rotate_left; ((try simp); (try omega)))))) (first | (go_at_call 19; refine (toResponse_any _ p1 _ _ (by exact Cod.bel h1 (bel_then hBw8 (by repeat (first | with_reducible exact Below.refl _ _ | with_reducible assumption | with_reducible refine bel_alloc ?_ _ | with_reducible refine bel_drew ?_ | with_reducible refine bel_drewN ?_ _ | (with_reducible refine bel_set ?_ ?_ _; rotate_left; ((try simp); (try omega))))))) z1).mono ?_; rintro e w9 ⟨uw9, Gw9, rfl, hbw9, hrw9, hfw9⟩; have hbww9 : Below w8.heap.size w8 w9 := bel_then (by repeat (first | with_reducible exact Below.refl _ _ | with_reducible assumption | with_reducible refine bel_alloc ?_ _ | with_reducible refine bel_drew ?_ | with_reducible refine bel_drewN ?_ _ | (with_reducible refine bel_set ?_ ?_ _; rotate_left; ((try simp); (try omega))))) hbw9; clear hfw9) | (go_at_call 21; refine (eqResponse_any _ _ p1 _ _ _ (by exact Cod.bel hrw6 (by repeat (first | with_reducible exact Below.refl _ _ | with_reducible assumption | with_reducible refine bel_alloc ?_ _ | with_reducible refine bel_drew ?_ | with_reducible refine bel_drewN ?_ _ | (with_reducible refine bel_set ?_ ?_ _; rotate_left; ((try simp); (try omega)))))) (by exact Cod.bel hrw9 (by repeat (first | with_reducible exact Below.refl _ _ | with_reducible assumption | with_reducible refine bel_alloc ?_ _ | with_reducible refine bel_drew ?_ | with_reducible refine bel_drewN ?_ _ | (with_reducible refine bel_set ?_ ?_ _; rotate_left; ((try simp); (try omega))))))).mono ?_; rintro e w10 ⟨rfl, hbw10⟩; have hbww10 : Below w8.heap.size w8 w10 := bel_then (by repeat (first | with_reducible exact Below.refl _ _ | with_reducible assumption | with_reducible refine bel_alloc ?_ _ | with_reducible refine bel_drew ?_ | with_reducible refine bel_drewN ?_ _ | (with_reducible refine bel_set ?_ ?_ _; rotate_left; ((try simp); (try omega))))) hbw10))
      have hbZw10 := hbww10
      have hsw10 := hbZw10.size
      (try simp at hsw10)
      have hzw10_0 : w.heap.size < w10.heap.size := by omega
      have hzw10_1 : w.heap.size + 1 < w10.heap.size := by omega
      have hzw10_2 : w6.heap.size < w10.heap.size := by omega
      have hBw10 : Below w.heap.size w w10 := bel_then (by repeat (first | with_reducible exact Below.refl _ _ | with_reducible assumption | with_reducible refine bel_alloc ?_ _ | with_reducible refine bel_drew ?_ | with_reducible refine bel_drewN ?_ _ | (with_reducible refine bel_set ?_ ?_ _; rotate_left; ((try simp); (try omega))))) hbZw10
      replace hrw6 := Cod.bel hrw6 (show Below _ _ w10 from bel_then (by repeat (first | with_reducible exact Below.refl _ _ | with_reducible assumption | with_reducible refine bel_alloc ?_ _ | with_reducible refine bel_drew ?_ | with_reducible refine bel_drewN ?_ _ | (with_reducible refine bel_set ?_ ?_ _; rotate_left; ((try simp); (try omega))))) hbZw10)
      obtain ⟨hcw10, hfzw10, -⟩ := bcell hbZw10
      clear hbZw10
      go_wp2_with fail
      go_ret
      exact ⟨rfl, (by repeat (first | with_reducible exact Below.refl _ _ | with_reducible assumption | with_reducible refine bel_alloc ?_ _ | with_reducible refine bel_drew ?_ | with_reducible refine bel_drewN ?_ _ | (with_reducible refine bel_set ?_ ?_ _; rotate_left; ((try simp); (try omega)))))⟩

set_option maxRecDepth 100000 in
theorem lawCanRead_walk (H : Type) (enc : TypeId × Value → H) (W : World) (base : Nat) (args : Array Value) (ds : List (DataW H)) (p : List MemPlace)
    (hval : ∀ (j : Nat) t v, Try.f3.params[j]? = some t → args[j]? = some v → Value.okWide Try.prog W .any base t v)
    (hA : DataW.TrodAll enc Try.prog W 0 (fun _ => true) true Try.f3.params.toList args.toList ds p) (hf : W.noneFrozen p) :
    Calls Try.prog 3 args W (Gives W (.bool true)) := by
  rw [Try.params3] at hA hval
  obtain ⟨v0, vs0, d0, ds0, q0, s0, hargs, rfl, rfl, k0, t0⟩ := trodAll_cons hA
  obtain ⟨v1, vs1, d1, ds1, q1, s1, rfl, rfl, rfl, k1, t1⟩ := trodAll_cons t0
  obtain ⟨rfl, rfl, rfl⟩ := trodAll_nil t1
  obtain rfl : args = #[v0, v1] := by cases args; simp_all
  obtain ⟨cs0, x0, F0, rfl, hx0⟩ := opens_lReq.struct_ Try.underlying23 (hval 0 _ _ rfl rfl) k0 (noneFrozen_mono hf fun y hy => by simp [hy])
  obtain ⟨cs1, x1, F1, rfl, hx1⟩ := opens_lResp.struct_ Try.underlying26 (hval 1 _ _ rfl rfl) k1 (noneFrozen_mono hf fun y hy => by simp [hy])
  exact lawCanRead_any cs0 x0 F0 cs1 x1 F1 W hx0 hx1

set_option maxRecDepth 100000 in
theorem lawCanRead_lifted (os : Os) (started : os.Started) (H : Type) (enc : TypeId × Value → H) :
    ReturnsInHanded {} Try.checked os 3 .any (Rows.fnExactCanReadSpec.pre6 enc Try.prog Try.f3 Rows.fnExactCanReadRow.domain false) (Rows.fnExactCanReadSpec.post enc Try.prog Try.f3 false true false false) := by
  refine returnsInHanded_of_change (C := Try.checked) (by kernel_rfl) started (by kernel_rfl) Try.func3
    (ChangeSpec.witness6 (enc := enc) (C := Try.checked) false ⟨#[], #[.agg #[.string ByteArray.empty, .string ByteArray.empty, .string ByteArray.empty, .int .i64 0], .agg #[.int .i64 0, .int .i64 0, .int .i64 0, .slice none 0 0, .bool false]], []⟩ 16 (by kernel_rfl) (by kernel_rfl) (by kernel_rfl) (by kernel_rfl)) ?_
  intro W base args ds gs before hval hW _ _
  have hW' := hW
  obtain ⟨p, q, hA, hV, rfl, hfz, hnd⟩ := hW
  refine (lawCanRead_walk H enc W base args ds p hval hA (noneFrozen_mono hfz fun y hy => by simp [hy])).mono fun e W' ⟨he, hb⟩ => ⟨_, he, ?_⟩
  exact law_post (by kernel_rfl) rfl (by kernel_rfl) Try.underlying4 (by kernel_rfl) (fun ds h => by
    match ds, h with
    | [d0, d1], _ => exact ⟨rfl, rfl, rfl⟩) hW' hb
theorem lawCanRead_over : Rows.fnExactCanReadRow.holds Try.pinned (OpenSpec.ofChange Rows.fnExactCanReadSpec) :=
  OpenClaim.holds_of_wide 3 Try.f3 rfl rfl rfl rfl rfl rfl rfl ⟨rfl, rfl, rfl, rfl, rfl⟩ rfl rfl rfl rfl rfl (by kernel_rfl) Try.func3 (by kernel_rfl)
    (of_decide_eq_true (by kernel_rfl)) (by unfold Func.isWrapper; rw [if_neg (of_decide_eq_false (by kernel_rfl))]; exact ⟨rfl, rfl⟩)
    (fun os started H enc _ => lawCanRead_lifted os started H enc)
/-- THE STATEMENT -/
theorem lawCanRead_holds : Rows.FnExactCanReadSaid := lawCanRead_over

end Go.Proofs.Ytamcoplnpoddbaa
