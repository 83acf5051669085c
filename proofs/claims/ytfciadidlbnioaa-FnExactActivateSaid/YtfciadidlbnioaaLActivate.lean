/-
  The law FnExactActivate: for all arguments the program's Activate returns what the reference's returns. No conditions.
-/
import Derived.Test.YtfciadidlbnioaaRows
import Derived.Deep.RegionHeld3
import Derived.Test.YtfciadidlbnioaaAct2Fn
import Derived.Test.YtfciadidlbnioaaEqReg
import Derived.Test.YtfciadidlbnioaaEqSI
import Derived.Test.YtfciadidlbnioaaToReg
import Derived.Test.YtfciadidlbnioaaToSI
namespace Go.Proofs.Ytfciadidlbnioaa
open Go.ChangeShapes Go.WideShapes Go.RowKit
open Go.ChangeMaps (open_string shut_string)
set_option linter.unusedVariables false

set_option maxRecDepth 100000 in
set_option maxHeartbeats 4000000 in
theorem lawActivate_any (a0 : Array Value) (p0 : TReg) (F0 : List Nat) (a1 : Value) (p1 : List Int) (F1 : List Nat) (w : World) (h0 : cReg.rep w a0.toList p0 F0) (h1 : cIS.rep w [a1] p1 F1) :
    Calls Try.prog 8 #[.agg a0, a1] w (Gives w (.bool true)) := by
  have r0 := h0
  obtain ⟨e0, -, -⟩ := TReg.out r0
  obtain rfl : a0 = #[Value.string p0.site, .int .i64 p0.ins, .int .i64 p0.wai, .int .i64 p0.act] := Array.toList_inj.1 e0
  clear e0
  clear r0
  obtain ⟨A1, c1, e1⟩ := cL_form h1
  subst e1
  by_cases yy1 : (1048576 : Int) < p1.length
  · go_enter Try.func8, Try.ntmps8
    go_wp2_with fail
    go_ret
    exact ⟨rfl, (by repeat (first | with_reducible exact Below.refl _ _ | with_reducible assumption | with_reducible refine bel_alloc ?_ _ | with_reducible refine bel_drew ?_ | with_reducible refine bel_drewN ?_ _ | (with_reducible refine bel_set ?_ ?_ _; rotate_left; ((try simp); (try omega)))))⟩
  · have y1 : (p1.length : Int) ≤ 1048576 := by omega
    have z1 : cIS.sz p1 ≤ 1048576 := by have h1 := Cod.szs_flat (c := cI) (fun _ => rfl) p1; have h2 : cIS.sz p1 = Cod.szs cI p1 := rfl; omega
    go_enter Try.func8, Try.ntmps8
    go_wp2_with fail
    by_cases l0 : (1048576 - (cReg.sz p0 : Nat) : Int) < 0
    · have HV := Lib.hid (leftOf_neg l0)
      refine (szRegistration_any _ p0 _ _ _ (by exact Cod.bel h0 (by repeat (first | with_reducible exact Below.refl _ _ | with_reducible assumption | with_reducible refine bel_alloc ?_ _ | with_reducible refine bel_drew ?_ | with_reducible refine bel_drewN ?_ _ | (with_reducible refine bel_set ?_ ?_ _; rotate_left; ((try simp); (try omega)))))) (by omega) (by omega)).mono ?_
      rintro e w1 ⟨rfl, hbw1⟩
      rw [HV.out]
      have hBw1 : Below w.heap.size w w1 := bel_then (by repeat (first | with_reducible exact Below.refl _ _ | with_reducible assumption | with_reducible refine bel_alloc ?_ _ | with_reducible refine bel_drew ?_ | with_reducible refine bel_drewN ?_ _ | (with_reducible refine bel_set ?_ ?_ _; rotate_left; ((try simp); (try omega))))) hbw1
      go_wp2_with fail
      go_ret
      exact ⟨rfl, hBw1⟩
    · have HV := Lib.hid (leftOf_pos l0)
      have pz0 : 0 ≤ (1048576 - (cReg.sz p0 : Nat) : Int) := by omega
      have z0 : cReg.sz p0 ≤ 1048576 := by omega
      refine (szRegistration_any _ p0 _ _ _ (by exact Cod.bel h0 (by repeat (first | with_reducible exact Below.refl _ _ | with_reducible assumption | with_reducible refine bel_alloc ?_ _ | with_reducible refine bel_drew ?_ | with_reducible refine bel_drewN ?_ _ | (with_reducible refine bel_set ?_ ?_ _; rotate_left; ((try simp); (try omega)))))) (by omega) (by omega)).mono ?_
      rintro e w1 ⟨rfl, hbw1⟩
      rw [HV.out]
      clear HV
      have hsw1 := hbw1.size
      (try simp at hsw1)
      have hzw1_0 : w.heap.size < w1.heap.size := by omega
      have hBw1 : Below w.heap.size w w1 := bel_then (by repeat (first | with_reducible exact Below.refl _ _ | with_reducible assumption | with_reducible refine bel_alloc ?_ _ | with_reducible refine bel_drew ?_ | with_reducible refine bel_drewN ?_ _ | (with_reducible refine bel_set ?_ ?_ _; rotate_left; ((try simp); (try omega))))) hbw1
      obtain ⟨hcw1, hfzw1, -⟩ := bcell hbw1
      clear hbw1
      go_wp2_with fail
      refine (toRegistration_any _ p0 _ _ (by exact Cod.bel h0 (by repeat (first | with_reducible exact Below.refl _ _ | with_reducible assumption | with_reducible refine bel_alloc ?_ _ | with_reducible refine bel_drew ?_ | with_reducible refine bel_drewN ?_ _ | (with_reducible refine bel_set ?_ ?_ _; rotate_left; ((try simp); (try omega)))))) z0).mono ?_
      rintro e w2 ⟨uw2, Gw2, rfl, hbw2, hrw2, hfw2⟩
      have drw2 := hrw2
      obtain ⟨erw2, -, -⟩ := TReg.out drw2
      have erw22 := Array.toList_inj.1 (show uw2.toList = (#[Value.string (p0).site, .int .i64 (p0).ins, .int .i64 (p0).wai, .int .i64 (p0).act] : Array Value).toList from erw2)
      subst erw22
      clear erw2 drw2
      have hsw2 := hbw2.size
      (try simp at hsw2)
      have hzw2_0 : w.heap.size < w2.heap.size := by omega
      have hBw2 : Below w.heap.size w w2 := bel_then (by repeat (first | with_reducible exact Below.refl _ _ | with_reducible assumption | with_reducible refine bel_alloc ?_ _ | with_reducible refine bel_drew ?_ | with_reducible refine bel_drewN ?_ _ | (with_reducible refine bel_set ?_ ?_ _; rotate_left; ((try simp); (try omega))))) hbw2
      have hlrw2 : ∀ b, b ∈ Gw2 → b < w2.heap.size := fun b hb => Cod.lt _ hrw2 b hb
      obtain ⟨hcw2, hfzw2, -⟩ := bcell hbw2
      clear hbw2
      go_wp2_with fail
      refine (toIntS_any _ p1 _ _ (by exact Cod.bel h1 (by repeat (first | with_reducible exact Below.refl _ _ | with_reducible assumption | with_reducible refine bel_alloc ?_ _ | with_reducible refine bel_drew ?_ | with_reducible refine bel_drewN ?_ _ | (with_reducible refine bel_set ?_ ?_ _; rotate_left; ((try simp); (try omega)))))) z1).mono ?_
      rintro e w3 ⟨uw3, Gw3, rfl, hbw3, hrw3, hfw3⟩
      obtain ⟨Arw3, crw3, erw3⟩ := cL_form hrw3
      subst erw3
      have hsw3 := hbw3.size
      (try simp at hsw3)
      have hzw3_0 : w.heap.size < w3.heap.size := by omega
      have hBw3 : Below w.heap.size w w3 := bel_then (by repeat (first | with_reducible exact Below.refl _ _ | with_reducible assumption | with_reducible refine bel_alloc ?_ _ | with_reducible refine bel_drew ?_ | with_reducible refine bel_drewN ?_ _ | (with_reducible refine bel_set ?_ ?_ _; rotate_left; ((try simp); (try omega))))) hbw3
      replace hrw2 := Cod.bel hrw2 (show Below _ _ w3 from bel_then (by repeat (first | with_reducible exact Below.refl _ _ | with_reducible assumption | with_reducible refine bel_alloc ?_ _ | with_reducible refine bel_drew ?_ | with_reducible refine bel_drewN ?_ _ | (with_reducible refine bel_set ?_ ?_ _; rotate_left; ((try simp); (try omega))))) hbw3)
      have hlrw3 : ∀ b, b ∈ Gw3 → b < w3.heap.size := fun b hb => Cod.lt _ hrw3 b hb
      obtain ⟨hcw3, hfzw3, -⟩ := bcell hbw3
      clear hbw3
      go_wp2_with fail
      refine (specActivate_any _ p0 _ _ p1 _ _ (by exact Cod.bel hrw2 (by repeat (first | with_reducible exact Below.refl _ _ | with_reducible assumption | with_reducible refine bel_alloc ?_ _ | with_reducible refine bel_drew ?_ | with_reducible refine bel_drewN ?_ _ | (with_reducible refine bel_set ?_ ?_ _; rotate_left; ((try simp); (try omega)))))) z0 (by exact Cod.bel hrw3 (by repeat (first | with_reducible exact Below.refl _ _ | with_reducible assumption | with_reducible refine bel_alloc ?_ _ | with_reducible refine bel_drew ?_ | with_reducible refine bel_drewN ?_ _ | (with_reducible refine bel_set ?_ ?_ _; rotate_left; ((try simp); (try omega)))))) z1).mono ?_
      rintro e w4 ⟨uw4, Gw4, rfl, hbw4, hrw4, hfw4⟩
      have drw4 := hrw4
      obtain ⟨erw4, -, -⟩ := TReg.out drw4
      have erw42 := Array.toList_inj.1 (show uw4.toList = (#[Value.string ((activate p0 p1).1).site, .int .i64 ((activate p0 p1).1).ins, .int .i64 ((activate p0 p1).1).wai, .int .i64 ((activate p0 p1).1).act] : Array Value).toList from erw4)
      subst erw42
      clear erw4 drw4
      have hsw4 := hbw4.size
      (try simp at hsw4)
      have hzw4_0 : w.heap.size < w4.heap.size := by omega
      have hBw4 : Below w.heap.size w w4 := bel_then (by repeat (first | with_reducible exact Below.refl _ _ | with_reducible assumption | with_reducible refine bel_alloc ?_ _ | with_reducible refine bel_drew ?_ | with_reducible refine bel_drewN ?_ _ | (with_reducible refine bel_set ?_ ?_ _; rotate_left; ((try simp); (try omega))))) hbw4
      replace hrw2 := Cod.bel hrw2 (show Below _ _ w4 from bel_then (by repeat (first | with_reducible exact Below.refl _ _ | with_reducible assumption | with_reducible refine bel_alloc ?_ _ | with_reducible refine bel_drew ?_ | with_reducible refine bel_drewN ?_ _ | (with_reducible refine bel_set ?_ ?_ _; rotate_left; ((try simp); (try omega))))) hbw4)
      replace hrw3 := Cod.bel hrw3 (show Below _ _ w4 from bel_then (by repeat (first | with_reducible exact Below.refl _ _ | with_reducible assumption | with_reducible refine bel_alloc ?_ _ | with_reducible refine bel_drew ?_ | with_reducible refine bel_drewN ?_ _ | (with_reducible refine bel_set ?_ ?_ _; rotate_left; ((try simp); (try omega))))) hbw4)
      have hlrw4 : ∀ b, b ∈ Gw4 → b < w4.heap.size := fun b hb => Cod.lt _ hrw4 b hb
      obtain ⟨hcw4, hfzw4, -⟩ := bcell hbw4
      clear hbw4
      go_wp2_with fail
      refine (toIntS_any _ p1 _ _ (by exact Cod.bel h1 (by repeat (first | with_reducible exact Below.refl _ _ | with_reducible assumption | with_reducible refine bel_alloc ?_ _ | with_reducible refine bel_drew ?_ | with_reducible refine bel_drewN ?_ _ | (with_reducible refine bel_set ?_ ?_ _; rotate_left; ((try simp); (try omega)))))) z1).mono ?_
      rintro e w5 ⟨uw5, Gw5, rfl, hbw5, hrw5, hfw5⟩
      obtain ⟨Arw5, crw5, erw5⟩ := cL_form hrw5
      subst erw5
      have hsw5 := hbw5.size
      (try simp at hsw5)
      have hzw5_0 : w.heap.size < w5.heap.size := by omega
      have hzw5_1 : w4.heap.size < w5.heap.size := by omega
      have hBw5 : Below w.heap.size w w5 := bel_then (by repeat (first | with_reducible exact Below.refl _ _ | with_reducible assumption | with_reducible refine bel_alloc ?_ _ | with_reducible refine bel_drew ?_ | with_reducible refine bel_drewN ?_ _ | (with_reducible refine bel_set ?_ ?_ _; rotate_left; ((try simp); (try omega))))) hbw5
      replace hrw2 := Cod.bel hrw2 (show Below _ _ w5 from bel_then (by repeat (first | with_reducible exact Below.refl _ _ | with_reducible assumption | with_reducible refine bel_alloc ?_ _ | with_reducible refine bel_drew ?_ | with_reducible refine bel_drewN ?_ _ | (with_reducible refine bel_set ?_ ?_ _; rotate_left; ((try simp); (try omega))))) hbw5)
      replace hrw3 := Cod.bel hrw3 (show Below _ _ w5 from bel_then (by repeat (first | with_reducible exact Below.refl _ _ | with_reducible assumption | with_reducible refine bel_alloc ?_ _ | with_reducible refine bel_drew ?_ | with_reducible refine bel_drewN ?_ _ | (with_reducible refine bel_set ?_ ?_ _; rotate_left; ((try simp); (try omega))))) hbw5)
      replace hrw4 := Cod.bel hrw4 (show Below _ _ w5 from bel_then (by repeat (first | with_reducible exact Below.refl _ _ | with_reducible assumption | with_reducible refine bel_alloc ?_ _ | with_reducible refine bel_drew ?_ | with_reducible refine bel_drewN ?_ _ | (with_reducible refine bel_set ?_ ?_ _; rotate_left; ((try simp); (try omega))))) hbw5)
      have hlrw5 : ∀ b, b ∈ Gw5 → b < w5.heap.size := fun b hb => Cod.lt _ hrw5 b hb
      obtain ⟨hcw5, hfzw5, -⟩ := bcell hbw5
      clear hbw5
      go_wp2_with fail
      refine (toRegistration_any _ p0 _ _ (by exact Cod.bel h0 (by repeat (first | with_reducible exact Below.refl _ _ | with_reducible assumption | with_reducible refine bel_alloc ?_ _ | with_reducible refine bel_drew ?_ | with_reducible refine bel_drewN ?_ _ | (with_reducible refine bel_set ?_ ?_ _; rotate_left; ((try simp); (try omega)))))) z0).mono ?_
      rintro e w6 ⟨uw6, Gw6, rfl, hbw6, hrw6, hfw6⟩
      have drw6 := hrw6
      obtain ⟨erw6, -, -⟩ := TReg.out drw6
      have erw62 := Array.toList_inj.1 (show uw6.toList = (#[Value.string (p0).site, .int .i64 (p0).ins, .int .i64 (p0).wai, .int .i64 (p0).act] : Array Value).toList from erw6)
      subst erw62
      clear erw6 drw6
      have hsw6 := hbw6.size
      (try simp at hsw6)
      have hzw6_0 : w.heap.size < w6.heap.size := by omega
      have hzw6_1 : w4.heap.size < w6.heap.size := by omega
      have hBw6 : Below w.heap.size w w6 := bel_then (by repeat (first | with_reducible exact Below.refl _ _ | with_reducible assumption | with_reducible refine bel_alloc ?_ _ | with_reducible refine bel_drew ?_ | with_reducible refine bel_drewN ?_ _ | (with_reducible refine bel_set ?_ ?_ _; rotate_left; ((try simp); (try omega))))) hbw6
      replace hrw2 := Cod.bel hrw2 (show Below _ _ w6 from bel_then (by repeat (first | with_reducible exact Below.refl _ _ | with_reducible assumption | with_reducible refine bel_alloc ?_ _ | with_reducible refine bel_drew ?_ | with_reducible refine bel_drewN ?_ _ | (with_reducible refine bel_set ?_ ?_ _; rotate_left; ((try simp); (try omega))))) hbw6)
      replace hrw3 := Cod.bel hrw3 (show Below _ _ w6 from bel_then (by repeat (first | with_reducible exact Below.refl _ _ | with_reducible assumption | with_reducible refine bel_alloc ?_ _ | with_reducible refine bel_drew ?_ | with_reducible refine bel_drewN ?_ _ | (with_reducible refine bel_set ?_ ?_ _; rotate_left; ((try simp); (try omega))))) hbw6)
      replace hrw4 := Cod.bel hrw4 (show Below _ _ w6 from bel_then (by repeat (first | with_reducible exact Below.refl _ _ | with_reducible assumption | with_reducible refine bel_alloc ?_ _ | with_reducible refine bel_drew ?_ | with_reducible refine bel_drewN ?_ _ | (with_reducible refine bel_set ?_ ?_ _; rotate_left; ((try simp); (try omega))))) hbw6)
      replace hrw5 := Cod.bel hrw5 (show Below _ _ w6 from bel_then (by repeat (first | with_reducible exact Below.refl _ _ | with_reducible assumption | with_reducible refine bel_alloc ?_ _ | with_reducible refine bel_drew ?_ | with_reducible refine bel_drewN ?_ _ | (with_reducible refine bel_set ?_ ?_ _; rotate_left; ((try simp); (try omega))))) hbw6)
      have hlrw6 : ∀ b, b ∈ Gw6 → b < w6.heap.size := fun b hb => Cod.lt _ hrw6 b hb
      obtain ⟨hcw6, hfzw6, -⟩ := bcell hbw6
      clear hbw6
      go_wp2_with fail
      refine (implActivate_any _ p0 _ _ p1 _ _ (by exact Cod.bel hrw6 (by repeat (first | with_reducible exact Below.refl _ _ | with_reducible assumption | with_reducible refine bel_alloc ?_ _ | with_reducible refine bel_drew ?_ | with_reducible refine bel_drewN ?_ _ | (with_reducible refine bel_set ?_ ?_ _; rotate_left; ((try simp); (try omega)))))) z0 (by exact Cod.bel hrw5 (by repeat (first | with_reducible exact Below.refl _ _ | with_reducible assumption | with_reducible refine bel_alloc ?_ _ | with_reducible refine bel_drew ?_ | with_reducible refine bel_drewN ?_ _ | (with_reducible refine bel_set ?_ ?_ _; rotate_left; ((try simp); (try omega)))))) z1).mono ?_
      rintro e w7 ⟨uw7, Gw7, rfl, hbw7, hrw7, hfw7⟩
      have drw7 := hrw7
      obtain ⟨erw7, -, -⟩ := TReg.out drw7
      have erw72 := Array.toList_inj.1 (show uw7.toList = (#[Value.string ((activate p0 p1).1).site, .int .i64 ((activate p0 p1).1).ins, .int .i64 ((activate p0 p1).1).wai, .int .i64 ((activate p0 p1).1).act] : Array Value).toList from erw7)
      subst erw72
      clear erw7 drw7
      have hsw7 := hbw7.size
      (try simp at hsw7)
      have hzw7_0 : w.heap.size < w7.heap.size := by omega
      have hzw7_1 : w4.heap.size < w7.heap.size := by omega
      have hBw7 : Below w.heap.size w w7 := bel_then (by repeat (first | with_reducible exact Below.refl _ _ | with_reducible assumption | with_reducible refine bel_alloc ?_ _ | with_reducible refine bel_drew ?_ | with_reducible refine bel_drewN ?_ _ | (with_reducible refine bel_set ?_ ?_ _; rotate_left; ((try simp); (try omega))))) hbw7
      replace hrw2 := Cod.bel hrw2 (show Below _ _ w7 from bel_then (by repeat (first | with_reducible exact Below.refl _ _ | with_reducible assumption | with_reducible refine bel_alloc ?_ _ | with_reducible refine bel_drew ?_ | with_reducible refine bel_drewN ?_ _ | (with_reducible refine bel_set ?_ ?_ _; rotate_left; ((try simp); (try omega))))) hbw7)
      replace hrw3 := Cod.bel hrw3 (show Below _ _ w7 from bel_then (by repeat (first | with_reducible exact Below.refl _ _ | with_reducible assumption | with_reducible refine bel_alloc ?_ _ | with_reducible refine bel_drew ?_ | with_reducible refine bel_drewN ?_ _ | (with_reducible refine bel_set ?_ ?_ _; rotate_left; ((try simp); (try omega))))) hbw7)
      replace hrw4 := Cod.bel hrw4 (show Below _ _ w7 from bel_then (by repeat (first | with_reducible exact Below.refl _ _ | with_reducible assumption | with_reducible refine bel_alloc ?_ _ | with_reducible refine bel_drew ?_ | with_reducible refine bel_drewN ?_ _ | (with_reducible refine bel_set ?_ ?_ _; rotate_left; ((try simp); (try omega))))) hbw7)
      replace hrw5 := Cod.bel hrw5 (show Below _ _ w7 from bel_then (by repeat (first | with_reducible exact Below.refl _ _ | with_reducible assumption | with_reducible refine bel_alloc ?_ _ | with_reducible refine bel_drew ?_ | with_reducible refine bel_drewN ?_ _ | (with_reducible refine bel_set ?_ ?_ _; rotate_left; ((try simp); (try omega))))) hbw7)
      replace hrw6 := Cod.bel hrw6 (show Below _ _ w7 from bel_then (by repeat (first | with_reducible exact Below.refl _ _ | with_reducible assumption | with_reducible refine bel_alloc ?_ _ | with_reducible refine bel_drew ?_ | with_reducible refine bel_drewN ?_ _ | (with_reducible refine bel_set ?_ ?_ _; rotate_left; ((try simp); (try omega))))) hbw7)
      have hlrw7 : ∀ b, b ∈ Gw7 → b < w7.heap.size := fun b hb => Cod.lt _ hrw7 b hb
      obtain ⟨hcw7, hfzw7, -⟩ := bcell hbw7
      clear hbw7
      go_wp2_with fail
      refine (eqRegistration_any _ _ ((activate p0 p1).1) _ _ _ (by exact Cod.bel hrw7 (by repeat (first | with_reducible exact Below.refl _ _ | with_reducible assumption | with_reducible refine bel_alloc ?_ _ | with_reducible refine bel_drew ?_ | with_reducible refine bel_drewN ?_ _ | (with_reducible refine bel_set ?_ ?_ _; rotate_left; ((try simp); (try omega)))))) (by exact Cod.bel hrw4 (by repeat (first | with_reducible exact Below.refl _ _ | with_reducible assumption | with_reducible refine bel_alloc ?_ _ | with_reducible refine bel_drew ?_ | with_reducible refine bel_drewN ?_ _ | (with_reducible refine bel_set ?_ ?_ _; rotate_left; ((try simp); (try omega))))))).mono ?_
      rintro e w8 ⟨rfl, hbw8⟩
      have hsw8 := hbw8.size
      (try simp at hsw8)
      have hzw8_0 : w.heap.size < w8.heap.size := by omega
      have hzw8_1 : w4.heap.size < w8.heap.size := by omega
      have hzw8_2 : w7.heap.size < w8.heap.size := by omega
      have hBw8 : Below w.heap.size w w8 := bel_then (by repeat (first | with_reducible exact Below.refl _ _ | with_reducible assumption | with_reducible refine bel_alloc ?_ _ | with_reducible refine bel_drew ?_ | with_reducible refine bel_drewN ?_ _ | (with_reducible refine bel_set ?_ ?_ _; rotate_left; ((try simp); (try omega))))) hbw8
      replace hrw2 := Cod.bel hrw2 (show Below _ _ w8 from bel_then (by repeat (first | with_reducible exact Below.refl _ _ | with_reducible assumption | with_reducible refine bel_alloc ?_ _ | with_reducible refine bel_drew ?_ | with_reducible refine bel_drewN ?_ _ | (with_reducible refine bel_set ?_ ?_ _; rotate_left; ((try simp); (try omega))))) hbw8)
      replace hrw3 := Cod.bel hrw3 (show Below _ _ w8 from bel_then (by repeat (first | with_reducible exact Below.refl _ _ | with_reducible assumption | with_reducible refine bel_alloc ?_ _ | with_reducible refine bel_drew ?_ | with_reducible refine bel_drewN ?_ _ | (with_reducible refine bel_set ?_ ?_ _; rotate_left; ((try simp); (try omega))))) hbw8)
      replace hrw4 := Cod.bel hrw4 (show Below _ _ w8 from bel_then (by repeat (first | with_reducible exact Below.refl _ _ | with_reducible assumption | with_reducible refine bel_alloc ?_ _ | with_reducible refine bel_drew ?_ | with_reducible refine bel_drewN ?_ _ | (with_reducible refine bel_set ?_ ?_ _; rotate_left; ((try simp); (try omega))))) hbw8)
      replace hrw5 := Cod.bel hrw5 (show Below _ _ w8 from bel_then (by repeat (first | with_reducible exact Below.refl _ _ | with_reducible assumption | with_reducible refine bel_alloc ?_ _ | with_reducible refine bel_drew ?_ | with_reducible refine bel_drewN ?_ _ | (with_reducible refine bel_set ?_ ?_ _; rotate_left; ((try simp); (try omega))))) hbw8)
      replace hrw6 := Cod.bel hrw6 (show Below _ _ w8 from bel_then (by repeat (first | with_reducible exact Below.refl _ _ | with_reducible assumption | with_reducible refine bel_alloc ?_ _ | with_reducible refine bel_drew ?_ | with_reducible refine bel_drewN ?_ _ | (with_reducible refine bel_set ?_ ?_ _; rotate_left; ((try simp); (try omega))))) hbw8)
      replace hrw7 := Cod.bel hrw7 (show Below _ _ w8 from bel_then (by repeat (first | with_reducible exact Below.refl _ _ | with_reducible assumption | with_reducible refine bel_alloc ?_ _ | with_reducible refine bel_drew ?_ | with_reducible refine bel_drewN ?_ _ | (with_reducible refine bel_set ?_ ?_ _; rotate_left; ((try simp); (try omega))))) hbw8)
      obtain ⟨hcw8, hfzw8, -⟩ := bcell hbw8
      clear hbw8
      go_wp2_with fail
      refine (toIntS_any _ p1 _ _ (by exact Cod.bel h1 (by repeat (first | with_reducible exact Below.refl _ _ | with_reducible assumption | with_reducible refine bel_alloc ?_ _ | with_reducible refine bel_drew ?_ | with_reducible refine bel_drewN ?_ _ | (with_reducible refine bel_set ?_ ?_ _; rotate_left; ((try simp); (try omega)))))) z1).mono ?_
      rintro e w9 ⟨uw9, Gw9, rfl, hbw9, hrw9, hfw9⟩
      obtain ⟨Arw9, crw9, erw9⟩ := cL_form hrw9
      subst erw9
      have hsw9 := hbw9.size
      (try simp at hsw9)
      have hzw9_0 : w.heap.size < w9.heap.size := by omega
      have hzw9_1 : w4.heap.size < w9.heap.size := by omega
      have hzw9_2 : w7.heap.size < w9.heap.size := by omega
      have hBw9 : Below w.heap.size w w9 := bel_then (by repeat (first | with_reducible exact Below.refl _ _ | with_reducible assumption | with_reducible refine bel_alloc ?_ _ | with_reducible refine bel_drew ?_ | with_reducible refine bel_drewN ?_ _ | (with_reducible refine bel_set ?_ ?_ _; rotate_left; ((try simp); (try omega))))) hbw9
      replace hrw2 := Cod.bel hrw2 (show Below _ _ w9 from bel_then (by repeat (first | with_reducible exact Below.refl _ _ | with_reducible assumption | with_reducible refine bel_alloc ?_ _ | with_reducible refine bel_drew ?_ | with_reducible refine bel_drewN ?_ _ | (with_reducible refine bel_set ?_ ?_ _; rotate_left; ((try simp); (try omega))))) hbw9)
      replace hrw3 := Cod.bel hrw3 (show Below _ _ w9 from bel_then (by repeat (first | with_reducible exact Below.refl _ _ | with_reducible assumption | with_reducible refine bel_alloc ?_ _ | with_reducible refine bel_drew ?_ | with_reducible refine bel_drewN ?_ _ | (with_reducible refine bel_set ?_ ?_ _; rotate_left; ((try simp); (try omega))))) hbw9)
      replace hrw4 := Cod.bel hrw4 (show Below _ _ w9 from bel_then (by repeat (first | with_reducible exact Below.refl _ _ | with_reducible assumption | with_reducible refine bel_alloc ?_ _ | with_reducible refine bel_drew ?_ | with_reducible refine bel_drewN ?_ _ | (with_reducible refine bel_set ?_ ?_ _; rotate_left; ((try simp); (try omega))))) hbw9)
      replace hrw5 := Cod.bel hrw5 (show Below _ _ w9 from bel_then (by repeat (first | with_reducible exact Below.refl _ _ | with_reducible assumption | with_reducible refine bel_alloc ?_ _ | with_reducible refine bel_drew ?_ | with_reducible refine bel_drewN ?_ _ | (with_reducible refine bel_set ?_ ?_ _; rotate_left; ((try simp); (try omega))))) hbw9)
      replace hrw6 := Cod.bel hrw6 (show Below _ _ w9 from bel_then (by repeat (first | with_reducible exact Below.refl _ _ | with_reducible assumption | with_reducible refine bel_alloc ?_ _ | with_reducible refine bel_drew ?_ | with_reducible refine bel_drewN ?_ _ | (with_reducible refine bel_set ?_ ?_ _; rotate_left; ((try simp); (try omega))))) hbw9)
      replace hrw7 := Cod.bel hrw7 (show Below _ _ w9 from bel_then (by repeat (first | with_reducible exact Below.refl _ _ | with_reducible assumption | with_reducible refine bel_alloc ?_ _ | with_reducible refine bel_drew ?_ | with_reducible refine bel_drewN ?_ _ | (with_reducible refine bel_set ?_ ?_ _; rotate_left; ((try simp); (try omega))))) hbw9)
      have hlrw9 : ∀ b, b ∈ Gw9 → b < w9.heap.size := fun b hb => Cod.lt _ hrw9 b hb
      obtain ⟨hcw9, hfzw9, -⟩ := bcell hbw9
      clear hbw9
      go_wp2_with fail
      refine (eqIntS_any _ _ p1 _ _ _ (by exact Cod.bel hrw5 (by repeat (first | with_reducible exact Below.refl _ _ | with_reducible assumption | with_reducible refine bel_alloc ?_ _ | with_reducible refine bel_drew ?_ | with_reducible refine bel_drewN ?_ _ | (with_reducible refine bel_set ?_ ?_ _; rotate_left; ((try simp); (try omega)))))) (by exact Cod.bel hrw9 (by repeat (first | with_reducible exact Below.refl _ _ | with_reducible assumption | with_reducible refine bel_alloc ?_ _ | with_reducible refine bel_drew ?_ | with_reducible refine bel_drewN ?_ _ | (with_reducible refine bel_set ?_ ?_ _; rotate_left; ((try simp); (try omega))))))).mono ?_
      rintro e w10 ⟨rfl, hbw10⟩
      have hsw10 := hbw10.size
      (try simp at hsw10)
      have hzw10_0 : w.heap.size < w10.heap.size := by omega
      have hzw10_1 : w4.heap.size < w10.heap.size := by omega
      have hzw10_2 : w7.heap.size < w10.heap.size := by omega
      have hBw10 : Below w.heap.size w w10 := bel_then (by repeat (first | with_reducible exact Below.refl _ _ | with_reducible assumption | with_reducible refine bel_alloc ?_ _ | with_reducible refine bel_drew ?_ | with_reducible refine bel_drewN ?_ _ | (with_reducible refine bel_set ?_ ?_ _; rotate_left; ((try simp); (try omega))))) hbw10
      replace hrw2 := Cod.bel hrw2 (show Below _ _ w10 from bel_then (by repeat (first | with_reducible exact Below.refl _ _ | with_reducible assumption | with_reducible refine bel_alloc ?_ _ | with_reducible refine bel_drew ?_ | with_reducible refine bel_drewN ?_ _ | (with_reducible refine bel_set ?_ ?_ _; rotate_left; ((try simp); (try omega))))) hbw10)
      replace hrw3 := Cod.bel hrw3 (show Below _ _ w10 from bel_then (by repeat (first | with_reducible exact Below.refl _ _ | with_reducible assumption | with_reducible refine bel_alloc ?_ _ | with_reducible refine bel_drew ?_ | with_reducible refine bel_drewN ?_ _ | (with_reducible refine bel_set ?_ ?_ _; rotate_left; ((try simp); (try omega))))) hbw10)
      replace hrw4 := Cod.bel hrw4 (show Below _ _ w10 from bel_then (by repeat (first | with_reducible exact Below.refl _ _ | with_reducible assumption | with_reducible refine bel_alloc ?_ _ | with_reducible refine bel_drew ?_ | with_reducible refine bel_drewN ?_ _ | (with_reducible refine bel_set ?_ ?_ _; rotate_left; ((try simp); (try omega))))) hbw10)
      replace hrw5 := Cod.bel hrw5 (show Below _ _ w10 from bel_then (by repeat (first | with_reducible exact Below.refl _ _ | with_reducible assumption | with_reducible refine bel_alloc ?_ _ | with_reducible refine bel_drew ?_ | with_reducible refine bel_drewN ?_ _ | (with_reducible refine bel_set ?_ ?_ _; rotate_left; ((try simp); (try omega))))) hbw10)
      replace hrw6 := Cod.bel hrw6 (show Below _ _ w10 from bel_then (by repeat (first | with_reducible exact Below.refl _ _ | with_reducible assumption | with_reducible refine bel_alloc ?_ _ | with_reducible refine bel_drew ?_ | with_reducible refine bel_drewN ?_ _ | (with_reducible refine bel_set ?_ ?_ _; rotate_left; ((try simp); (try omega))))) hbw10)
      replace hrw7 := Cod.bel hrw7 (show Below _ _ w10 from bel_then (by repeat (first | with_reducible exact Below.refl _ _ | with_reducible assumption | with_reducible refine bel_alloc ?_ _ | with_reducible refine bel_drew ?_ | with_reducible refine bel_drewN ?_ _ | (with_reducible refine bel_set ?_ ?_ _; rotate_left; ((try simp); (try omega))))) hbw10)
      replace hrw9 := Cod.bel hrw9 (show Below _ _ w10 from bel_then (by repeat (first | with_reducible exact Below.refl _ _ | with_reducible assumption | with_reducible refine bel_alloc ?_ _ | with_reducible refine bel_drew ?_ | with_reducible refine bel_drewN ?_ _ | (with_reducible refine bel_set ?_ ?_ _; rotate_left; ((try simp); (try omega))))) hbw10)
      obtain ⟨hcw10, hfzw10, -⟩ := bcell hbw10
      clear hbw10
      go_wp2_with fail
      go_ret
      exact ⟨rfl, (by repeat (first | with_reducible exact Below.refl _ _ | with_reducible assumption | with_reducible refine bel_alloc ?_ _ | with_reducible refine bel_drew ?_ | with_reducible refine bel_drewN ?_ _ | (with_reducible refine bel_set ?_ ?_ _; rotate_left; ((try simp); (try omega)))))⟩

set_option maxRecDepth 100000 in
theorem lawActivate_walk (H : Type) (enc : TypeId × Value → H) (W : World) (base : Nat) (args : Array Value) (ds : List (DataW H)) (p : List MemPlace)
    (hval : ∀ (j : Nat) t v, Try.f8.params[j]? = some t → args[j]? = some v → Value.okWide Try.prog W .any base t v)
    (hA : DataW.TrodAll enc Try.prog W 0 (fun _ => true) true Try.f8.params.toList args.toList ds p) (hf : W.noneFrozen p) :
    Calls Try.prog 8 args W (Gives W (.bool true)) := by
  rw [Try.params8] at hA hval
  obtain ⟨v0, vs0, d0, ds0, q0, s0, hargs, rfl, rfl, k0, t0⟩ := trodAll_cons hA
  obtain ⟨v1, vs1, d1, ds1, q1, s1, rfl, rfl, rfl, k1, t1⟩ := trodAll_cons t0
  obtain ⟨rfl, rfl, rfl⟩ := trodAll_nil t1
  obtain rfl : args = #[v0, v1] := by cases args; simp_all
  obtain ⟨cs0, x0, F0, rfl, hx0⟩ := opens_lReg.struct_ Try.underlying23 (hval 0 _ _ rfl rfl) k0 (noneFrozen_mono hf fun y hy => by simp [hy])
  obtain ⟨x1, F1, hx1⟩ := opens_IS.slice_ Try.underlying31 (hval 1 _ _ rfl rfl) k1 (noneFrozen_mono hf fun y hy => by simp [hy])
  exact lawActivate_any cs0 x0 F0 v1 x1 F1 W hx0 hx1

set_option maxRecDepth 100000 in
theorem lawActivate_lifted (os : Os) (started : os.Started) (H : Type) (enc : TypeId × Value → H) :
    ReturnsInHanded {} Try.checked os 8 .any (Rows.fnExactActivateSpec.pre6 enc Try.prog Try.f8 Rows.fnExactActivateRow.domain false) (Rows.fnExactActivateSpec.post enc Try.prog Try.f8 false true false false) := by
  refine returnsInHanded_of_change (C := Try.checked) (by kernel_rfl) started (by kernel_rfl) Try.func8
    (ChangeSpec.witness6 (enc := enc) (C := Try.checked) false ⟨#[], #[.agg #[.string ByteArray.empty, .int .i64 0, .int .i64 0, .int .i64 0], .slice none 0 0], []⟩ 16 (by kernel_rfl) (by kernel_rfl) (by kernel_rfl) (by kernel_rfl)) ?_
  intro W base args ds gs before hval hW _ _
  have hW' := hW
  obtain ⟨p, q, hA, hV, rfl, hfz, hnd⟩ := hW
  refine (lawActivate_walk H enc W base args ds p hval hA (noneFrozen_mono hfz fun y hy => by simp [hy])).mono fun e W' ⟨he, hb⟩ => ⟨_, he, ?_⟩
  exact law_post (by kernel_rfl) rfl (by kernel_rfl) Try.underlying4 (by kernel_rfl) (fun ds h => by
    match ds, h with
    | [d0, d1], _ => exact ⟨rfl, rfl, rfl⟩) hW' hb
theorem lawActivate_over : Rows.fnExactActivateRow.holds Try.pinned (OpenSpec.ofChange Rows.fnExactActivateSpec) :=
  OpenClaim.holds_of_wide 8 Try.f8 rfl rfl rfl rfl rfl rfl rfl ⟨rfl, rfl, rfl, rfl, rfl⟩ rfl rfl rfl rfl rfl (by kernel_rfl) Try.func8 (by kernel_rfl)
    (of_decide_eq_true (by kernel_rfl)) (by unfold Func.isWrapper; rw [if_neg (of_decide_eq_false (by kernel_rfl))]; exact ⟨rfl, rfl⟩)
    (fun os started H enc _ => lawActivate_lifted os started H enc)
/-- THE STATEMENT -/
theorem lawActivate_holds : Rows.FnExactActivateSaid := lawActivate_over

end Go.Proofs.Ytfciadidlbnioaa
