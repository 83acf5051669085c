/-
  Machine: sz and to. No conditions but the budget of the laws.
-/
import Derived.Test.YteipaolcmjfhdaaRows
import Derived.Test.YteipaolcmjfhdaaMem
import Derived.LoopTactic
import Derived.Test.YteipaolcmjfhdaaTMach
import Derived.Test.YteipaolcmjfhdaaToSI
import Derived.Test.YteipaolcmjfhdaaToSIns
namespace Go.Proofs.Yteipaolcmjfhdaa
open Go.ChangeShapes Go.WideShapes Go.RowKit
set_option linter.unusedVariables false

set_option maxHeartbeats 1000000 in
theorem szMachine_any (vs : Array Value) (x : TMach) (F : List Nat) (n : Int) (w : World) (h : cMach.rep w vs.toList x F) (h0 : 0 ≤ n) (h1 : n ≤ 1048576) :
    Calls Try.prog 60 #[.agg vs, .int .i64 n] w (Gives w (.int .i64 (leftOf n (cMach.sz x)))) := by
  obtain ⟨v0, v2, F0, F2, rfl, rfl, hok, m0, m2⟩ := TMach.outA h
  have hsz : cMach.sz x = cInsS.sz x.script + (0 + (cIS.sz x.regs + (0 + (0 + (0))))) := rfl
  have HZ := Lib.hid (And.intro hsz trivial)
  clear hsz
  go_enter Try.func60, Try.ntmps60
  go_wp2_with fail
  by_cases l0 : n - (cInsS.sz x.script : Nat) < 0
  · have HV := Lib.hid (leftOf_neg l0)
    refine (szInstrS_any _ _ _ _ _ (by exact Cod.bel m0 (by repeat (first | with_reducible exact Below.refl _ _ | with_reducible assumption | with_reducible refine bel_alloc ?_ _ | with_reducible refine bel_drew ?_ | with_reducible refine bel_drewN ?_ _ | (with_reducible refine bel_set ?_ ?_ _; rotate_left; ((try simp); (try omega)))))) (by omega) (by omega)).mono ?_
    rintro e w1 ⟨rfl, hb0⟩
    rw [HV.out]
    have hB0 : Below w.heap.size w w1 := bel_then (by repeat (first | with_reducible exact Below.refl _ _ | with_reducible assumption | with_reducible refine bel_alloc ?_ _ | with_reducible refine bel_drew ?_ | with_reducible refine bel_drewN ?_ _ | (with_reducible refine bel_set ?_ ?_ _; rotate_left; ((try simp); (try omega))))) hb0
    go_wp2_with fail
    go_ret
    exact ⟨ret_int (leftOf_neg (by have hh := HZ.out; omega)).symm, hB0⟩
  · have HV := Lib.hid (leftOf_pos l0)
    have p0 : 0 ≤ n - (cInsS.sz x.script : Nat) := by omega
    refine (szInstrS_any _ _ _ _ _ (by exact Cod.bel m0 (by repeat (first | with_reducible exact Below.refl _ _ | with_reducible assumption | with_reducible refine bel_alloc ?_ _ | with_reducible refine bel_drew ?_ | with_reducible refine bel_drewN ?_ _ | (with_reducible refine bel_set ?_ ?_ _; rotate_left; ((try simp); (try omega)))))) (by omega) (by omega)).mono ?_
    rintro e w1 ⟨rfl, hb0⟩
    rw [HV.out]
    obtain ⟨hc0, hfz0, hz0⟩ := bcell hb0
    have hs0 : w.heap.size < w1.heap.size := (by (try simp only [World.size_alloc] at hz0); omega)
    have hB0 : Below w.heap.size w w1 := bel_then (by repeat (first | with_reducible exact Below.refl _ _ | with_reducible assumption | with_reducible refine bel_alloc ?_ _ | with_reducible refine bel_drew ?_ | with_reducible refine bel_drewN ?_ _ | (with_reducible refine bel_set ?_ ?_ _; rotate_left; ((try simp); (try omega))))) hb0
    clear hb0
    go_wp2_with fail
    by_cases l1 : n - (cInsS.sz x.script : Nat) - (cIS.sz x.regs : Nat) < 0
    · have HV := Lib.hid (leftOf_neg l1)
      refine (szIntS_any _ _ _ _ _ (by exact Cod.bel m2 (by repeat (first | with_reducible exact Below.refl _ _ | with_reducible assumption | with_reducible refine bel_alloc ?_ _ | with_reducible refine bel_drew ?_ | with_reducible refine bel_drewN ?_ _ | (with_reducible refine bel_set ?_ ?_ _; rotate_left; ((try simp); (try omega)))))) (by omega) (by omega)).mono ?_
      rintro e w2 ⟨rfl, hb1⟩
      rw [HV.out]
      have hB1 : Below w.heap.size w w2 := bel_then (by repeat (first | with_reducible exact Below.refl _ _ | with_reducible assumption | with_reducible refine bel_alloc ?_ _ | with_reducible refine bel_drew ?_ | with_reducible refine bel_drewN ?_ _ | (with_reducible refine bel_set ?_ ?_ _; rotate_left; ((try simp); (try omega))))) hb1
      go_wp2_with fail
      go_ret
      exact ⟨ret_int (leftOf_neg (by have hh := HZ.out; omega)).symm, hB1⟩
    · have HV := Lib.hid (leftOf_pos l1)
      have p1 : 0 ≤ n - (cInsS.sz x.script : Nat) - (cIS.sz x.regs : Nat) := by omega
      refine (szIntS_any _ _ _ _ _ (by exact Cod.bel m2 (by repeat (first | with_reducible exact Below.refl _ _ | with_reducible assumption | with_reducible refine bel_alloc ?_ _ | with_reducible refine bel_drew ?_ | with_reducible refine bel_drewN ?_ _ | (with_reducible refine bel_set ?_ ?_ _; rotate_left; ((try simp); (try omega)))))) (by omega) (by omega)).mono ?_
      rintro e w2 ⟨rfl, hb1⟩
      rw [HV.out]
      obtain ⟨hc1, hfz1, hz1⟩ := bcell hb1
      have hs1 : w.heap.size < w2.heap.size := (by (try simp only [World.size_alloc] at hz1); omega)
      have hB1 : Below w.heap.size w w2 := bel_then (by repeat (first | with_reducible exact Below.refl _ _ | with_reducible assumption | with_reducible refine bel_alloc ?_ _ | with_reducible refine bel_drew ?_ | with_reducible refine bel_drewN ?_ _ | (with_reducible refine bel_set ?_ ?_ _; rotate_left; ((try simp); (try omega))))) hb1
      clear hb1
      go_wp2_with fail
      go_ret
      exact ⟨ret_int (by have hh := HZ.out; rw [leftOf_pos (by omega)]; omega), (by repeat (first | with_reducible exact Below.refl _ _ | with_reducible assumption | with_reducible refine bel_alloc ?_ _ | with_reducible refine bel_drew ?_ | with_reducible refine bel_drewN ?_ _ | (with_reducible refine bel_set ?_ ?_ _; rotate_left; ((try simp); (try omega)))))⟩

set_option maxHeartbeats 1000000 in
theorem toMachine_any (vs : Array Value) (x : TMach) (F : List Nat) (w : World) (h : cMach.rep w vs.toList x F) (hn : cMach.sz x ≤ 1048576) :
    Calls Try.prog 62 #[.agg vs] w (GivesR cMach w x) := by
  obtain ⟨v0, v2, F0, F2, rfl, rfl, hok, m0, m2⟩ := TMach.outA h
  have hsz : cMach.sz x = cInsS.sz x.script + (0 + (cIS.sz x.regs + (0 + (0 + (0))))) := rfl
  go_enter Try.func62, Try.ntmps62
  go_wp2_with fail
  refine (toInstrS_any _ _ _ _ (by exact Cod.bel m0 (by repeat (first | with_reducible exact Below.refl _ _ | with_reducible assumption | with_reducible refine bel_alloc ?_ _ | with_reducible refine bel_drew ?_ | with_reducible refine bel_drewN ?_ _ | (with_reducible refine bel_set ?_ ?_ _; rotate_left; ((try simp); (try omega)))))) (by omega)).mono ?_
  rintro e w1 ⟨r1, G1, rfl, hb1, hr1, hf1⟩
  obtain ⟨A1, c1, rfl⟩ := cL_form hr1
  have hlt1 : ∀ b, b ∈ G1 → b < w1.heap.size := fun b hb => Cod.lt _ hr1 b hb
  have hz1 := hb1.size
  (try simp at hz1)
  have hs1_0 : w.heap.size < w1.heap.size := by omega
  have hs1_1 : w.heap.size + 1 < w1.heap.size := by omega
  have hs1_2 : w.heap.size + 2 < w1.heap.size := by omega
  have hB1 : Below w.heap.size w w1 := bel_then (by repeat (first | with_reducible exact Below.refl _ _ | with_reducible assumption | with_reducible refine bel_alloc ?_ _ | with_reducible refine bel_drew ?_ | with_reducible refine bel_drewN ?_ _ | (with_reducible refine bel_set ?_ ?_ _; rotate_left; ((try simp); (try omega))))) hb1
  have hA1 : Fresh w.heap.size G1 := hf1.mono (by simp; try omega)
  have hL1 := hlt1
  obtain ⟨hc1, hfz1, -⟩ := bcell hb1
  clear hb1
  go_wp2_with fail
  refine (toIntS_any _ _ _ _ (by exact Cod.bel m2 (by repeat (first | with_reducible exact Below.refl _ _ | with_reducible assumption | with_reducible refine bel_alloc ?_ _ | with_reducible refine bel_drew ?_ | with_reducible refine bel_drewN ?_ _ | (with_reducible refine bel_set ?_ ?_ _; rotate_left; ((try simp); (try omega)))))) (by omega)).mono ?_
  rintro e w2 ⟨r2, G2, rfl, hb2, hr2, hf2⟩
  replace hr1 := Cod.keep2 hr1 hf1 (show Keep _ w1 w2 from Keep.bel (by repeat (first | with_reducible exact Keep.refl _ _ | with_reducible assumption | with_reducible refine Keep.alloc ?_ _ | with_reducible refine Keep.drew ?_ | with_reducible refine Keep.drewN ?_ _ | (with_reducible refine Keep.set_ ?_ ?_ _; rotate_left; ((try simp); (try omega))))) hb2)
  obtain ⟨A2, c2, rfl⟩ := cL_form hr2
  have hlt2 : ∀ b, b ∈ G2 → b < w2.heap.size := fun b hb => Cod.lt _ hr2 b hb
  have hz2 := hb2.size
  (try simp at hz2)
  have hs2_0 : w.heap.size < w2.heap.size := by omega
  have hs2_1 : w.heap.size + 1 < w2.heap.size := by omega
  have hs2_2 : w.heap.size + 2 < w2.heap.size := by omega
  have hB2 : Below w.heap.size w w2 := bel_then (by repeat (first | with_reducible exact Below.refl _ _ | with_reducible assumption | with_reducible refine bel_alloc ?_ _ | with_reducible refine bel_drew ?_ | with_reducible refine bel_drewN ?_ _ | (with_reducible refine bel_set ?_ ?_ _; rotate_left; ((try simp); (try omega))))) hb2
  have hA2 : Fresh w.heap.size (G1 ++ G2) := hA1.then_ hL1 (by simp) hf2 (by simp; omega)
  have hL2 := mem_lt hL1 hlt2 (by omega)
  obtain ⟨hc2, hfz2, -⟩ := bcell hb2
  clear hb2
  go_wp2_with fail
  have hret : ∀ Wf : World, Below w.heap.size w Wf → Keep _ w2 Wf → GivesR cMach w x (.returned (.agg #[.slice A1 x.script.length c1, .int .i64 x.pc, .slice A2 x.regs.length c2, .int .i64 x.steps, .bool x.done, .bool x.wait])) Wf := fun Wf hBf K => ⟨_, _, rfl, hBf, TMach.mk_ hok (Cod.keep2 hr1 hf1 (by first | exact K | exact K.mono (by (try simp); (try omega)))) (Cod.keep2 hr2 hf2 (by first | exact K | exact K.mono (by (try simp); (try omega)))), hA2⟩
  refine bodyPost_ret (v := .agg #[.slice A1 x.script.length c1, .int .i64 x.pc, .slice A2 x.regs.length c2, .int .i64 x.steps, .bool x.done, .bool x.wait]) ?_ rfl ?_
  · simp [results, Try.results62, go_sem, *]
  · exact hret _ (by repeat (first | with_reducible exact Below.refl _ _ | with_reducible assumption | with_reducible refine bel_alloc ?_ _ | with_reducible refine bel_drew ?_ | with_reducible refine bel_drewN ?_ _ | (with_reducible refine bel_set ?_ ?_ _; rotate_left; ((try simp); (try omega))))) (by repeat (first | with_reducible exact Keep.refl _ _ | with_reducible assumption | with_reducible refine Keep.alloc ?_ _ | with_reducible refine Keep.drew ?_ | with_reducible refine Keep.drewN ?_ _ | (with_reducible refine Keep.set_ ?_ ?_ _; rotate_left; ((try simp); (try omega)))))

end Go.Proofs.Yteipaolcmjfhdaa
