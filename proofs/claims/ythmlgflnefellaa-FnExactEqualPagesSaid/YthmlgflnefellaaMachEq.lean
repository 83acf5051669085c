/-
  EqualMachines of the program and of the reference. No conditions.
-/
import Derived.Test.YthmlgflnefellaaTMach
import Derived.Test.YthmlgflnefellaaEqList
namespace Go.Proofs.Ythmlgflnefellaa
open Go.ChangeShapes Go.WideShapes Go.RowKit
set_option linter.unusedVariables false

def machEq (x y : TMach) : Bool := inssEq x.script y.script && x.pc == y.pc && intsEq x.regs y.regs && x.steps == y.steps && x.done == y.done && x.wait == y.wait
set_option maxRecDepth 100000 in
set_option maxHeartbeats 8000000 in
theorem implEqualMachines_any (vs : Array Value) (x : TMach) (F : List Nat) (vs2 : Array Value) (y : TMach) (F2 : List Nat) (w : World) (h : cMach.rep w vs.toList x F) (hn : cMach.sz x ≤ 1048576) (h2 : cMach.rep w vs2.toList y F2) (hn2 : cMach.sz y ≤ 1048576) :
    Calls Try.prog 33 #[.agg vs, .agg vs2] w (Gives w (.bool (machEq x y))) := by
  obtain ⟨u0, u2, E0, E2, rfl, -, -, m0, m2⟩ := TMach.outA h
  obtain ⟨A0, c0, rfl⟩ := cL_form m0
  obtain ⟨A2, c2, rfl⟩ := cL_form m2
  obtain ⟨v0, v2, G0, G2, rfl, -, -, p0, p2⟩ := TMach.outA h2
  obtain ⟨B0, d0, rfl⟩ := cL_form p0
  obtain ⟨B2, d2, rfl⟩ := cL_form p2
  clear h h2
  have HE := Lib.hid (show machEq x y = (inssEq x.script y.script && x.pc == y.pc && intsEq x.regs y.regs && x.steps == y.steps && x.done == y.done && x.wait == y.wait) from rfl)
  cases e1 : (inssEq x.script y.script)
  · go_enter Try.func33, Try.ntmps33
    go_wp2_with (first | (go_at_call 68; refine (equalInss_any _ _ x.script y.script _ _ _ (by exact Cod.bel m0 (by repeat (first | with_reducible exact Below.refl _ _ | with_reducible assumption | with_reducible refine bel_alloc ?_ _ | with_reducible refine bel_drew ?_ | with_reducible refine bel_drewN ?_ _ | (with_reducible refine bel_set ?_ ?_ _; rotate_left; ((try simp); (try omega)))))) (by exact Cod.bel p0 (by repeat (first | with_reducible exact Below.refl _ _ | with_reducible assumption | with_reducible refine bel_alloc ?_ _ | with_reducible refine bel_drew ?_ | with_reducible refine bel_drewN ?_ _ | (with_reducible refine bel_set ?_ ?_ _; rotate_left; ((try simp); (try omega))))))).mono ?_; rintro e w1 ⟨rfl, hb1⟩; obtain ⟨hc1, hf1, hz1⟩ := bcell hb1; (try simp at hz1); have hs0 : w.heap.size < w1.heap.size := (by omega); have hs1 : w.heap.size + 1 < w1.heap.size := (by omega); have hB1 : Below w.heap.size w w1 := (bel_then (by repeat (first | with_reducible exact Below.refl _ _ | with_reducible assumption | with_reducible refine bel_alloc ?_ _ | with_reducible refine bel_drew ?_ | with_reducible refine bel_drewN ?_ _ | (with_reducible refine bel_set ?_ ?_ _; rotate_left; ((try simp); (try omega))))) hb1); clear hb1) | (go_at_call 69; refine (equalInts_any _ _ x.regs y.regs _ _ _ (by exact Cod.bel m2 (by repeat (first | with_reducible exact Below.refl _ _ | with_reducible assumption | with_reducible refine bel_alloc ?_ _ | with_reducible refine bel_drew ?_ | with_reducible refine bel_drewN ?_ _ | (with_reducible refine bel_set ?_ ?_ _; rotate_left; ((try simp); (try omega)))))) (by exact Cod.bel p2 (by repeat (first | with_reducible exact Below.refl _ _ | with_reducible assumption | with_reducible refine bel_alloc ?_ _ | with_reducible refine bel_drew ?_ | with_reducible refine bel_drewN ?_ _ | (with_reducible refine bel_set ?_ ?_ _; rotate_left; ((try simp); (try omega))))))).mono ?_; rintro e w1 ⟨rfl, hb1⟩; obtain ⟨hc1, hf1, hz1⟩ := bcell hb1; (try simp at hz1); have hs0 : w.heap.size < w1.heap.size := (by omega); have hs1 : w.heap.size + 1 < w1.heap.size := (by omega); have hB1 : Below w.heap.size w w1 := (bel_then (by repeat (first | with_reducible exact Below.refl _ _ | with_reducible assumption | with_reducible refine bel_alloc ?_ _ | with_reducible refine bel_drew ?_ | with_reducible refine bel_drewN ?_ _ | (with_reducible refine bel_set ?_ ?_ _; rotate_left; ((try simp); (try omega))))) hb1); clear hb1))
    go_ret
    exact ⟨ret_bool (by rw [HE.out]; simp [*]), (by repeat (first | with_reducible exact Below.refl _ _ | with_reducible assumption | with_reducible refine bel_alloc ?_ _ | with_reducible refine bel_drew ?_ | with_reducible refine bel_drewN ?_ _ | (with_reducible refine bel_set ?_ ?_ _; rotate_left; ((try simp); (try omega)))))⟩
  ·
    cases e2 : (x.pc == y.pc)
    · go_enter Try.func33, Try.ntmps33
      go_wp2_with (first | (go_at_call 68; refine (equalInss_any _ _ x.script y.script _ _ _ (by exact Cod.bel m0 (by repeat (first | with_reducible exact Below.refl _ _ | with_reducible assumption | with_reducible refine bel_alloc ?_ _ | with_reducible refine bel_drew ?_ | with_reducible refine bel_drewN ?_ _ | (with_reducible refine bel_set ?_ ?_ _; rotate_left; ((try simp); (try omega)))))) (by exact Cod.bel p0 (by repeat (first | with_reducible exact Below.refl _ _ | with_reducible assumption | with_reducible refine bel_alloc ?_ _ | with_reducible refine bel_drew ?_ | with_reducible refine bel_drewN ?_ _ | (with_reducible refine bel_set ?_ ?_ _; rotate_left; ((try simp); (try omega))))))).mono ?_; rintro e w1 ⟨rfl, hb1⟩; obtain ⟨hc1, hf1, hz1⟩ := bcell hb1; (try simp at hz1); have hs0 : w.heap.size < w1.heap.size := (by omega); have hs1 : w.heap.size + 1 < w1.heap.size := (by omega); have hB1 : Below w.heap.size w w1 := (bel_then (by repeat (first | with_reducible exact Below.refl _ _ | with_reducible assumption | with_reducible refine bel_alloc ?_ _ | with_reducible refine bel_drew ?_ | with_reducible refine bel_drewN ?_ _ | (with_reducible refine bel_set ?_ ?_ _; rotate_left; ((try simp); (try omega))))) hb1); clear hb1) | (go_at_call 69; refine (equalInts_any _ _ x.regs y.regs _ _ _ (by exact Cod.bel m2 (by repeat (first | with_reducible exact Below.refl _ _ | with_reducible assumption | with_reducible refine bel_alloc ?_ _ | with_reducible refine bel_drew ?_ | with_reducible refine bel_drewN ?_ _ | (with_reducible refine bel_set ?_ ?_ _; rotate_left; ((try simp); (try omega)))))) (by exact Cod.bel p2 (by repeat (first | with_reducible exact Below.refl _ _ | with_reducible assumption | with_reducible refine bel_alloc ?_ _ | with_reducible refine bel_drew ?_ | with_reducible refine bel_drewN ?_ _ | (with_reducible refine bel_set ?_ ?_ _; rotate_left; ((try simp); (try omega))))))).mono ?_; rintro e w1 ⟨rfl, hb1⟩; obtain ⟨hc1, hf1, hz1⟩ := bcell hb1; (try simp at hz1); have hs0 : w.heap.size < w1.heap.size := (by omega); have hs1 : w.heap.size + 1 < w1.heap.size := (by omega); have hB1 : Below w.heap.size w w1 := (bel_then (by repeat (first | with_reducible exact Below.refl _ _ | with_reducible assumption | with_reducible refine bel_alloc ?_ _ | with_reducible refine bel_drew ?_ | with_reducible refine bel_drewN ?_ _ | (with_reducible refine bel_set ?_ ?_ _; rotate_left; ((try simp); (try omega))))) hb1); clear hb1))
      go_ret
      exact ⟨ret_bool (by rw [HE.out]; simp [*]), (by repeat (first | with_reducible exact Below.refl _ _ | with_reducible assumption | with_reducible refine bel_alloc ?_ _ | with_reducible refine bel_drew ?_ | with_reducible refine bel_drewN ?_ _ | (with_reducible refine bel_set ?_ ?_ _; rotate_left; ((try simp); (try omega)))))⟩
    ·
      cases e3 : (intsEq x.regs y.regs)
      · go_enter Try.func33, Try.ntmps33
        go_wp2_with (first | (go_at_call 68; refine (equalInss_any _ _ x.script y.script _ _ _ (by exact Cod.bel m0 (by repeat (first | with_reducible exact Below.refl _ _ | with_reducible assumption | with_reducible refine bel_alloc ?_ _ | with_reducible refine bel_drew ?_ | with_reducible refine bel_drewN ?_ _ | (with_reducible refine bel_set ?_ ?_ _; rotate_left; ((try simp); (try omega)))))) (by exact Cod.bel p0 (by repeat (first | with_reducible exact Below.refl _ _ | with_reducible assumption | with_reducible refine bel_alloc ?_ _ | with_reducible refine bel_drew ?_ | with_reducible refine bel_drewN ?_ _ | (with_reducible refine bel_set ?_ ?_ _; rotate_left; ((try simp); (try omega))))))).mono ?_; rintro e w1 ⟨rfl, hb1⟩; obtain ⟨hc1, hf1, hz1⟩ := bcell hb1; (try simp at hz1); have hs0 : w.heap.size < w1.heap.size := (by omega); have hs1 : w.heap.size + 1 < w1.heap.size := (by omega); have hB1 : Below w.heap.size w w1 := (bel_then (by repeat (first | with_reducible exact Below.refl _ _ | with_reducible assumption | with_reducible refine bel_alloc ?_ _ | with_reducible refine bel_drew ?_ | with_reducible refine bel_drewN ?_ _ | (with_reducible refine bel_set ?_ ?_ _; rotate_left; ((try simp); (try omega))))) hb1); clear hb1) | (go_at_call 69; refine (equalInts_any _ _ x.regs y.regs _ _ _ (by exact Cod.bel m2 (by repeat (first | with_reducible exact Below.refl _ _ | with_reducible assumption | with_reducible refine bel_alloc ?_ _ | with_reducible refine bel_drew ?_ | with_reducible refine bel_drewN ?_ _ | (with_reducible refine bel_set ?_ ?_ _; rotate_left; ((try simp); (try omega)))))) (by exact Cod.bel p2 (by repeat (first | with_reducible exact Below.refl _ _ | with_reducible assumption | with_reducible refine bel_alloc ?_ _ | with_reducible refine bel_drew ?_ | with_reducible refine bel_drewN ?_ _ | (with_reducible refine bel_set ?_ ?_ _; rotate_left; ((try simp); (try omega))))))).mono ?_; rintro e w1 ⟨rfl, hb1⟩; obtain ⟨hc1, hf1, hz1⟩ := bcell hb1; (try simp at hz1); have hs0 : w.heap.size < w1.heap.size := (by omega); have hs1 : w.heap.size + 1 < w1.heap.size := (by omega); have hB1 : Below w.heap.size w w1 := (bel_then (by repeat (first | with_reducible exact Below.refl _ _ | with_reducible assumption | with_reducible refine bel_alloc ?_ _ | with_reducible refine bel_drew ?_ | with_reducible refine bel_drewN ?_ _ | (with_reducible refine bel_set ?_ ?_ _; rotate_left; ((try simp); (try omega))))) hb1); clear hb1))
        go_ret
        exact ⟨ret_bool (by rw [HE.out]; simp [*]), (by repeat (first | with_reducible exact Below.refl _ _ | with_reducible assumption | with_reducible refine bel_alloc ?_ _ | with_reducible refine bel_drew ?_ | with_reducible refine bel_drewN ?_ _ | (with_reducible refine bel_set ?_ ?_ _; rotate_left; ((try simp); (try omega)))))⟩
      ·
        cases e4 : (x.steps == y.steps)
        · go_enter Try.func33, Try.ntmps33
          go_wp2_with (first | (go_at_call 68; refine (equalInss_any _ _ x.script y.script _ _ _ (by exact Cod.bel m0 (by repeat (first | with_reducible exact Below.refl _ _ | with_reducible assumption | with_reducible refine bel_alloc ?_ _ | with_reducible refine bel_drew ?_ | with_reducible refine bel_drewN ?_ _ | (with_reducible refine bel_set ?_ ?_ _; rotate_left; ((try simp); (try omega)))))) (by exact Cod.bel p0 (by repeat (first | with_reducible exact Below.refl _ _ | with_reducible assumption | with_reducible refine bel_alloc ?_ _ | with_reducible refine bel_drew ?_ | with_reducible refine bel_drewN ?_ _ | (with_reducible refine bel_set ?_ ?_ _; rotate_left; ((try simp); (try omega))))))).mono ?_; rintro e w1 ⟨rfl, hb1⟩; obtain ⟨hc1, hf1, hz1⟩ := bcell hb1; (try simp at hz1); have hs0 : w.heap.size < w1.heap.size := (by omega); have hs1 : w.heap.size + 1 < w1.heap.size := (by omega); have hB1 : Below w.heap.size w w1 := (bel_then (by repeat (first | with_reducible exact Below.refl _ _ | with_reducible assumption | with_reducible refine bel_alloc ?_ _ | with_reducible refine bel_drew ?_ | with_reducible refine bel_drewN ?_ _ | (with_reducible refine bel_set ?_ ?_ _; rotate_left; ((try simp); (try omega))))) hb1); clear hb1) | (go_at_call 69; refine (equalInts_any _ _ x.regs y.regs _ _ _ (by exact Cod.bel m2 (by repeat (first | with_reducible exact Below.refl _ _ | with_reducible assumption | with_reducible refine bel_alloc ?_ _ | with_reducible refine bel_drew ?_ | with_reducible refine bel_drewN ?_ _ | (with_reducible refine bel_set ?_ ?_ _; rotate_left; ((try simp); (try omega)))))) (by exact Cod.bel p2 (by repeat (first | with_reducible exact Below.refl _ _ | with_reducible assumption | with_reducible refine bel_alloc ?_ _ | with_reducible refine bel_drew ?_ | with_reducible refine bel_drewN ?_ _ | (with_reducible refine bel_set ?_ ?_ _; rotate_left; ((try simp); (try omega))))))).mono ?_; rintro e w1 ⟨rfl, hb1⟩; obtain ⟨hc1, hf1, hz1⟩ := bcell hb1; (try simp at hz1); have hs0 : w.heap.size < w1.heap.size := (by omega); have hs1 : w.heap.size + 1 < w1.heap.size := (by omega); have hB1 : Below w.heap.size w w1 := (bel_then (by repeat (first | with_reducible exact Below.refl _ _ | with_reducible assumption | with_reducible refine bel_alloc ?_ _ | with_reducible refine bel_drew ?_ | with_reducible refine bel_drewN ?_ _ | (with_reducible refine bel_set ?_ ?_ _; rotate_left; ((try simp); (try omega))))) hb1); clear hb1))
          go_ret
          exact ⟨ret_bool (by rw [HE.out]; simp [*]), (by repeat (first | with_reducible exact Below.refl _ _ | with_reducible assumption | with_reducible refine bel_alloc ?_ _ | with_reducible refine bel_drew ?_ | with_reducible refine bel_drewN ?_ _ | (with_reducible refine bel_set ?_ ?_ _; rotate_left; ((try simp); (try omega)))))⟩
        ·
          cases e5 : (x.done == y.done)
          · go_enter Try.func33, Try.ntmps33
            go_wp2_with (first | (go_at_call 68; refine (equalInss_any _ _ x.script y.script _ _ _ (by exact Cod.bel m0 (by repeat (first | with_reducible exact Below.refl _ _ | with_reducible assumption | with_reducible refine bel_alloc ?_ _ | with_reducible refine bel_drew ?_ | with_reducible refine bel_drewN ?_ _ | (with_reducible refine bel_set ?_ ?_ _; rotate_left; ((try simp); (try omega)))))) (by exact Cod.bel p0 (by repeat (first | with_reducible exact Below.refl _ _ | with_reducible assumption | with_reducible refine bel_alloc ?_ _ | with_reducible refine bel_drew ?_ | with_reducible refine bel_drewN ?_ _ | (with_reducible refine bel_set ?_ ?_ _; rotate_left; ((try simp); (try omega))))))).mono ?_; rintro e w1 ⟨rfl, hb1⟩; obtain ⟨hc1, hf1, hz1⟩ := bcell hb1; (try simp at hz1); have hs0 : w.heap.size < w1.heap.size := (by omega); have hs1 : w.heap.size + 1 < w1.heap.size := (by omega); have hB1 : Below w.heap.size w w1 := (bel_then (by repeat (first | with_reducible exact Below.refl _ _ | with_reducible assumption | with_reducible refine bel_alloc ?_ _ | with_reducible refine bel_drew ?_ | with_reducible refine bel_drewN ?_ _ | (with_reducible refine bel_set ?_ ?_ _; rotate_left; ((try simp); (try omega))))) hb1); clear hb1) | (go_at_call 69; refine (equalInts_any _ _ x.regs y.regs _ _ _ (by exact Cod.bel m2 (by repeat (first | with_reducible exact Below.refl _ _ | with_reducible assumption | with_reducible refine bel_alloc ?_ _ | with_reducible refine bel_drew ?_ | with_reducible refine bel_drewN ?_ _ | (with_reducible refine bel_set ?_ ?_ _; rotate_left; ((try simp); (try omega)))))) (by exact Cod.bel p2 (by repeat (first | with_reducible exact Below.refl _ _ | with_reducible assumption | with_reducible refine bel_alloc ?_ _ | with_reducible refine bel_drew ?_ | with_reducible refine bel_drewN ?_ _ | (with_reducible refine bel_set ?_ ?_ _; rotate_left; ((try simp); (try omega))))))).mono ?_; rintro e w1 ⟨rfl, hb1⟩; obtain ⟨hc1, hf1, hz1⟩ := bcell hb1; (try simp at hz1); have hs0 : w.heap.size < w1.heap.size := (by omega); have hs1 : w.heap.size + 1 < w1.heap.size := (by omega); have hB1 : Below w.heap.size w w1 := (bel_then (by repeat (first | with_reducible exact Below.refl _ _ | with_reducible assumption | with_reducible refine bel_alloc ?_ _ | with_reducible refine bel_drew ?_ | with_reducible refine bel_drewN ?_ _ | (with_reducible refine bel_set ?_ ?_ _; rotate_left; ((try simp); (try omega))))) hb1); clear hb1))
            go_ret
            exact ⟨ret_bool (by rw [HE.out]; simp [*]), (by repeat (first | with_reducible exact Below.refl _ _ | with_reducible assumption | with_reducible refine bel_alloc ?_ _ | with_reducible refine bel_drew ?_ | with_reducible refine bel_drewN ?_ _ | (with_reducible refine bel_set ?_ ?_ _; rotate_left; ((try simp); (try omega)))))⟩
          ·
            cases e6 : (x.wait == y.wait)
            · go_enter Try.func33, Try.ntmps33
              go_wp2_with (first | (go_at_call 68; refine (equalInss_any _ _ x.script y.script _ _ _ (by exact Cod.bel m0 (by repeat (first | with_reducible exact Below.refl _ _ | with_reducible assumption | with_reducible refine bel_alloc ?_ _ | with_reducible refine bel_drew ?_ | with_reducible refine bel_drewN ?_ _ | (with_reducible refine bel_set ?_ ?_ _; rotate_left; ((try simp); (try omega)))))) (by exact Cod.bel p0 (by repeat (first | with_reducible exact Below.refl _ _ | with_reducible assumption | with_reducible refine bel_alloc ?_ _ | with_reducible refine bel_drew ?_ | with_reducible refine bel_drewN ?_ _ | (with_reducible refine bel_set ?_ ?_ _; rotate_left; ((try simp); (try omega))))))).mono ?_; rintro e w1 ⟨rfl, hb1⟩; obtain ⟨hc1, hf1, hz1⟩ := bcell hb1; (try simp at hz1); have hs0 : w.heap.size < w1.heap.size := (by omega); have hs1 : w.heap.size + 1 < w1.heap.size := (by omega); have hB1 : Below w.heap.size w w1 := (bel_then (by repeat (first | with_reducible exact Below.refl _ _ | with_reducible assumption | with_reducible refine bel_alloc ?_ _ | with_reducible refine bel_drew ?_ | with_reducible refine bel_drewN ?_ _ | (with_reducible refine bel_set ?_ ?_ _; rotate_left; ((try simp); (try omega))))) hb1); clear hb1) | (go_at_call 69; refine (equalInts_any _ _ x.regs y.regs _ _ _ (by exact Cod.bel m2 (by repeat (first | with_reducible exact Below.refl _ _ | with_reducible assumption | with_reducible refine bel_alloc ?_ _ | with_reducible refine bel_drew ?_ | with_reducible refine bel_drewN ?_ _ | (with_reducible refine bel_set ?_ ?_ _; rotate_left; ((try simp); (try omega)))))) (by exact Cod.bel p2 (by repeat (first | with_reducible exact Below.refl _ _ | with_reducible assumption | with_reducible refine bel_alloc ?_ _ | with_reducible refine bel_drew ?_ | with_reducible refine bel_drewN ?_ _ | (with_reducible refine bel_set ?_ ?_ _; rotate_left; ((try simp); (try omega))))))).mono ?_; rintro e w1 ⟨rfl, hb1⟩; obtain ⟨hc1, hf1, hz1⟩ := bcell hb1; (try simp at hz1); have hs0 : w.heap.size < w1.heap.size := (by omega); have hs1 : w.heap.size + 1 < w1.heap.size := (by omega); have hB1 : Below w.heap.size w w1 := (bel_then (by repeat (first | with_reducible exact Below.refl _ _ | with_reducible assumption | with_reducible refine bel_alloc ?_ _ | with_reducible refine bel_drew ?_ | with_reducible refine bel_drewN ?_ _ | (with_reducible refine bel_set ?_ ?_ _; rotate_left; ((try simp); (try omega))))) hb1); clear hb1))
              go_ret
              exact ⟨ret_bool (by rw [HE.out]; simp [*]), (by repeat (first | with_reducible exact Below.refl _ _ | with_reducible assumption | with_reducible refine bel_alloc ?_ _ | with_reducible refine bel_drew ?_ | with_reducible refine bel_drewN ?_ _ | (with_reducible refine bel_set ?_ ?_ _; rotate_left; ((try simp); (try omega)))))⟩
            ·
              go_enter Try.func33, Try.ntmps33
              go_wp2_with (first | (go_at_call 68; refine (equalInss_any _ _ x.script y.script _ _ _ (by exact Cod.bel m0 (by repeat (first | with_reducible exact Below.refl _ _ | with_reducible assumption | with_reducible refine bel_alloc ?_ _ | with_reducible refine bel_drew ?_ | with_reducible refine bel_drewN ?_ _ | (with_reducible refine bel_set ?_ ?_ _; rotate_left; ((try simp); (try omega)))))) (by exact Cod.bel p0 (by repeat (first | with_reducible exact Below.refl _ _ | with_reducible assumption | with_reducible refine bel_alloc ?_ _ | with_reducible refine bel_drew ?_ | with_reducible refine bel_drewN ?_ _ | (with_reducible refine bel_set ?_ ?_ _; rotate_left; ((try simp); (try omega))))))).mono ?_; rintro e w1 ⟨rfl, hb1⟩; obtain ⟨hc1, hf1, hz1⟩ := bcell hb1; (try simp at hz1); have hs0 : w.heap.size < w1.heap.size := (by omega); have hs1 : w.heap.size + 1 < w1.heap.size := (by omega); have hB1 : Below w.heap.size w w1 := (bel_then (by repeat (first | with_reducible exact Below.refl _ _ | with_reducible assumption | with_reducible refine bel_alloc ?_ _ | with_reducible refine bel_drew ?_ | with_reducible refine bel_drewN ?_ _ | (with_reducible refine bel_set ?_ ?_ _; rotate_left; ((try simp); (try omega))))) hb1); clear hb1) | (go_at_call 69; refine (equalInts_any _ _ x.regs y.regs _ _ _ (by exact Cod.bel m2 (by repeat (first | with_reducible exact Below.refl _ _ | with_reducible assumption | with_reducible refine bel_alloc ?_ _ | with_reducible refine bel_drew ?_ | with_reducible refine bel_drewN ?_ _ | (with_reducible refine bel_set ?_ ?_ _; rotate_left; ((try simp); (try omega)))))) (by exact Cod.bel p2 (by repeat (first | with_reducible exact Below.refl _ _ | with_reducible assumption | with_reducible refine bel_alloc ?_ _ | with_reducible refine bel_drew ?_ | with_reducible refine bel_drewN ?_ _ | (with_reducible refine bel_set ?_ ?_ _; rotate_left; ((try simp); (try omega))))))).mono ?_; rintro e w1 ⟨rfl, hb1⟩; obtain ⟨hc1, hf1, hz1⟩ := bcell hb1; (try simp at hz1); have hs0 : w.heap.size < w1.heap.size := (by omega); have hs1 : w.heap.size + 1 < w1.heap.size := (by omega); have hB1 : Below w.heap.size w w1 := (bel_then (by repeat (first | with_reducible exact Below.refl _ _ | with_reducible assumption | with_reducible refine bel_alloc ?_ _ | with_reducible refine bel_drew ?_ | with_reducible refine bel_drewN ?_ _ | (with_reducible refine bel_set ?_ ?_ _; rotate_left; ((try simp); (try omega))))) hb1); clear hb1))
              go_ret
              exact ⟨ret_bool (by rw [HE.out]; simp [*]), (by repeat (first | with_reducible exact Below.refl _ _ | with_reducible assumption | with_reducible refine bel_alloc ?_ _ | with_reducible refine bel_drew ?_ | with_reducible refine bel_drewN ?_ _ | (with_reducible refine bel_set ?_ ?_ _; rotate_left; ((try simp); (try omega)))))⟩
theorem bnx (a b : Bool) : (a == b) = !(a ^^ b) := by cases a <;> cases b <;> rfl
set_option maxRecDepth 100000 in
set_option maxHeartbeats 8000000 in
theorem specEqualMachines_any (vs : Array Value) (x : TMach) (F : List Nat) (vs2 : Array Value) (y : TMach) (F2 : List Nat) (w : World) (h : cMach.rep w vs.toList x F) (hn : cMach.sz x ≤ 1048576) (h2 : cMach.rep w vs2.toList y F2) (hn2 : cMach.sz y ≤ 1048576) :
    Calls Try.prog 31 #[.agg vs, .agg vs2] w (Gives w (.bool (machEq x y))) := by
  obtain ⟨u0, u2, E0, E2, rfl, -, -, m0, m2⟩ := TMach.outA h
  obtain ⟨A0, c0, rfl⟩ := cL_form m0
  obtain ⟨A2, c2, rfl⟩ := cL_form m2
  obtain ⟨v0, v2, G0, G2, rfl, -, -, p0, p2⟩ := TMach.outA h2
  obtain ⟨B0, d0, rfl⟩ := cL_form p0
  obtain ⟨B2, d2, rfl⟩ := cL_form p2
  clear h h2
  obtain ⟨-, hcp, hm⟩ := cL_len m0
  obtain ⟨-, hcp2, hm2⟩ := cL_len p0
  obtain ⟨n, hxn⟩ : ∃ n, x.script.length = n := ⟨_, rfl⟩
  obtain ⟨m, hxm⟩ : ∃ m, y.script.length = m := ⟨_, rfl⟩
  have HN := Lib.hid hxn
  have HM := Lib.hid hxm
  rw [hxn] at hcp ⊢
  rw [hxm] at hcp2 ⊢
  clear hxn hxm
  unfold maxLen at hm hm2
  have HE := Lib.hid (show machEq x y = (inssEq x.script y.script && !(x.pc != y.pc) && intsEq x.regs y.regs && !(x.steps != y.steps) && x.done == y.done && x.wait == y.wait) by simp [machEq, bne])
  have HL := Lib.hid (show n ≠ m → inssEq x.script y.script = false from fun hne => eqBy_len eqIns _ _ (by rw [HN.out, HM.out]; exact hne))
  cases e1 : ((n : Int) != (m : Int))
  case true =>
    have HR := Lib.hid (show machEq x y = false by
      rw [HE.out]
      first
        | (simp [*]; done)
        | (have hne : n ≠ m := (by intro e; simp [e] at e1)
           simp [HL.out hne]; done))
    go_enter Try.func31, Try.ntmps31
    go_wp2_with (first | (go_at_call 67; refine (specEqualInts_any _ _ x.regs y.regs _ _ _ (by exact Cod.bel m2 (by repeat (first | with_reducible exact Below.refl _ _ | with_reducible assumption | with_reducible refine bel_alloc ?_ _ | with_reducible refine bel_drew ?_ | with_reducible refine bel_drewN ?_ _ | (with_reducible refine bel_set ?_ ?_ _; rotate_left; ((try simp); (try omega)))))) (by exact Cod.bel p2 (by repeat (first | with_reducible exact Below.refl _ _ | with_reducible assumption | with_reducible refine bel_alloc ?_ _ | with_reducible refine bel_drew ?_ | with_reducible refine bel_drewN ?_ _ | (with_reducible refine bel_set ?_ ?_ _; rotate_left; ((try simp); (try omega))))))).mono ?_; rintro e w1 ⟨rfl, hb1⟩; obtain ⟨hc1, hf1, hz1⟩ := bcell hb1; (try simp at hz1); have hs0 : w.heap.size < w1.heap.size := (by omega); have hs1 : w.heap.size + 1 < w1.heap.size := (by omega); have hB1 : Below w.heap.size w w1 := (bel_then (by repeat (first | with_reducible exact Below.refl _ _ | with_reducible assumption | with_reducible refine bel_alloc ?_ _ | with_reducible refine bel_drew ?_ | with_reducible refine bel_drewN ?_ _ | (with_reducible refine bel_set ?_ ?_ _; rotate_left; ((try simp); (try omega))))) hb1); clear hb1))
    go_ret
    exact ⟨ret_bool HR.out.symm, (by repeat (first | with_reducible exact Below.refl _ _ | with_reducible assumption | with_reducible refine bel_alloc ?_ _ | with_reducible refine bel_drew ?_ | with_reducible refine bel_drewN ?_ _ | (with_reducible refine bel_set ?_ ?_ _; rotate_left; ((try simp); (try omega)))))⟩
  case false =>
    cases e2 : (x.pc != y.pc)
    case true =>
      have HR := Lib.hid (show machEq x y = false by
        rw [HE.out]
        first
          | (simp [*]; done)
          | (have hne : n ≠ m := (by intro e; simp [e] at e1)
             simp [HL.out hne]; done))
      go_enter Try.func31, Try.ntmps31
      go_wp2_with (first | (go_at_call 67; refine (specEqualInts_any _ _ x.regs y.regs _ _ _ (by exact Cod.bel m2 (by repeat (first | with_reducible exact Below.refl _ _ | with_reducible assumption | with_reducible refine bel_alloc ?_ _ | with_reducible refine bel_drew ?_ | with_reducible refine bel_drewN ?_ _ | (with_reducible refine bel_set ?_ ?_ _; rotate_left; ((try simp); (try omega)))))) (by exact Cod.bel p2 (by repeat (first | with_reducible exact Below.refl _ _ | with_reducible assumption | with_reducible refine bel_alloc ?_ _ | with_reducible refine bel_drew ?_ | with_reducible refine bel_drewN ?_ _ | (with_reducible refine bel_set ?_ ?_ _; rotate_left; ((try simp); (try omega))))))).mono ?_; rintro e w1 ⟨rfl, hb1⟩; obtain ⟨hc1, hf1, hz1⟩ := bcell hb1; (try simp at hz1); have hs0 : w.heap.size < w1.heap.size := (by omega); have hs1 : w.heap.size + 1 < w1.heap.size := (by omega); have hB1 : Below w.heap.size w w1 := (bel_then (by repeat (first | with_reducible exact Below.refl _ _ | with_reducible assumption | with_reducible refine bel_alloc ?_ _ | with_reducible refine bel_drew ?_ | with_reducible refine bel_drewN ?_ _ | (with_reducible refine bel_set ?_ ?_ _; rotate_left; ((try simp); (try omega))))) hb1); clear hb1))
      go_ret
      exact ⟨ret_bool HR.out.symm, (by repeat (first | with_reducible exact Below.refl _ _ | with_reducible assumption | with_reducible refine bel_alloc ?_ _ | with_reducible refine bel_drew ?_ | with_reducible refine bel_drewN ?_ _ | (with_reducible refine bel_set ?_ ?_ _; rotate_left; ((try simp); (try omega)))))⟩
    case false =>
      cases e3 : (intsEq x.regs y.regs)
      · have HR := Lib.hid (show machEq x y = false by
          rw [HE.out]
          first
            | (simp [*]; done)
            | (have hne : n ≠ m := (by intro e; simp [e] at e1)
               simp [HL.out hne]; done))
        go_enter Try.func31, Try.ntmps31
        go_wp2_with (first | (go_at_call 67; refine (specEqualInts_any _ _ x.regs y.regs _ _ _ (by exact Cod.bel m2 (by repeat (first | with_reducible exact Below.refl _ _ | with_reducible assumption | with_reducible refine bel_alloc ?_ _ | with_reducible refine bel_drew ?_ | with_reducible refine bel_drewN ?_ _ | (with_reducible refine bel_set ?_ ?_ _; rotate_left; ((try simp); (try omega)))))) (by exact Cod.bel p2 (by repeat (first | with_reducible exact Below.refl _ _ | with_reducible assumption | with_reducible refine bel_alloc ?_ _ | with_reducible refine bel_drew ?_ | with_reducible refine bel_drewN ?_ _ | (with_reducible refine bel_set ?_ ?_ _; rotate_left; ((try simp); (try omega))))))).mono ?_; rintro e w1 ⟨rfl, hb1⟩; obtain ⟨hc1, hf1, hz1⟩ := bcell hb1; (try simp at hz1); have hs0 : w.heap.size < w1.heap.size := (by omega); have hs1 : w.heap.size + 1 < w1.heap.size := (by omega); have hB1 : Below w.heap.size w w1 := (bel_then (by repeat (first | with_reducible exact Below.refl _ _ | with_reducible assumption | with_reducible refine bel_alloc ?_ _ | with_reducible refine bel_drew ?_ | with_reducible refine bel_drewN ?_ _ | (with_reducible refine bel_set ?_ ?_ _; rotate_left; ((try simp); (try omega))))) hb1); clear hb1))
        go_ret
        exact ⟨ret_bool HR.out.symm, (by repeat (first | with_reducible exact Below.refl _ _ | with_reducible assumption | with_reducible refine bel_alloc ?_ _ | with_reducible refine bel_drew ?_ | with_reducible refine bel_drewN ?_ _ | (with_reducible refine bel_set ?_ ?_ _; rotate_left; ((try simp); (try omega)))))⟩
      ·
        cases e4 : (x.steps != y.steps)
        case true =>
          have HR := Lib.hid (show machEq x y = false by
            rw [HE.out]
            first
              | (simp [*]; done)
              | (have hne : n ≠ m := (by intro e; simp [e] at e1)
                 simp [HL.out hne]; done))
          go_enter Try.func31, Try.ntmps31
          go_wp2_with (first | (go_at_call 67; refine (specEqualInts_any _ _ x.regs y.regs _ _ _ (by exact Cod.bel m2 (by repeat (first | with_reducible exact Below.refl _ _ | with_reducible assumption | with_reducible refine bel_alloc ?_ _ | with_reducible refine bel_drew ?_ | with_reducible refine bel_drewN ?_ _ | (with_reducible refine bel_set ?_ ?_ _; rotate_left; ((try simp); (try omega)))))) (by exact Cod.bel p2 (by repeat (first | with_reducible exact Below.refl _ _ | with_reducible assumption | with_reducible refine bel_alloc ?_ _ | with_reducible refine bel_drew ?_ | with_reducible refine bel_drewN ?_ _ | (with_reducible refine bel_set ?_ ?_ _; rotate_left; ((try simp); (try omega))))))).mono ?_; rintro e w1 ⟨rfl, hb1⟩; obtain ⟨hc1, hf1, hz1⟩ := bcell hb1; (try simp at hz1); have hs0 : w.heap.size < w1.heap.size := (by omega); have hs1 : w.heap.size + 1 < w1.heap.size := (by omega); have hB1 : Below w.heap.size w w1 := (bel_then (by repeat (first | with_reducible exact Below.refl _ _ | with_reducible assumption | with_reducible refine bel_alloc ?_ _ | with_reducible refine bel_drew ?_ | with_reducible refine bel_drewN ?_ _ | (with_reducible refine bel_set ?_ ?_ _; rotate_left; ((try simp); (try omega))))) hb1); clear hb1))
          go_ret
          exact ⟨ret_bool HR.out.symm, (by repeat (first | with_reducible exact Below.refl _ _ | with_reducible assumption | with_reducible refine bel_alloc ?_ _ | with_reducible refine bel_drew ?_ | with_reducible refine bel_drewN ?_ _ | (with_reducible refine bel_set ?_ ?_ _; rotate_left; ((try simp); (try omega)))))⟩
        case false =>
          cases e5 : (x.done == y.done)
          · have HR := Lib.hid (show machEq x y = false by
              rw [HE.out]
              first
                | (simp [*]; done)
                | (have hne : n ≠ m := (by intro e; simp [e] at e1)
                   simp [HL.out hne]; done))
            go_enter Try.func31, Try.ntmps31
            go_wp2_with (first | (go_at_call 67; refine (specEqualInts_any _ _ x.regs y.regs _ _ _ (by exact Cod.bel m2 (by repeat (first | with_reducible exact Below.refl _ _ | with_reducible assumption | with_reducible refine bel_alloc ?_ _ | with_reducible refine bel_drew ?_ | with_reducible refine bel_drewN ?_ _ | (with_reducible refine bel_set ?_ ?_ _; rotate_left; ((try simp); (try omega)))))) (by exact Cod.bel p2 (by repeat (first | with_reducible exact Below.refl _ _ | with_reducible assumption | with_reducible refine bel_alloc ?_ _ | with_reducible refine bel_drew ?_ | with_reducible refine bel_drewN ?_ _ | (with_reducible refine bel_set ?_ ?_ _; rotate_left; ((try simp); (try omega))))))).mono ?_; rintro e w1 ⟨rfl, hb1⟩; obtain ⟨hc1, hf1, hz1⟩ := bcell hb1; (try simp at hz1); have hs0 : w.heap.size < w1.heap.size := (by omega); have hs1 : w.heap.size + 1 < w1.heap.size := (by omega); have hB1 : Below w.heap.size w w1 := (bel_then (by repeat (first | with_reducible exact Below.refl _ _ | with_reducible assumption | with_reducible refine bel_alloc ?_ _ | with_reducible refine bel_drew ?_ | with_reducible refine bel_drewN ?_ _ | (with_reducible refine bel_set ?_ ?_ _; rotate_left; ((try simp); (try omega))))) hb1); clear hb1))
            go_ret
            exact ⟨ret_bool HR.out.symm, (by repeat (first | with_reducible exact Below.refl _ _ | with_reducible assumption | with_reducible refine bel_alloc ?_ _ | with_reducible refine bel_drew ?_ | with_reducible refine bel_drewN ?_ _ | (with_reducible refine bel_set ?_ ?_ _; rotate_left; ((try simp); (try omega)))))⟩
          ·
            cases e6 : (x.wait == y.wait)
            · have HR := Lib.hid (show machEq x y = false by
                rw [HE.out]
                first
                  | (simp [*]; done)
                  | (have hne : n ≠ m := (by intro e; simp [e] at e1)
                     simp [HL.out hne]; done))
              go_enter Try.func31, Try.ntmps31
              go_wp2_with (first | (go_at_call 67; refine (specEqualInts_any _ _ x.regs y.regs _ _ _ (by exact Cod.bel m2 (by repeat (first | with_reducible exact Below.refl _ _ | with_reducible assumption | with_reducible refine bel_alloc ?_ _ | with_reducible refine bel_drew ?_ | with_reducible refine bel_drewN ?_ _ | (with_reducible refine bel_set ?_ ?_ _; rotate_left; ((try simp); (try omega)))))) (by exact Cod.bel p2 (by repeat (first | with_reducible exact Below.refl _ _ | with_reducible assumption | with_reducible refine bel_alloc ?_ _ | with_reducible refine bel_drew ?_ | with_reducible refine bel_drewN ?_ _ | (with_reducible refine bel_set ?_ ?_ _; rotate_left; ((try simp); (try omega))))))).mono ?_; rintro e w1 ⟨rfl, hb1⟩; obtain ⟨hc1, hf1, hz1⟩ := bcell hb1; (try simp at hz1); have hs0 : w.heap.size < w1.heap.size := (by omega); have hs1 : w.heap.size + 1 < w1.heap.size := (by omega); have hB1 : Below w.heap.size w w1 := (bel_then (by repeat (first | with_reducible exact Below.refl _ _ | with_reducible assumption | with_reducible refine bel_alloc ?_ _ | with_reducible refine bel_drew ?_ | with_reducible refine bel_drewN ?_ _ | (with_reducible refine bel_set ?_ ?_ _; rotate_left; ((try simp); (try omega))))) hb1); clear hb1))
              go_ret
              exact ⟨ret_bool HR.out.symm, (by repeat (first | with_reducible exact Below.refl _ _ | with_reducible assumption | with_reducible refine bel_alloc ?_ _ | with_reducible refine bel_drew ?_ | with_reducible refine bel_drewN ?_ _ | (with_reducible refine bel_set ?_ ?_ _; rotate_left; ((try simp); (try omega)))))⟩
            ·
              have hnm : n = m := by (have h9 : (n : Int) = m := (by simpa using e1)); omega
              subst hnm
              have HR := Lib.hid (show machEq x y = inssEq x.script y.script by rw [HE.out, e2, e3, e4, e5, e6]; simp)
              go_enter Try.func31, Try.ntmps31
              go_wp2_with fail
              refine (specEqualInts_any _ _ x.regs y.regs _ _ _ (by exact Cod.bel m2 (by repeat (first | with_reducible exact Below.refl _ _ | with_reducible assumption | with_reducible refine bel_alloc ?_ _ | with_reducible refine bel_drew ?_ | with_reducible refine bel_drewN ?_ _ | (with_reducible refine bel_set ?_ ?_ _; rotate_left; ((try simp); (try omega)))))) (by exact Cod.bel p2 (by repeat (first | with_reducible exact Below.refl _ _ | with_reducible assumption | with_reducible refine bel_alloc ?_ _ | with_reducible refine bel_drew ?_ | with_reducible refine bel_drewN ?_ _ | (with_reducible refine bel_set ?_ ?_ _; rotate_left; ((try simp); (try omega))))))).mono ?_
              rintro e w1 ⟨rfl, hb1⟩
              have hz_w1 := hb1.size
              (try simp at hz_w1)
              have ha0_w1 : w.heap.size < w1.heap.size := by omega
              have ha1_w1 : w.heap.size + 1 < w1.heap.size := by omega
              obtain ⟨hc_w1, hf_w1, -⟩ := bcell hb1
              have hb_w1 : Below w.heap.size w w1 := bel_then (by repeat (first | with_reducible exact Below.refl _ _ | with_reducible assumption | with_reducible refine bel_alloc ?_ _ | with_reducible refine bel_drew ?_ | with_reducible refine bel_drewN ?_ _ | (with_reducible refine bel_set ?_ ?_ _; rotate_left; ((try simp); (try omega))))) hb1
              clear hb1
              have k0 : w1.cell? ⟨w.heap.size, 0, none⟩ = some (.slice A0 n c0) := by go_simp
              have k1 : w1.cell? ⟨w.heap.size, 1, none⟩ = some (.int .i64 x.pc) := by go_simp
              have k2 : w1.cell? ⟨w.heap.size, 2, none⟩ = some (.slice A2 x.regs.length c2) := by go_simp
              have k3 : w1.cell? ⟨w.heap.size, 3, none⟩ = some (.int .i64 x.steps) := by go_simp
              have k4 : w1.cell? ⟨w.heap.size, 4, none⟩ = some (.bool x.done) := by go_simp
              have k5 : w1.cell? ⟨w.heap.size, 5, none⟩ = some (.bool x.wait) := by go_simp
              have j0 : w1.cell? ⟨w.heap.size + 1, 0, none⟩ = some (.slice B0 n d0) := by go_simp
              have j1 : w1.cell? ⟨w.heap.size + 1, 1, none⟩ = some (.int .i64 y.pc) := by go_simp
              have j2 : w1.cell? ⟨w.heap.size + 1, 2, none⟩ = some (.slice B2 y.regs.length d2) := by go_simp
              have j3 : w1.cell? ⟨w.heap.size + 1, 3, none⟩ = some (.int .i64 y.steps) := by go_simp
              have j4 : w1.cell? ⟨w.heap.size + 1, 4, none⟩ = some (.bool y.done) := by go_simp
              have j5 : w1.cell? ⟨w.heap.size + 1, 5, none⟩ = some (.bool y.wait) := by go_simp
              clear hc_w1 hf_w1
              go_wp2_with fail
              go_loopw [5] (fun i wr => ∃ k : Nat, k ≤ n ∧ i = .int .i64 k ∧ sameTo eqIns x.script y.script k ∧ Below w1.heap.size w1 wr) (fun i _ => n - (intOf i).toNat)
              case atStart => exact ⟨0, Nat.zero_le _, rfl, sameTo_zero _ _ _, Below.refl _ _⟩
              case round =>
                obtain ⟨k, hk, rfl, hsm, hB⟩ := hrel
                have HS := Lib.hid hsm
                clear hsm
                have hbw : Below w.heap.size w wr := bel_then hb_w1 hB
                have t0 := (hB.cell (p := ⟨w.heap.size, 0, none⟩) (by (try simp); (try omega))).trans k0
                have t1 := (hB.cell (p := ⟨w.heap.size + 1, 0, none⟩) (by (try simp); (try omega))).trans j0
                by_cases hlt : k < n
                · have hkx : k < x.script.length := by rw [HN.out]; exact hlt
                  have hky : k < y.script.length := by rw [HM.out]; exact hlt
                  obtain ⟨g, o, vs, H1, rfl, -, hx, -, hc⟩ := cL_get (hw := by decide) (hw2 := by decide) (Cod.bel m0 hbw) hkx
                  obtain ⟨g2, o2, vs2, H2, rfl, -, hx2, -, hc2⟩ := cL_get (hw := by decide) (hw2 := by decide) (Cod.bel p0 hbw) hky
                  obtain ⟨rfl, -, hok⟩ := TIns.out hx
                  obtain ⟨rfl, -, hok2⟩ := TIns.out hx2
                  have q0 : wr.cell? ⟨g, o + k * 4, none⟩ = some _ := (hc 0 _ rfl).1
                  have q1 : wr.cell? ⟨g, o + k * 4 + 1, none⟩ = some _ := (hc 1 _ rfl).1
                  have q2 : wr.cell? ⟨g, o + k * 4 + 2, none⟩ = some _ := (hc 2 _ rfl).1
                  have q3 : wr.cell? ⟨g, o + k * 4 + 3, none⟩ = some _ := (hc 3 _ rfl).1
                  have r0 : wr.cell? ⟨g2, o2 + k * 4, none⟩ = some _ := (hc2 0 _ rfl).1
                  have r1 : wr.cell? ⟨g2, o2 + k * 4 + 1, none⟩ = some _ := (hc2 1 _ rfl).1
                  have r2 : wr.cell? ⟨g2, o2 + k * 4 + 2, none⟩ = some _ := (hc2 2 _ rfl).1
                  have r3 : wr.cell? ⟨g2, o2 + k * 4 + 3, none⟩ = some _ := (hc2 3 _ rfl).1
                  clear hc hc2 hx hx2
                  have hki : ((k : Int) < (n : Int)) := by omega
                  have hng := fun W => run_neq_ins x.script[k].kind y.script[k].kind x.script[k].r y.script[k].r x.script[k].n y.script[k].n x.script[k].text y.script[k].text W
                  have hgu := insGuard
                  cases he : eqIns x.script[k] y.script[k]
                  · rw [show (x.script[k].kind == y.script[k].kind && (x.script[k].r == y.script[k].r && (x.script[k].n == y.script[k].n && (x.script[k].text.toList == y.script[k].text.toList && true)))) = false by rw [← eqIns_and]; exact he] at hng
                    go_wp2
                    go_quiet (fail)
                    go_wp2
                    go_ret
                    exact ⟨ret_bool (by rw [HR.out]; exact (eqBy_miss eqIns _ _ k hkx hky he).symm), (by repeat (first | with_reducible exact Below.refl _ _ | with_reducible assumption | with_reducible refine bel_alloc ?_ _ | with_reducible refine bel_drew ?_ | with_reducible refine bel_drewN ?_ _ | (with_reducible refine bel_set ?_ ?_ _; rotate_left; ((try simp); (try omega)))))⟩
                  · rw [show (x.script[k].kind == y.script[k].kind && (x.script[k].r == y.script[k].r && (x.script[k].n == y.script[k].n && (x.script[k].text.toList == y.script[k].text.toList && true)))) = true by rw [← eqIns_and]; exact he] at hng
                    go_wp2
                    go_quiet (fail)
                    go_wp2
                    go_roundw
                    case rel => exact ⟨k + 1, by omega, by go_num, sameTo_succ _ _ _ _ hkx hky HS.out he, bel_drewN hB _⟩
                    case measure => simp [intOf]; omega
                · obtain rfl : k = n := by omega
                  go_wp2
                  go_ret
                  exact ⟨ret_bool (by rw [HR.out]; exact (eqBy_hit eqIns _ _ (by rw [HN.out, HM.out]) (by rw [HN.out]; exact HS.out)).symm), hbw⟩
end Go.Proofs.Ythmlgflnefellaa
