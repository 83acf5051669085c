/-
  EqualPages of the program and of the reference. No conditions.
-/
import Derived.Test.YthmlgflnefellaaTPage
import Derived.Test.YthmlgflnefellaaMachEq
import Derived.Test.YthmlgflnefellaaEqLoadeds
namespace Go.Proofs.Ythmlgflnefellaa
open Go.ChangeShapes Go.WideShapes Go.RowKit
set_option linter.unusedVariables false

def pageEq (x y : TPage) : Bool := x.id == y.id && strEq x.site y.site && strEq x.top y.top && x.ver == y.ver && loadedsEq x.loaded y.loaded && machEq x.mach y.mach
set_option maxRecDepth 100000 in
set_option maxHeartbeats 8000000 in
theorem implPageEq_any (vs : Array Value) (x : TPage) (F : List Nat) (vs2 : Array Value) (y : TPage) (F2 : List Nat) (w : World) (h : cPage.rep w vs.toList x F) (hn : cPage.sz x ≤ 1048576) (h2 : cPage.rep w vs2.toList y F2) (hn2 : cPage.sz y ≤ 1048576) :
    Calls Try.prog 85 #[.agg vs, .agg vs2] w (Gives w (.bool (pageEq x y))) := by
  obtain ⟨u4, u5, u7, E4, E5, E7, rfl, -, hokx, s4, s5, s7⟩ := TPage.outA h
  obtain ⟨A4, c4, rfl⟩ := cL_form s4
  obtain ⟨A5, c5, rfl⟩ := cL_form s5
  obtain ⟨A7, c7, rfl⟩ := cL_form s7
  obtain ⟨v4, v5, v7, G4, G5, G7, rfl, -, hoky, p4, p5, p7⟩ := TPage.outA h2
  obtain ⟨B4, d4, rfl⟩ := cL_form p4
  obtain ⟨B5, d5, rfl⟩ := cL_form p5
  obtain ⟨B7, d7, rfl⟩ := cL_form p7
  have hmx : cMach.rep w _ x.mach _ := TMach.mk_ (x := x.mach) ⟨hokx.h6, hokx.h8⟩ s5 s7
  have hmy : cMach.rep w _ y.mach _ := TMach.mk_ (x := y.mach) ⟨hoky.h6, hoky.h8⟩ p5 p7
  have hzx : cMach.sz x.mach ≤ 1048576 := by have : cPage.sz x = 0 + (x.site.size + (x.top.size + (0 + (cLoadedS.sz x.loaded + cMach.sz x.mach)))) := rfl; omega
  have hzy : cMach.sz y.mach ≤ 1048576 := by have : cPage.sz y = 0 + (y.site.size + (y.top.size + (0 + (cLoadedS.sz y.loaded + cMach.sz y.mach)))) := rfl; omega
  clear h h2 s5 s7 p5 p7
  have HE := Lib.hid (show pageEq x y = (x.id == y.id && x.site.toList == y.site.toList && x.top.toList == y.top.toList && x.ver == y.ver && loadedsEq x.loaded y.loaded && machEq x.mach y.mach) from rfl)
  cases e1 : (x.id == y.id)
  · go_enter Try.func85, Try.ntmps85
    go_wp2_with (first | (go_at_call 94; refine (equalLoadeds_any _ _ x.loaded y.loaded _ _ _ (by exact Cod.bel s4 (by repeat (first | with_reducible exact Below.refl _ _ | with_reducible assumption | with_reducible refine bel_alloc ?_ _ | with_reducible refine bel_drew ?_ | with_reducible refine bel_drewN ?_ _ | (with_reducible refine bel_set ?_ ?_ _; rotate_left; ((try simp); (try omega)))))) (by exact Cod.bel p4 (by repeat (first | with_reducible exact Below.refl _ _ | with_reducible assumption | with_reducible refine bel_alloc ?_ _ | with_reducible refine bel_drew ?_ | with_reducible refine bel_drewN ?_ _ | (with_reducible refine bel_set ?_ ?_ _; rotate_left; ((try simp); (try omega))))))).mono ?_; rintro e w1 ⟨rfl, hb1⟩; obtain ⟨hc1, hf1, hz1⟩ := bcell hb1; (try simp at hz1); have hs0 : w.heap.size < w1.heap.size := (by omega); have hs1 : w.heap.size + 1 < w1.heap.size := (by omega); have hB1 : Below w.heap.size w w1 := (bel_then (by repeat (first | with_reducible exact Below.refl _ _ | with_reducible assumption | with_reducible refine bel_alloc ?_ _ | with_reducible refine bel_drew ?_ | with_reducible refine bel_drewN ?_ _ | (with_reducible refine bel_set ?_ ?_ _; rotate_left; ((try simp); (try omega))))) hb1); clear hb1) | (go_at_call 33; refine (implEqualMachines_any _ x.mach _ _ y.mach _ _ (by exact Cod.bel hmx (by repeat (first | with_reducible exact Below.refl _ _ | with_reducible assumption | with_reducible refine bel_alloc ?_ _ | with_reducible refine bel_drew ?_ | with_reducible refine bel_drewN ?_ _ | (with_reducible refine bel_set ?_ ?_ _; rotate_left; ((try simp); (try omega)))))) hzx (by exact Cod.bel hmy (by repeat (first | with_reducible exact Below.refl _ _ | with_reducible assumption | with_reducible refine bel_alloc ?_ _ | with_reducible refine bel_drew ?_ | with_reducible refine bel_drewN ?_ _ | (with_reducible refine bel_set ?_ ?_ _; rotate_left; ((try simp); (try omega)))))) hzy).mono ?_; rintro e w1 ⟨rfl, hb1⟩; obtain ⟨hc1, hf1, hz1⟩ := bcell hb1; (try simp at hz1); have hs0 : w.heap.size < w1.heap.size := (by omega); have hs1 : w.heap.size + 1 < w1.heap.size := (by omega); have hB1 : Below w.heap.size w w1 := (bel_then (by repeat (first | with_reducible exact Below.refl _ _ | with_reducible assumption | with_reducible refine bel_alloc ?_ _ | with_reducible refine bel_drew ?_ | with_reducible refine bel_drewN ?_ _ | (with_reducible refine bel_set ?_ ?_ _; rotate_left; ((try simp); (try omega))))) hb1); clear hb1))
    go_ret
    exact ⟨ret_bool (by rw [HE.out]; simp [*]), (by repeat (first | with_reducible exact Below.refl _ _ | with_reducible assumption | with_reducible refine bel_alloc ?_ _ | with_reducible refine bel_drew ?_ | with_reducible refine bel_drewN ?_ _ | (with_reducible refine bel_set ?_ ?_ _; rotate_left; ((try simp); (try omega)))))⟩
  ·
    cases e2 : (x.site.toList == y.site.toList)
    · go_enter Try.func85, Try.ntmps85
      go_wp2_with (first | (go_at_call 94; refine (equalLoadeds_any _ _ x.loaded y.loaded _ _ _ (by exact Cod.bel s4 (by repeat (first | with_reducible exact Below.refl _ _ | with_reducible assumption | with_reducible refine bel_alloc ?_ _ | with_reducible refine bel_drew ?_ | with_reducible refine bel_drewN ?_ _ | (with_reducible refine bel_set ?_ ?_ _; rotate_left; ((try simp); (try omega)))))) (by exact Cod.bel p4 (by repeat (first | with_reducible exact Below.refl _ _ | with_reducible assumption | with_reducible refine bel_alloc ?_ _ | with_reducible refine bel_drew ?_ | with_reducible refine bel_drewN ?_ _ | (with_reducible refine bel_set ?_ ?_ _; rotate_left; ((try simp); (try omega))))))).mono ?_; rintro e w1 ⟨rfl, hb1⟩; obtain ⟨hc1, hf1, hz1⟩ := bcell hb1; (try simp at hz1); have hs0 : w.heap.size < w1.heap.size := (by omega); have hs1 : w.heap.size + 1 < w1.heap.size := (by omega); have hB1 : Below w.heap.size w w1 := (bel_then (by repeat (first | with_reducible exact Below.refl _ _ | with_reducible assumption | with_reducible refine bel_alloc ?_ _ | with_reducible refine bel_drew ?_ | with_reducible refine bel_drewN ?_ _ | (with_reducible refine bel_set ?_ ?_ _; rotate_left; ((try simp); (try omega))))) hb1); clear hb1) | (go_at_call 33; refine (implEqualMachines_any _ x.mach _ _ y.mach _ _ (by exact Cod.bel hmx (by repeat (first | with_reducible exact Below.refl _ _ | with_reducible assumption | with_reducible refine bel_alloc ?_ _ | with_reducible refine bel_drew ?_ | with_reducible refine bel_drewN ?_ _ | (with_reducible refine bel_set ?_ ?_ _; rotate_left; ((try simp); (try omega)))))) hzx (by exact Cod.bel hmy (by repeat (first | with_reducible exact Below.refl _ _ | with_reducible assumption | with_reducible refine bel_alloc ?_ _ | with_reducible refine bel_drew ?_ | with_reducible refine bel_drewN ?_ _ | (with_reducible refine bel_set ?_ ?_ _; rotate_left; ((try simp); (try omega)))))) hzy).mono ?_; rintro e w1 ⟨rfl, hb1⟩; obtain ⟨hc1, hf1, hz1⟩ := bcell hb1; (try simp at hz1); have hs0 : w.heap.size < w1.heap.size := (by omega); have hs1 : w.heap.size + 1 < w1.heap.size := (by omega); have hB1 : Below w.heap.size w w1 := (bel_then (by repeat (first | with_reducible exact Below.refl _ _ | with_reducible assumption | with_reducible refine bel_alloc ?_ _ | with_reducible refine bel_drew ?_ | with_reducible refine bel_drewN ?_ _ | (with_reducible refine bel_set ?_ ?_ _; rotate_left; ((try simp); (try omega))))) hb1); clear hb1))
      go_ret
      exact ⟨ret_bool (by rw [HE.out]; simp [*]), (by repeat (first | with_reducible exact Below.refl _ _ | with_reducible assumption | with_reducible refine bel_alloc ?_ _ | with_reducible refine bel_drew ?_ | with_reducible refine bel_drewN ?_ _ | (with_reducible refine bel_set ?_ ?_ _; rotate_left; ((try simp); (try omega)))))⟩
    ·
      cases e3 : (x.top.toList == y.top.toList)
      · go_enter Try.func85, Try.ntmps85
        go_wp2_with (first | (go_at_call 94; refine (equalLoadeds_any _ _ x.loaded y.loaded _ _ _ (by exact Cod.bel s4 (by repeat (first | with_reducible exact Below.refl _ _ | with_reducible assumption | with_reducible refine bel_alloc ?_ _ | with_reducible refine bel_drew ?_ | with_reducible refine bel_drewN ?_ _ | (with_reducible refine bel_set ?_ ?_ _; rotate_left; ((try simp); (try omega)))))) (by exact Cod.bel p4 (by repeat (first | with_reducible exact Below.refl _ _ | with_reducible assumption | with_reducible refine bel_alloc ?_ _ | with_reducible refine bel_drew ?_ | with_reducible refine bel_drewN ?_ _ | (with_reducible refine bel_set ?_ ?_ _; rotate_left; ((try simp); (try omega))))))).mono ?_; rintro e w1 ⟨rfl, hb1⟩; obtain ⟨hc1, hf1, hz1⟩ := bcell hb1; (try simp at hz1); have hs0 : w.heap.size < w1.heap.size := (by omega); have hs1 : w.heap.size + 1 < w1.heap.size := (by omega); have hB1 : Below w.heap.size w w1 := (bel_then (by repeat (first | with_reducible exact Below.refl _ _ | with_reducible assumption | with_reducible refine bel_alloc ?_ _ | with_reducible refine bel_drew ?_ | with_reducible refine bel_drewN ?_ _ | (with_reducible refine bel_set ?_ ?_ _; rotate_left; ((try simp); (try omega))))) hb1); clear hb1) | (go_at_call 33; refine (implEqualMachines_any _ x.mach _ _ y.mach _ _ (by exact Cod.bel hmx (by repeat (first | with_reducible exact Below.refl _ _ | with_reducible assumption | with_reducible refine bel_alloc ?_ _ | with_reducible refine bel_drew ?_ | with_reducible refine bel_drewN ?_ _ | (with_reducible refine bel_set ?_ ?_ _; rotate_left; ((try simp); (try omega)))))) hzx (by exact Cod.bel hmy (by repeat (first | with_reducible exact Below.refl _ _ | with_reducible assumption | with_reducible refine bel_alloc ?_ _ | with_reducible refine bel_drew ?_ | with_reducible refine bel_drewN ?_ _ | (with_reducible refine bel_set ?_ ?_ _; rotate_left; ((try simp); (try omega)))))) hzy).mono ?_; rintro e w1 ⟨rfl, hb1⟩; obtain ⟨hc1, hf1, hz1⟩ := bcell hb1; (try simp at hz1); have hs0 : w.heap.size < w1.heap.size := (by omega); have hs1 : w.heap.size + 1 < w1.heap.size := (by omega); have hB1 : Below w.heap.size w w1 := (bel_then (by repeat (first | with_reducible exact Below.refl _ _ | with_reducible assumption | with_reducible refine bel_alloc ?_ _ | with_reducible refine bel_drew ?_ | with_reducible refine bel_drewN ?_ _ | (with_reducible refine bel_set ?_ ?_ _; rotate_left; ((try simp); (try omega))))) hb1); clear hb1))
        go_ret
        exact ⟨ret_bool (by rw [HE.out]; simp [*]), (by repeat (first | with_reducible exact Below.refl _ _ | with_reducible assumption | with_reducible refine bel_alloc ?_ _ | with_reducible refine bel_drew ?_ | with_reducible refine bel_drewN ?_ _ | (with_reducible refine bel_set ?_ ?_ _; rotate_left; ((try simp); (try omega)))))⟩
      ·
        cases e4 : (x.ver == y.ver)
        · go_enter Try.func85, Try.ntmps85
          go_wp2_with (first | (go_at_call 94; refine (equalLoadeds_any _ _ x.loaded y.loaded _ _ _ (by exact Cod.bel s4 (by repeat (first | with_reducible exact Below.refl _ _ | with_reducible assumption | with_reducible refine bel_alloc ?_ _ | with_reducible refine bel_drew ?_ | with_reducible refine bel_drewN ?_ _ | (with_reducible refine bel_set ?_ ?_ _; rotate_left; ((try simp); (try omega)))))) (by exact Cod.bel p4 (by repeat (first | with_reducible exact Below.refl _ _ | with_reducible assumption | with_reducible refine bel_alloc ?_ _ | with_reducible refine bel_drew ?_ | with_reducible refine bel_drewN ?_ _ | (with_reducible refine bel_set ?_ ?_ _; rotate_left; ((try simp); (try omega))))))).mono ?_; rintro e w1 ⟨rfl, hb1⟩; obtain ⟨hc1, hf1, hz1⟩ := bcell hb1; (try simp at hz1); have hs0 : w.heap.size < w1.heap.size := (by omega); have hs1 : w.heap.size + 1 < w1.heap.size := (by omega); have hB1 : Below w.heap.size w w1 := (bel_then (by repeat (first | with_reducible exact Below.refl _ _ | with_reducible assumption | with_reducible refine bel_alloc ?_ _ | with_reducible refine bel_drew ?_ | with_reducible refine bel_drewN ?_ _ | (with_reducible refine bel_set ?_ ?_ _; rotate_left; ((try simp); (try omega))))) hb1); clear hb1) | (go_at_call 33; refine (implEqualMachines_any _ x.mach _ _ y.mach _ _ (by exact Cod.bel hmx (by repeat (first | with_reducible exact Below.refl _ _ | with_reducible assumption | with_reducible refine bel_alloc ?_ _ | with_reducible refine bel_drew ?_ | with_reducible refine bel_drewN ?_ _ | (with_reducible refine bel_set ?_ ?_ _; rotate_left; ((try simp); (try omega)))))) hzx (by exact Cod.bel hmy (by repeat (first | with_reducible exact Below.refl _ _ | with_reducible assumption | with_reducible refine bel_alloc ?_ _ | with_reducible refine bel_drew ?_ | with_reducible refine bel_drewN ?_ _ | (with_reducible refine bel_set ?_ ?_ _; rotate_left; ((try simp); (try omega)))))) hzy).mono ?_; rintro e w1 ⟨rfl, hb1⟩; obtain ⟨hc1, hf1, hz1⟩ := bcell hb1; (try simp at hz1); have hs0 : w.heap.size < w1.heap.size := (by omega); have hs1 : w.heap.size + 1 < w1.heap.size := (by omega); have hB1 : Below w.heap.size w w1 := (bel_then (by repeat (first | with_reducible exact Below.refl _ _ | with_reducible assumption | with_reducible refine bel_alloc ?_ _ | with_reducible refine bel_drew ?_ | with_reducible refine bel_drewN ?_ _ | (with_reducible refine bel_set ?_ ?_ _; rotate_left; ((try simp); (try omega))))) hb1); clear hb1))
          go_ret
          exact ⟨ret_bool (by rw [HE.out]; simp [*]), (by repeat (first | with_reducible exact Below.refl _ _ | with_reducible assumption | with_reducible refine bel_alloc ?_ _ | with_reducible refine bel_drew ?_ | with_reducible refine bel_drewN ?_ _ | (with_reducible refine bel_set ?_ ?_ _; rotate_left; ((try simp); (try omega)))))⟩
        ·
          cases e5 : (loadedsEq x.loaded y.loaded)
          · go_enter Try.func85, Try.ntmps85
            go_wp2_with (first | (go_at_call 94; refine (equalLoadeds_any _ _ x.loaded y.loaded _ _ _ (by exact Cod.bel s4 (by repeat (first | with_reducible exact Below.refl _ _ | with_reducible assumption | with_reducible refine bel_alloc ?_ _ | with_reducible refine bel_drew ?_ | with_reducible refine bel_drewN ?_ _ | (with_reducible refine bel_set ?_ ?_ _; rotate_left; ((try simp); (try omega)))))) (by exact Cod.bel p4 (by repeat (first | with_reducible exact Below.refl _ _ | with_reducible assumption | with_reducible refine bel_alloc ?_ _ | with_reducible refine bel_drew ?_ | with_reducible refine bel_drewN ?_ _ | (with_reducible refine bel_set ?_ ?_ _; rotate_left; ((try simp); (try omega))))))).mono ?_; rintro e w1 ⟨rfl, hb1⟩; obtain ⟨hc1, hf1, hz1⟩ := bcell hb1; (try simp at hz1); have hs0 : w.heap.size < w1.heap.size := (by omega); have hs1 : w.heap.size + 1 < w1.heap.size := (by omega); have hB1 : Below w.heap.size w w1 := (bel_then (by repeat (first | with_reducible exact Below.refl _ _ | with_reducible assumption | with_reducible refine bel_alloc ?_ _ | with_reducible refine bel_drew ?_ | with_reducible refine bel_drewN ?_ _ | (with_reducible refine bel_set ?_ ?_ _; rotate_left; ((try simp); (try omega))))) hb1); clear hb1) | (go_at_call 33; refine (implEqualMachines_any _ x.mach _ _ y.mach _ _ (by exact Cod.bel hmx (by repeat (first | with_reducible exact Below.refl _ _ | with_reducible assumption | with_reducible refine bel_alloc ?_ _ | with_reducible refine bel_drew ?_ | with_reducible refine bel_drewN ?_ _ | (with_reducible refine bel_set ?_ ?_ _; rotate_left; ((try simp); (try omega)))))) hzx (by exact Cod.bel hmy (by repeat (first | with_reducible exact Below.refl _ _ | with_reducible assumption | with_reducible refine bel_alloc ?_ _ | with_reducible refine bel_drew ?_ | with_reducible refine bel_drewN ?_ _ | (with_reducible refine bel_set ?_ ?_ _; rotate_left; ((try simp); (try omega)))))) hzy).mono ?_; rintro e w1 ⟨rfl, hb1⟩; obtain ⟨hc1, hf1, hz1⟩ := bcell hb1; (try simp at hz1); have hs0 : w.heap.size < w1.heap.size := (by omega); have hs1 : w.heap.size + 1 < w1.heap.size := (by omega); have hB1 : Below w.heap.size w w1 := (bel_then (by repeat (first | with_reducible exact Below.refl _ _ | with_reducible assumption | with_reducible refine bel_alloc ?_ _ | with_reducible refine bel_drew ?_ | with_reducible refine bel_drewN ?_ _ | (with_reducible refine bel_set ?_ ?_ _; rotate_left; ((try simp); (try omega))))) hb1); clear hb1))
            go_ret
            exact ⟨ret_bool (by rw [HE.out]; simp [*]), (by repeat (first | with_reducible exact Below.refl _ _ | with_reducible assumption | with_reducible refine bel_alloc ?_ _ | with_reducible refine bel_drew ?_ | with_reducible refine bel_drewN ?_ _ | (with_reducible refine bel_set ?_ ?_ _; rotate_left; ((try simp); (try omega)))))⟩
          ·
            cases e6 : (machEq x.mach y.mach)
            · go_enter Try.func85, Try.ntmps85
              go_wp2_with (first | (go_at_call 94; refine (equalLoadeds_any _ _ x.loaded y.loaded _ _ _ (by exact Cod.bel s4 (by repeat (first | with_reducible exact Below.refl _ _ | with_reducible assumption | with_reducible refine bel_alloc ?_ _ | with_reducible refine bel_drew ?_ | with_reducible refine bel_drewN ?_ _ | (with_reducible refine bel_set ?_ ?_ _; rotate_left; ((try simp); (try omega)))))) (by exact Cod.bel p4 (by repeat (first | with_reducible exact Below.refl _ _ | with_reducible assumption | with_reducible refine bel_alloc ?_ _ | with_reducible refine bel_drew ?_ | with_reducible refine bel_drewN ?_ _ | (with_reducible refine bel_set ?_ ?_ _; rotate_left; ((try simp); (try omega))))))).mono ?_; rintro e w1 ⟨rfl, hb1⟩; obtain ⟨hc1, hf1, hz1⟩ := bcell hb1; (try simp at hz1); have hs0 : w.heap.size < w1.heap.size := (by omega); have hs1 : w.heap.size + 1 < w1.heap.size := (by omega); have hB1 : Below w.heap.size w w1 := (bel_then (by repeat (first | with_reducible exact Below.refl _ _ | with_reducible assumption | with_reducible refine bel_alloc ?_ _ | with_reducible refine bel_drew ?_ | with_reducible refine bel_drewN ?_ _ | (with_reducible refine bel_set ?_ ?_ _; rotate_left; ((try simp); (try omega))))) hb1); clear hb1) | (go_at_call 33; refine (implEqualMachines_any _ x.mach _ _ y.mach _ _ (by exact Cod.bel hmx (by repeat (first | with_reducible exact Below.refl _ _ | with_reducible assumption | with_reducible refine bel_alloc ?_ _ | with_reducible refine bel_drew ?_ | with_reducible refine bel_drewN ?_ _ | (with_reducible refine bel_set ?_ ?_ _; rotate_left; ((try simp); (try omega)))))) hzx (by exact Cod.bel hmy (by repeat (first | with_reducible exact Below.refl _ _ | with_reducible assumption | with_reducible refine bel_alloc ?_ _ | with_reducible refine bel_drew ?_ | with_reducible refine bel_drewN ?_ _ | (with_reducible refine bel_set ?_ ?_ _; rotate_left; ((try simp); (try omega)))))) hzy).mono ?_; rintro e w1 ⟨rfl, hb1⟩; obtain ⟨hc1, hf1, hz1⟩ := bcell hb1; (try simp at hz1); have hs0 : w.heap.size < w1.heap.size := (by omega); have hs1 : w.heap.size + 1 < w1.heap.size := (by omega); have hB1 : Below w.heap.size w w1 := (bel_then (by repeat (first | with_reducible exact Below.refl _ _ | with_reducible assumption | with_reducible refine bel_alloc ?_ _ | with_reducible refine bel_drew ?_ | with_reducible refine bel_drewN ?_ _ | (with_reducible refine bel_set ?_ ?_ _; rotate_left; ((try simp); (try omega))))) hb1); clear hb1))
              go_ret
              exact ⟨ret_bool (by rw [HE.out]; simp [*]), (by repeat (first | with_reducible exact Below.refl _ _ | with_reducible assumption | with_reducible refine bel_alloc ?_ _ | with_reducible refine bel_drew ?_ | with_reducible refine bel_drewN ?_ _ | (with_reducible refine bel_set ?_ ?_ _; rotate_left; ((try simp); (try omega)))))⟩
            ·
              go_enter Try.func85, Try.ntmps85
              go_wp2_with (first | (go_at_call 94; refine (equalLoadeds_any _ _ x.loaded y.loaded _ _ _ (by exact Cod.bel s4 (by repeat (first | with_reducible exact Below.refl _ _ | with_reducible assumption | with_reducible refine bel_alloc ?_ _ | with_reducible refine bel_drew ?_ | with_reducible refine bel_drewN ?_ _ | (with_reducible refine bel_set ?_ ?_ _; rotate_left; ((try simp); (try omega)))))) (by exact Cod.bel p4 (by repeat (first | with_reducible exact Below.refl _ _ | with_reducible assumption | with_reducible refine bel_alloc ?_ _ | with_reducible refine bel_drew ?_ | with_reducible refine bel_drewN ?_ _ | (with_reducible refine bel_set ?_ ?_ _; rotate_left; ((try simp); (try omega))))))).mono ?_; rintro e w1 ⟨rfl, hb1⟩; obtain ⟨hc1, hf1, hz1⟩ := bcell hb1; (try simp at hz1); have hs0 : w.heap.size < w1.heap.size := (by omega); have hs1 : w.heap.size + 1 < w1.heap.size := (by omega); have hB1 : Below w.heap.size w w1 := (bel_then (by repeat (first | with_reducible exact Below.refl _ _ | with_reducible assumption | with_reducible refine bel_alloc ?_ _ | with_reducible refine bel_drew ?_ | with_reducible refine bel_drewN ?_ _ | (with_reducible refine bel_set ?_ ?_ _; rotate_left; ((try simp); (try omega))))) hb1); clear hb1) | (go_at_call 33; refine (implEqualMachines_any _ x.mach _ _ y.mach _ _ (by exact Cod.bel hmx (by repeat (first | with_reducible exact Below.refl _ _ | with_reducible assumption | with_reducible refine bel_alloc ?_ _ | with_reducible refine bel_drew ?_ | with_reducible refine bel_drewN ?_ _ | (with_reducible refine bel_set ?_ ?_ _; rotate_left; ((try simp); (try omega)))))) hzx (by exact Cod.bel hmy (by repeat (first | with_reducible exact Below.refl _ _ | with_reducible assumption | with_reducible refine bel_alloc ?_ _ | with_reducible refine bel_drew ?_ | with_reducible refine bel_drewN ?_ _ | (with_reducible refine bel_set ?_ ?_ _; rotate_left; ((try simp); (try omega)))))) hzy).mono ?_; rintro e w1 ⟨rfl, hb1⟩; obtain ⟨hc1, hf1, hz1⟩ := bcell hb1; (try simp at hz1); have hs0 : w.heap.size < w1.heap.size := (by omega); have hs1 : w.heap.size + 1 < w1.heap.size := (by omega); have hB1 : Below w.heap.size w w1 := (bel_then (by repeat (first | with_reducible exact Below.refl _ _ | with_reducible assumption | with_reducible refine bel_alloc ?_ _ | with_reducible refine bel_drew ?_ | with_reducible refine bel_drewN ?_ _ | (with_reducible refine bel_set ?_ ?_ _; rotate_left; ((try simp); (try omega))))) hb1); clear hb1))
              go_ret
              exact ⟨ret_bool (by rw [HE.out]; simp [*]), (by repeat (first | with_reducible exact Below.refl _ _ | with_reducible assumption | with_reducible refine bel_alloc ?_ _ | with_reducible refine bel_drew ?_ | with_reducible refine bel_drewN ?_ _ | (with_reducible refine bel_set ?_ ?_ _; rotate_left; ((try simp); (try omega)))))⟩
set_option maxRecDepth 100000 in
set_option maxHeartbeats 4000000 in
theorem implEqualPages_any (vs : Array Value) (x : TPage) (F : List Nat) (vs2 : Array Value) (y : TPage) (F2 : List Nat) (w : World) (h : cPage.rep w vs.toList x F) (hn : cPage.sz x ≤ 1048576) (h2 : cPage.rep w vs2.toList y F2) (hn2 : cPage.sz y ≤ 1048576) :
    Calls Try.prog 52 #[.agg vs, .agg vs2] w (Gives w (.bool (pageEq x y))) := by
  have hr := h
  have hr2 := h2
  obtain ⟨u4, u5, u7, E4, E5, E7, rfl, -, -, s4, s5, s7⟩ := TPage.outA h
  obtain ⟨A4, c4, rfl⟩ := cL_form s4
  obtain ⟨A5, c5, rfl⟩ := cL_form s5
  obtain ⟨A7, c7, rfl⟩ := cL_form s7
  obtain ⟨v4, v5, v7, G4, G5, G7, rfl, -, -, p4, p5, p7⟩ := TPage.outA h2
  obtain ⟨B4, d4, rfl⟩ := cL_form p4
  obtain ⟨B5, d5, rfl⟩ := cL_form p5
  obtain ⟨B7, d7, rfl⟩ := cL_form p7
  clear h h2 s4 s5 s7 p4 p5 p7
  go_enter Try.func52, Try.ntmps52
  go_wp2_with fail
  refine (implPageEq_any _ x _ _ y _ _ (by exact Cod.bel hr (by repeat (first | with_reducible exact Below.refl _ _ | with_reducible assumption | with_reducible refine bel_alloc ?_ _ | with_reducible refine bel_drew ?_ | with_reducible refine bel_drewN ?_ _ | (with_reducible refine bel_set ?_ ?_ _; rotate_left; ((try simp); (try omega)))))) hn (by exact Cod.bel hr2 (by repeat (first | with_reducible exact Below.refl _ _ | with_reducible assumption | with_reducible refine bel_alloc ?_ _ | with_reducible refine bel_drew ?_ | with_reducible refine bel_drewN ?_ _ | (with_reducible refine bel_set ?_ ?_ _; rotate_left; ((try simp); (try omega)))))) hn2).mono ?_
  rintro e w1 ⟨rfl, hb1⟩
  have hB : Below w.heap.size w w1 := bel_then (by repeat (first | with_reducible exact Below.refl _ _ | with_reducible assumption | with_reducible refine bel_alloc ?_ _ | with_reducible refine bel_drew ?_ | with_reducible refine bel_drewN ?_ _ | (with_reducible refine bel_set ?_ ?_ _; rotate_left; ((try simp); (try omega))))) hb1
  clear hb1
  go_wp2_with fail
  go_ret
  exact ⟨rfl, (by repeat (first | with_reducible exact Below.refl _ _ | with_reducible assumption | with_reducible refine bel_alloc ?_ _ | with_reducible refine bel_drew ?_ | with_reducible refine bel_drewN ?_ _ | (with_reducible refine bel_set ?_ ?_ _; rotate_left; ((try simp); (try omega)))))⟩
set_option maxRecDepth 100000 in
set_option maxHeartbeats 8000000 in
theorem specEqualPages_any (vs : Array Value) (x : TPage) (F : List Nat) (vs2 : Array Value) (y : TPage) (F2 : List Nat) (w : World) (h : cPage.rep w vs.toList x F) (hn : cPage.sz x ≤ 1048576) (h2 : cPage.rep w vs2.toList y F2) (hn2 : cPage.sz y ≤ 1048576) :
    Calls Try.prog 51 #[.agg vs, .agg vs2] w (Gives w (.bool (pageEq x y))) := by
  obtain ⟨u4, u5, u7, E4, E5, E7, rfl, -, hokx, s4, s5, s7⟩ := TPage.outA h
  obtain ⟨A4, c4, rfl⟩ := cL_form s4
  obtain ⟨A5, c5, rfl⟩ := cL_form s5
  obtain ⟨A7, c7, rfl⟩ := cL_form s7
  obtain ⟨v4, v5, v7, G4, G5, G7, rfl, -, hoky, p4, p5, p7⟩ := TPage.outA h2
  obtain ⟨B4, d4, rfl⟩ := cL_form p4
  obtain ⟨B5, d5, rfl⟩ := cL_form p5
  obtain ⟨B7, d7, rfl⟩ := cL_form p7
  have hmx : cMach.rep w _ x.mach _ := TMach.mk_ (x := x.mach) ⟨hokx.h6, hokx.h8⟩ s5 s7
  have hmy : cMach.rep w _ y.mach _ := TMach.mk_ (x := y.mach) ⟨hoky.h6, hoky.h8⟩ p5 p7
  have hzx : cMach.sz x.mach ≤ 1048576 := by have : cPage.sz x = 0 + (x.site.size + (x.top.size + (0 + (cLoadedS.sz x.loaded + cMach.sz x.mach)))) := rfl; omega
  have hzy : cMach.sz y.mach ≤ 1048576 := by have : cPage.sz y = 0 + (y.site.size + (y.top.size + (0 + (cLoadedS.sz y.loaded + cMach.sz y.mach)))) := rfl; omega
  clear h h2 s5 s7 p5 p7
  obtain ⟨-, hcp, hm⟩ := cL_len s4
  obtain ⟨-, hcp2, hm2⟩ := cL_len p4
  obtain ⟨n, hxn⟩ : ∃ n, x.loaded.length = n := ⟨_, rfl⟩
  obtain ⟨m, hxm⟩ : ∃ m, y.loaded.length = m := ⟨_, rfl⟩
  have HN := Lib.hid hxn
  have HM := Lib.hid hxm
  rw [hxn] at hcp ⊢
  rw [hxm] at hcp2 ⊢
  clear hxn hxm
  unfold maxLen at hm hm2
  have HE := Lib.hid (show pageEq x y = (!(x.id != y.id) && x.site.toList == y.site.toList && x.top.toList == y.top.toList && !(x.ver != y.ver) && loadedsEq x.loaded y.loaded && machEq x.mach y.mach) by simp [pageEq, strEq, bne])
  have HL := Lib.hid (show n ≠ m → loadedsEq x.loaded y.loaded = false from fun hne => eqBy_len eqLoaded _ _ (by rw [HN.out, HM.out]; exact hne))
  cases e1 : (x.id != y.id)
  case true =>
    have HR := Lib.hid (show pageEq x y = false by
      rw [HE.out]
      first
        | (simp [*]; done)
        | (have hne : n ≠ m := (by intro e; simp [e] at e5)
           simp [HL.out hne]; done))
    go_enter Try.func51, Try.ntmps51
    go_wp2_with fail
    go_ret
    exact ⟨ret_bool HR.out.symm, (by repeat (first | with_reducible exact Below.refl _ _ | with_reducible assumption | with_reducible refine bel_alloc ?_ _ | with_reducible refine bel_drew ?_ | with_reducible refine bel_drewN ?_ _ | (with_reducible refine bel_set ?_ ?_ _; rotate_left; ((try simp); (try omega)))))⟩
  case false =>
    cases e2 : (x.site.toList == y.site.toList)
    · have HR := Lib.hid (show pageEq x y = false by
        rw [HE.out]
        first
          | (simp [*]; done)
          | (have hne : n ≠ m := (by intro e; simp [e] at e5)
             simp [HL.out hne]; done))
      go_enter Try.func51, Try.ntmps51
      go_wp2_with fail
      go_ret
      exact ⟨ret_bool HR.out.symm, (by repeat (first | with_reducible exact Below.refl _ _ | with_reducible assumption | with_reducible refine bel_alloc ?_ _ | with_reducible refine bel_drew ?_ | with_reducible refine bel_drewN ?_ _ | (with_reducible refine bel_set ?_ ?_ _; rotate_left; ((try simp); (try omega)))))⟩
    ·
      cases e3 : (x.top.toList == y.top.toList)
      · have HR := Lib.hid (show pageEq x y = false by
          rw [HE.out]
          first
            | (simp [*]; done)
            | (have hne : n ≠ m := (by intro e; simp [e] at e5)
               simp [HL.out hne]; done))
        go_enter Try.func51, Try.ntmps51
        go_wp2_with fail
        go_ret
        exact ⟨ret_bool HR.out.symm, (by repeat (first | with_reducible exact Below.refl _ _ | with_reducible assumption | with_reducible refine bel_alloc ?_ _ | with_reducible refine bel_drew ?_ | with_reducible refine bel_drewN ?_ _ | (with_reducible refine bel_set ?_ ?_ _; rotate_left; ((try simp); (try omega)))))⟩
      ·
        cases e4 : (x.ver != y.ver)
        case true =>
          have HR := Lib.hid (show pageEq x y = false by
            rw [HE.out]
            first
              | (simp [*]; done)
              | (have hne : n ≠ m := (by intro e; simp [e] at e5)
                 simp [HL.out hne]; done))
          go_enter Try.func51, Try.ntmps51
          go_wp2_with fail
          go_ret
          exact ⟨ret_bool HR.out.symm, (by repeat (first | with_reducible exact Below.refl _ _ | with_reducible assumption | with_reducible refine bel_alloc ?_ _ | with_reducible refine bel_drew ?_ | with_reducible refine bel_drewN ?_ _ | (with_reducible refine bel_set ?_ ?_ _; rotate_left; ((try simp); (try omega)))))⟩
        case false =>
          cases e5 : ((n : Int) != (m : Int))
          case true =>
            have HR := Lib.hid (show pageEq x y = false by
              rw [HE.out]
              first
                | (simp [*]; done)
                | (have hne : n ≠ m := (by intro e; simp [e] at e5)
                   simp [HL.out hne]; done))
            go_enter Try.func51, Try.ntmps51
            go_wp2_with fail
            go_ret
            exact ⟨ret_bool HR.out.symm, (by repeat (first | with_reducible exact Below.refl _ _ | with_reducible assumption | with_reducible refine bel_alloc ?_ _ | with_reducible refine bel_drew ?_ | with_reducible refine bel_drewN ?_ _ | (with_reducible refine bel_set ?_ ?_ _; rotate_left; ((try simp); (try omega)))))⟩
          case false =>
            have hnm : n = m := by (have h9 : (n : Int) = m := (by simpa using e5)); omega
            subst hnm
            have HR := Lib.hid (show pageEq x y = (loadedsEq x.loaded y.loaded && machEq x.mach y.mach) by rw [HE.out, e1, e2, e3, e4]; simp)
            go_enter Try.func51, Try.ntmps51
            go_wp2_with fail
            generalize hW : World.alloc _ _ = W
            have hWs : W.heap.size = w.heap.size + 2 := by rw [← hW]; clear hW; simp
            have hbW : Below w.heap.size w W := by rw [← hW]; exact (by repeat (first | with_reducible exact Below.refl _ _ | with_reducible assumption | with_reducible refine bel_alloc ?_ _ | with_reducible refine bel_drew ?_ | with_reducible refine bel_drewN ?_ _ | (with_reducible refine bel_set ?_ ?_ _; rotate_left; ((try simp); (try omega)))))
            have HK := Lib.hid (show W.cell? ⟨w.heap.size, 0, none⟩ = some (.int .i64 x.id) ∧ W.cell? ⟨w.heap.size, 1, none⟩ = some (.string x.site) ∧ W.cell? ⟨w.heap.size, 2, none⟩ = some (.string x.top) ∧ W.cell? ⟨w.heap.size, 3, none⟩ = some (.int .i64 x.ver) ∧ W.cell? ⟨w.heap.size, 4, none⟩ = some (.slice A4 n c4) ∧ W.cell? ⟨w.heap.size, 5, none⟩ = some (.slice A5 x.mach.script.length c5) ∧ W.cell? ⟨w.heap.size, 6, none⟩ = some (.int .i64 x.mach.pc) ∧ W.cell? ⟨w.heap.size, 7, none⟩ = some (.slice A7 x.mach.regs.length c7) ∧ W.cell? ⟨w.heap.size, 8, none⟩ = some (.int .i64 x.mach.steps) ∧ W.cell? ⟨w.heap.size, 9, none⟩ = some (.bool x.mach.done) ∧ W.cell? ⟨w.heap.size, 10, none⟩ = some (.bool x.mach.wait) ∧ W.cell? ⟨w.heap.size + 1, 0, none⟩ = some (.int .i64 y.id) ∧ W.cell? ⟨w.heap.size + 1, 1, none⟩ = some (.string y.site) ∧ W.cell? ⟨w.heap.size + 1, 2, none⟩ = some (.string y.top) ∧ W.cell? ⟨w.heap.size + 1, 3, none⟩ = some (.int .i64 y.ver) ∧ W.cell? ⟨w.heap.size + 1, 4, none⟩ = some (.slice B4 n d4) ∧ W.cell? ⟨w.heap.size + 1, 5, none⟩ = some (.slice B5 y.mach.script.length d5) ∧ W.cell? ⟨w.heap.size + 1, 6, none⟩ = some (.int .i64 y.mach.pc) ∧ W.cell? ⟨w.heap.size + 1, 7, none⟩ = some (.slice B7 y.mach.regs.length d7) ∧ W.cell? ⟨w.heap.size + 1, 8, none⟩ = some (.int .i64 y.mach.steps) ∧ W.cell? ⟨w.heap.size + 1, 9, none⟩ = some (.bool y.mach.done) ∧ W.cell? ⟨w.heap.size + 1, 10, none⟩ = some (.bool y.mach.wait) from by refine ⟨?_, ?_, ?_, ?_, ?_, ?_, ?_, ?_, ?_, ?_, ?_, ?_, ?_, ?_, ?_, ?_, ?_, ?_, ?_, ?_, ?_, ?_⟩ <;> (rw [← hW]; clear hW; go_simp))
            clear hW
            go_loopw [5] (fun i wr => ∃ k : Nat, k ≤ n ∧ i = .int .i64 k ∧ sameTo eqLoaded x.loaded y.loaded k ∧ Below W.heap.size W wr) (fun i _ => n - (intOf i).toNat)
            case atStart => exact ⟨0, Nat.zero_le _, rfl, sameTo_zero _ _ _, Below.refl _ _⟩
            case round =>
              obtain ⟨k, hk, rfl, hsm, hB⟩ := hrel
              have HS := Lib.hid hsm
              clear hsm
              have hws_wr : w.heap.size < wr.heap.size := by have := hB.size; omega
              have hbw : Below w.heap.size w wr := bel_then hbW hB
              have k0_wr : wr.cell? ⟨w.heap.size, 0, none⟩ = some (.int .i64 x.id) := (hB.cell (p := ⟨w.heap.size, 0, none⟩) (by (try simp); (try omega))).trans HK.out.1
              have k1_wr : wr.cell? ⟨w.heap.size, 1, none⟩ = some (.string x.site) := (hB.cell (p := ⟨w.heap.size, 1, none⟩) (by (try simp); (try omega))).trans HK.out.2.1
              have k2_wr : wr.cell? ⟨w.heap.size, 2, none⟩ = some (.string x.top) := (hB.cell (p := ⟨w.heap.size, 2, none⟩) (by (try simp); (try omega))).trans HK.out.2.2.1
              have k3_wr : wr.cell? ⟨w.heap.size, 3, none⟩ = some (.int .i64 x.ver) := (hB.cell (p := ⟨w.heap.size, 3, none⟩) (by (try simp); (try omega))).trans HK.out.2.2.2.1
              have k4_wr : wr.cell? ⟨w.heap.size, 4, none⟩ = some (.slice A4 n c4) := (hB.cell (p := ⟨w.heap.size, 4, none⟩) (by (try simp); (try omega))).trans HK.out.2.2.2.2.1
              have k5_wr : wr.cell? ⟨w.heap.size, 5, none⟩ = some (.slice A5 x.mach.script.length c5) := (hB.cell (p := ⟨w.heap.size, 5, none⟩) (by (try simp); (try omega))).trans HK.out.2.2.2.2.2.1
              have k6_wr : wr.cell? ⟨w.heap.size, 6, none⟩ = some (.int .i64 x.mach.pc) := (hB.cell (p := ⟨w.heap.size, 6, none⟩) (by (try simp); (try omega))).trans HK.out.2.2.2.2.2.2.1
              have k7_wr : wr.cell? ⟨w.heap.size, 7, none⟩ = some (.slice A7 x.mach.regs.length c7) := (hB.cell (p := ⟨w.heap.size, 7, none⟩) (by (try simp); (try omega))).trans HK.out.2.2.2.2.2.2.2.1
              have k8_wr : wr.cell? ⟨w.heap.size, 8, none⟩ = some (.int .i64 x.mach.steps) := (hB.cell (p := ⟨w.heap.size, 8, none⟩) (by (try simp); (try omega))).trans HK.out.2.2.2.2.2.2.2.2.1
              have k9_wr : wr.cell? ⟨w.heap.size, 9, none⟩ = some (.bool x.mach.done) := (hB.cell (p := ⟨w.heap.size, 9, none⟩) (by (try simp); (try omega))).trans HK.out.2.2.2.2.2.2.2.2.2.1
              have k10_wr : wr.cell? ⟨w.heap.size, 10, none⟩ = some (.bool x.mach.wait) := (hB.cell (p := ⟨w.heap.size, 10, none⟩) (by (try simp); (try omega))).trans HK.out.2.2.2.2.2.2.2.2.2.2.1
              have k11_wr : wr.cell? ⟨w.heap.size + 1, 0, none⟩ = some (.int .i64 y.id) := (hB.cell (p := ⟨w.heap.size + 1, 0, none⟩) (by (try simp); (try omega))).trans HK.out.2.2.2.2.2.2.2.2.2.2.2.1
              have k12_wr : wr.cell? ⟨w.heap.size + 1, 1, none⟩ = some (.string y.site) := (hB.cell (p := ⟨w.heap.size + 1, 1, none⟩) (by (try simp); (try omega))).trans HK.out.2.2.2.2.2.2.2.2.2.2.2.2.1
              have k13_wr : wr.cell? ⟨w.heap.size + 1, 2, none⟩ = some (.string y.top) := (hB.cell (p := ⟨w.heap.size + 1, 2, none⟩) (by (try simp); (try omega))).trans HK.out.2.2.2.2.2.2.2.2.2.2.2.2.2.1
              have k14_wr : wr.cell? ⟨w.heap.size + 1, 3, none⟩ = some (.int .i64 y.ver) := (hB.cell (p := ⟨w.heap.size + 1, 3, none⟩) (by (try simp); (try omega))).trans HK.out.2.2.2.2.2.2.2.2.2.2.2.2.2.2.1
              have k15_wr : wr.cell? ⟨w.heap.size + 1, 4, none⟩ = some (.slice B4 n d4) := (hB.cell (p := ⟨w.heap.size + 1, 4, none⟩) (by (try simp); (try omega))).trans HK.out.2.2.2.2.2.2.2.2.2.2.2.2.2.2.2.1
              have k16_wr : wr.cell? ⟨w.heap.size + 1, 5, none⟩ = some (.slice B5 y.mach.script.length d5) := (hB.cell (p := ⟨w.heap.size + 1, 5, none⟩) (by (try simp); (try omega))).trans HK.out.2.2.2.2.2.2.2.2.2.2.2.2.2.2.2.2.1
              have k17_wr : wr.cell? ⟨w.heap.size + 1, 6, none⟩ = some (.int .i64 y.mach.pc) := (hB.cell (p := ⟨w.heap.size + 1, 6, none⟩) (by (try simp); (try omega))).trans HK.out.2.2.2.2.2.2.2.2.2.2.2.2.2.2.2.2.2.1
              have k18_wr : wr.cell? ⟨w.heap.size + 1, 7, none⟩ = some (.slice B7 y.mach.regs.length d7) := (hB.cell (p := ⟨w.heap.size + 1, 7, none⟩) (by (try simp); (try omega))).trans HK.out.2.2.2.2.2.2.2.2.2.2.2.2.2.2.2.2.2.2.1
              have k19_wr : wr.cell? ⟨w.heap.size + 1, 8, none⟩ = some (.int .i64 y.mach.steps) := (hB.cell (p := ⟨w.heap.size + 1, 8, none⟩) (by (try simp); (try omega))).trans HK.out.2.2.2.2.2.2.2.2.2.2.2.2.2.2.2.2.2.2.2.1
              have k20_wr : wr.cell? ⟨w.heap.size + 1, 9, none⟩ = some (.bool y.mach.done) := (hB.cell (p := ⟨w.heap.size + 1, 9, none⟩) (by (try simp); (try omega))).trans HK.out.2.2.2.2.2.2.2.2.2.2.2.2.2.2.2.2.2.2.2.2.1
              have k21_wr : wr.cell? ⟨w.heap.size + 1, 10, none⟩ = some (.bool y.mach.wait) := (hB.cell (p := ⟨w.heap.size + 1, 10, none⟩) (by (try simp); (try omega))).trans HK.out.2.2.2.2.2.2.2.2.2.2.2.2.2.2.2.2.2.2.2.2.2
              have hws2 : w.heap.size + 1 < wr.heap.size := by have := hB.size; omega
              by_cases hlt : k < n
              · have hkx : k < x.loaded.length := by rw [HN.out]; exact hlt
                have hky : k < y.loaded.length := by rw [HM.out]; exact hlt
                obtain ⟨g, o, vs, H1, rfl, -, hx, -, hc⟩ := cL_get (hw := by decide) (hw2 := by decide) (Cod.bel s4 hbw) hkx
                obtain ⟨g2, o2, vs2, H2, rfl, -, hx2, -, hc2⟩ := cL_get (hw := by decide) (hw2 := by decide) (Cod.bel p4 hbw) hky
                obtain ⟨rfl, -, hok⟩ := TLoaded.out hx
                obtain ⟨rfl, -, hok2⟩ := TLoaded.out hx2
                have q0 : wr.cell? ⟨g, o + k * 2, none⟩ = some _ := (hc 0 _ rfl).1
                have q1 : wr.cell? ⟨g, o + k * 2 + 1, none⟩ = some _ := (hc 1 _ rfl).1
                have r0 : wr.cell? ⟨g2, o2 + k * 2, none⟩ = some _ := (hc2 0 _ rfl).1
                have r1 : wr.cell? ⟨g2, o2 + k * 2 + 1, none⟩ = some _ := (hc2 1 _ rfl).1
                clear hc hc2 hx hx2
                have hki : ((k : Int) < (n : Int)) := by omega
                have hng := fun W => run_neq_loaded x.loaded[k].path y.loaded[k].path x.loaded[k].ver y.loaded[k].ver W
                have hgu := loadedGuard
                cases he : eqLoaded x.loaded[k] y.loaded[k]
                · rw [show (x.loaded[k].path.toList == y.loaded[k].path.toList && (x.loaded[k].ver == y.loaded[k].ver && true)) = false by rw [← eqLoaded_and]; exact he] at hng
                  go_wp2
                  go_quiet (fail)
                  go_wp2
                  go_ret
                  exact ⟨ret_bool (by rw [HR.out, show loadedsEq x.loaded y.loaded = false from eqBy_miss eqLoaded _ _ k hkx hky he]; rfl), (by repeat (first | with_reducible exact Below.refl _ _ | with_reducible assumption | with_reducible refine bel_alloc ?_ _ | with_reducible refine bel_drew ?_ | with_reducible refine bel_drewN ?_ _ | (with_reducible refine bel_set ?_ ?_ _; rotate_left; ((try simp); (try omega)))))⟩
                · rw [show (x.loaded[k].path.toList == y.loaded[k].path.toList && (x.loaded[k].ver == y.loaded[k].ver && true)) = true by rw [← eqLoaded_and]; exact he] at hng
                  go_wp2
                  go_quiet (fail)
                  go_wp2
                  go_roundw
                  case rel => exact ⟨k + 1, by omega, by go_num, sameTo_succ _ _ _ _ hkx hky HS.out he, bel_drewN hB _⟩
                  case measure => simp [intOf]; omega
              · obtain rfl : k = n := by omega
                have HT := Lib.hid (show pageEq x y = machEq x.mach y.mach by rw [HR.out, show loadedsEq x.loaded y.loaded = true from eqBy_hit eqLoaded _ _ (by rw [HN.out, HM.out]) (by rw [HN.out]; exact HS.out)]; rfl)
                go_wp2_with fail
                refine (specEqualMachines_any _ x.mach _ _ y.mach _ _ (by exact Cod.bel hmx (by repeat (first | with_reducible exact Below.refl _ _ | with_reducible assumption | with_reducible refine bel_alloc ?_ _ | with_reducible refine bel_drew ?_ | with_reducible refine bel_drewN ?_ _ | (with_reducible refine bel_set ?_ ?_ _; rotate_left; ((try simp); (try omega)))))) hzx (by exact Cod.bel hmy (by repeat (first | with_reducible exact Below.refl _ _ | with_reducible assumption | with_reducible refine bel_alloc ?_ _ | with_reducible refine bel_drew ?_ | with_reducible refine bel_drewN ?_ _ | (with_reducible refine bel_set ?_ ?_ _; rotate_left; ((try simp); (try omega)))))) hzy).mono ?_
                rintro e w1 ⟨rfl, hb1⟩
                have hB1 : Below w.heap.size w w1 := bel_then (by repeat (first | with_reducible exact Below.refl _ _ | with_reducible assumption | with_reducible refine bel_alloc ?_ _ | with_reducible refine bel_drew ?_ | with_reducible refine bel_drewN ?_ _ | (with_reducible refine bel_set ?_ ?_ _; rotate_left; ((try simp); (try omega))))) hb1
                clear hb1
                go_wp2_with fail
                go_ret
                exact ⟨ret_bool HT.out.symm, (by repeat (first | with_reducible exact Below.refl _ _ | with_reducible assumption | with_reducible refine bel_alloc ?_ _ | with_reducible refine bel_drew ?_ | with_reducible refine bel_drewN ?_ _ | (with_reducible refine bel_set ?_ ?_ _; rotate_left; ((try simp); (try omega)))))⟩
end Go.Proofs.Ythmlgflnefellaa
