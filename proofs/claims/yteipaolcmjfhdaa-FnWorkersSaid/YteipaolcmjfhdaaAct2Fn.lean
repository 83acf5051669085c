/-
  Activate of the program and of the reference. No conditions.
-/
import Derived.Test.YteipaolcmjfhdaaActFn
import Derived.Deep.RegionHeld3
namespace Go.Proofs.Yteipaolcmjfhdaa
open Go.ChangeShapes Go.WideShapes Go.RowKit
set_option linter.unusedVariables false

theorem implCanCells (s : ByteArray) (a b c : Int) (A : Value) (used : List Int) (G : List Nat) (w : World) (hs : s.size ≤ 1048576) (hok : (⟨s, a, b, c⟩ : TReg).Ok) (h2 : cIS.rep w [A] used G) (hn2 : cIS.sz used ≤ 1048576) :
    Calls Try.prog 30 #[.agg #[.string s, .int .i64 a, .int .i64 b, .int .i64 c], A] w (Gives w (.bool (canActivate ⟨s, a, b, c⟩ used))) :=
  implCanActivate_any _ ⟨s, a, b, c⟩ [] A used G w (TReg.mk_ hok) (by have : cReg.sz ⟨s, a, b, c⟩ = s.size + (0 + (0 + 0)) := rfl; omega) h2 hn2
theorem specCanCells (s : ByteArray) (a b c : Int) (A : Value) (used : List Int) (G : List Nat) (w : World) (hs : s.size ≤ 1048576) (hok : (⟨s, a, b, c⟩ : TReg).Ok) (h2 : cIS.rep w [A] used G) (hn2 : cIS.sz used ≤ 1048576) :
    Calls Try.prog 31 #[.agg #[.string s, .int .i64 a, .int .i64 b, .int .i64 c], A] w (Gives w (.bool (canActivate ⟨s, a, b, c⟩ used))) :=
  specCanActivate_any _ ⟨s, a, b, c⟩ [] A used G w (TReg.mk_ hok) (by have : cReg.sz ⟨s, a, b, c⟩ = s.size + (0 + (0 + 0)) := rfl; omega) h2 hn2

set_option maxRecDepth 100000 in
set_option maxHeartbeats 4000000 in
theorem implActivate_any (vs : Array Value) (x : TReg) (F : List Nat) (A : Value) (used : List Int) (G : List Nat) (w : World) (h : cReg.rep w vs.toList x F) (hn : cReg.sz x ≤ 1048576) (h2 : cIS.rep w [A] used G) (hn2 : cIS.sz used ≤ 1048576) :
    Calls Try.prog 29 #[.agg vs, A] w (GivesR3 cReg w (activate x used).1 (.int .i64 (activate x used).2.1) (.bool (activate x used).2.2)) := by
  have hok := (TReg.out h).2.2
  rw [TReg.val_of h]
  clear h
  obtain ⟨A, cp, rfl⟩ := cL_form h2
  obtain ⟨s, a, b, c⟩ := x
  have hs1 : s.size ≤ 1048576 := by have : cReg.sz ⟨s, a, b, c⟩ = s.size + (0 + (0 + 0)) := rfl; omega
  have HOK := Lib.hid hok
  clear hok hn
  simp only [TReg.val]
  cases h1 : canActivate ⟨s, a, b, c⟩ used
  · have HE := Lib.hid (show activate ⟨s, a, b, c⟩ used = (⟨s, a, b, c⟩, 0, false) by simp [activate, h1])
    rw [HE.out]
    go_enter Try.func29, Try.ntmps29
    go_wp2_with (first | (go_at_call 30; refine (implCanCells _ _ _ _ _ used _ _ hs1 HOK.out (by exact Cod.bel h2 (by repeat (first | with_reducible exact Below.refl _ _ | with_reducible assumption | with_reducible refine bel_alloc ?_ _ | with_reducible refine bel_drew ?_ | with_reducible refine bel_drewN ?_ _ | (with_reducible refine bel_set ?_ ?_ _; rotate_left; ((try simp); (try omega)))))) hn2).mono ?_; rintro e w1 ⟨rfl, hb1⟩; obtain ⟨hc1, hf1, hz1⟩ := bcell hb1; (try simp at hz1); have hs0 : w.heap.size < w1.heap.size := (by omega); have hs1 : w.heap.size + 1 < w1.heap.size := (by omega); have hB1 : Below w.heap.size w w1 := (bel_then (by repeat (first | with_reducible exact Below.refl _ _ | with_reducible assumption | with_reducible refine bel_alloc ?_ _ | with_reducible refine bel_drew ?_ | with_reducible refine bel_drewN ?_ _ | (with_reducible refine bel_set ?_ ?_ _; rotate_left; ((try simp); (try omega))))) hb1); clear hb1))
    refine bodyPost_ret (v := .tuple #[.agg #[.string s, .int .i64 a, .int .i64 b, .int .i64 c], .int .i64 0, .bool false]) (by simp [results, Try.results29, go_sem, *]) rfl ?_
    exact ⟨_, [], rfl, (by repeat (first | with_reducible exact Below.refl _ _ | with_reducible assumption | with_reducible refine bel_alloc ?_ _ | with_reducible refine bel_drew ?_ | with_reducible refine bel_drewN ?_ _ | (with_reducible refine bel_set ?_ ?_ _; rotate_left; ((try simp); (try omega))))), TReg.mk_ HOK.out, Fresh.nil _⟩
  · have HE := Lib.hid (show activate ⟨s, a, b, c⟩ used = (⟨s, a, 0, b⟩, c, true) by simp [activate, h1])
    rw [HE.out]
    go_enter Try.func29, Try.ntmps29
    go_wp2_with fail
    refine (implCanCells _ _ _ _ _ used _ _ hs1 HOK.out (by exact Cod.bel h2 (by repeat (first | with_reducible exact Below.refl _ _ | with_reducible assumption | with_reducible refine bel_alloc ?_ _ | with_reducible refine bel_drew ?_ | with_reducible refine bel_drewN ?_ _ | (with_reducible refine bel_set ?_ ?_ _; rotate_left; ((try simp); (try omega)))))) hn2).mono ?_
    rintro e w1 ⟨rfl, hb1⟩
    have hz := hb1.size
    (try simp at hz)
    have hs8 : w.heap.size < w1.heap.size := by omega
    have hs9 : w.heap.size + 1 < w1.heap.size := by omega
    obtain ⟨hc1, hf1, -⟩ := bcell hb1
    have hB1 : Below w.heap.size w w1 := bel_then (by repeat (first | with_reducible exact Below.refl _ _ | with_reducible assumption | with_reducible refine bel_alloc ?_ _ | with_reducible refine bel_drew ?_ | with_reducible refine bel_drewN ?_ _ | (with_reducible refine bel_set ?_ ?_ _; rotate_left; ((try simp); (try omega))))) hb1
    have k0 : w1.cell? ⟨w.heap.size, 0, none⟩ = some (.string s) := by go_simp
    have k1 : w1.cell? ⟨w.heap.size, 1, none⟩ = some (.int .i64 a) := by go_simp
    have k2 : w1.cell? ⟨w.heap.size, 2, none⟩ = some (.int .i64 b) := by go_simp
    have k3 : w1.cell? ⟨w.heap.size, 3, none⟩ = some (.int .i64 c) := by go_simp
    have j0 : w1.cell? ⟨w.heap.size + 1, 0, none⟩ = some (.string ⟨#[]⟩) := by go_simp
    have j1 : w1.cell? ⟨w.heap.size + 1, 1, none⟩ = some (.int .i64 0) := by go_simp
    have j2 : w1.cell? ⟨w.heap.size + 1, 2, none⟩ = some (.int .i64 0) := by go_simp
    have j3 : w1.cell? ⟨w.heap.size + 1, 3, none⟩ = some (.int .i64 0) := by go_simp
    clear hb1 hz
    go_wp2_with fail
    refine bodyPost_ret (v := .tuple #[.agg #[.string s, .int .i64 a, .int .i64 0, .int .i64 b], .int .i64 c, .bool true]) (by simp [results, Try.results29, go_sem, *]) rfl ?_
    exact ⟨_, [], rfl, (by repeat (first | with_reducible exact Below.refl _ _ | with_reducible assumption | with_reducible refine bel_alloc ?_ _ | with_reducible refine bel_drew ?_ | with_reducible refine bel_drewN ?_ _ | (with_reducible refine bel_set ?_ ?_ _; rotate_left; ((try simp); (try omega))))), TReg.mk_ (x := ⟨s, a, 0, b⟩) ⟨HOK.out.h0, HOK.out.h1, ⟨show (-9223372036854775808 : Int) ≤ 0 by decide, show (0 : Int) ≤ 9223372036854775807 by decide⟩, HOK.out.h2⟩, Fresh.nil _⟩
end Go.Proofs.Yteipaolcmjfhdaa
