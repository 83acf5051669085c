/-
  EndInstall of the program and of the reference. No conditions.
-/
import Derived.Test.YteipaolcmjfhdaaRegFn
import Derived.Deep.RegionHeld3
namespace Go.Proofs.Yteipaolcmjfhdaa
open Go.ChangeShapes Go.WideShapes Go.RowKit

def endInstall (x : TReg) (ok : Bool) : TReg × Int :=
  bif isReg x && x.ins != 0 then (bif ok then (⟨x.site, 0, x.ins, x.act⟩, x.wai) else (⟨x.site, 0, x.wai, x.act⟩, x.ins)) else (x, 0)

set_option maxRecDepth 100000 in
set_option maxHeartbeats 4000000 in
theorem implEndInstall_any (vs : Array Value) (x : TReg) (F : List Nat) (ok : Bool) (w : World) (h : cReg.rep w vs.toList x F) (_hn : cReg.sz x ≤ 1048576) :
    Calls Try.prog 38 #[.agg vs, .bool ok] w (GivesR2 cReg w (endInstall x ok).1 (.int .i64 (endInstall x ok).2)) := by
  have hok := (TReg.out h).2.2
  rw [TReg.val_of h]
  clear h
  have hs := hok.h0
  have HOK := Lib.hid hok
  clear hok
  have hr : ∀ (y : TReg) (n : Int), endInstall x ok = (y, n) → GivesR2 cReg w y (.int .i64 n) = GivesR2 cReg w (endInstall x ok).1 (.int .i64 (endInstall x ok).2) := fun y n e => by rw [e]
  have HR := Lib.hid hr
  clear hr
  obtain ⟨s, a, b, c⟩ := x
  simp only [TReg.val]
  simp only at hs
  cases h1 : isReg ⟨s, a, b, c⟩
  · rw [← HR.out ⟨s, a, b, c⟩ 0 (by simp [endInstall, h1])]
    go_enter Try.func38, Try.ntmps38
    go_wp2_with (first | (go_at_call 33; refine (implRegCells _ _ _ _ _ hs).mono ?_; rintro e w1 ⟨rfl, hb1⟩; obtain ⟨hc1, hf1, hz1⟩ := bcell hb1; (try simp at hz1); have hs0 : w.heap.size < w1.heap.size := (by omega); have hs1 : w.heap.size + 1 < w1.heap.size := (by omega); have hB1 : Below w.heap.size w w1 := (bel_then (by repeat (first | with_reducible exact Below.refl _ _ | with_reducible assumption | with_reducible refine bel_alloc ?_ _ | with_reducible refine bel_drew ?_ | with_reducible refine bel_drewN ?_ _ | (with_reducible refine bel_set ?_ ?_ _; rotate_left; ((try simp); (try omega))))) hb1); clear hb1))
    refine bodyPost_ret (v := .tuple #[.agg #[.string s, .int .i64 a, .int .i64 b, .int .i64 c], .int .i64 0]) (by simp [results, Try.results38, go_sem, *]) rfl ?_
    exact ⟨_, [], rfl, (by repeat (first | with_reducible exact Below.refl _ _ | with_reducible assumption | with_reducible refine bel_alloc ?_ _ | with_reducible refine bel_drew ?_ | with_reducible refine bel_drewN ?_ _ | (with_reducible refine bel_set ?_ ?_ _; rotate_left; ((try simp); (try omega))))), TReg.mk_ HOK.out, Fresh.nil _⟩
  · by_cases h3 : a = 0
    · have b3' : (a != 0) = false := by simp [h3]
      rw [← HR.out ⟨s, a, b, c⟩ 0 (by simp [endInstall, b3'])]
      have b3 : (a == 0) = true := by simp [h3]
      clear b3' h3
      go_enter Try.func38, Try.ntmps38
      go_wp2_with (first | (go_at_call 33; refine (implRegCells _ _ _ _ _ hs).mono ?_; rintro e w1 ⟨rfl, hb1⟩; obtain ⟨hc1, hf1, hz1⟩ := bcell hb1; (try simp at hz1); have hs0 : w.heap.size < w1.heap.size := (by omega); have hs1 : w.heap.size + 1 < w1.heap.size := (by omega); have hB1 : Below w.heap.size w w1 := (bel_then (by repeat (first | with_reducible exact Below.refl _ _ | with_reducible assumption | with_reducible refine bel_alloc ?_ _ | with_reducible refine bel_drew ?_ | with_reducible refine bel_drewN ?_ _ | (with_reducible refine bel_set ?_ ?_ _; rotate_left; ((try simp); (try omega))))) hb1); clear hb1))
      all_goals refine bodyPost_ret (v := .tuple #[.agg #[.string s, .int .i64 a, .int .i64 b, .int .i64 c], .int .i64 0]) (by simp [results, Try.results38, go_sem, *]) rfl ?_
      all_goals exact ⟨_, [], rfl, (by repeat (first | with_reducible exact Below.refl _ _ | with_reducible assumption | with_reducible refine bel_alloc ?_ _ | with_reducible refine bel_drew ?_ | with_reducible refine bel_drewN ?_ _ | (with_reducible refine bel_set ?_ ?_ _; rotate_left; ((try simp); (try omega))))), TReg.mk_ HOK.out, Fresh.nil _⟩
    · have b3' : (a != 0) = true := by simp [h3]
      have b3 : (a == 0) = false := by simp [h3]
      cases ok
      · rw [← HR.out ⟨s, 0, b, c⟩ a (by simp [endInstall, h1, b3'])]
        clear b3' h3
        go_enter Try.func38, Try.ntmps38
        go_wp2_with fail
        refine (implRegCells _ _ _ _ _ hs).mono ?_
        rintro e w1 ⟨rfl, hb1⟩
        have hz := hb1.size
        (try simp at hz)
        have hs0 : w.heap.size < w1.heap.size := by omega
        have hs1 : w.heap.size + 1 < w1.heap.size := by omega
        obtain ⟨hc1, hf1, -⟩ := bcell hb1
        have hB1 : Below w.heap.size w w1 := bel_then (by repeat (first | with_reducible exact Below.refl _ _ | with_reducible assumption | with_reducible refine bel_alloc ?_ _ | with_reducible refine bel_drew ?_ | with_reducible refine bel_drewN ?_ _ | (with_reducible refine bel_set ?_ ?_ _; rotate_left; ((try simp); (try omega))))) hb1
        have k0 : w1.cell? ⟨w.heap.size, 0, none⟩ = some (.string s) := by go_simp
        have k1 : w1.cell? ⟨w.heap.size, 1, none⟩ = some (.int .i64 a) := by go_simp
        have k2 : w1.cell? ⟨w.heap.size, 2, none⟩ = some (.int .i64 b) := by go_simp
        have k3 : w1.cell? ⟨w.heap.size, 3, none⟩ = some (.int .i64 c) := by go_simp
        have hs2 : w.heap.size < w1.heap.size := by omega
        have j0 : w1.cell? ⟨w.heap.size, 0, none⟩ = some (.string s) := by go_simp
        have j1 : w1.cell? ⟨w.heap.size, 1, none⟩ = some (.int .i64 a) := by go_simp
        have j2 : w1.cell? ⟨w.heap.size, 2, none⟩ = some (.int .i64 b) := by go_simp
        have j3 : w1.cell? ⟨w.heap.size, 3, none⟩ = some (.int .i64 c) := by go_simp
        clear hb1 hz
        go_wp2_with fail
        try
          go_region_held3 (fun w9 => w9.cell? ⟨w.heap.size, 0, none⟩ = some (.string s) ∧ w9.cell? ⟨w.heap.size, 1, none⟩ = some (.int .i64 0) ∧ w9.cell? ⟨w.heap.size, 2, none⟩ = some (.int .i64 b) ∧ w9.cell? ⟨w.heap.size, 3, none⟩ = some (.int .i64 c) ∧ w9.cell? ⟨w.heap.size, 1, none⟩ = some (.int .i64 a)) ((refine ⟨?_, ?_, ?_, ?_, ?_⟩ <;> go_simp)) (fail)
          go_wp2_with fail
        refine bodyPost_ret (v := .tuple #[.agg #[.string s, .int .i64 0, .int .i64 b, .int .i64 c], .int .i64 a]) (by simp [results, Try.results38, go_sem, *]) rfl ?_
        exact ⟨_, [], rfl, (by repeat (first | with_reducible exact Below.refl _ _ | with_reducible assumption | with_reducible refine bel_alloc ?_ _ | with_reducible refine bel_drew ?_ | with_reducible refine bel_drewN ?_ _ | (with_reducible refine bel_set ?_ ?_ _; rotate_left; ((try simp); (try omega))))), TReg.mk_ (x := ⟨s, 0, b, c⟩) ⟨hs, ⟨show (-9223372036854775808 : Int) ≤ 0 by decide, show (0 : Int) ≤ 9223372036854775807 by decide⟩, HOK.out.h2, HOK.out.h3⟩, Fresh.nil _⟩
      · rw [← HR.out ⟨s, 0, a, c⟩ b (by simp [endInstall, h1, b3'])]
        clear b3' h3
        go_enter Try.func38, Try.ntmps38
        go_wp2_with fail
        refine (implRegCells _ _ _ _ _ hs).mono ?_
        rintro e w1 ⟨rfl, hb1⟩
        have hz := hb1.size
        (try simp at hz)
        have hs0 : w.heap.size < w1.heap.size := by omega
        have hs1 : w.heap.size + 1 < w1.heap.size := by omega
        obtain ⟨hc1, hf1, -⟩ := bcell hb1
        have hB1 : Below w.heap.size w w1 := bel_then (by repeat (first | with_reducible exact Below.refl _ _ | with_reducible assumption | with_reducible refine bel_alloc ?_ _ | with_reducible refine bel_drew ?_ | with_reducible refine bel_drewN ?_ _ | (with_reducible refine bel_set ?_ ?_ _; rotate_left; ((try simp); (try omega))))) hb1
        have k0 : w1.cell? ⟨w.heap.size, 0, none⟩ = some (.string s) := by go_simp
        have k1 : w1.cell? ⟨w.heap.size, 1, none⟩ = some (.int .i64 a) := by go_simp
        have k2 : w1.cell? ⟨w.heap.size, 2, none⟩ = some (.int .i64 b) := by go_simp
        have k3 : w1.cell? ⟨w.heap.size, 3, none⟩ = some (.int .i64 c) := by go_simp
        have hs2 : w.heap.size < w1.heap.size := by omega
        have j0 : w1.cell? ⟨w.heap.size, 0, none⟩ = some (.string s) := by go_simp
        have j1 : w1.cell? ⟨w.heap.size, 1, none⟩ = some (.int .i64 a) := by go_simp
        have j2 : w1.cell? ⟨w.heap.size, 2, none⟩ = some (.int .i64 b) := by go_simp
        have j3 : w1.cell? ⟨w.heap.size, 3, none⟩ = some (.int .i64 c) := by go_simp
        clear hb1 hz
        go_wp2_with fail
        try
          go_region_held3 (fun w9 => w9.cell? ⟨w.heap.size, 0, none⟩ = some (.string s) ∧ w9.cell? ⟨w.heap.size, 1, none⟩ = some (.int .i64 0) ∧ w9.cell? ⟨w.heap.size, 2, none⟩ = some (.int .i64 a) ∧ w9.cell? ⟨w.heap.size, 3, none⟩ = some (.int .i64 c) ∧ w9.cell? ⟨w.heap.size, 2, none⟩ = some (.int .i64 b)) ((refine ⟨?_, ?_, ?_, ?_, ?_⟩ <;> go_simp)) (fail)
          go_wp2_with fail
        refine bodyPost_ret (v := .tuple #[.agg #[.string s, .int .i64 0, .int .i64 a, .int .i64 c], .int .i64 b]) (by simp [results, Try.results38, go_sem, *]) rfl ?_
        exact ⟨_, [], rfl, (by repeat (first | with_reducible exact Below.refl _ _ | with_reducible assumption | with_reducible refine bel_alloc ?_ _ | with_reducible refine bel_drew ?_ | with_reducible refine bel_drewN ?_ _ | (with_reducible refine bel_set ?_ ?_ _; rotate_left; ((try simp); (try omega))))), TReg.mk_ (x := ⟨s, 0, a, c⟩) ⟨hs, ⟨show (-9223372036854775808 : Int) ≤ 0 by decide, show (0 : Int) ≤ 9223372036854775807 by decide⟩, HOK.out.h1, HOK.out.h3⟩, Fresh.nil _⟩
end Go.Proofs.Yteipaolcmjfhdaa
