/-
  Loops: copies of a loop, PostTask, PostMicro and NextTask of the program and of the reference. No conditions.
-/
import Derived.Test.YteipaolcmjfhdaaTLoop
import Derived.Test.YteipaolcmjfhdaaOwn
import Derived.Deep.RegionHeld3
namespace Go.Proofs.Yteipaolcmjfhdaa
open Go.ChangeShapes Go.WideShapes Go.RowKit
set_option linter.unusedVariables false

theorem infoInt : (Try.prog.info? 3).map (fun i => (i.zero, i.size, i.bytes)) = some (some (Value.int .i64 0), 1, 8) := by kernel_rfl

/-- A loop whose two rows are the call's own. -/
def OwnLoop (w : World) (x : TLoop) (e : Ending) (w' : World) : Prop :=
  ∃ v0 v1, e = .returned (.agg #[v0, v1]) ∧ Below w.heap.size w w' ∧ Own cI 3 w.heap.size w' v0 x.tasks [] ∧ Own cI 3 w.heap.size w' v1 x.micro [] ∧ ∀ g, ownB v0 = some g → ownB v1 ≠ some g

set_option maxRecDepth 100000 in
set_option maxHeartbeats 4000000 in
theorem implCopyLoop_any (vs : Array Value) (x : TLoop) (F : List Nat) (w : World) (h : cLoop.rep w vs.toList x F) (hn : cLoop.sz x ≤ 1048576) :
    Calls Try.prog 67 #[.agg vs] w (OwnLoop w x) := by
  obtain ⟨i0, hi0, hz0, hz1, hz2⟩ := info_parts infoInt
  have hsz : x.tasks.length ≤ 1048576 ∧ x.micro.length ≤ 1048576 := by
    have h1 := Cod.len_le cI x.tasks; have h2 := Cod.len_le cI x.micro
    have : cLoop.sz x = cI.szs x.tasks + cI.szs x.micro := rfl
    omega
  obtain ⟨u0, u1, F0, F1, rfl, -, -, m0, m1⟩ := TLoop.outA h
  obtain ⟨A0, c0, rfl⟩ := cL_form m0
  obtain ⟨A1, c1, rfl⟩ := cL_form m1
  clear h hn
  obtain ⟨hs0, hs1⟩ := hsz
  have HS0 := Lib.hid hs0
  have HS1 := Lib.hid hs1
  clear hs0 hs1
  go_enter Try.func67, Try.ntmps67
  go_wp2_with fail
  generalize hW : World.alloc _ _ = W
  have hWs : W.heap.size = w.heap.size + 2 := by rw [← hW]; clear hW; simp
  have hbW : Below w.heap.size w W := by rw [← hW]; exact (by repeat (first | with_reducible exact Below.refl _ _ | with_reducible assumption | with_reducible refine bel_alloc ?_ _ | with_reducible refine bel_drew ?_ | with_reducible refine bel_drewN ?_ _ | (with_reducible refine bel_set ?_ ?_ _; rotate_left; ((try simp); (try omega)))))
  have k0 : W.cell? ⟨w.heap.size, 0, none⟩ = some (.slice A0 x.tasks.length c0) := by rw [← hW]; clear hW; go_simp
  have k1 : W.cell? ⟨w.heap.size, 1, none⟩ = some (.slice A1 x.micro.length c1) := by rw [← hW]; clear hW; go_simp
  have r0 : W.cell? ⟨w.heap.size + 1, 0, none⟩ = some (.slice none 0 0) := by rw [← hW]; clear hW; go_simp
  have r1 : W.cell? ⟨w.heap.size + 1, 1, none⟩ = some (.slice none 0 0) := by rw [← hW]; clear hW; go_simp
  have z0 : W.frozen? ⟨w.heap.size + 1, 0, none⟩ = false := by rw [← hW]; clear hW; go_simp
  have z1 : W.frozen? ⟨w.heap.size + 1, 1, none⟩ = false := by rw [← hW]; clear hW; go_simp
  clear hW
  have hB1 : w.heap.size + 1 ≤ W.heap.size := by omega
  have hS : ∀ w9, Below (w.heap.size + 1) W w9 → Below (w.heap.size + 1) W w9 ∧ w9.cell? ⟨w.heap.size, 0, none⟩ = some (.slice A0 x.tasks.length c0) ∧ w9.cell? ⟨w.heap.size, 1, none⟩ = some (.slice A1 x.micro.length c1) :=
    fun w9 hb => ⟨hb, (hb.cell (p := ⟨w.heap.size, 0, none⟩) (Nat.lt_succ_self _)).trans k0, (hb.cell (p := ⟨w.heap.size, 1, none⟩) (Nat.lt_succ_self _)).trans k1⟩
  have HR := Lib.hid (And.intro r0 (And.intro r1 (And.intro z0 z1)))
  clear r0 r1 z0 z1 k0 k1
  go_region_held3 (fun w9 => Below (w.heap.size + 1) W w9 ∧ w9.cell? ⟨w.heap.size, 0, none⟩ = some (.slice A0 x.tasks.length c0) ∧ w9.cell? ⟨w.heap.size, 1, none⟩ = some (.slice A1 x.micro.length c1)) (exact hS _ (by repeat (first | with_reducible exact Below.refl _ _ | with_reducible assumption | with_reducible refine belB_alloc (by first | assumption | omega) ?_ _ | with_reducible refine belB_drew ?_ | with_reducible refine belB_drewN ?_ _ | with_reducible refine belB_set (by first | exact Nat.le_refl _ | (show _ ≤ _; simp; done) | (show _ ≤ _; simp; omega) | (show _ ≤ _; omega)) ?_ _)))
    (first
      | (refine step_app (c := cI) (B := W.heap.size) (xs := []) (ys := x.tasks) (Fi := []) (Fy := []) _ rfl _ _ _ rfl i0 _ _ Try.underlying24 hi0 hz0 hz1 hz2 rfl (by decide) (v := .slice (some _) 0 0) rfl (Own.empty _) (.slice A0 x.tasks.length c0) rfl (AppSrc.flat (hw := by decide) (hw2 := by decide) flat_I (Cod.bel m0 (by repeat (first | with_reducible exact Below.refl _ _ | with_reducible assumption | with_reducible refine bel_alloc ?_ _ | with_reducible refine bel_drew ?_ | with_reducible refine bel_drewN ?_ _ | (with_reducible refine bel_set ?_ ?_ _; rotate_left; ((try simp); (try omega))))))) (by have := HS0.out; unfold maxLen; simp; omega) (by have := HS0.out; simp; omega) (by (try simp); (try omega)) (by simp [ownB]) ?_
         intro v1 w1 ho1 hg1 hat1
         replace ho1 : Own cI 3 W.heap.size w1 v1 x.tasks [] := ho1
         obtain ⟨B0, d0, eB0⟩ := ho1.slice
         subst eB0
         have hb1 : Below W.heap.size W w1 := bel_then (by repeat (first | with_reducible exact Below.refl _ _ | with_reducible assumption | with_reducible refine bel_alloc ?_ _ | with_reducible refine bel_drew ?_ | with_reducible refine bel_drewN ?_ _ | (with_reducible refine bel_set ?_ ?_ _; rotate_left; ((try simp); (try omega))))) ((Below.refl _ _).grown hg1 (Nat.le_refl _) (by simp [ownB]))
         have hbw1 : Below w.heap.size w w1 := bel_then hbW hb1
         have hbB1 : Below (w.heap.size + 1) W w1 := hb1.mono hB1
         clear hg1 hat1)
      | (refine step_app (c := cI) (B := W.heap.size) (xs := []) (ys := x.micro) (Fi := []) (Fy := []) _ rfl _ _ _ rfl i0 _ _ Try.underlying24 hi0 hz0 hz1 hz2 rfl (by decide) (v := .slice (some _) 0 0) rfl (Own.empty _) (.slice A1 x.micro.length c1) rfl (AppSrc.flat (hw := by decide) (hw2 := by decide) flat_I (Cod.bel m1 (by repeat (first | with_reducible exact Below.refl _ _ | with_reducible assumption | with_reducible refine bel_alloc ?_ _ | with_reducible refine bel_drew ?_ | with_reducible refine bel_drewN ?_ _ | (with_reducible refine bel_set ?_ ?_ _; rotate_left; ((try simp); (try omega))))))) (by have := HS1.out; unfold maxLen; simp; omega) (by have := HS1.out; simp; omega) (by have := hb1.size; (try simp); (try omega)) (by simp [ownB]) ?_
         intro v2 w2 ho2 hg2 hat2
         replace ho2 : Own cI 3 W.heap.size w2 v2 x.micro [] := ho2
         obtain ⟨B1, d1, eB1⟩ := ho2.slice
         subst eB1
         have hb12 : Below w1.heap.size w1 w2 := bel_then (by repeat (first | with_reducible exact Below.refl _ _ | with_reducible assumption | with_reducible refine bel_alloc ?_ _ | with_reducible refine bel_drew ?_ | with_reducible refine bel_drewN ?_ _ | (with_reducible refine bel_set ?_ ?_ _; rotate_left; ((try simp); (try omega))))) ((Below.refl _ _).grown hg2 (Nat.le_refl _) (by simp [ownB]))
         have hb2 : Below W.heap.size W w2 := bel_then hb1 hb12
         have hbw2 : Below w.heap.size w w2 := bel_then hbW hb2
         have hbB2 : Below (w.heap.size + 1) W w2 := hb2.mono hB1
         have hne : ∀ g, ownB (.slice B0 x.tasks.length d0) = some g → ownB (.slice B1 x.micro.length d1) ≠ some g := fun g h1 h2 => by
           have e1 := (ho1.lt g h1).2
           rcases hat2 g h2 with e2 | e2
           · simp [ownB] at e2
           · have e3 := hb1.size; (try simp at e2); omega
         obtain ⟨hc2, hf2, -⟩ := bcell hb2
         have q0 := (hc2 (w.heap.size + 1) 0 (by omega)).trans HR.out.1
         have q1 := (hc2 (w.heap.size + 1) 1 (by omega)).trans HR.out.2.1
         have f0 := (hf2 (w.heap.size + 1) 0 (by omega)).trans HR.out.2.2.1
         have f1 := (hf2 (w.heap.size + 1) 1 (by omega)).trans HR.out.2.2.2
         clear hc2 hf2 hg2 hat2))
  all_goals
    go_wp2_with fail
    refine bodyPost_ret (v := .agg #[.slice B0 x.tasks.length d0, .slice B1 x.micro.length d1]) (by simp [results, Try.results67, go_sem, *]) rfl ?_
    exact ⟨_, _, rfl, (by repeat (first | with_reducible exact Below.refl _ _ | with_reducible assumption | with_reducible refine bel_alloc ?_ _ | with_reducible refine bel_drew ?_ | with_reducible refine bel_drewN ?_ _ | (with_reducible refine bel_set ?_ ?_ _; rotate_left; ((try simp); (try omega))))), ((ho1.bel hb12).keepF (by repeat (first | with_reducible exact Keep.refl _ _ | with_reducible assumption | with_reducible refine Keep.alloc ?_ _ | with_reducible refine Keep.drew ?_ | with_reducible refine Keep.drewN ?_ _ | (with_reducible refine Keep.set_ ?_ ?_ _; rotate_left; ((try simp); (try omega)))))).mono (by omega), (ho2.keepF (by repeat (first | with_reducible exact Keep.refl _ _ | with_reducible assumption | with_reducible refine Keep.alloc ?_ _ | with_reducible refine Keep.drew ?_ | with_reducible refine Keep.drewN ?_ _ | (with_reducible refine Keep.set_ ?_ ?_ _; rotate_left; ((try simp); (try omega)))))).mono (by omega), hne⟩
end Go.Proofs.Yteipaolcmjfhdaa
