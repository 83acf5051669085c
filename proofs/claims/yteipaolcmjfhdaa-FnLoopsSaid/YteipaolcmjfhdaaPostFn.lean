/-
  PostTask and PostMicro of the program and of the reference. No conditions.
-/
import Derived.Test.YteipaolcmjfhdaaLoopFn
namespace Go.Proofs.Yteipaolcmjfhdaa
open Go.ChangeShapes Go.WideShapes Go.RowKit
set_option linter.unusedVariables false

def postTask (x : TLoop) (id : Int) : TLoop × Bool := bif decide (16 ≤ (x.tasks.length : Int)) then (x, false) else (⟨x.tasks ++ [id], x.micro⟩, true)
def postMicro (x : TLoop) (id : Int) : TLoop × Bool := bif decide (16 ≤ (x.micro.length : Int)) then (x, false) else (⟨x.tasks, x.micro ++ [id]⟩, true)

theorem TLoop.own {w : World} {x : TLoop} {v0 v1 : Value} {B : Nat} (h0 : Own cI 3 B w v0 x.tasks []) (h1 : Own cI 3 B w v1 x.micro []) (hne : ∀ g, ownB v0 = some g → ownB v1 ≠ some g) :
    ∃ F, cLoop.rep w [v0, v1] x F ∧ Fresh B F := by
  obtain ⟨F0, k0, f0, e0⟩ := h0.fresh (hw := by decide) (hw2 := by decide)
  obtain ⟨F1, k1, f1, e1⟩ := h1.fresh (hw := by decide) (hw2 := by decide)
  refine ⟨F0 ++ F1, TLoop.mk_ trivial k0 k1, fun b hb => ?_, List.nodup_append.2 ⟨f0.2, f1.2, fun a ha b hb e => ?_⟩⟩
  · rcases List.mem_append.1 hb with hb | hb
    · exact f0.1 b hb
    · exact f1.1 b hb
  · subst e; exact hne a (e0 a ha) (e1 a hb)

theorem src_one {w : World} {n : Int} {g : Nat} (h : -9223372036854775808 ≤ n ∧ n ≤ 9223372036854775807) (hc : w.cell? ⟨g, 0, none⟩ = some (.int .i64 n)) : AppSrc cI w (.slice (some ⟨g, 0, none⟩) 1 1) [n] [] :=
  ⟨some ⟨g, 0, none⟩, 1, [.int .i64 n], rfl, Cod.reps_one (c := cI) ⟨rfl, rfl, h⟩, fun _ => ⟨_, rfl, fun j u hu => by
    obtain ⟨rfl, rfl⟩ : j = 0 ∧ u = .int .i64 n := by
      cases j with
      | zero => simpa using hu.symm
      | succ j => simp at hu
    exact hc⟩⟩

set_option maxRecDepth 100000 in
set_option maxHeartbeats 4000000 in
theorem implPostTask_any (vs : Array Value) (x : TLoop) (F : List Nat) (id : Int) (w : World) (h : cLoop.rep w vs.toList x F) (hn : cLoop.sz x ≤ 1048576) (hid : -9223372036854775808 ≤ id ∧ id ≤ 9223372036854775807) :
    Calls Try.prog 12 #[.agg vs, .int .i64 id] w (GivesR2 cLoop w (postTask x id).1 (.bool (postTask x id).2)) := by
  obtain ⟨i0, hi0, hz0, hz1, hz2⟩ := info_parts infoInt
  have HID := Lib.hid hid
  clear hid
  have hsz : x.tasks.length ≤ 1048576 ∧ x.micro.length ≤ 1048576 := by
    have h1 := Cod.len_le cI x.tasks; have h2 := Cod.len_le cI x.micro
    have : cLoop.sz x = cI.szs x.tasks + cI.szs x.micro := rfl
    omega
  have HS := Lib.hid hsz
  clear hsz
  have hr := h
  obtain ⟨u0, u1, F0, F1, rfl, -, -, m0, m1⟩ := TLoop.outA h
  obtain ⟨A0, c0, rfl⟩ := cL_form m0
  obtain ⟨A1, c1, rfl⟩ := cL_form m1
  clear h m0 m1
  by_cases hfull : 16 ≤ (x.tasks.length : Int)
  · have hp : postTask x id = (x, false) := by simp [postTask, hfull]
    have HP := Lib.hid hp
    clear hp
    rw [HP.out]
    go_enter Try.func12, Try.ntmps12
    go_wp2_with fail
    refine (implCopyLoop_any _ x _ _ (by exact Cod.bel hr (by repeat (first | with_reducible exact Below.refl _ _ | with_reducible assumption | with_reducible refine bel_alloc ?_ _ | with_reducible refine bel_drew ?_ | with_reducible refine bel_drewN ?_ _ | (with_reducible refine bel_set ?_ ?_ _; rotate_left; ((try simp); (try omega)))))) hn).mono ?_
    rintro e w1 ⟨v0, v1, rfl, hb, ho0, ho1, hne⟩
    obtain ⟨B0, d0, eB0⟩ := ho0.slice
    subst eB0
    obtain ⟨B1, d1, eB1⟩ := ho1.slice
    subst eB1
    have hs1 := hb.size
    (try simp at hs1)
    have ha0 : w.heap.size < w1.heap.size := by omega
    have ha1 : w.heap.size + 1 < w1.heap.size := by omega
    obtain ⟨hc1, hf1, -⟩ := bcell hb
    have hb1 : Below w.heap.size w w1 := bel_then (by repeat (first | with_reducible exact Below.refl _ _ | with_reducible assumption | with_reducible refine bel_alloc ?_ _ | with_reducible refine bel_drew ?_ | with_reducible refine bel_drewN ?_ _ | (with_reducible refine bel_set ?_ ?_ _; rotate_left; ((try simp); (try omega))))) hb
    obtain ⟨G, hG, hfG⟩ := TLoop.own ho0 ho1 hne
    clear hb hs1
    go_wp2_with fail
    refine bodyPost_ret (v := .tuple #[.agg #[.slice B0 x.tasks.length d0, .slice B1 x.micro.length d1], .bool false]) (by simp [results, Try.results12, go_sem, *]) rfl ?_
    exact ⟨_, G, rfl, (by repeat (first | with_reducible exact Below.refl _ _ | with_reducible assumption | with_reducible refine bel_alloc ?_ _ | with_reducible refine bel_drew ?_ | with_reducible refine bel_drewN ?_ _ | (with_reducible refine bel_set ?_ ?_ _; rotate_left; ((try simp); (try omega))))), Cod.keep2 hG hfG (by repeat (first | with_reducible exact Keep.refl _ _ | with_reducible assumption | with_reducible refine Keep.alloc ?_ _ | with_reducible refine Keep.drew ?_ | with_reducible refine Keep.drewN ?_ _ | (with_reducible refine Keep.set_ ?_ ?_ _; rotate_left; ((try simp); (try omega))))), hfG.mono (by (try simp); (try omega))⟩
  · have hp : postTask x id = (⟨x.tasks ++ [id], x.micro⟩, true) := by simp [postTask, hfull]
    have HP := Lib.hid hp
    clear hp
    rw [HP.out]
    have hlt : (x.tasks.length : Int) < 16 := by omega
    go_enter Try.func12, Try.ntmps12
    go_wp2_with fail
    refine (implCopyLoop_any _ x _ _ (by exact Cod.bel hr (by repeat (first | with_reducible exact Below.refl _ _ | with_reducible assumption | with_reducible refine bel_alloc ?_ _ | with_reducible refine bel_drew ?_ | with_reducible refine bel_drewN ?_ _ | (with_reducible refine bel_set ?_ ?_ _; rotate_left; ((try simp); (try omega)))))) hn).mono ?_
    rintro e w1 ⟨v0, v1, rfl, hb, ho0, ho1, hne⟩
    obtain ⟨B0, d0, eB0⟩ := ho0.slice
    subst eB0
    obtain ⟨B1, d1, eB1⟩ := ho1.slice
    subst eB1
    have hs1 := hb.size
    (try simp at hs1)
    have ha0 : w.heap.size < w1.heap.size := by omega
    have ha1 : w.heap.size + 1 < w1.heap.size := by omega
    obtain ⟨hc1, hf1, -⟩ := bcell hb
    have hb1 : Below w.heap.size w w1 := bel_then (by repeat (first | with_reducible exact Below.refl _ _ | with_reducible assumption | with_reducible refine bel_alloc ?_ _ | with_reducible refine bel_drew ?_ | with_reducible refine bel_drewN ?_ _ | (with_reducible refine bel_set ?_ ?_ _; rotate_left; ((try simp); (try omega))))) hb
    clear hb hs1
    have HO := Lib.hid (And.intro ho0 (And.intro ho1 hne))
    clear ho0 ho1 hne
    go_wp2_with (at_builtin; refine wpList_app (c := cI) (xs := x.tasks) (ys := [id]) (Fi := []) (Fy := []) _ rfl _ _ _ rfl i0 _ _ Try.underlying24 hi0 hz0 hz1 hz2 rfl (by decide) (v := .slice B0 x.tasks.length d0) rfl (HO.out.1.bel (by repeat (first | with_reducible exact Below.refl _ _ | with_reducible assumption | with_reducible refine bel_alloc ?_ _ | with_reducible refine bel_drew ?_ | with_reducible refine bel_drewN ?_ _ | (with_reducible refine bel_set ?_ ?_ _; rotate_left; ((try simp); (try omega)))))) _ rfl (src_one (g := w1.heap.size + 1) HID.out (by go_simp)) (by have := HS.out; unfold maxLen; simp; omega) (by have := HS.out; simp; omega) (by (try simp); (try omega)) (by simp) ?_)
    intro v2 w2 ho2 hg hat
    have hs2 := hg.size
    (try simp at hs2)
    obtain ⟨ho0, ho1, hne⟩ := HO.out
    have hbw2 : Below w.heap.size w w2 := Below.grown (show Below w.heap.size w _ from (by repeat (first | with_reducible exact Below.refl _ _ | with_reducible assumption | with_reducible refine bel_alloc ?_ _ | with_reducible refine bel_drew ?_ | with_reducible refine bel_drewN ?_ _ | (with_reducible refine bel_set ?_ ?_ _; rotate_left; ((try simp); (try omega)))))) hg (by (try simp); (try omega)) (fun k hk => by have := (ho0.lt k hk).1; (try simp at this); omega)
    have hblk : ∀ k, k < w1.heap.size + 2 → (k < w.heap.size + 2 ∨ w1.heap.size ≤ k) → w2.heap[k]? = ((w1.alloc (.cells #[.slice B0 x.tasks.length d0, .slice B1 x.micro.length d1] 26)).alloc (.cells #[.int .i64 id] 3)).heap[k]? := fun k h1 h2 =>
      hg.block k (by (try simp); (try omega)) (fun e => by have := ho0.lt k e.symm; (try simp at this); omega)
    have q0 : w2.cell? ⟨w1.heap.size, 0, none⟩ = some (.slice B0 x.tasks.length d0) := (World.cell?_of_block (hblk w1.heap.size (by omega) (by omega))).trans (by go_simp)
    have q1 : w2.cell? ⟨w1.heap.size, 1, none⟩ = some (.slice B1 x.micro.length d1) := (World.cell?_of_block (hblk w1.heap.size (by omega) (by omega))).trans (by go_simp)
    have f0 : w2.frozen? ⟨w1.heap.size, 0, none⟩ = false := (World.frozen?_of_block (hblk w1.heap.size (by omega) (by omega))).trans (by go_simp)
    have f1 : w2.frozen? ⟨w1.heap.size, 1, none⟩ = false := (World.frozen?_of_block (hblk w1.heap.size (by omega) (by omega))).trans (by go_simp)
    have r0 : w2.cell? ⟨w.heap.size + 1, 0, none⟩ = some (.slice none 0 0) := (World.cell?_of_block (hblk (w.heap.size + 1) (by omega) (by omega))).trans (by go_simp)
    have r1 : w2.cell? ⟨w.heap.size + 1, 1, none⟩ = some (.slice none 0 0) := (World.cell?_of_block (hblk (w.heap.size + 1) (by omega) (by omega))).trans (by go_simp)
    have z0 : w2.frozen? ⟨w.heap.size + 1, 0, none⟩ = false := (World.frozen?_of_block (hblk (w.heap.size + 1) (by omega) (by omega))).trans (by go_simp)
    have z1 : w2.frozen? ⟨w.heap.size + 1, 1, none⟩ = false := (World.frozen?_of_block (hblk (w.heap.size + 1) (by omega) (by omega))).trans (by go_simp)
    have ho1' : Own cI 3 _ w2 _ x.micro [] := (ho1.bel (w' := (w1.alloc (.cells #[.slice B0 x.tasks.length d0, .slice B1 x.micro.length d1] 26)).alloc (.cells #[.int .i64 id] 3)) (by repeat (first | with_reducible exact Below.refl _ _ | with_reducible assumption | with_reducible refine bel_alloc ?_ _ | with_reducible refine bel_drew ?_ | with_reducible refine bel_drewN ?_ _ | (with_reducible refine bel_set ?_ ?_ _; rotate_left; ((try simp); (try omega)))))).grown hg (fun g hg => ⟨fun e => hne g hg e, by simp⟩)
    have hne2 : ∀ g, ownB v2 = some g → ownB (.slice B1 x.micro.length d1) ≠ some g := fun g h1 h2 => by
      rcases hat g h1 with h3 | h3
      · exact hne g h3 h2
      · have := (ho1.lt g h2).2; (try simp at h3); omega
    obtain ⟨B2, d2, e2⟩ := ho2.slice
    rw [show (x.tasks ++ [id]).length = x.tasks.length + 1 from by simp] at e2
    subst e2
    have hx2 : ownB (.slice B2 (x.tasks.length + 1) d2) ≠ some w1.heap.size := fun h1 => by
      rcases hat _ h1 with h3 | h3
      · have := (ho0.lt _ h3).2; omega
      · (try simp at h3); omega
    have hx1 : ownB (.slice B1 x.micro.length d1) ≠ some w1.heap.size := fun h1 => by have := (ho1.lt _ h1).2; omega
    obtain ⟨G, hG, hfG⟩ := TLoop.own (x := ⟨x.tasks ++ [id], x.micro⟩) (ho2.set_ (p := ⟨w1.heap.size, 0, none⟩) hx2 (.slice B2 (x.tasks.length + 1) d2)) ((ho1'.mono (B' := w.heap.size + 1 + 1) (by simp)).set_ (p := ⟨w1.heap.size, 0, none⟩) hx1 _) hne2
    have hb2 : w1.heap.size < w2.heap.size := by omega
    clear hblk hat hg ho0 ho1 hne ho1' hne2 ho2 hs2 hx1 hx2
    go_wp2_with fail
    refine bodyPost_ret (v := .tuple #[.agg #[.slice B2 (x.tasks.length + 1) d2, .slice B1 x.micro.length d1], .bool true]) (by simp [results, Try.results12, go_sem, *]) rfl ?_
    exact ⟨_, G, rfl, (by repeat (first | with_reducible exact Below.refl _ _ | with_reducible assumption | with_reducible refine bel_alloc ?_ _ | with_reducible refine bel_drew ?_ | with_reducible refine bel_drewN ?_ _ | (with_reducible refine bel_set ?_ ?_ _; rotate_left; ((try simp); (try omega))))), Cod.keep2 hG hfG (by repeat (first | with_reducible exact Keep.refl _ _ | with_reducible assumption | with_reducible refine Keep.alloc ?_ _ | with_reducible refine Keep.drew ?_ | with_reducible refine Keep.drewN ?_ _ | (with_reducible refine Keep.set_ ?_ ?_ _; rotate_left; ((try simp); (try omega))))), hfG.mono (by (try simp); (try omega))⟩
set_option maxRecDepth 100000 in
set_option maxHeartbeats 4000000 in
theorem implPostMicro_any (vs : Array Value) (x : TLoop) (F : List Nat) (id : Int) (w : World) (h : cLoop.rep w vs.toList x F) (hn : cLoop.sz x ≤ 1048576) (hid : -9223372036854775808 ≤ id ∧ id ≤ 9223372036854775807) :
    Calls Try.prog 14 #[.agg vs, .int .i64 id] w (GivesR2 cLoop w (postMicro x id).1 (.bool (postMicro x id).2)) := by
  obtain ⟨i0, hi0, hz0, hz1, hz2⟩ := info_parts infoInt
  have HID := Lib.hid hid
  clear hid
  have hsz : x.tasks.length ≤ 1048576 ∧ x.micro.length ≤ 1048576 := by
    have h1 := Cod.len_le cI x.tasks; have h2 := Cod.len_le cI x.micro
    have : cLoop.sz x = cI.szs x.tasks + cI.szs x.micro := rfl
    omega
  have HS := Lib.hid hsz
  clear hsz
  have hr := h
  obtain ⟨u0, u1, F0, F1, rfl, -, -, m0, m1⟩ := TLoop.outA h
  obtain ⟨A0, c0, rfl⟩ := cL_form m0
  obtain ⟨A1, c1, rfl⟩ := cL_form m1
  clear h m0 m1
  by_cases hfull : 16 ≤ (x.micro.length : Int)
  · have hp : postMicro x id = (x, false) := by simp [postMicro, hfull]
    have HP := Lib.hid hp
    clear hp
    rw [HP.out]
    go_enter Try.func14, Try.ntmps14
    go_wp2_with fail
    refine (implCopyLoop_any _ x _ _ (by exact Cod.bel hr (by repeat (first | with_reducible exact Below.refl _ _ | with_reducible assumption | with_reducible refine bel_alloc ?_ _ | with_reducible refine bel_drew ?_ | with_reducible refine bel_drewN ?_ _ | (with_reducible refine bel_set ?_ ?_ _; rotate_left; ((try simp); (try omega)))))) hn).mono ?_
    rintro e w1 ⟨v0, v1, rfl, hb, ho0, ho1, hne⟩
    obtain ⟨B0, d0, eB0⟩ := ho0.slice
    subst eB0
    obtain ⟨B1, d1, eB1⟩ := ho1.slice
    subst eB1
    have hs1 := hb.size
    (try simp at hs1)
    have ha0 : w.heap.size < w1.heap.size := by omega
    have ha1 : w.heap.size + 1 < w1.heap.size := by omega
    obtain ⟨hc1, hf1, -⟩ := bcell hb
    have hb1 : Below w.heap.size w w1 := bel_then (by repeat (first | with_reducible exact Below.refl _ _ | with_reducible assumption | with_reducible refine bel_alloc ?_ _ | with_reducible refine bel_drew ?_ | with_reducible refine bel_drewN ?_ _ | (with_reducible refine bel_set ?_ ?_ _; rotate_left; ((try simp); (try omega))))) hb
    obtain ⟨G, hG, hfG⟩ := TLoop.own ho0 ho1 hne
    clear hb hs1
    go_wp2_with fail
    refine bodyPost_ret (v := .tuple #[.agg #[.slice B0 x.tasks.length d0, .slice B1 x.micro.length d1], .bool false]) (by simp [results, Try.results14, go_sem, *]) rfl ?_
    exact ⟨_, G, rfl, (by repeat (first | with_reducible exact Below.refl _ _ | with_reducible assumption | with_reducible refine bel_alloc ?_ _ | with_reducible refine bel_drew ?_ | with_reducible refine bel_drewN ?_ _ | (with_reducible refine bel_set ?_ ?_ _; rotate_left; ((try simp); (try omega))))), Cod.keep2 hG hfG (by repeat (first | with_reducible exact Keep.refl _ _ | with_reducible assumption | with_reducible refine Keep.alloc ?_ _ | with_reducible refine Keep.drew ?_ | with_reducible refine Keep.drewN ?_ _ | (with_reducible refine Keep.set_ ?_ ?_ _; rotate_left; ((try simp); (try omega))))), hfG.mono (by (try simp); (try omega))⟩
  · have hp : postMicro x id = (⟨x.tasks, x.micro ++ [id]⟩, true) := by simp [postMicro, hfull]
    have HP := Lib.hid hp
    clear hp
    rw [HP.out]
    have hlt : (x.micro.length : Int) < 16 := by omega
    go_enter Try.func14, Try.ntmps14
    go_wp2_with fail
    refine (implCopyLoop_any _ x _ _ (by exact Cod.bel hr (by repeat (first | with_reducible exact Below.refl _ _ | with_reducible assumption | with_reducible refine bel_alloc ?_ _ | with_reducible refine bel_drew ?_ | with_reducible refine bel_drewN ?_ _ | (with_reducible refine bel_set ?_ ?_ _; rotate_left; ((try simp); (try omega)))))) hn).mono ?_
    rintro e w1 ⟨v0, v1, rfl, hb, ho0, ho1, hne⟩
    obtain ⟨B0, d0, eB0⟩ := ho0.slice
    subst eB0
    obtain ⟨B1, d1, eB1⟩ := ho1.slice
    subst eB1
    have hs1 := hb.size
    (try simp at hs1)
    have ha0 : w.heap.size < w1.heap.size := by omega
    have ha1 : w.heap.size + 1 < w1.heap.size := by omega
    obtain ⟨hc1, hf1, -⟩ := bcell hb
    have hb1 : Below w.heap.size w w1 := bel_then (by repeat (first | with_reducible exact Below.refl _ _ | with_reducible assumption | with_reducible refine bel_alloc ?_ _ | with_reducible refine bel_drew ?_ | with_reducible refine bel_drewN ?_ _ | (with_reducible refine bel_set ?_ ?_ _; rotate_left; ((try simp); (try omega))))) hb
    clear hb hs1
    have HO := Lib.hid (And.intro ho0 (And.intro ho1 hne))
    clear ho0 ho1 hne
    go_wp2_with (at_builtin; refine wpList_app (c := cI) (xs := x.micro) (ys := [id]) (Fi := []) (Fy := []) _ rfl _ _ _ rfl i0 _ _ Try.underlying24 hi0 hz0 hz1 hz2 rfl (by decide) (v := .slice B1 x.micro.length d1) rfl (HO.out.2.1.bel (by repeat (first | with_reducible exact Below.refl _ _ | with_reducible assumption | with_reducible refine bel_alloc ?_ _ | with_reducible refine bel_drew ?_ | with_reducible refine bel_drewN ?_ _ | (with_reducible refine bel_set ?_ ?_ _; rotate_left; ((try simp); (try omega)))))) _ rfl (src_one (g := w1.heap.size + 1) HID.out (by go_simp)) (by have := HS.out; unfold maxLen; simp; omega) (by have := HS.out; simp; omega) (by (try simp); (try omega)) (by simp) ?_)
    intro v2 w2 ho2 hg hat
    have hs2 := hg.size
    (try simp at hs2)
    obtain ⟨ho0, ho1, hne⟩ := HO.out
    have hbw2 : Below w.heap.size w w2 := Below.grown (show Below w.heap.size w _ from (by repeat (first | with_reducible exact Below.refl _ _ | with_reducible assumption | with_reducible refine bel_alloc ?_ _ | with_reducible refine bel_drew ?_ | with_reducible refine bel_drewN ?_ _ | (with_reducible refine bel_set ?_ ?_ _; rotate_left; ((try simp); (try omega)))))) hg (by (try simp); (try omega)) (fun k hk => by have := (ho1.lt k hk).1; (try simp at this); omega)
    have hblk : ∀ k, k < w1.heap.size + 2 → (k < w.heap.size + 2 ∨ w1.heap.size ≤ k) → w2.heap[k]? = ((w1.alloc (.cells #[.slice B0 x.tasks.length d0, .slice B1 x.micro.length d1] 26)).alloc (.cells #[.int .i64 id] 3)).heap[k]? := fun k h1 h2 =>
      hg.block k (by (try simp); (try omega)) (fun e => by have := ho1.lt k e.symm; (try simp at this); omega)
    have q0 : w2.cell? ⟨w1.heap.size, 0, none⟩ = some (.slice B0 x.tasks.length d0) := (World.cell?_of_block (hblk w1.heap.size (by omega) (by omega))).trans (by go_simp)
    have q1 : w2.cell? ⟨w1.heap.size, 1, none⟩ = some (.slice B1 x.micro.length d1) := (World.cell?_of_block (hblk w1.heap.size (by omega) (by omega))).trans (by go_simp)
    have f0 : w2.frozen? ⟨w1.heap.size, 0, none⟩ = false := (World.frozen?_of_block (hblk w1.heap.size (by omega) (by omega))).trans (by go_simp)
    have f1 : w2.frozen? ⟨w1.heap.size, 1, none⟩ = false := (World.frozen?_of_block (hblk w1.heap.size (by omega) (by omega))).trans (by go_simp)
    have r0 : w2.cell? ⟨w.heap.size + 1, 0, none⟩ = some (.slice none 0 0) := (World.cell?_of_block (hblk (w.heap.size + 1) (by omega) (by omega))).trans (by go_simp)
    have r1 : w2.cell? ⟨w.heap.size + 1, 1, none⟩ = some (.slice none 0 0) := (World.cell?_of_block (hblk (w.heap.size + 1) (by omega) (by omega))).trans (by go_simp)
    have z0 : w2.frozen? ⟨w.heap.size + 1, 0, none⟩ = false := (World.frozen?_of_block (hblk (w.heap.size + 1) (by omega) (by omega))).trans (by go_simp)
    have z1 : w2.frozen? ⟨w.heap.size + 1, 1, none⟩ = false := (World.frozen?_of_block (hblk (w.heap.size + 1) (by omega) (by omega))).trans (by go_simp)
    have ho0' : Own cI 3 _ w2 _ x.tasks [] := (ho0.bel (w' := (w1.alloc (.cells #[.slice B0 x.tasks.length d0, .slice B1 x.micro.length d1] 26)).alloc (.cells #[.int .i64 id] 3)) (by repeat (first | with_reducible exact Below.refl _ _ | with_reducible assumption | with_reducible refine bel_alloc ?_ _ | with_reducible refine bel_drew ?_ | with_reducible refine bel_drewN ?_ _ | (with_reducible refine bel_set ?_ ?_ _; rotate_left; ((try simp); (try omega)))))).grown hg (fun g hg => ⟨fun e => hne g e hg, by simp⟩)
    have hne2 : ∀ g, ownB (.slice B0 x.tasks.length d0) = some g → ownB v2 ≠ some g := fun g h1 h2 => by
      rcases hat g h2 with h3 | h3
      · exact hne g h1 h3
      · have := (ho0.lt g h1).2; (try simp at h3); omega
    obtain ⟨B2, d2, e2⟩ := ho2.slice
    rw [show (x.micro ++ [id]).length = x.micro.length + 1 from by simp] at e2
    subst e2
    have hx2 : ownB (.slice B2 (x.micro.length + 1) d2) ≠ some w1.heap.size := fun h1 => by
      rcases hat _ h1 with h3 | h3
      · have := (ho1.lt _ h3).2; omega
      · (try simp at h3); omega
    have hx0 : ownB (.slice B0 x.tasks.length d0) ≠ some w1.heap.size := fun h1 => by have := (ho0.lt _ h1).2; omega
    obtain ⟨G, hG, hfG⟩ := TLoop.own (x := ⟨x.tasks, x.micro ++ [id]⟩) ((ho0'.mono (B' := w.heap.size + 1 + 1) (by simp)).set_ (p := ⟨w1.heap.size, 1, none⟩) hx0 (.slice B2 (x.micro.length + 1) d2)) (ho2.set_ (p := ⟨w1.heap.size, 1, none⟩) hx2 (.slice B2 (x.micro.length + 1) d2)) hne2
    have hb2 : w1.heap.size < w2.heap.size := by omega
    clear hblk hat hg ho0 ho1 hne ho0' hne2 ho2 hs2 hx0 hx2
    go_wp2_with fail
    refine bodyPost_ret (v := .tuple #[.agg #[.slice B0 x.tasks.length d0, .slice B2 (x.micro.length + 1) d2], .bool true]) (by simp [results, Try.results14, go_sem, *]) rfl ?_
    exact ⟨_, G, rfl, (by repeat (first | with_reducible exact Below.refl _ _ | with_reducible assumption | with_reducible refine bel_alloc ?_ _ | with_reducible refine bel_drew ?_ | with_reducible refine bel_drewN ?_ _ | (with_reducible refine bel_set ?_ ?_ _; rotate_left; ((try simp); (try omega))))), Cod.keep2 hG hfG (by repeat (first | with_reducible exact Keep.refl _ _ | with_reducible assumption | with_reducible refine Keep.alloc ?_ _ | with_reducible refine Keep.drew ?_ | with_reducible refine Keep.drewN ?_ _ | (with_reducible refine Keep.set_ ?_ ?_ _; rotate_left; ((try simp); (try omega))))), hfG.mono (by (try simp); (try omega))⟩
theorem szI (xs : List Int) : cI.szs xs = xs.length := Cod.szs_flat (fun _ => rfl) xs
theorem cLoop_sz (x : TLoop) : cLoop.sz x = x.tasks.length + x.micro.length := by
  rw [← szI, ← szI]; rfl
theorem postTask_sz (x : TLoop) (id : Int) : cLoop.sz (postTask x id).1 ≤ cLoop.sz x + 1 := by
  unfold postTask
  cases decide (16 ≤ (x.tasks.length : Int)) <;> simp only [cond_true, cond_false, cLoop_sz, List.length_append, List.length_singleton] <;> omega
theorem postMicro_sz (x : TLoop) (id : Int) : cLoop.sz (postMicro x id).1 ≤ cLoop.sz x + 1 := by
  unfold postMicro
  cases decide (16 ≤ (x.micro.length : Int)) <;> simp only [cond_true, cond_false, cLoop_sz, List.length_append, List.length_singleton] <;> omega
end Go.Proofs.Yteipaolcmjfhdaa
