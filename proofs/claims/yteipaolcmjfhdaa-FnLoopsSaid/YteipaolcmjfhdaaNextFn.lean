/-
  NextTask of the program and of the reference. No conditions.
-/
import Derived.Test.YteipaolcmjfhdaaPostFn
import Derived.StillTailTactics
namespace Go.Proofs.Yteipaolcmjfhdaa
open Go.ChangeShapes Go.WideShapes Go.RowKit
set_option linter.unusedVariables false

def nextTask (x : TLoop) : TLoop × Int × Bool :=
  match x.micro with
  | m :: ms => (⟨x.tasks, ms⟩, m, true)
  | [] => match x.tasks with
    | t :: ts => (⟨ts, x.micro⟩, t, true)
    | [] => (x, 0, false)

set_option maxRecDepth 100000 in
set_option maxHeartbeats 4000000 in
theorem implNextTask_any_none (vs : Array Value) (F : List Nat) (w : World) (h : cLoop.rep w vs.toList ⟨[], []⟩ F) :
    Calls Try.prog 15 #[.agg vs] w (GivesR3 cLoop w ⟨[], []⟩ (.int .i64 0) (.bool false)) := by
  have hr := h
  obtain ⟨u0, u1, F0, F1, rfl, -, -, m0, m1⟩ := TLoop.outA h
  obtain ⟨A0, c0, rfl⟩ := cL_form m0
  obtain ⟨A1, c1, rfl⟩ := cL_form m1
  clear h m0 m1
  go_enter Try.func15, Try.ntmps15
  go_wp2_with fail
  refine (implCopyLoop_any _ ⟨[], []⟩ _ _ (by exact Cod.bel hr (by repeat (first | with_reducible exact Below.refl _ _ | with_reducible assumption | with_reducible refine bel_alloc ?_ _ | with_reducible refine bel_drew ?_ | with_reducible refine bel_drewN ?_ _ | (with_reducible refine bel_set ?_ ?_ _; rotate_left; ((try simp); (try omega)))))) (by decide)).mono ?_
  rintro e w1 ⟨v0, v1, rfl, hb, ho0, ho1, hne⟩
  obtain ⟨B0, d0, eB0⟩ := ho0.slice
  subst eB0
  obtain ⟨B1, d1, eB1⟩ := ho1.slice
  subst eB1
  have hs1 := hb.size
  (try simp at hs1)
  have ha0 : w.heap.size < w1.heap.size := by omega
  have ha1 : w.heap.size + 1 < w1.heap.size := by omega
  obtain ⟨hc1, hf1, -⟩ := bcell hb
  have hb1 : Below w.heap.size w w1 := bel_then (by repeat (first | with_reducible exact Below.refl _ _ | with_reducible assumption | with_reducible refine bel_alloc ?_ _ | with_reducible refine bel_drew ?_ | with_reducible refine bel_drewN ?_ _ | (with_reducible refine bel_set ?_ ?_ _; rotate_left; ((try simp); (try omega))))) hb
  obtain ⟨G, hG, hfG⟩ := TLoop.own ho0 ho1 hne
  clear hb hs1
  go_wp2_with fail
  refine bodyPost_ret (v := .tuple #[.agg #[.slice B0 0 d0, .slice B1 0 d1], .int .i64 0, .bool false]) (by simp [results, Try.results15, go_sem, *]) rfl ?_
  exact ⟨_, G, rfl, (by repeat (first | with_reducible exact Below.refl _ _ | with_reducible assumption | with_reducible refine bel_alloc ?_ _ | with_reducible refine bel_drew ?_ | with_reducible refine bel_drewN ?_ _ | (with_reducible refine bel_set ?_ ?_ _; rotate_left; ((try simp); (try omega))))), Cod.keep2 hG hfG (by repeat (first | with_reducible exact Keep.refl _ _ | with_reducible assumption | with_reducible refine Keep.alloc ?_ _ | with_reducible refine Keep.drew ?_ | with_reducible refine Keep.drewN ?_ _ | (with_reducible refine Keep.set_ ?_ ?_ _; rotate_left; ((try simp); (try omega))))), hfG.mono (by (try simp); (try omega))⟩

set_option maxRecDepth 100000 in
set_option maxHeartbeats 4000000 in
theorem implNextTask_any_micro (vs : Array Value) (ts ms : List Int) (m : Int) (F : List Nat) (w : World) (h : cLoop.rep w vs.toList ⟨ts, m :: ms⟩ F) (hn : cLoop.sz ⟨ts, m :: ms⟩ ≤ 1048576) :
    Calls Try.prog 15 #[.agg vs] w (GivesR3 cLoop w ⟨ts, ms⟩ (.int .i64 m) (.bool true)) := by
  have hr := h
  obtain ⟨u0, u1, F0, F1, rfl, -, -, m0, m1⟩ := TLoop.outA h
  obtain ⟨A0, c0, rfl⟩ := cL_form m0
  obtain ⟨A1, c1, rfl⟩ := cL_form m1
  obtain ⟨g0, o0, vs, F1, rfl, hgF, hx, -, hc⟩ := cL_get (hw := by decide) (hw2 := by decide) m1 (k := 0) (by simp)
  have hg0 : g0 < w.heap.size := Cod.lt _ m1 g0 hgF
  obtain ⟨rfl, -, hm1, hm2⟩ := hx
  have q0 : w.cell? ⟨g0, o0, none⟩ = some (.int .i64 m) := by have := (hc 0 _ rfl).1; simpa using this
  clear hc hgF h m0 m1
  have hlen : (0 : Int) < ((m :: ms).length : Int) := by simp
  go_enter Try.func15, Try.ntmps15
  go_wp2_with fail
  refine (implCopyLoop_any _ ⟨ts, m :: ms⟩ _ _ (by exact Cod.bel hr (by repeat (first | with_reducible exact Below.refl _ _ | with_reducible assumption | with_reducible refine bel_alloc ?_ _ | with_reducible refine bel_drew ?_ | with_reducible refine bel_drewN ?_ _ | (with_reducible refine bel_set ?_ ?_ _; rotate_left; ((try simp); (try omega)))))) hn).mono ?_
  rintro e w1 ⟨v0, v1, rfl, hb, ho0, ho1, hne⟩
  obtain ⟨B0, d0, eB0⟩ := ho0.slice
  subst eB0
  rcases ho1.form with ⟨h0, -⟩ | ⟨g, cap, cur, us, e1, hgB, -, hnc, -⟩
  · simp at h0
  subst e1
  simp only [List.length_cons] at hnc
  have hs1 := hb.size
  (try simp at hs1)
  have ha0 : w.heap.size < w1.heap.size := by omega
  have ha1 : w.heap.size + 1 < w1.heap.size := by omega
  obtain ⟨hc1, hf1, -⟩ := bcell hb
  have hb1 : Below w.heap.size w w1 := bel_then (by repeat (first | with_reducible exact Below.refl _ _ | with_reducible assumption | with_reducible refine bel_alloc ?_ _ | with_reducible refine bel_drew ?_ | with_reducible refine bel_drewN ?_ _ | (with_reducible refine bel_set ?_ ?_ _; rotate_left; ((try simp); (try omega))))) hb
  have q1 : w1.cell? ⟨g0, o0, none⟩ = some (.int .i64 m) := (hb1.cell (p := ⟨g0, o0, none⟩) hg0).trans q0
  have hg1 : g0 < w1.heap.size := by omega
  have hg2 : ¬ g0 = w1.heap.size := by omega
  have hg3 : ¬ g0 = w.heap.size + 1 := by omega
  have hg4 : ¬ w1.heap.size = w.heap.size + 1 := by omega
  have hg5 : ¬ w.heap.size + 1 = w1.heap.size := by omega
  have hg6 : ¬ w.heap.size + 1 = g0 := by omega
  have HO := Lib.hid (And.intro ho0 (And.intro ho1 hne))
  clear hb ho0 ho1 hne
  by_cases hcap : cap = 0
  · subst hcap
    obtain rfl : ms = [] := List.eq_nil_of_length_eq_zero (by omega)
    go_wp2_with fail
    go_region_held3 (fun w9 => w9.cell? ⟨w1.heap.size, 0, none⟩ = some (.slice B0 ts.length d0) ∧ w9.cell? ⟨w1.heap.size, 1, none⟩ = some (.slice (some ⟨g, 0, none⟩) 0 0) ∧ w9.cell? ⟨w.heap.size, 1, none⟩ = some (.slice (some ⟨g0, o0, none⟩) 1 c1) ∧ w9.cell? ⟨g0, o0, none⟩ = some (.int .i64 m)) ((refine ⟨?_, ?_, ?_, ?_⟩ <;> go_simp)) (fail)
    all_goals
      obtain ⟨ho0, ho1, hne⟩ := HO.out
      obtain ⟨F2, k0, f0, e0⟩ := ho0.fresh (hw := by decide) (hw2 := by decide)
      obtain ⟨F3, k1, f1, e1⟩ := ho1.fresh (hw := by decide) (hw2 := by decide)
      obtain ⟨F4, k4, f4, f5⟩ := cL_cut k1 1 (by simp)
      replace k4 : cIS.rep w1 [.slice (some ⟨g, 0, none⟩) 0 0] [] F4 := by (simp at k4; exact k4)
      have hG : cLoop.rep w1 [.slice B0 ts.length d0, .slice (some ⟨g, 0, none⟩) 0 0] ⟨ts, []⟩ (F2 ++ F4) := TLoop.mk_ trivial k0 k4
      have hfG : Fresh (w.heap.size + 2) (F2 ++ F4) := ⟨fun b hb => by
        rcases List.mem_append.1 hb with hb | hb
        · have := f0.1 b hb; (try simp at this); omega
        · have := f1.1 b (f4 b hb); (try simp at this); omega,
        List.nodup_append.2 ⟨f0.2, f5 f1.2, fun a ha b hb e => by subst e; exact hne a (e0 a ha) (e1 a (f4 a hb))⟩⟩
      clear HO ho0 ho1 hne k0 k1 k4 f0 f1 f4 f5 e0 e1
      go_wp2_with fail
      refine bodyPost_ret (v := .tuple #[.agg #[.slice B0 ts.length d0, .slice (some ⟨g, 0, none⟩) 0 0], .int .i64 m, .bool true]) (by simp [results, Try.results15, go_sem, *]) rfl ?_
      exact ⟨_, F2 ++ F4, rfl, (by repeat (first | with_reducible exact Below.refl _ _ | with_reducible assumption | with_reducible refine bel_alloc ?_ _ | with_reducible refine bel_drew ?_ | with_reducible refine bel_drewN ?_ _ | (with_reducible refine bel_set ?_ ?_ _; rotate_left; ((try simp); (try omega))))), Cod.keep2 hG hfG (by repeat (first | with_reducible exact Keep.refl _ _ | with_reducible assumption | with_reducible refine Keep.alloc ?_ _ | with_reducible refine Keep.drew ?_ | with_reducible refine Keep.drewN ?_ _ | (with_reducible refine Keep.set_ ?_ ?_ _; rotate_left; ((try simp); (try omega))))), hfG.mono (by omega)⟩
  · 
    go_wp2_with fail
    go_region_held3 (fun w9 => w9.cell? ⟨w1.heap.size, 0, none⟩ = some (.slice B0 ts.length d0) ∧ w9.cell? ⟨w1.heap.size, 1, none⟩ = some (.slice (some ⟨g, 1, none⟩) ms.length cap) ∧ w9.cell? ⟨w.heap.size, 1, none⟩ = some (.slice (some ⟨g0, o0, none⟩) (ms.length + 1) c1) ∧ w9.cell? ⟨g0, o0, none⟩ = some (.int .i64 m)) ((refine ⟨?_, ?_, ?_, ?_⟩ <;> go_simp)) (fail)
    all_goals
      obtain ⟨ho0, ho1, hne⟩ := HO.out
      obtain ⟨F2, k0, f0, e0⟩ := ho0.fresh (hw := by decide) (hw2 := by decide)
      obtain ⟨F3, k1, f1, e1⟩ := ho1.fresh (hw := by decide) (hw2 := by decide)
      obtain ⟨F4, k4, f4, f5⟩ := cL_cut k1 1 (by simp)
      replace k4 : cIS.rep w1 [.slice (some ⟨g, 1, none⟩) ms.length cap] ms F4 := by (simp [Addr.add_lit, hcap, show (cI).wd = 1 from rfl] at k4; exact k4)
      have hG : cLoop.rep w1 [.slice B0 ts.length d0, .slice (some ⟨g, 1, none⟩) ms.length cap] ⟨ts, ms⟩ (F2 ++ F4) := TLoop.mk_ trivial k0 k4
      have hfG : Fresh (w.heap.size + 2) (F2 ++ F4) := ⟨fun b hb => by
        rcases List.mem_append.1 hb with hb | hb
        · have := f0.1 b hb; (try simp at this); omega
        · have := f1.1 b (f4 b hb); (try simp at this); omega,
        List.nodup_append.2 ⟨f0.2, f5 f1.2, fun a ha b hb e => by subst e; exact hne a (e0 a ha) (e1 a (f4 a hb))⟩⟩
      clear HO ho0 ho1 hne k0 k1 k4 f0 f1 f4 f5 e0 e1
      go_wp2_with fail
      refine bodyPost_ret (v := .tuple #[.agg #[.slice B0 ts.length d0, .slice (some ⟨g, 1, none⟩) ms.length cap], .int .i64 m, .bool true]) (by simp [results, Try.results15, go_sem, *]) rfl ?_
      exact ⟨_, F2 ++ F4, rfl, (by repeat (first | with_reducible exact Below.refl _ _ | with_reducible assumption | with_reducible refine bel_alloc ?_ _ | with_reducible refine bel_drew ?_ | with_reducible refine bel_drewN ?_ _ | (with_reducible refine bel_set ?_ ?_ _; rotate_left; ((try simp); (try omega))))), Cod.keep2 hG hfG (by repeat (first | with_reducible exact Keep.refl _ _ | with_reducible assumption | with_reducible refine Keep.alloc ?_ _ | with_reducible refine Keep.drew ?_ | with_reducible refine Keep.drewN ?_ _ | (with_reducible refine Keep.set_ ?_ ?_ _; rotate_left; ((try simp); (try omega))))), hfG.mono (by omega)⟩
set_option maxRecDepth 100000 in
set_option maxHeartbeats 4000000 in
theorem implNextTask_any_tasks (vs : Array Value) (ms : List Int) (m : Int) (F : List Nat) (w : World) (h : cLoop.rep w vs.toList ⟨m :: ms, []⟩ F) (hn : cLoop.sz ⟨m :: ms, []⟩ ≤ 1048576) :
    Calls Try.prog 15 #[.agg vs] w (GivesR3 cLoop w ⟨ms, []⟩ (.int .i64 m) (.bool true)) := by
  have hr := h
  obtain ⟨u0, u1, F0, F1, rfl, -, -, m0, m1⟩ := TLoop.outA h
  obtain ⟨A0, c0, rfl⟩ := cL_form m0
  obtain ⟨A1, c1, rfl⟩ := cL_form m1
  obtain ⟨g0, o0, vs, F1, rfl, hgF, hx, -, hc⟩ := cL_get (hw := by decide) (hw2 := by decide) m0 (k := 0) (by simp)
  have hg0 : g0 < w.heap.size := Cod.lt _ m0 g0 hgF
  obtain ⟨rfl, -, hm1, hm2⟩ := hx
  have q0 : w.cell? ⟨g0, o0, none⟩ = some (.int .i64 m) := by have := (hc 0 _ rfl).1; simpa using this
  clear hc hgF h m0 m1
  have hlen : (0 : Int) < ((m :: ms).length : Int) := by simp
  go_enter Try.func15, Try.ntmps15
  go_wp2_with fail
  refine (implCopyLoop_any _ ⟨m :: ms, []⟩ _ _ (by exact Cod.bel hr (by repeat (first | with_reducible exact Below.refl _ _ | with_reducible assumption | with_reducible refine bel_alloc ?_ _ | with_reducible refine bel_drew ?_ | with_reducible refine bel_drewN ?_ _ | (with_reducible refine bel_set ?_ ?_ _; rotate_left; ((try simp); (try omega)))))) hn).mono ?_
  rintro e w1 ⟨v0, v1, rfl, hb, ho0, ho1, hne⟩
  obtain ⟨B1, d1, eB1⟩ := ho1.slice
  subst eB1
  rcases ho0.form with ⟨h0, -⟩ | ⟨g, cap, cur, us, e1, hgB, -, hnc, -⟩
  · simp at h0
  subst e1
  simp only [List.length_cons] at hnc
  have hs1 := hb.size
  (try simp at hs1)
  have ha0 : w.heap.size < w1.heap.size := by omega
  have ha1 : w.heap.size + 1 < w1.heap.size := by omega
  obtain ⟨hc1, hf1, -⟩ := bcell hb
  have hb1 : Below w.heap.size w w1 := bel_then (by repeat (first | with_reducible exact Below.refl _ _ | with_reducible assumption | with_reducible refine bel_alloc ?_ _ | with_reducible refine bel_drew ?_ | with_reducible refine bel_drewN ?_ _ | (with_reducible refine bel_set ?_ ?_ _; rotate_left; ((try simp); (try omega))))) hb
  have q1 : w1.cell? ⟨g0, o0, none⟩ = some (.int .i64 m) := (hb1.cell (p := ⟨g0, o0, none⟩) hg0).trans q0
  have hg1 : g0 < w1.heap.size := by omega
  have hg2 : ¬ g0 = w1.heap.size := by omega
  have hg3 : ¬ g0 = w.heap.size + 1 := by omega
  have hg4 : ¬ w1.heap.size = w.heap.size + 1 := by omega
  have hg5 : ¬ w.heap.size + 1 = w1.heap.size := by omega
  have hg6 : ¬ w.heap.size + 1 = g0 := by omega
  have HO := Lib.hid (And.intro ho0 (And.intro ho1 hne))
  clear hb ho0 ho1 hne
  by_cases hcap : cap = 0
  · subst hcap
    obtain rfl : ms = [] := List.eq_nil_of_length_eq_zero (by omega)
    go_wp2_with fail
    go_region_held3 (fun w9 => w9.cell? ⟨w1.heap.size, 0, none⟩ = some (.slice (some ⟨g, 0, none⟩) 0 0) ∧ w9.cell? ⟨w1.heap.size, 1, none⟩ = some (.slice B1 0 d1) ∧ w9.cell? ⟨w.heap.size, 0, none⟩ = some (.slice (some ⟨g0, o0, none⟩) 1 c0) ∧ w9.cell? ⟨g0, o0, none⟩ = some (.int .i64 m)) ((refine ⟨?_, ?_, ?_, ?_⟩ <;> go_simp)) (fail)
    all_goals
      obtain ⟨ho0, ho1, hne⟩ := HO.out
      obtain ⟨F2, k0, f0, e0⟩ := ho0.fresh (hw := by decide) (hw2 := by decide)
      obtain ⟨F3, k1, f1, e1⟩ := ho1.fresh (hw := by decide) (hw2 := by decide)
      obtain ⟨F4, k4, f4, f5⟩ := cL_cut k0 1 (by simp)
      replace k4 : cIS.rep w1 [.slice (some ⟨g, 0, none⟩) 0 0] [] F4 := by (simp at k4; exact k4)
      have hG : cLoop.rep w1 [.slice (some ⟨g, 0, none⟩) 0 0, .slice B1 0 d1] ⟨[], []⟩ (F4 ++ F3) := TLoop.mk_ trivial k4 k1
      have hfG : Fresh (w.heap.size + 2) (F4 ++ F3) := ⟨fun b hb => by
        rcases List.mem_append.1 hb with hb | hb
        · have := f0.1 b (f4 b hb); (try simp at this); omega
        · have := f1.1 b hb; (try simp at this); omega,
        List.nodup_append.2 ⟨f5 f0.2, f1.2, fun a ha b hb e => by subst e; exact hne a (e0 a (f4 a ha)) (e1 a hb)⟩⟩
      clear HO ho0 ho1 hne k0 k1 k4 f0 f1 f4 f5 e0 e1
      go_wp2_with fail
      refine bodyPost_ret (v := .tuple #[.agg #[.slice (some ⟨g, 0, none⟩) 0 0, .slice B1 0 d1], .int .i64 m, .bool true]) (by simp [results, Try.results15, go_sem, *]) rfl ?_
      exact ⟨_, F4 ++ F3, rfl, (by repeat (first | with_reducible exact Below.refl _ _ | with_reducible assumption | with_reducible refine bel_alloc ?_ _ | with_reducible refine bel_drew ?_ | with_reducible refine bel_drewN ?_ _ | (with_reducible refine bel_set ?_ ?_ _; rotate_left; ((try simp); (try omega))))), Cod.keep2 hG hfG (by repeat (first | with_reducible exact Keep.refl _ _ | with_reducible assumption | with_reducible refine Keep.alloc ?_ _ | with_reducible refine Keep.drew ?_ | with_reducible refine Keep.drewN ?_ _ | (with_reducible refine Keep.set_ ?_ ?_ _; rotate_left; ((try simp); (try omega))))), hfG.mono (by omega)⟩
  · 
    go_wp2_with fail
    go_region_held3 (fun w9 => w9.cell? ⟨w1.heap.size, 0, none⟩ = some (.slice (some ⟨g, 1, none⟩) ms.length cap) ∧ w9.cell? ⟨w1.heap.size, 1, none⟩ = some (.slice B1 0 d1) ∧ w9.cell? ⟨w.heap.size, 0, none⟩ = some (.slice (some ⟨g0, o0, none⟩) (ms.length + 1) c0) ∧ w9.cell? ⟨g0, o0, none⟩ = some (.int .i64 m)) ((refine ⟨?_, ?_, ?_, ?_⟩ <;> go_simp)) (fail)
    all_goals
      obtain ⟨ho0, ho1, hne⟩ := HO.out
      obtain ⟨F2, k0, f0, e0⟩ := ho0.fresh (hw := by decide) (hw2 := by decide)
      obtain ⟨F3, k1, f1, e1⟩ := ho1.fresh (hw := by decide) (hw2 := by decide)
      obtain ⟨F4, k4, f4, f5⟩ := cL_cut k0 1 (by simp)
      replace k4 : cIS.rep w1 [.slice (some ⟨g, 1, none⟩) ms.length cap] ms F4 := by (simp [Addr.add_lit, hcap, show (cI).wd = 1 from rfl] at k4; exact k4)
      have hG : cLoop.rep w1 [.slice (some ⟨g, 1, none⟩) ms.length cap, .slice B1 0 d1] ⟨ms, []⟩ (F4 ++ F3) := TLoop.mk_ trivial k4 k1
      have hfG : Fresh (w.heap.size + 2) (F4 ++ F3) := ⟨fun b hb => by
        rcases List.mem_append.1 hb with hb | hb
        · have := f0.1 b (f4 b hb); (try simp at this); omega
        · have := f1.1 b hb; (try simp at this); omega,
        List.nodup_append.2 ⟨f5 f0.2, f1.2, fun a ha b hb e => by subst e; exact hne a (e0 a (f4 a ha)) (e1 a hb)⟩⟩
      clear HO ho0 ho1 hne k0 k1 k4 f0 f1 f4 f5 e0 e1
      go_wp2_with fail
      refine bodyPost_ret (v := .tuple #[.agg #[.slice (some ⟨g, 1, none⟩) ms.length cap, .slice B1 0 d1], .int .i64 m, .bool true]) (by simp [results, Try.results15, go_sem, *]) rfl ?_
      exact ⟨_, F4 ++ F3, rfl, (by repeat (first | with_reducible exact Below.refl _ _ | with_reducible assumption | with_reducible refine bel_alloc ?_ _ | with_reducible refine bel_drew ?_ | with_reducible refine bel_drewN ?_ _ | (with_reducible refine bel_set ?_ ?_ _; rotate_left; ((try simp); (try omega))))), Cod.keep2 hG hfG (by repeat (first | with_reducible exact Keep.refl _ _ | with_reducible assumption | with_reducible refine Keep.alloc ?_ _ | with_reducible refine Keep.drew ?_ | with_reducible refine Keep.drewN ?_ _ | (with_reducible refine Keep.set_ ?_ ?_ _; rotate_left; ((try simp); (try omega))))), hfG.mono (by omega)⟩

theorem implNextTask_any (vs : Array Value) (x : TLoop) (F : List Nat) (w : World) (h : cLoop.rep w vs.toList x F) (hn : cLoop.sz x ≤ 1048576) :
    Calls Try.prog 15 #[.agg vs] w (GivesR3 cLoop w (nextTask x).1 (.int .i64 (nextTask x).2.1) (.bool (nextTask x).2.2)) := by
  obtain ⟨ts, ms⟩ := x
  match ts, ms with
  | ts, m :: ms => exact implNextTask_any_micro vs ts ms m F w h hn
  | t :: ts, [] => exact implNextTask_any_tasks vs ts t F w h hn
  | [], [] => exact implNextTask_any_none vs F w h


theorem nextTask_sz (x : TLoop) : cLoop.sz (nextTask x).1 ≤ cLoop.sz x := by
  obtain ⟨ts, ms⟩ := x
  match ts, ms with
  | ts, m :: ms => simp only [nextTask, cLoop_sz, List.length_cons]; omega
  | t :: ts, [] => simp only [nextTask, cLoop_sz, List.length_cons]; omega
  | [], [] => exact Nat.le_refl _
end Go.Proofs.Yteipaolcmjfhdaa
