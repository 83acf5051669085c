/-
  Copies of a machine: copyMachine of the program, l14Copy and l14Script of the reference. No conditions.
-/
import Derived.Test.YteipaolcmjfhdaaTMach
import Derived.Test.YteipaolcmjfhdaaOwn
import Derived.Test.YteipaolcmjfhdaaLoopFn
namespace Go.Proofs.Yteipaolcmjfhdaa
open Go.ChangeShapes Go.WideShapes Go.RowKit
set_option linter.unusedVariables false

theorem infoIns : (Try.prog.info? 54).map (fun i => (i.zero, i.size, i.bytes)) = some (some (Value.agg #[.int .i64 0, .int .i64 0, .int .i64 0, .string ByteArray.empty]), 4, 40) := by kernel_rfl
theorem flat_Ins : Flat cIns := fun h => (TIns.out h).2.1
theorem TMach.lens {x : TMach} (hn : cMach.sz x ≤ 1048576) : x.script.length ≤ 1048576 ∧ x.regs.length ≤ 1048576 := by
  have h1 := Cod.len_le cIns x.script; have h2 := Cod.len_le cI x.regs
  have : cMach.sz x = cIns.szs x.script + (0 + (cI.szs x.regs + (0 + (0 + 0)))) := rfl
  omega
theorem Fresh.two {B C : Nat} {F G : List Nat} (h : Fresh B F) (hlt : ∀ b, b ∈ F → b < C) (k : Fresh C G) (hBC : B ≤ C) : Fresh B (F ++ G) := h.app hlt k hBC

set_option maxRecDepth 100000 in
set_option maxHeartbeats 4000000 in
theorem specScriptCopy_any (v : Value) (xs : List TIns) (F : List Nat) (w : World) (h : cInsS.rep w [v] xs F) (hn : xs.length ≤ 1048576) :
    Calls Try.prog 141 #[v] w (GivesS cInsS w xs) := by
  obtain ⟨i0, hi0, hz0, hz1, hz2⟩ := info_parts infoIns
  obtain ⟨A, c, rfl⟩ := cL_form h
  have HS := Lib.hid hn
  clear hn
  go_enter Try.func141, Try.ntmps141
  go_wp2_with (at_builtin; refine wpList_app (c := cIns) (xs := []) (ys := xs) (Fi := []) (Fy := []) _ rfl _ _ _ rfl i0 _ _ Try.underlying44 hi0 hz0 hz1 hz2 rfl (by decide) (v := .slice (some _) 0 0) rfl (Own.empty _) (.slice A xs.length c) rfl (AppSrc.flat (hw := by decide) (hw2 := by decide) flat_Ins (Cod.bel h (by repeat (first | with_reducible exact Below.refl _ _ | with_reducible assumption | with_reducible refine bel_alloc ?_ _ | with_reducible refine bel_drew ?_ | with_reducible refine bel_drewN ?_ _ | (with_reducible refine bel_set ?_ ?_ _; rotate_left; ((try simp); (try omega))))))) (by have := HS.out; unfold maxLen; simp; omega) (by have := HS.out; simp; omega) (Nat.le_refl _) (by simp [ownB]) ?_)
  intro v1 w1 ho hg hat
  replace ho : Own cIns 54 _ w1 v1 xs [] := ho
  have hb : Below _ _ w1 := (Below.refl _ _).grown hg (Nat.le_refl _) (by simp [ownB])
  have hb1 : Below w.heap.size w w1 := bel_then (by repeat (first | with_reducible exact Below.refl _ _ | with_reducible assumption | with_reducible refine bel_alloc ?_ _ | with_reducible refine bel_drew ?_ | with_reducible refine bel_drewN ?_ _ | (with_reducible refine bel_set ?_ ?_ _; rotate_left; ((try simp); (try omega))))) hb
  obtain ⟨G, k2, f2, g2⟩ := ho.fresh (hw := by decide) (hw2 := by decide)
  go_wp2_with fail
  go_ret
  exact ⟨_, G, rfl, hb1, k2, f2.mono (by simp)⟩

set_option maxRecDepth 100000 in
set_option maxHeartbeats 8000000 in
theorem implCopyMachine_any (vs : Array Value) (x : TMach) (F : List Nat) (w : World) (h : cMach.rep w vs.toList x F) (hn : cMach.sz x ≤ 1048576) :
    Calls Try.prog 82 #[.agg vs] w (GivesR cMach w x) := by
  obtain ⟨i0, hi0, hz0, hz1, hz2⟩ := info_parts infoIns
  obtain ⟨r0, hj0, hy0, hy1, hy2⟩ := info_parts infoInt
  have HS := Lib.hid (TMach.lens hn)
  obtain ⟨u0, u2, E0, E2, rfl, -, hok, s0, s2⟩ := TMach.outA h
  obtain ⟨A0, c0, rfl⟩ := cL_form s0
  obtain ⟨A2, c2, rfl⟩ := cL_form s2
  clear h hn
  go_enter Try.func82, Try.ntmps82
  go_wp2_with (at_builtin; refine wpList_app (c := cIns) (xs := []) (ys := x.script) (Fi := []) (Fy := []) _ rfl _ _ _ rfl i0 _ _ Try.underlying44 hi0 hz0 hz1 hz2 rfl (by decide) (v := .slice (some _) 0 0) rfl (Own.empty _) (.slice A0 x.script.length c0) rfl (AppSrc.flat (hw := by decide) (hw2 := by decide) flat_Ins (Cod.bel s0 (by repeat (first | with_reducible exact Below.refl _ _ | with_reducible assumption | with_reducible refine bel_alloc ?_ _ | with_reducible refine bel_drew ?_ | with_reducible refine bel_drewN ?_ _ | (with_reducible refine bel_set ?_ ?_ _; rotate_left; ((try simp); (try omega))))))) (by have := HS.out.1; unfold maxLen; simp; omega) (by have := HS.out.1; simp; omega) (Nat.le_refl _) (by simp [ownB]) ?_)
  intro v1 w1 ho hg hat
  replace ho : Own cIns 54 _ w1 v1 x.script [] := ho
  obtain ⟨B1, d1, e1⟩ := ho.slice
  subst e1
  have hb1 : Below _ _ w1 := (Below.refl _ _).grown hg (Nat.le_refl _) (by simp [ownB])
  have hz_w1 := hb1.size
  (try simp at hz_w1)
  have ha0_w1 : w.heap.size < w1.heap.size := by omega
  have ha1_w1 : w.heap.size + 1 < w1.heap.size := by omega
  have ha2_w1 : w.heap.size + 1 + 1 < w1.heap.size := by omega
  obtain ⟨hc_w1, hf_w1, -⟩ := bcell hb1
  have hb_w1 : Below w.heap.size w w1 := bel_then (by repeat (first | with_reducible exact Below.refl _ _ | with_reducible assumption | with_reducible refine bel_alloc ?_ _ | with_reducible refine bel_drew ?_ | with_reducible refine bel_drewN ?_ _ | (with_reducible refine bel_set ?_ ?_ _; rotate_left; ((try simp); (try omega))))) hb1
  have k0 : w1.cell? ⟨w.heap.size, 0, none⟩ = some (.slice A0 x.script.length c0) := by go_simp
  have k1 : w1.cell? ⟨w.heap.size, 1, none⟩ = some (.int .i64 x.pc) := by go_simp
  have k2 : w1.cell? ⟨w.heap.size, 2, none⟩ = some (.slice A2 x.regs.length c2) := by go_simp
  have k3 : w1.cell? ⟨w.heap.size, 3, none⟩ = some (.int .i64 x.steps) := by go_simp
  have k4 : w1.cell? ⟨w.heap.size, 4, none⟩ = some (.bool x.done) := by go_simp
  have k5 : w1.cell? ⟨w.heap.size, 5, none⟩ = some (.bool x.wait) := by go_simp
  have j0 : w1.cell? ⟨w.heap.size + 1, 0, none⟩ = some (.slice none 0 0) := by go_simp
  have j1 : w1.cell? ⟨w.heap.size + 1, 1, none⟩ = some (.int .i64 0) := by go_simp
  have j2 : w1.cell? ⟨w.heap.size + 1, 2, none⟩ = some (.slice none 0 0) := by go_simp
  have j3 : w1.cell? ⟨w.heap.size + 1, 3, none⟩ = some (.int .i64 0) := by go_simp
  have j4 : w1.cell? ⟨w.heap.size + 1, 4, none⟩ = some (.bool false) := by go_simp
  have j5 : w1.cell? ⟨w.heap.size + 1, 5, none⟩ = some (.bool false) := by go_simp
  have l0 : w1.cell? ⟨w.heap.size + 1 + 1, 0, none⟩ = some (.slice A0 x.script.length c0) := by go_simp
  have l1 : w1.cell? ⟨w.heap.size + 1 + 1, 1, none⟩ = some (.int .i64 x.pc) := by go_simp
  have l2 : w1.cell? ⟨w.heap.size + 1 + 1, 2, none⟩ = some (.slice A2 x.regs.length c2) := by go_simp
  have l3 : w1.cell? ⟨w.heap.size + 1 + 1, 3, none⟩ = some (.int .i64 x.steps) := by go_simp
  have l4 : w1.cell? ⟨w.heap.size + 1 + 1, 4, none⟩ = some (.bool x.done) := by go_simp
  have l5 : w1.cell? ⟨w.heap.size + 1 + 1, 5, none⟩ = some (.bool x.wait) := by go_simp
  have z0 : w1.frozen? ⟨w.heap.size + 1 + 1, 0, none⟩ = false := by go_simp
  have z2 : w1.frozen? ⟨w.heap.size + 1 + 1, 2, none⟩ = false := by go_simp
  obtain ⟨G, n0, f0, g0⟩ := ho.fresh (hw := by decide) (hw2 := by decide)
  have hl0 : ∀ b, b ∈ G → b < w1.heap.size := fun b hb => Cod.lt _ n0 b hb
  have f0' : Fresh (w.heap.size + 1 + 1 + 1) G := f0.mono (by simp)
  clear hb1 hg hat ho g0 f0
  go_wp2_with (at_builtin; refine wpList_app (c := cI) (xs := []) (ys := x.regs) (Fi := []) (Fy := []) _ rfl _ _ _ rfl r0 _ _ Try.underlying24 hj0 hy0 hy1 hy2 rfl (by decide) (v := .slice (some _) 0 0) rfl (Own.empty _) (.slice A2 x.regs.length c2) rfl (AppSrc.flat (hw := by decide) (hw2 := by decide) flat_I (Cod.bel s2 (by repeat (first | with_reducible exact Below.refl _ _ | with_reducible assumption | with_reducible refine bel_alloc ?_ _ | with_reducible refine bel_drew ?_ | with_reducible refine bel_drewN ?_ _ | (with_reducible refine bel_set ?_ ?_ _; rotate_left; ((try simp); (try omega))))))) (by have := HS.out.2; unfold maxLen; simp; omega) (by have := HS.out.2; simp; omega) (Nat.le_refl _) (by simp [ownB]) ?_)
  intro v2 w2 ho hg hat
  replace ho : Own cI 3 _ w2 v2 x.regs [] := ho
  obtain ⟨B2, d2, e2⟩ := ho.slice
  subst e2
  have hb2 : Below _ _ w2 := (Below.refl _ _).grown hg (Nat.le_refl _) (by simp [ownB])
  have hz_w2 := hb2.size
  (try simp at hz_w2)
  have ha0_w2 : w.heap.size < w2.heap.size := by omega
  have ha1_w2 : w.heap.size + 1 < w2.heap.size := by omega
  have ha2_w2 : w.heap.size + 1 + 1 < w2.heap.size := by omega
  obtain ⟨hc_w2, hf_w2, -⟩ := bcell hb2
  have hb_w2 : Below w.heap.size w w2 := bel_then (by repeat (first | with_reducible exact Below.refl _ _ | with_reducible assumption | with_reducible refine bel_alloc ?_ _ | with_reducible refine bel_drew ?_ | with_reducible refine bel_drewN ?_ _ | (with_reducible refine bel_set ?_ ?_ _; rotate_left; ((try simp); (try omega))))) hb2
  have p0 : w2.cell? ⟨w.heap.size + 1, 0, none⟩ = some (.slice none 0 0) := by go_simp
  have p1 : w2.cell? ⟨w.heap.size + 1, 1, none⟩ = some (.int .i64 0) := by go_simp
  have p2 : w2.cell? ⟨w.heap.size + 1, 2, none⟩ = some (.slice none 0 0) := by go_simp
  have p3 : w2.cell? ⟨w.heap.size + 1, 3, none⟩ = some (.int .i64 0) := by go_simp
  have p4 : w2.cell? ⟨w.heap.size + 1, 4, none⟩ = some (.bool false) := by go_simp
  have p5 : w2.cell? ⟨w.heap.size + 1, 5, none⟩ = some (.bool false) := by go_simp
  have q0 : w2.cell? ⟨w.heap.size + 1 + 1, 0, none⟩ = some (.slice B1 x.script.length d1) := by go_simp
  have q1 : w2.cell? ⟨w.heap.size + 1 + 1, 1, none⟩ = some (.int .i64 x.pc) := by go_simp
  have q2 : w2.cell? ⟨w.heap.size + 1 + 1, 2, none⟩ = some (.slice A2 x.regs.length c2) := by go_simp
  have q3 : w2.cell? ⟨w.heap.size + 1 + 1, 3, none⟩ = some (.int .i64 x.steps) := by go_simp
  have q4 : w2.cell? ⟨w.heap.size + 1 + 1, 4, none⟩ = some (.bool x.done) := by go_simp
  have q5 : w2.cell? ⟨w.heap.size + 1 + 1, 5, none⟩ = some (.bool x.wait) := by go_simp
  have hk2 : Keep (w.heap.size + 1 + 1 + 1) w1 w2 := Keep.bel (by repeat (first | with_reducible exact Keep.refl _ _ | with_reducible assumption | with_reducible refine Keep.alloc ?_ _ | with_reducible refine Keep.drew ?_ | with_reducible refine Keep.drewN ?_ _ | (with_reducible refine Keep.set_ ?_ ?_ _; rotate_left; ((try simp); (try omega))))) hb2
  obtain ⟨G2, n2, f2, g2⟩ := ho.fresh (hw := by decide) (hw2 := by decide)
  have f2' : Fresh w1.heap.size G2 := f2.mono (by simp)
  clear hb2 hg hat ho g2 f2
  go_wp2_with fail
  refine bodyPost_ret (v := .agg #[.slice B1 x.script.length d1, .int .i64 x.pc, .slice B2 x.regs.length d2, .int .i64 x.steps, .bool x.done, .bool x.wait]) (by simp [results, Try.results82, go_sem, *]) rfl ?_
  exact ⟨_, G ++ G2, rfl, (by repeat (first | with_reducible exact Below.refl _ _ | with_reducible assumption | with_reducible refine bel_alloc ?_ _ | with_reducible refine bel_drew ?_ | with_reducible refine bel_drewN ?_ _ | (with_reducible refine bel_set ?_ ?_ _; rotate_left; ((try simp); (try omega))))), TMach.mk_ hok (Cod.keep2 n0 f0' (by repeat (first | with_reducible exact Keep.refl _ _ | with_reducible assumption | with_reducible refine Keep.alloc ?_ _ | with_reducible refine Keep.drew ?_ | with_reducible refine Keep.drewN ?_ _ | (with_reducible refine Keep.set_ ?_ ?_ _; rotate_left; ((try simp); (try omega)))))) (Cod.keep2 n2 f2' (by repeat (first | with_reducible exact Keep.refl _ _ | with_reducible assumption | with_reducible refine Keep.alloc ?_ _ | with_reducible refine Keep.drew ?_ | with_reducible refine Keep.drewN ?_ _ | (with_reducible refine Keep.set_ ?_ ?_ _; rotate_left; ((try simp); (try omega)))))), Fresh.two (f0'.mono (by omega)) hl0 f2' (by omega)⟩
set_option maxRecDepth 100000 in
set_option maxHeartbeats 8000000 in
theorem specCopyMachine_any (vs : Array Value) (x : TMach) (F : List Nat) (w : World) (h : cMach.rep w vs.toList x F) (hn : cMach.sz x ≤ 1048576) :
    Calls Try.prog 110 #[.agg vs] w (GivesR cMach w x) := by
  obtain ⟨i0, hi0, hz0, hz1, hz2⟩ := info_parts infoIns
  obtain ⟨r0, hj0, hy0, hy1, hy2⟩ := info_parts infoInt
  have HS := Lib.hid (TMach.lens hn)
  obtain ⟨u0, u2, E0, E2, rfl, -, hok, s0, s2⟩ := TMach.outA h
  obtain ⟨A0, c0, rfl⟩ := cL_form s0
  obtain ⟨A2, c2, rfl⟩ := cL_form s2
  clear h hn
  go_enter Try.func110, Try.ntmps110
  go_wp2_with fail
  refine (specScriptCopy_any _ x.script _ _ (by exact Cod.bel s0 (by repeat (first | with_reducible exact Below.refl _ _ | with_reducible assumption | with_reducible refine bel_alloc ?_ _ | with_reducible refine bel_drew ?_ | with_reducible refine bel_drewN ?_ _ | (with_reducible refine bel_set ?_ ?_ _; rotate_left; ((try simp); (try omega)))))) HS.out.1).mono ?_
  rintro e w1 ⟨v1, G, rfl, hb1, n0, f0⟩
  obtain ⟨B1, d1, e1⟩ := cL_form n0
  subst e1
  have hz_w1 := hb1.size
  (try simp at hz_w1)
  have ha0_w1 : w.heap.size < w1.heap.size := by omega
  have ha1_w1 : w.heap.size + 1 < w1.heap.size := by omega
  have ha2_w1 : w.heap.size + 1 + 1 < w1.heap.size := by omega
  obtain ⟨hc_w1, hf_w1, -⟩ := bcell hb1
  have hb_w1 : Below w.heap.size w w1 := bel_then (by repeat (first | with_reducible exact Below.refl _ _ | with_reducible assumption | with_reducible refine bel_alloc ?_ _ | with_reducible refine bel_drew ?_ | with_reducible refine bel_drewN ?_ _ | (with_reducible refine bel_set ?_ ?_ _; rotate_left; ((try simp); (try omega))))) hb1
  have k0 : w1.cell? ⟨w.heap.size, 0, none⟩ = some (.slice A0 x.script.length c0) := by go_simp
  have k1 : w1.cell? ⟨w.heap.size, 1, none⟩ = some (.int .i64 x.pc) := by go_simp
  have k2 : w1.cell? ⟨w.heap.size, 2, none⟩ = some (.slice A2 x.regs.length c2) := by go_simp
  have k3 : w1.cell? ⟨w.heap.size, 3, none⟩ = some (.int .i64 x.steps) := by go_simp
  have k4 : w1.cell? ⟨w.heap.size, 4, none⟩ = some (.bool x.done) := by go_simp
  have k5 : w1.cell? ⟨w.heap.size, 5, none⟩ = some (.bool x.wait) := by go_simp
  have j0 : w1.cell? ⟨w.heap.size + 1, 0, none⟩ = some (.slice none 0 0) := by go_simp
  have j1 : w1.cell? ⟨w.heap.size + 1, 1, none⟩ = some (.int .i64 0) := by go_simp
  have j2 : w1.cell? ⟨w.heap.size + 1, 2, none⟩ = some (.slice none 0 0) := by go_simp
  have j3 : w1.cell? ⟨w.heap.size + 1, 3, none⟩ = some (.int .i64 0) := by go_simp
  have j4 : w1.cell? ⟨w.heap.size + 1, 4, none⟩ = some (.bool false) := by go_simp
  have j5 : w1.cell? ⟨w.heap.size + 1, 5, none⟩ = some (.bool false) := by go_simp
  have l0 : w1.cell? ⟨w.heap.size + 1 + 1, 0, none⟩ = some (.slice A0 x.script.length c0) := by go_simp
  have l1 : w1.cell? ⟨w.heap.size + 1 + 1, 1, none⟩ = some (.int .i64 x.pc) := by go_simp
  have l2 : w1.cell? ⟨w.heap.size + 1 + 1, 2, none⟩ = some (.slice A2 x.regs.length c2) := by go_simp
  have l3 : w1.cell? ⟨w.heap.size + 1 + 1, 3, none⟩ = some (.int .i64 x.steps) := by go_simp
  have l4 : w1.cell? ⟨w.heap.size + 1 + 1, 4, none⟩ = some (.bool x.done) := by go_simp
  have l5 : w1.cell? ⟨w.heap.size + 1 + 1, 5, none⟩ = some (.bool x.wait) := by go_simp
  have z0 : w1.frozen? ⟨w.heap.size + 1 + 1, 0, none⟩ = false := by go_simp
  have z2 : w1.frozen? ⟨w.heap.size + 1 + 1, 2, none⟩ = false := by go_simp
  have hl0 : ∀ b, b ∈ G → b < w1.heap.size := fun b hb => Cod.lt _ n0 b hb
  have f0' : Fresh (w.heap.size + 1 + 1 + 1) G := f0.mono (by simp)
  clear hb1 f0
  go_wp2_with (at_builtin; refine wpList_app (c := cI) (xs := []) (ys := x.regs) (Fi := []) (Fy := []) _ rfl _ _ _ rfl r0 _ _ Try.underlying24 hj0 hy0 hy1 hy2 rfl (by decide) (v := .slice (some _) 0 0) rfl (Own.empty _) (.slice A2 x.regs.length c2) rfl (AppSrc.flat (hw := by decide) (hw2 := by decide) flat_I (Cod.bel s2 (by repeat (first | with_reducible exact Below.refl _ _ | with_reducible assumption | with_reducible refine bel_alloc ?_ _ | with_reducible refine bel_drew ?_ | with_reducible refine bel_drewN ?_ _ | (with_reducible refine bel_set ?_ ?_ _; rotate_left; ((try simp); (try omega))))))) (by have := HS.out.2; unfold maxLen; simp; omega) (by have := HS.out.2; simp; omega) (Nat.le_refl _) (by simp [ownB]) ?_)
  intro v2 w2 ho hg hat
  replace ho : Own cI 3 _ w2 v2 x.regs [] := ho
  obtain ⟨B2, d2, e2⟩ := ho.slice
  subst e2
  have hb2 : Below _ _ w2 := (Below.refl _ _).grown hg (Nat.le_refl _) (by simp [ownB])
  have hz_w2 := hb2.size
  (try simp at hz_w2)
  have ha0_w2 : w.heap.size < w2.heap.size := by omega
  have ha1_w2 : w.heap.size + 1 < w2.heap.size := by omega
  have ha2_w2 : w.heap.size + 1 + 1 < w2.heap.size := by omega
  obtain ⟨hc_w2, hf_w2, -⟩ := bcell hb2
  have hb_w2 : Below w.heap.size w w2 := bel_then (by repeat (first | with_reducible exact Below.refl _ _ | with_reducible assumption | with_reducible refine bel_alloc ?_ _ | with_reducible refine bel_drew ?_ | with_reducible refine bel_drewN ?_ _ | (with_reducible refine bel_set ?_ ?_ _; rotate_left; ((try simp); (try omega))))) hb2
  have p0 : w2.cell? ⟨w.heap.size + 1, 0, none⟩ = some (.slice none 0 0) := by go_simp
  have p1 : w2.cell? ⟨w.heap.size + 1, 1, none⟩ = some (.int .i64 0) := by go_simp
  have p2 : w2.cell? ⟨w.heap.size + 1, 2, none⟩ = some (.slice none 0 0) := by go_simp
  have p3 : w2.cell? ⟨w.heap.size + 1, 3, none⟩ = some (.int .i64 0) := by go_simp
  have p4 : w2.cell? ⟨w.heap.size + 1, 4, none⟩ = some (.bool false) := by go_simp
  have p5 : w2.cell? ⟨w.heap.size + 1, 5, none⟩ = some (.bool false) := by go_simp
  have q0 : w2.cell? ⟨w.heap.size + 1 + 1, 0, none⟩ = some (.slice B1 x.script.length d1) := by go_simp
  have q1 : w2.cell? ⟨w.heap.size + 1 + 1, 1, none⟩ = some (.int .i64 x.pc) := by go_simp
  have q2 : w2.cell? ⟨w.heap.size + 1 + 1, 2, none⟩ = some (.slice A2 x.regs.length c2) := by go_simp
  have q3 : w2.cell? ⟨w.heap.size + 1 + 1, 3, none⟩ = some (.int .i64 x.steps) := by go_simp
  have q4 : w2.cell? ⟨w.heap.size + 1 + 1, 4, none⟩ = some (.bool x.done) := by go_simp
  have q5 : w2.cell? ⟨w.heap.size + 1 + 1, 5, none⟩ = some (.bool x.wait) := by go_simp
  have hk2 : Keep (w.heap.size + 1 + 1 + 1) w1 w2 := Keep.bel (by repeat (first | with_reducible exact Keep.refl _ _ | with_reducible assumption | with_reducible refine Keep.alloc ?_ _ | with_reducible refine Keep.drew ?_ | with_reducible refine Keep.drewN ?_ _ | (with_reducible refine Keep.set_ ?_ ?_ _; rotate_left; ((try simp); (try omega))))) hb2
  obtain ⟨G2, n2, f2, g2⟩ := ho.fresh (hw := by decide) (hw2 := by decide)
  have f2' : Fresh w1.heap.size G2 := f2.mono (by simp)
  clear hb2 hg hat ho g2 f2
  go_wp2_with fail
  refine bodyPost_ret (v := .agg #[.slice B1 x.script.length d1, .int .i64 x.pc, .slice B2 x.regs.length d2, .int .i64 x.steps, .bool x.done, .bool x.wait]) (by simp [results, Try.results110, go_sem, *]) rfl ?_
  exact ⟨_, G ++ G2, rfl, (by repeat (first | with_reducible exact Below.refl _ _ | with_reducible assumption | with_reducible refine bel_alloc ?_ _ | with_reducible refine bel_drew ?_ | with_reducible refine bel_drewN ?_ _ | (with_reducible refine bel_set ?_ ?_ _; rotate_left; ((try simp); (try omega))))), TMach.mk_ hok (Cod.keep2 n0 f0' (by repeat (first | with_reducible exact Keep.refl _ _ | with_reducible assumption | with_reducible refine Keep.alloc ?_ _ | with_reducible refine Keep.drew ?_ | with_reducible refine Keep.drewN ?_ _ | (with_reducible refine Keep.set_ ?_ ?_ _; rotate_left; ((try simp); (try omega)))))) (Cod.keep2 n2 f2' (by repeat (first | with_reducible exact Keep.refl _ _ | with_reducible assumption | with_reducible refine Keep.alloc ?_ _ | with_reducible refine Keep.drew ?_ | with_reducible refine Keep.drewN ?_ _ | (with_reducible refine Keep.set_ ?_ ?_ _; rotate_left; ((try simp); (try omega)))))), Fresh.two (f0'.mono (by omega)) hl0 f2' (by omega)⟩
end Go.Proofs.Yteipaolcmjfhdaa
