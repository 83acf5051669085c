/-
  RunMachine of the program. No conditions.
-/
import Derived.Test.YtlicnppfgfjkgaaZA
import Derived.Test.YtlicnppfgfjkgaaZRunW
import Derived.Test.YtlicnppfgfjkgaaZSetRet2
import Derived.Test.YtlicnppfgfjkgaaZRegT
import Derived.Deep.LoopGhost
import Derived.Deep.CutRange
namespace Go.Proofs.Ytlicnppfgfjkgaa
open Go.ChangeShapes Go.WideShapes Go.RowKit
set_option linter.unusedVariables false

set_option maxRecDepth 100000 in
set_option maxHeartbeats 16000000 in
theorem implRunMachine_any (vs : Array Value) (x : TMach) (F : List Nat) (w : World) (h : cMach.rep w vs.toList x F) (hn : cMach.sz x ≤ 1048576) :
    Calls Try.prog 13 #[.agg vs] w (GivesR2 cMach w (runMachine x).1 (runMachine x).2.val) := by
  have hr := h
  obtain ⟨u0, u2, E0, E2, rfl, -, hok, s0, s2⟩ := TMach.outA h
  obtain ⟨A0, c0, rfl⟩ := cL_form s0
  obtain ⟨A2, c2, rfl⟩ := cL_form s2
  have hlens := TMach.lens hn
  have hm0 : x.script.length ≤ 1048576 := hlens.1
  clear h s0 s2 hlens
  have HF := Lib.hid (show (x.done || x.wait || !decide (x.regs.length = 4) || decide (x.steps < 0)) = true → GivesR2 cMach w x ask0.val = GivesR2 cMach w (runMachine x).1 (runMachine x).2.val from fun e => by unfold runMachine; rw [e]; rfl)
  have HL := Lib.hid (show (x.done || x.wait || !decide (x.regs.length = 4) || decide (x.steps < 0)) = false → runMachine x = runLoop x.script (60 - x.steps).toNat x.pc x.regs x.steps from fun e => by unfold runMachine; rw [e]; rfl)
  have hpcr := hok.h1
  have hstr := hok.h3.2
  obtain ⟨sc, pc, rg, st, dn, wt⟩ := x
  simp only at *
  go_enter Try.func13, Try.ntmps13
  go_wp2_with fail
  refine (implCopyMachine_any _ ⟨sc, pc, rg, st, dn, wt⟩ _ _ (by exact Cod.bel hr (by repeat (first | with_reducible exact Below.refl _ _ | with_reducible assumption | with_reducible refine bel_alloc ?_ _ | with_reducible refine bel_drew ?_ | with_reducible refine bel_drewN ?_ _ | (with_reducible refine bel_set ?_ ?_ _; rotate_left; ((try simp); (try omega)))))) hn).mono ?_
  rintro e w1 ⟨vs1, G1, rfl, hb1, hrep, hf1⟩
  obtain ⟨v0, v2, G0, G2, rfl, rfl, -, t0, t2⟩ := TMach.outA hrep
  obtain ⟨B0, d0, rfl⟩ := cL_form t0
  obtain ⟨B2, d2, rfl⟩ := cL_form t2
  have hz_w1 := hb1.size
  (try simp at hz_w1)
  have ha0_w1 : w.heap.size < w1.heap.size := by omega
  have ha1_w1 : w.heap.size + 1 < w1.heap.size := by omega
  have ha2_w1 : w.heap.size + 1 + 1 < w1.heap.size := by omega
  obtain ⟨hc_w1, hf_w1, -⟩ := bcell hb1
  have hb_w1 : Below w.heap.size w w1 := bel_then (by repeat (first | with_reducible exact Below.refl _ _ | with_reducible assumption | with_reducible refine bel_alloc ?_ _ | with_reducible refine bel_drew ?_ | with_reducible refine bel_drewN ?_ _ | (with_reducible refine bel_set ?_ ?_ _; rotate_left; ((try simp); (try omega))))) hb1
  have hg1 : Fresh (w.heap.size + 1 + 1 + 1) (G0 ++ G2) := hf1.mono (by simp)
  have hlt1 := Cod.lt _ hrep
  clear hb1 hf1
  go_upto_region 2 with (fail)
  generalize hX : World.alloc w1 _ = X
  have hXs : w1.heap.size < X.heap.size := by rw [← hX]; clear hX; simp
  have hbX : Below w.heap.size w X := by rw [← hX]; exact bel_alloc hb_w1 _
  have hb1X : Below w1.heap.size w1 X := by rw [← hX]; exact bel_alloc (Below.refl _ _) _
  have hrX := Cod.bel hrep hb1X
  have m2 : X.cell? ⟨w.heap.size, 2, none⟩ = some (.slice A2 rg.length c2) := by rw [← hX]; clear hX; go_simp
  have m3 : X.cell? ⟨w.heap.size, 3, none⟩ = some (.int .i64 st) := by rw [← hX]; clear hX; go_simp
  have m4 : X.cell? ⟨w.heap.size, 4, none⟩ = some (.bool dn) := by rw [← hX]; clear hX; go_simp
  have m5 : X.cell? ⟨w.heap.size, 5, none⟩ = some (.bool wt) := by rw [← hX]; clear hX; go_simp
  have p0 : X.cell? ⟨w.heap.size + 1, 0, none⟩ = some (.slice none 0 0) := by rw [← hX]; clear hX; go_simp
  have fp0 : X.frozen? ⟨w.heap.size + 1, 0, none⟩ = false := by rw [← hX]; clear hX; go_simp
  have p1 : X.cell? ⟨w.heap.size + 1, 1, none⟩ = some (.int .i64 0) := by rw [← hX]; clear hX; go_simp
  have fp1 : X.frozen? ⟨w.heap.size + 1, 1, none⟩ = false := by rw [← hX]; clear hX; go_simp
  have p2 : X.cell? ⟨w.heap.size + 1, 2, none⟩ = some (.slice none 0 0) := by rw [← hX]; clear hX; go_simp
  have fp2 : X.frozen? ⟨w.heap.size + 1, 2, none⟩ = false := by rw [← hX]; clear hX; go_simp
  have p3 : X.cell? ⟨w.heap.size + 1, 3, none⟩ = some (.int .i64 0) := by rw [← hX]; clear hX; go_simp
  have fp3 : X.frozen? ⟨w.heap.size + 1, 3, none⟩ = false := by rw [← hX]; clear hX; go_simp
  have p4 : X.cell? ⟨w.heap.size + 1, 4, none⟩ = some (.bool false) := by rw [← hX]; clear hX; go_simp
  have fp4 : X.frozen? ⟨w.heap.size + 1, 4, none⟩ = false := by rw [← hX]; clear hX; go_simp
  have p5 : X.cell? ⟨w.heap.size + 1, 5, none⟩ = some (.bool false) := by rw [← hX]; clear hX; go_simp
  have fp5 : X.frozen? ⟨w.heap.size + 1, 5, none⟩ = false := by rw [← hX]; clear hX; go_simp
  have r0 : X.cell? ⟨w.heap.size + 1 + 1, 0, none⟩ = some (.int .i64 0) := by rw [← hX]; clear hX; go_simp
  have fr0 : X.frozen? ⟨w.heap.size + 1 + 1, 0, none⟩ = false := by rw [← hX]; clear hX; go_simp
  have r1 : X.cell? ⟨w.heap.size + 1 + 1, 1, none⟩ = some (.int .i64 0) := by rw [← hX]; clear hX; go_simp
  have fr1 : X.frozen? ⟨w.heap.size + 1 + 1, 1, none⟩ = false := by rw [← hX]; clear hX; go_simp
  have r2 : X.cell? ⟨w.heap.size + 1 + 1, 2, none⟩ = some (.int .i64 0) := by rw [← hX]; clear hX; go_simp
  have fr2 : X.frozen? ⟨w.heap.size + 1 + 1, 2, none⟩ = false := by rw [← hX]; clear hX; go_simp
  have r3 : X.cell? ⟨w.heap.size + 1 + 1, 3, none⟩ = some (.string ⟨#[]⟩) := by rw [← hX]; clear hX; go_simp
  have fr3 : X.frozen? ⟨w.heap.size + 1 + 1, 3, none⟩ = false := by rw [← hX]; clear hX; go_simp
  have r4 : X.cell? ⟨w.heap.size + 1 + 1, 4, none⟩ = some (.int .i64 0) := by rw [← hX]; clear hX; go_simp
  have fr4 : X.frozen? ⟨w.heap.size + 1 + 1, 4, none⟩ = false := by rw [← hX]; clear hX; go_simp
  have y0 : X.cell? ⟨w1.heap.size, 0, none⟩ = some (.slice B0 sc.length d0) := by rw [← hX]; clear hX; go_simp
  have fy0 : X.frozen? ⟨w1.heap.size, 0, none⟩ = false := by rw [← hX]; clear hX; go_simp
  have y1 : X.cell? ⟨w1.heap.size, 1, none⟩ = some (.int .i64 pc) := by rw [← hX]; clear hX; go_simp
  have fy1 : X.frozen? ⟨w1.heap.size, 1, none⟩ = false := by rw [← hX]; clear hX; go_simp
  have y2 : X.cell? ⟨w1.heap.size, 2, none⟩ = some (.slice B2 rg.length d2) := by rw [← hX]; clear hX; go_simp
  have fy2 : X.frozen? ⟨w1.heap.size, 2, none⟩ = false := by rw [← hX]; clear hX; go_simp
  have y3 : X.cell? ⟨w1.heap.size, 3, none⟩ = some (.int .i64 st) := by rw [← hX]; clear hX; go_simp
  have fy3 : X.frozen? ⟨w1.heap.size, 3, none⟩ = false := by rw [← hX]; clear hX; go_simp
  have y4 : X.cell? ⟨w1.heap.size, 4, none⟩ = some (.bool dn) := by rw [← hX]; clear hX; go_simp
  have fy4 : X.frozen? ⟨w1.heap.size, 4, none⟩ = false := by rw [← hX]; clear hX; go_simp
  have y5 : X.cell? ⟨w1.heap.size, 5, none⟩ = some (.bool wt) := by rw [← hX]; clear hX; go_simp
  have fy5 : X.frozen? ⟨w1.heap.size, 5, none⟩ = false := by rw [← hX]; clear hX; go_simp
  clear hX hc_w1 hf_w1 hrep
  cases dn
  case true =>
    --EARLY
    go_wp2_with fail
    refine sets_ret6_5 (a' := .slice none 0 0) (b' := .int .i64 0) (c' := .slice none 0 0) (d' := .int .i64 0) (e' := .bool false) (f' := .bool false) (g' := .int .i64 0) (u' := .int .i64 0) (i' := .int .i64 0) (j' := .string ⟨#[]⟩) (k' := .int .i64 0) (w.heap.size + 1) (w.heap.size + 1 + 1) (by omega) p0 p1 p2 p3 p4 p5 r0 r1 r2 r3 r4 (fun W9 e9 a0 a1 a2 a3 a4 a5 b0 b1 b2 b3 b4 => ?_)
    refine bodyPost_ret (v := .tuple #[.agg #[.slice B0 sc.length d0, .int .i64 pc, .slice B2 rg.length d2, .int .i64 st, .bool true, .bool wt], .agg #[.int .i64 0, .int .i64 0, .int .i64 0, .string ⟨#[]⟩, .int .i64 0]]) (by simp [results, Try.results13, go_sem, a0, a1, a2, a3, a4, a5, b0, b1, b2, b3, b4]) rfl ?_
    clear a0 a1 a2 a3 a4 a5 b0 b1 b2 b3 b4
    subst e9
    rw [← HF.out (by rfl)]
    have hlow := hg1.1
    exact ⟨_, G0 ++ G2, rfl, (by repeat (first | with_reducible exact Below.refl _ _ | with_reducible assumption | with_reducible refine bel_alloc ?_ _ | with_reducible refine bel_drew ?_ | with_reducible refine bel_drewN ?_ _ | (with_reducible refine bel_set ?_ ?_ _; rotate_left; ((try simp); (try omega))))), (by repeat (first | with_reducible exact hrX | with_reducible refine Cod.allocA ?_ _ | with_reducible refine Cod.drewA ?_ | with_reducible refine Cod.drewNA ?_ _ | ((with_reducible refine Cod.setA ?_ ?_ _); rotate_left; ((intro hm9; have hm8 := hlow _ hm9; (try simp at hm8); (try omega)))))), hg1.mono (by (try simp); (try omega))⟩
    --YLRAE
  case false =>
  cases wt
  case true =>
    --EARLY
    go_wp2_with fail
    refine sets_ret6_5 (a' := .slice none 0 0) (b' := .int .i64 0) (c' := .slice none 0 0) (d' := .int .i64 0) (e' := .bool false) (f' := .bool false) (g' := .int .i64 0) (u' := .int .i64 0) (i' := .int .i64 0) (j' := .string ⟨#[]⟩) (k' := .int .i64 0) (w.heap.size + 1) (w.heap.size + 1 + 1) (by omega) p0 p1 p2 p3 p4 p5 r0 r1 r2 r3 r4 (fun W9 e9 a0 a1 a2 a3 a4 a5 b0 b1 b2 b3 b4 => ?_)
    refine bodyPost_ret (v := .tuple #[.agg #[.slice B0 sc.length d0, .int .i64 pc, .slice B2 rg.length d2, .int .i64 st, .bool false, .bool true], .agg #[.int .i64 0, .int .i64 0, .int .i64 0, .string ⟨#[]⟩, .int .i64 0]]) (by simp [results, Try.results13, go_sem, a0, a1, a2, a3, a4, a5, b0, b1, b2, b3, b4]) rfl ?_
    clear a0 a1 a2 a3 a4 a5 b0 b1 b2 b3 b4
    subst e9
    rw [← HF.out (by rfl)]
    have hlow := hg1.1
    exact ⟨_, G0 ++ G2, rfl, (by repeat (first | with_reducible exact Below.refl _ _ | with_reducible assumption | with_reducible refine bel_alloc ?_ _ | with_reducible refine bel_drew ?_ | with_reducible refine bel_drewN ?_ _ | (with_reducible refine bel_set ?_ ?_ _; rotate_left; ((try simp); (try omega))))), (by repeat (first | with_reducible exact hrX | with_reducible refine Cod.allocA ?_ _ | with_reducible refine Cod.drewA ?_ | with_reducible refine Cod.drewNA ?_ _ | ((with_reducible refine Cod.setA ?_ ?_ _); rotate_left; ((intro hm9; have hm8 := hlow _ hm9; (try simp at hm8); (try omega)))))), hg1.mono (by (try simp); (try omega))⟩
    --YLRAE
  case false =>
  by_cases hl4 : rg.length = 4
  case neg =>
    have hl5 : ¬ (rg.length : Int) = 4 := by omega
    --EARLY
    go_wp2_with fail
    refine sets_ret6_5 (a' := .slice none 0 0) (b' := .int .i64 0) (c' := .slice none 0 0) (d' := .int .i64 0) (e' := .bool false) (f' := .bool false) (g' := .int .i64 0) (u' := .int .i64 0) (i' := .int .i64 0) (j' := .string ⟨#[]⟩) (k' := .int .i64 0) (w.heap.size + 1) (w.heap.size + 1 + 1) (by omega) p0 p1 p2 p3 p4 p5 r0 r1 r2 r3 r4 (fun W9 e9 a0 a1 a2 a3 a4 a5 b0 b1 b2 b3 b4 => ?_)
    refine bodyPost_ret (v := .tuple #[.agg #[.slice B0 sc.length d0, .int .i64 pc, .slice B2 rg.length d2, .int .i64 st, .bool false, .bool false], .agg #[.int .i64 0, .int .i64 0, .int .i64 0, .string ⟨#[]⟩, .int .i64 0]]) (by simp [results, Try.results13, go_sem, a0, a1, a2, a3, a4, a5, b0, b1, b2, b3, b4]) rfl ?_
    clear a0 a1 a2 a3 a4 a5 b0 b1 b2 b3 b4
    subst e9
    rw [← HF.out (by simp [hl4])]
    have hlow := hg1.1
    exact ⟨_, G0 ++ G2, rfl, (by repeat (first | with_reducible exact Below.refl _ _ | with_reducible assumption | with_reducible refine bel_alloc ?_ _ | with_reducible refine bel_drew ?_ | with_reducible refine bel_drewN ?_ _ | (with_reducible refine bel_set ?_ ?_ _; rotate_left; ((try simp); (try omega))))), (by repeat (first | with_reducible exact hrX | with_reducible refine Cod.allocA ?_ _ | with_reducible refine Cod.drewA ?_ | with_reducible refine Cod.drewNA ?_ _ | ((with_reducible refine Cod.setA ?_ ?_ _); rotate_left; ((intro hm9; have hm8 := hlow _ hm9; (try simp at hm8); (try omega)))))), hg1.mono (by (try simp); (try omega))⟩
    --YLRAE
  case pos =>
  have hl5 : (rg.length : Int) = 4 := by omega
  by_cases hst : st < 0
  case pos =>
    have HL4 := Lib.hid hl4
    clear hl4
    --EARLY
    go_wp2_with fail
    refine sets_ret6_5 (a' := .slice none 0 0) (b' := .int .i64 0) (c' := .slice none 0 0) (d' := .int .i64 0) (e' := .bool false) (f' := .bool false) (g' := .int .i64 0) (u' := .int .i64 0) (i' := .int .i64 0) (j' := .string ⟨#[]⟩) (k' := .int .i64 0) (w.heap.size + 1) (w.heap.size + 1 + 1) (by omega) p0 p1 p2 p3 p4 p5 r0 r1 r2 r3 r4 (fun W9 e9 a0 a1 a2 a3 a4 a5 b0 b1 b2 b3 b4 => ?_)
    refine bodyPost_ret (v := .tuple #[.agg #[.slice B0 sc.length d0, .int .i64 pc, .slice B2 rg.length d2, .int .i64 st, .bool false, .bool false], .agg #[.int .i64 0, .int .i64 0, .int .i64 0, .string ⟨#[]⟩, .int .i64 0]]) (by simp [results, Try.results13, go_sem, a0, a1, a2, a3, a4, a5, b0, b1, b2, b3, b4]) rfl ?_
    clear a0 a1 a2 a3 a4 a5 b0 b1 b2 b3 b4
    subst e9
    rw [← HF.out (by simp [hst])]
    have hlow := hg1.1
    exact ⟨_, G0 ++ G2, rfl, (by repeat (first | with_reducible exact Below.refl _ _ | with_reducible assumption | with_reducible refine bel_alloc ?_ _ | with_reducible refine bel_drew ?_ | with_reducible refine bel_drewN ?_ _ | (with_reducible refine bel_set ?_ ?_ _; rotate_left; ((try simp); (try omega))))), (by repeat (first | with_reducible exact hrX | with_reducible refine Cod.allocA ?_ _ | with_reducible refine Cod.drewA ?_ | with_reducible refine Cod.drewNA ?_ _ | ((with_reducible refine Cod.setA ?_ ?_ _); rotate_left; ((intro hm9; have hm8 := hlow _ hm9; (try simp at hm8); (try omega)))))), hg1.mono (by (try simp); (try omega))⟩
    --YLRAE
  case neg =>
    have hst0 : 0 ≤ st := by omega
    obtain ⟨R, hR⟩ : ∃ R, runLoop sc (60 - st).toNat pc rg st = R := ⟨_, rfl⟩
    have HR := Lib.hid hR
    have HM := Lib.hid ((HL.out (by simp [hl4, hst])).trans hR)
    clear hR HF HL
    have HL4 := Lib.hid hl4
    clear hl4
    rw [HL4.out] at y2
    have t0X := Cod.bel t0 hb1X
    have t2X := Cod.bel t2 hb1X
    rw [HL4.out] at t2X
    obtain ⟨g, o, -, -, hB2, hgF, -⟩ := cL_get (hw := by decide) (hw2 := by decide) t2X (k := 0) (by rw [HL4.out]; decide)
    subst hB2
    have HRES := Lib.hid (show RunRes X (w.heap.size + 1) (w.heap.size + 1 + 1) from ⟨p0, fp0, p1, fp1, p2, fp2, p3, fp3, p4, fp4, p5, fp5, r0, fr0, r1, fr1, r2, fr2, r3, fr3, r4, fr4⟩)
    have HBOX := Lib.hid (show RunBox X w1.heap.size (.slice B0 sc.length d0) (.slice (some ⟨g, o, none⟩) 4 d2) pc st from ⟨y0, y1, y2, y3, y4, y5, fy1, fy3, fy4, fy5⟩)
    have hng0 : ∀ b, b ∈ G0 → w.heap.size + 1 + 1 + 1 ≤ b ∧ b < w1.heap.size := fun b hb => ⟨hg1.1 b (by simp [hb]), hlt1 b (by simp [hb])⟩
    have hng2 : ∀ b, b ∈ G2 → w.heap.size + 1 + 1 + 1 ≤ b ∧ b < w1.heap.size := fun b hb => ⟨hg1.1 b (by simp [hb]), hlt1 b (by simp [hb])⟩
    have HG := Lib.hid (List.nodup_append.1 hg1.2)
    have HG1 := Lib.hid hg1
    have hgw := hng2 g hgF
    clear t0 t2 hrX hlt1
    go_wp2_with fail
    clear p0 fp0 p1 fp1 p2 fp2 p3 fp3 p4 fp4 p5 fp5 r0 fr0 r1 fr1 r2 fr2 r3 fr3 r4 fr4 y0 y1 y2 y3 y4 y5 fy0 fy1 fy2 fy3 fy4 fy5 m2 m3 m4 m5 hst hl5 hg1
    go_loopg [] ((60 - st).toNat) (fun k wr => ∃ (pc' st' : Int) (rg' : List Int), k = (60 - st').toNat ∧ 0 ≤ st' ∧ st' ≤ 9223372036854775807 ∧ (-9223372036854775808 ≤ pc' ∧ pc' ≤ 9223372036854775807) ∧ rg'.length = 4 ∧ runLoop sc (60 - st').toNat pc' rg' st' = R ∧ RunBox wr w1.heap.size (.slice B0 sc.length d0) (.slice (some ⟨g, o, none⟩) 4 d2) pc' st' ∧ cInsS.rep wr [.slice B0 sc.length d0] sc G0 ∧ cIS.rep wr [.slice (some ⟨g, o, none⟩) 4 d2] rg' G2 ∧ Only (w1.heap.size :: G2) X wr)
    case atStart => exact ⟨pc, st, rg, rfl, hst0, hstr, hpcr, HL4.out, HR.out, HBOX.out, t0X, t2X, Only.refl _ _⟩
    case round =>
      clear t0X t2X hpcr hstr hst0 HR HBOX
      obtain ⟨pc', st', rg', hk, hs0, hs1, hpc, hrl, hrun, hbox, t0, t2, hO⟩ := hrel
      have HK := Lib.hid hk
      have HRL := Lib.hid hrl
      have HRUN := Lib.hid hrun
      clear hk hrl hrun
      have hOs := hO.size
      have hwrs : w.heap.size + 1 < wr.heap.size ∧ w.heap.size + 1 + 1 < wr.heap.size ∧ w1.heap.size < wr.heap.size ∧ w.heap.size < wr.heap.size := by omega
      have hres : RunRes wr (w.heap.size + 1) (w.heap.size + 1 + 1) := HRES.out.of_block (hO.block _ (by omega) (fun hm => by rcases List.mem_cons.1 hm with e | hm; omega; have := hng2 _ hm; omega)) (hO.block _ (by omega) (fun hm => by rcases List.mem_cons.1 hm with e | hm; omega; have := hng2 _ hm; omega))
      have hbwr : Below w.heap.size w wr := hbX.trans (hO.bel w.heap.size hbX.size (fun x hx => by rcases List.mem_cons.1 hx with e | hm; omega; have := hng2 _ hm; omega))
      have HRS := Lib.hid hres
      have HT0 := Lib.hid t0
      have HT2 := Lib.hid t2
      have HBW := Lib.hid hbox
      obtain ⟨e0, e1, e2, e3, e4, e5, f1, f3, f4, f5⟩ := hbox
      clear hres t0 t2
      by_cases hp0 : pc' < 0
      case pos =>
        have hS : ∀ w9, Below wr.heap.size wr w9 → w9.cell? ⟨w1.heap.size, 0, none⟩ = some (.slice B0 sc.length d0) ∧ w9.cell? ⟨w1.heap.size, 1, none⟩ = some (.int .i64 pc') ∧ w9.cell? ⟨w1.heap.size, 3, none⟩ = some (.int .i64 st') := fun w9 hb => ⟨(hb.cell (p := ⟨w1.heap.size, 0, none⟩) hwrs.2.2.1).trans e0, (hb.cell (p := ⟨w1.heap.size, 1, none⟩) hwrs.2.2.1).trans e1, (hb.cell (p := ⟨w1.heap.size, 3, none⟩) hwrs.2.2.1).trans e3⟩
        go_wp2_with fail
        refine wp_region_held_drew (S := (fun w9 => w9.cell? ⟨w1.heap.size, 0, none⟩ = some (.slice B0 sc.length d0) ∧ w9.cell? ⟨w1.heap.size, 1, none⟩ = some (.int .i64 pc') ∧ w9.cell? ⟨w1.heap.size, 3, none⟩ = some (.int .i64 st'))) (by kernel_rfl) (by (try dsimp only); exact hS _ (by repeat (first | with_reducible exact Below.refl _ _ | with_reducible assumption | with_reducible refine bel_alloc ?_ _ | with_reducible refine bel_drew ?_ | with_reducible refine bel_drewN ?_ _ | (with_reducible refine bel_set ?_ ?_ _; rotate_left; ((try simp); (try omega)))))) (fun hHeld => ?_)
        refine take_read (i := 0) 27 (v := ?v0) rfl rfl (by kernel_rfl) (by kernel_rfl) (by kernel_rfl) (fun _ _ _ h => h) (by rfl) ?hy0 (by assumption) ?rest0
        case hy0 => (intro w hSw; (try dsimp only at hSw); go_simp; (try with_reducible rfl))
        try simp only [Act.put, List.setIfInBounds_toArray, List.set_cons_zero, List.set_cons_succ]
        refine take_read (i := 1) 28 (v := ?v1) rfl rfl (by kernel_rfl) (by kernel_rfl) (by kernel_rfl) (fun _ _ _ h => h) (by rfl) ?hy1 (by assumption) ?rest1
        case hy1 => (intro w hSw; (try dsimp only at hSw); go_simp; (try with_reducible rfl))
        try simp only [Act.put, List.setIfInBounds_toArray, List.set_cons_zero, List.set_cons_succ]
        refine take_read (i := 2) 29 (v := ?v2) rfl rfl (by kernel_rfl) (by kernel_rfl) (by kernel_rfl) (fun _ _ _ h => h) (by rfl) ?hy2 (by assumption) ?rest2
        case hy2 => (intro w hSw; (try dsimp only at hSw); go_simp; (try with_reducible rfl))
        try simp only [Act.put, List.setIfInBounds_toArray, List.set_cons_zero, List.set_cons_succ]
        refine take_read (i := 3) 30 (v := ?v3) rfl rfl (by kernel_rfl) (by kernel_rfl) (by kernel_rfl) (fun _ _ _ h => h) (by rfl) ?hy3 (by assumption) ?rest3
        case hy3 => (intro w hSw; (try dsimp only at hSw); go_simp; (try with_reducible rfl))
        try simp only [Act.put, List.setIfInBounds_toArray, List.set_cons_zero, List.set_cons_succ]
        refine take_skip (i := 4) 31 rfl rfl (by kernel_rfl) (by kernel_rfl) (by kernel_rfl) (fun _ _ _ h => h) (by rfl) (by assumption) ?_
        try simp only [Act.put, List.setIfInBounds_toArray, List.set_cons_zero, List.set_cons_succ]
        refine take_skip (i := 5) 32 rfl rfl (by kernel_rfl) (by kernel_rfl) (by kernel_rfl) (fun _ _ _ h => h) (by rfl) (by assumption) ?_
        try simp only [Act.put, List.setIfInBounds_toArray, List.set_cons_zero, List.set_cons_succ]
        refine take_skip (i := 6) 33 rfl rfl (by kernel_rfl) (by kernel_rfl) (by kernel_rfl) (fun _ _ _ h => h) (by rfl) (by assumption) ?_
        try simp only [Act.put, List.setIfInBounds_toArray, List.set_cons_zero, List.set_cons_succ]
        refine take_skip (i := 7) 34 rfl rfl (by kernel_rfl) (by kernel_rfl) (by kernel_rfl) (fun _ _ _ h => h) (by rfl) (by assumption) ?_
        try simp only [Act.put, List.setIfInBounds_toArray, List.set_cons_zero, List.set_cons_succ]
        refine take_skip (i := 8) 35 rfl rfl (by kernel_rfl) (by kernel_rfl) (by kernel_rfl) (fun _ _ _ h => h) (by rfl) (by assumption) ?_
        try simp only [Act.put, List.setIfInBounds_toArray, List.set_cons_zero, List.set_cons_succ]
        refine take_skip (i := 9) 36 rfl rfl (by kernel_rfl) (by kernel_rfl) (by kernel_rfl) (fun _ _ _ h => h) (by rfl) (by assumption) ?_
        try simp only [Act.put, List.setIfInBounds_toArray, List.set_cons_zero, List.set_cons_succ]
        refine take_read (i := 10) 37 (v := ?v10) rfl rfl (by kernel_rfl) (by kernel_rfl) (by kernel_rfl) (fun _ _ _ h => h) (by rfl) ?hy10 (by assumption) ?rest10
        case hy10 => (intro w hSw; (try dsimp only at hSw); go_simp; (try with_reducible rfl))
        try simp only [Act.put, List.setIfInBounds_toArray, List.set_cons_zero, List.set_cons_succ]
        refine take_read (i := 11) 38 (v := ?v11) rfl rfl (by kernel_rfl) (by kernel_rfl) (by kernel_rfl) (fun _ _ _ h => h) (by rfl) ?hy11 (by assumption) ?rest11
        case hy11 => (intro w hSw; (try dsimp only at hSw); go_simp; (try with_reducible rfl))
        try simp only [Act.put, List.setIfInBounds_toArray, List.set_cons_zero, List.set_cons_succ]
        refine take_skip (i := 12) 39 rfl rfl (by kernel_rfl) (by kernel_rfl) (by kernel_rfl) (fun _ _ _ h => h) (by rfl) (by assumption) ?_
        try simp only [Act.put, List.setIfInBounds_toArray, List.set_cons_zero, List.set_cons_succ]
        refine take_skip (i := 13) 40 rfl rfl (by kernel_rfl) (by kernel_rfl) (by kernel_rfl) (fun _ _ _ h => h) (by rfl) (by assumption) ?_
        try simp only [Act.put, List.setIfInBounds_toArray, List.set_cons_zero, List.set_cons_succ]
        refine take_skip (i := 14) 41 rfl rfl (by kernel_rfl) (by kernel_rfl) (by kernel_rfl) (fun _ _ _ h => h) (by rfl) (by assumption) ?_
        try simp only [Act.put, List.setIfInBounds_toArray, List.set_cons_zero, List.set_cons_succ]
        refine take_skip (i := 15) 42 rfl rfl (by kernel_rfl) (by kernel_rfl) (by kernel_rfl) (fun _ _ _ h => h) (by rfl) (by assumption) ?_
        try simp only [Act.put, List.setIfInBounds_toArray, List.set_cons_zero, List.set_cons_succ]
        refine take_skip (i := 16) 43 rfl rfl (by kernel_rfl) (by kernel_rfl) (by kernel_rfl) (fun _ _ _ h => h) (by rfl) (by assumption) ?_
        try simp only [Act.put, List.setIfInBounds_toArray, List.set_cons_zero, List.set_cons_succ]
        refine take_skip (i := 17) 44 rfl rfl (by kernel_rfl) (by kernel_rfl) (by kernel_rfl) (fun _ _ _ h => h) (by rfl) (by assumption) ?_
        try simp only [Act.put, List.setIfInBounds_toArray, List.set_cons_zero, List.set_cons_succ]
        refine take_skip (i := 18) 45 rfl rfl (by kernel_rfl) (by kernel_rfl) (by kernel_rfl) (fun _ _ _ h => h) (by rfl) (by assumption) ?_
        try simp only [Act.put, List.setIfInBounds_toArray, List.set_cons_zero, List.set_cons_succ]
        refine take_skip (i := 19) 46 rfl rfl (by kernel_rfl) (by kernel_rfl) (by kernel_rfl) (fun _ _ _ h => h) (by rfl) (by assumption) ?_
        try simp only [Act.put, List.setIfInBounds_toArray, List.set_cons_zero, List.set_cons_succ]
        refine take_skip (i := 20) 47 rfl rfl (by kernel_rfl) (by kernel_rfl) (by kernel_rfl) (fun _ _ _ h => h) (by rfl) (by assumption) ?_
        try simp only [Act.put, List.setIfInBounds_toArray, List.set_cons_zero, List.set_cons_succ]
        refine take_skip (i := 21) 48 rfl rfl (by kernel_rfl) (by kernel_rfl) (by kernel_rfl) (fun _ _ _ h => h) (by rfl) (by assumption) ?_
        try simp only [Act.put, List.setIfInBounds_toArray, List.set_cons_zero, List.set_cons_succ]
        refine take_skip (i := 22) 49 rfl rfl (by kernel_rfl) (by kernel_rfl) (by kernel_rfl) (fun _ _ _ h => h) (by rfl) (by assumption) ?_
        try simp only [Act.put, List.setIfInBounds_toArray, List.set_cons_zero, List.set_cons_succ]
        refine take_read (i := 23) 50 (v := ?v23) rfl rfl (by kernel_rfl) (by kernel_rfl) (by kernel_rfl) (fun _ _ _ h => h) (by rfl) ?hy23 (by assumption) ?rest23
        case hy23 => (intro w hSw; (try dsimp only at hSw); go_simp; (try with_reducible rfl))
        try simp only [Act.put, List.setIfInBounds_toArray, List.set_cons_zero, List.set_cons_succ]
        refine take_read (i := 24) 51 (v := ?v24) rfl rfl (by kernel_rfl) (by kernel_rfl) (by kernel_rfl) (fun _ _ _ h => h) (by rfl) ?hy24 (by assumption) ?rest24
        case hy24 => (intro w hSw; (try dsimp only at hSw); go_simp; (try with_reducible rfl))
        try simp only [Act.put, List.setIfInBounds_toArray, List.set_cons_zero, List.set_cons_succ]
        refine take_skip (i := 25) 52 rfl rfl (by kernel_rfl) (by kernel_rfl) (by kernel_rfl) (fun _ _ _ h => h) (by rfl) (by assumption) ?_
        try simp only [Act.put, List.setIfInBounds_toArray, List.set_cons_zero, List.set_cons_succ]
        refine take_skip (i := 26) 53 rfl rfl (by kernel_rfl) (by kernel_rfl) (by kernel_rfl) (fun _ _ _ h => h) (by rfl) (by assumption) ?_
        try simp only [Act.put, List.setIfInBounds_toArray, List.set_cons_zero, List.set_cons_succ]
        refine take_skip (i := 27) 54 rfl rfl (by kernel_rfl) (by kernel_rfl) (by kernel_rfl) (fun _ _ _ h => h) (by rfl) (by assumption) ?_
        try simp only [Act.put, List.setIfInBounds_toArray, List.set_cons_zero, List.set_cons_succ]
        refine take_read (i := 28) 55 (v := ?v28) rfl rfl (by kernel_rfl) (by kernel_rfl) (by kernel_rfl) (fun _ _ _ h => h) (by rfl) ?hy28 (by assumption) ?rest28
        case hy28 => (intro w hSw; (try dsimp only at hSw); go_simp; (try with_reducible rfl))
        try simp only [Act.put, List.setIfInBounds_toArray, List.set_cons_zero, List.set_cons_succ]
        refine wpAnyH_done (by kernel_rfl) ?_ _
        generalize hVd : World.drew wr = V
        have hBV : Below wr.heap.size wr V := (by rw [← hVd]; exact (Below.refl _ _).drew)
        have hBF : Below wr.heap.size wr V := hBV
        clear hVd
        clear e0 e1 e2 e3 e4 e5 f1 f3 f4 f5
        obtain ⟨P0, Q0, P1, Q1, P2, Q2, P3, Q3, P4, Q4, P5, Q5, R0, S0, R1, S1, R2, S2, R3, S3, R4, S4⟩ := HRS.out.of_block (hBF.block (w.heap.size + 1) (by omega)) (hBF.block (w.heap.size + 1 + 1) (by omega))
        obtain ⟨E0', E1', E2', E3', E4', E5', F1', F3', F4', F5'⟩ := HBW.out.of_block (hBF.block w1.heap.size (by omega))
        have T0 := Cod.bel HT0.out hBV
        have T2 := Cod.bel HT2.out hBV
        have hVs := hBV.size
        have hbV : Below w.heap.size w V := bel_then hbwr hBV
        have hVz : w.heap.size + 1 < V.heap.size ∧ w.heap.size + 1 + 1 < V.heap.size ∧ w1.heap.size < V.heap.size := by have := hBF.size; omega
        have hq1 : ¬ w1.heap.size = w.heap.size + 1 := by omega
        have hq2 : ¬ w1.heap.size = w.heap.size + 1 + 1 := by omega
        have hq3 : ¬ w.heap.size + 1 = w1.heap.size := by omega
        have hq4 : ¬ w.heap.size + 1 + 1 = w1.heap.size := by omega
        go_wp2_with fail
        refine sets_ret6_5 (a' := .slice none 0 0) (b' := .int .i64 0) (c' := .slice none 0 0) (d' := .int .i64 0) (e' := .bool false) (f' := .bool false) (g' := .int .i64 0) (u' := .int .i64 0) (i' := .int .i64 0) (j' := .string ⟨#[]⟩) (k' := .int .i64 0) (w.heap.size + 1) (w.heap.size + 1 + 1) (by omega) ?_ ?_ ?_ ?_ ?_ ?_ ?_ ?_ ?_ ?_ ?_ (fun W9 e9 a0 a1 a2 a3 a4 a5 b0 b1 b2 b3 b4 => ?_)
        · exact setNe (by omega) P0
        · exact setNe (by omega) P1
        · exact setNe (by omega) P2
        · exact setNe (by omega) P3
        · exact setNe (by omega) P4
        · exact setNe (by omega) P5
        · exact setNe (by omega) R0
        · exact setNe (by omega) R1
        · exact setNe (by omega) R2
        · exact setNe (by omega) R3
        · exact setNe (by omega) R4
        refine bodyPost_ret (v := .tuple #[.agg #[.slice B0 sc.length d0, .int .i64 pc', .slice (some ⟨g, o, none⟩) 4 d2, .int .i64 st', .bool true, .bool false], .agg #[.int .i64 0, .int .i64 0, .int .i64 0, .string ⟨#[]⟩, .int .i64 0]]) (by simp [results, Try.results13, go_sem, a0, a1, a2, a3, a4, a5, b0, b1, b2, b3, b4]) rfl ?_
        clear a0 a1 a2 a3 a4 a5 b0 b1 b2 b3 b4
        subst e9
        rw [HM.out, ← HRUN.out, run_low _ _ _ _ _ hp0]
        exact ⟨_, G0 ++ G2, rfl, (by repeat (first | with_reducible exact Below.refl _ _ | with_reducible assumption | with_reducible refine bel_alloc ?_ _ | with_reducible refine bel_drew ?_ | with_reducible refine bel_drewN ?_ _ | (with_reducible refine bel_set ?_ ?_ _; rotate_left; ((try simp); (try omega))))), TMach.mk_ (x := ⟨sc, pc', rg', st', true, false⟩) ⟨hpc, ⟨by simp; omega, hs1⟩⟩ (by repeat (first | with_reducible exact T0 | with_reducible refine Cod.allocA ?_ _ | with_reducible refine Cod.drewA ?_ | with_reducible refine Cod.drewNA ?_ _ | ((with_reducible refine Cod.setA ?_ ?_ _); rotate_left; ((intro hm9; have hm8 := hng0 _ hm9; (try simp at hm8); (try omega)))))) (by repeat (first | with_reducible exact T2 | with_reducible refine Cod.allocA ?_ _ | with_reducible refine Cod.drewA ?_ | with_reducible refine Cod.drewNA ?_ _ | ((with_reducible refine Cod.setA ?_ ?_ _); rotate_left; ((intro hm9; have hm8 := hng2 _ hm9; (try simp at hm8); (try omega)))))), HG1.out.mono (by (try simp); (try omega))⟩
      case neg =>
      by_cases hp1 : (sc.length : Int) ≤ pc'
      case pos =>
        have hp2 : 0 ≤ pc' := by omega
        have hd0 : decide (pc' < 0) = false := by simp; omega
        have hd1 : decide ((sc.length : Int) ≤ pc') = true := by simp; omega
        have hS : ∀ w9, Below wr.heap.size wr w9 → w9.cell? ⟨w1.heap.size, 0, none⟩ = some (.slice B0 sc.length d0) ∧ w9.cell? ⟨w1.heap.size, 1, none⟩ = some (.int .i64 pc') ∧ w9.cell? ⟨w1.heap.size, 3, none⟩ = some (.int .i64 st') := fun w9 hb => ⟨(hb.cell (p := ⟨w1.heap.size, 0, none⟩) hwrs.2.2.1).trans e0, (hb.cell (p := ⟨w1.heap.size, 1, none⟩) hwrs.2.2.1).trans e1, (hb.cell (p := ⟨w1.heap.size, 3, none⟩) hwrs.2.2.1).trans e3⟩
        go_wp2_with fail
        refine wp_region_held_drew (S := (fun w9 => w9.cell? ⟨w1.heap.size, 0, none⟩ = some (.slice B0 sc.length d0) ∧ w9.cell? ⟨w1.heap.size, 1, none⟩ = some (.int .i64 pc') ∧ w9.cell? ⟨w1.heap.size, 3, none⟩ = some (.int .i64 st'))) (by kernel_rfl) (by (try dsimp only); exact hS _ (by repeat (first | with_reducible exact Below.refl _ _ | with_reducible assumption | with_reducible refine bel_alloc ?_ _ | with_reducible refine bel_drew ?_ | with_reducible refine bel_drewN ?_ _ | (with_reducible refine bel_set ?_ ?_ _; rotate_left; ((try simp); (try omega)))))) (fun hHeld => ?_)
        refine take_read (i := 0) 27 (v := ?x2_v0) rfl rfl (by kernel_rfl) (by kernel_rfl) (by kernel_rfl) (fun _ _ _ h => h) (by rfl) ?x2_hy0 (by assumption) ?x2_rest0
        case x2_hy0 => (intro w hSw; (try dsimp only at hSw); go_simp; (try with_reducible rfl))
        try simp only [Act.put, List.setIfInBounds_toArray, List.set_cons_zero, List.set_cons_succ]
        refine take_read (i := 1) 28 (v := ?x2_v1) rfl rfl (by kernel_rfl) (by kernel_rfl) (by kernel_rfl) (fun _ _ _ h => h) (by rfl) ?x2_hy1 (by assumption) ?x2_rest1
        case x2_hy1 => (intro w hSw; (try dsimp only at hSw); go_simp; (try with_reducible rfl))
        try simp only [Act.put, List.setIfInBounds_toArray, List.set_cons_zero, List.set_cons_succ]
        refine take_read (i := 2) 29 (v := ?x2_v2) rfl rfl (by kernel_rfl) (by kernel_rfl) (by kernel_rfl) (fun _ _ _ h => h) (by rfl) ?x2_hy2 (by assumption) ?x2_rest2
        case x2_hy2 => (intro w hSw; (try dsimp only at hSw); go_simp; (try with_reducible rfl))
        try simp only [Act.put, List.setIfInBounds_toArray, List.set_cons_zero, List.set_cons_succ]
        refine take_read (i := 3) 30 (v := ?x2_v3) rfl rfl (by kernel_rfl) (by kernel_rfl) (by kernel_rfl) (fun _ _ _ h => h) (by rfl) ?x2_hy3 (by assumption) ?x2_rest3
        case x2_hy3 => (intro w hSw; (try dsimp only at hSw); go_simp; (try with_reducible rfl))
        try simp only [Act.put, List.setIfInBounds_toArray, List.set_cons_zero, List.set_cons_succ]
        refine take_read (i := 4) 31 (v := ?x2_v4) rfl rfl (by kernel_rfl) (by kernel_rfl) (by kernel_rfl) (fun _ _ _ h => h) (by rfl) ?x2_hy4 (by assumption) ?x2_rest4
        case x2_hy4 => (intro w hSw; (try dsimp only at hSw); go_simp; (try with_reducible rfl))
        try simp only [Act.put, List.setIfInBounds_toArray, List.set_cons_zero, List.set_cons_succ]
        refine take_read (i := 5) 32 (v := ?x2_v5) rfl rfl (by kernel_rfl) (by kernel_rfl) (by kernel_rfl) (fun _ _ _ h => h) (by rfl) ?x2_hy5 (by assumption) ?x2_rest5
        case x2_hy5 => (intro w hSw; (try dsimp only at hSw); go_simp; (try with_reducible rfl))
        try simp only [Act.put, List.setIfInBounds_toArray, List.set_cons_zero, List.set_cons_succ]
        refine take_read (i := 6) 33 (v := ?x2_v6) rfl rfl (by kernel_rfl) (by kernel_rfl) (by kernel_rfl) (fun _ _ _ h => h) (by rfl) ?x2_hy6 (by assumption) ?x2_rest6
        case x2_hy6 => (intro w hSw; (try dsimp only at hSw); go_simp; (try with_reducible rfl))
        try simp only [Act.put, List.setIfInBounds_toArray, List.set_cons_zero, List.set_cons_succ]
        refine take_read (i := 7) 34 (v := ?x2_v7) rfl rfl (by kernel_rfl) (by kernel_rfl) (by kernel_rfl) (fun _ _ _ h => h) (by rfl) ?x2_hy7 (by assumption) ?x2_rest7
        case x2_hy7 => (intro w hSw; (try dsimp only at hSw); go_simp; (try with_reducible rfl))
        try simp only [Act.put, List.setIfInBounds_toArray, List.set_cons_zero, List.set_cons_succ]
        refine take_read (i := 8) 35 (v := ?x2_v8) rfl rfl (by kernel_rfl) (by kernel_rfl) (by kernel_rfl) (fun _ _ _ h => h) (by rfl) ?x2_hy8 (by assumption) ?x2_rest8
        case x2_hy8 => (intro w hSw; (try dsimp only at hSw); go_simp; (try with_reducible rfl))
        try simp only [Act.put, List.setIfInBounds_toArray, List.set_cons_zero, List.set_cons_succ]
        refine take_read (i := 9) 36 (v := ?x2_v9) rfl rfl (by kernel_rfl) (by kernel_rfl) (by kernel_rfl) (fun _ _ _ h => h) (by rfl) ?x2_hy9 (by assumption) ?x2_rest9
        case x2_hy9 => (intro w hSw; (try dsimp only at hSw); go_simp; (try with_reducible rfl))
        try simp only [Act.put, List.setIfInBounds_toArray, List.set_cons_zero, List.set_cons_succ]
        refine take_read (i := 10) 37 (v := ?x2_v10) rfl rfl (by kernel_rfl) (by kernel_rfl) (by kernel_rfl) (fun _ _ _ h => h) (by rfl) ?x2_hy10 (by assumption) ?x2_rest10
        case x2_hy10 => (intro w hSw; (try dsimp only at hSw); go_simp; (try with_reducible rfl))
        try simp only [Act.put, List.setIfInBounds_toArray, List.set_cons_zero, List.set_cons_succ]
        refine take_read (i := 11) 38 (v := ?x2_v11) rfl rfl (by kernel_rfl) (by kernel_rfl) (by kernel_rfl) (fun _ _ _ h => h) (by rfl) ?x2_hy11 (by assumption) ?x2_rest11
        case x2_hy11 => (intro w hSw; (try dsimp only at hSw); go_simp; (try with_reducible rfl))
        try simp only [Act.put, List.setIfInBounds_toArray, List.set_cons_zero, List.set_cons_succ]
        refine take_skip (i := 12) 39 rfl rfl (by kernel_rfl) (by kernel_rfl) (by kernel_rfl) (fun _ _ _ h => h) (by rfl) (by assumption) ?_
        try simp only [Act.put, List.setIfInBounds_toArray, List.set_cons_zero, List.set_cons_succ]
        refine take_skip (i := 13) 40 rfl rfl (by kernel_rfl) (by kernel_rfl) (by kernel_rfl) (fun _ _ _ h => h) (by rfl) (by assumption) ?_
        try simp only [Act.put, List.setIfInBounds_toArray, List.set_cons_zero, List.set_cons_succ]
        refine take_skip (i := 14) 41 rfl rfl (by kernel_rfl) (by kernel_rfl) (by kernel_rfl) (fun _ _ _ h => h) (by rfl) (by assumption) ?_
        try simp only [Act.put, List.setIfInBounds_toArray, List.set_cons_zero, List.set_cons_succ]
        refine take_skip (i := 15) 42 rfl rfl (by kernel_rfl) (by kernel_rfl) (by kernel_rfl) (fun _ _ _ h => h) (by rfl) (by assumption) ?_
        try simp only [Act.put, List.setIfInBounds_toArray, List.set_cons_zero, List.set_cons_succ]
        refine take_skip (i := 16) 43 rfl rfl (by kernel_rfl) (by kernel_rfl) (by kernel_rfl) (fun _ _ _ h => h) (by rfl) (by assumption) ?_
        try simp only [Act.put, List.setIfInBounds_toArray, List.set_cons_zero, List.set_cons_succ]
        refine take_skip (i := 17) 44 rfl rfl (by kernel_rfl) (by kernel_rfl) (by kernel_rfl) (fun _ _ _ h => h) (by rfl) (by assumption) ?_
        try simp only [Act.put, List.setIfInBounds_toArray, List.set_cons_zero, List.set_cons_succ]
        refine take_skip (i := 18) 45 rfl rfl (by kernel_rfl) (by kernel_rfl) (by kernel_rfl) (fun _ _ _ h => h) (by rfl) (by assumption) ?_
        try simp only [Act.put, List.setIfInBounds_toArray, List.set_cons_zero, List.set_cons_succ]
        refine take_skip (i := 19) 46 rfl rfl (by kernel_rfl) (by kernel_rfl) (by kernel_rfl) (fun _ _ _ h => h) (by rfl) (by assumption) ?_
        try simp only [Act.put, List.setIfInBounds_toArray, List.set_cons_zero, List.set_cons_succ]
        refine take_skip (i := 20) 47 rfl rfl (by kernel_rfl) (by kernel_rfl) (by kernel_rfl) (fun _ _ _ h => h) (by rfl) (by assumption) ?_
        try simp only [Act.put, List.setIfInBounds_toArray, List.set_cons_zero, List.set_cons_succ]
        refine take_skip (i := 21) 48 rfl rfl (by kernel_rfl) (by kernel_rfl) (by kernel_rfl) (fun _ _ _ h => h) (by rfl) (by assumption) ?_
        try simp only [Act.put, List.setIfInBounds_toArray, List.set_cons_zero, List.set_cons_succ]
        refine take_skip (i := 22) 49 rfl rfl (by kernel_rfl) (by kernel_rfl) (by kernel_rfl) (fun _ _ _ h => h) (by rfl) (by assumption) ?_
        try simp only [Act.put, List.setIfInBounds_toArray, List.set_cons_zero, List.set_cons_succ]
        refine take_read (i := 23) 50 (v := ?x2_v23) rfl rfl (by kernel_rfl) (by kernel_rfl) (by kernel_rfl) (fun _ _ _ h => h) (by rfl) ?x2_hy23 (by assumption) ?x2_rest23
        case x2_hy23 => (intro w hSw; (try dsimp only at hSw); go_simp; (try with_reducible rfl))
        try simp only [Act.put, List.setIfInBounds_toArray, List.set_cons_zero, List.set_cons_succ]
        refine take_read (i := 24) 51 (v := ?x2_v24) rfl rfl (by kernel_rfl) (by kernel_rfl) (by kernel_rfl) (fun _ _ _ h => h) (by rfl) ?x2_hy24 (by assumption) ?x2_rest24
        case x2_hy24 => (intro w hSw; (try dsimp only at hSw); go_simp; (try with_reducible rfl))
        try simp only [Act.put, List.setIfInBounds_toArray, List.set_cons_zero, List.set_cons_succ]
        refine take_skip (i := 25) 52 rfl rfl (by kernel_rfl) (by kernel_rfl) (by kernel_rfl) (fun _ _ _ h => h) (by rfl) (by assumption) ?_
        try simp only [Act.put, List.setIfInBounds_toArray, List.set_cons_zero, List.set_cons_succ]
        refine take_skip (i := 26) 53 rfl rfl (by kernel_rfl) (by kernel_rfl) (by kernel_rfl) (fun _ _ _ h => h) (by rfl) (by assumption) ?_
        try simp only [Act.put, List.setIfInBounds_toArray, List.set_cons_zero, List.set_cons_succ]
        refine take_skip (i := 27) 54 rfl rfl (by kernel_rfl) (by kernel_rfl) (by kernel_rfl) (fun _ _ _ h => h) (by rfl) (by assumption) ?_
        try simp only [Act.put, List.setIfInBounds_toArray, List.set_cons_zero, List.set_cons_succ]
        refine take_read (i := 28) 55 (v := ?x2_v28) rfl rfl (by kernel_rfl) (by kernel_rfl) (by kernel_rfl) (fun _ _ _ h => h) (by rfl) ?x2_hy28 (by assumption) ?x2_rest28
        case x2_hy28 => (intro w hSw; (try dsimp only at hSw); go_simp; (try with_reducible rfl))
        try simp only [Act.put, List.setIfInBounds_toArray, List.set_cons_zero, List.set_cons_succ]
        refine wpAnyH_done (by kernel_rfl) ?_ _
        generalize hVd : World.drew wr = V
        have hBV : Below wr.heap.size wr V := (by rw [← hVd]; exact (Below.refl _ _).drew)
        have hBF : Below wr.heap.size wr V := hBV
        clear hVd
        clear e0 e1 e2 e3 e4 e5 f1 f3 f4 f5
        obtain ⟨P0, Q0, P1, Q1, P2, Q2, P3, Q3, P4, Q4, P5, Q5, R0, S0, R1, S1, R2, S2, R3, S3, R4, S4⟩ := HRS.out.of_block (hBF.block (w.heap.size + 1) (by omega)) (hBF.block (w.heap.size + 1 + 1) (by omega))
        obtain ⟨E0', E1', E2', E3', E4', E5', F1', F3', F4', F5'⟩ := HBW.out.of_block (hBF.block w1.heap.size (by omega))
        have T0 := Cod.bel HT0.out hBV
        have T2 := Cod.bel HT2.out hBV
        have hVs := hBV.size
        have hbV : Below w.heap.size w V := bel_then hbwr hBV
        have hVz : w.heap.size + 1 < V.heap.size ∧ w.heap.size + 1 + 1 < V.heap.size ∧ w1.heap.size < V.heap.size := by have := hBF.size; omega
        have hq1 : ¬ w1.heap.size = w.heap.size + 1 := by omega
        have hq2 : ¬ w1.heap.size = w.heap.size + 1 + 1 := by omega
        have hq3 : ¬ w.heap.size + 1 = w1.heap.size := by omega
        have hq4 : ¬ w.heap.size + 1 + 1 = w1.heap.size := by omega
        go_wp2_with fail
        refine sets_ret6_5 (a' := .slice none 0 0) (b' := .int .i64 0) (c' := .slice none 0 0) (d' := .int .i64 0) (e' := .bool false) (f' := .bool false) (g' := .int .i64 0) (u' := .int .i64 0) (i' := .int .i64 0) (j' := .string ⟨#[]⟩) (k' := .int .i64 0) (w.heap.size + 1) (w.heap.size + 1 + 1) (by omega) ?_ ?_ ?_ ?_ ?_ ?_ ?_ ?_ ?_ ?_ ?_ (fun W9 e9 a0 a1 a2 a3 a4 a5 b0 b1 b2 b3 b4 => ?_)
        · exact setNe (by omega) P0
        · exact setNe (by omega) P1
        · exact setNe (by omega) P2
        · exact setNe (by omega) P3
        · exact setNe (by omega) P4
        · exact setNe (by omega) P5
        · exact setNe (by omega) R0
        · exact setNe (by omega) R1
        · exact setNe (by omega) R2
        · exact setNe (by omega) R3
        · exact setNe (by omega) R4
        refine bodyPost_ret (v := .tuple #[.agg #[.slice B0 sc.length d0, .int .i64 pc', .slice (some ⟨g, o, none⟩) 4 d2, .int .i64 st', .bool true, .bool false], .agg #[.int .i64 0, .int .i64 0, .int .i64 0, .string ⟨#[]⟩, .int .i64 0]]) (by simp [results, Try.results13, go_sem, a0, a1, a2, a3, a4, a5, b0, b1, b2, b3, b4]) rfl ?_
        clear a0 a1 a2 a3 a4 a5 b0 b1 b2 b3 b4
        subst e9
        rw [HM.out, ← HRUN.out, run_high _ _ _ _ _ hp1]
        exact ⟨_, G0 ++ G2, rfl, (by repeat (first | with_reducible exact Below.refl _ _ | with_reducible assumption | with_reducible refine bel_alloc ?_ _ | with_reducible refine bel_drew ?_ | with_reducible refine bel_drewN ?_ _ | (with_reducible refine bel_set ?_ ?_ _; rotate_left; ((try simp); (try omega))))), TMach.mk_ (x := ⟨sc, pc', rg', st', true, false⟩) ⟨hpc, ⟨by simp; omega, hs1⟩⟩ (by repeat (first | with_reducible exact T0 | with_reducible refine Cod.allocA ?_ _ | with_reducible refine Cod.drewA ?_ | with_reducible refine Cod.drewNA ?_ _ | ((with_reducible refine Cod.setA ?_ ?_ _); rotate_left; ((intro hm9; have hm8 := hng0 _ hm9; (try simp at hm8); (try omega)))))) (by repeat (first | with_reducible exact T2 | with_reducible refine Cod.allocA ?_ _ | with_reducible refine Cod.drewA ?_ | with_reducible refine Cod.drewNA ?_ _ | ((with_reducible refine Cod.setA ?_ ?_ _); rotate_left; ((intro hm9; have hm8 := hng2 _ hm9; (try simp at hm8); (try omega)))))), HG1.out.mono (by (try simp); (try omega))⟩
      case neg =>
      obtain ⟨k, hkk⟩ : ∃ k : Nat, pc' = k := ⟨pc'.toNat, by omega⟩
      subst hkk
      have hks : k < sc.length := by omega
      obtain ⟨g0, o0, vs0, F0', hB0, hg0F, hx0, -, hc0⟩ := cL_get (hw := by decide) (hw2 := by decide) HT0.out hks
      subst hB0
      obtain ⟨rfl, -, hiok⟩ := TIns.out hx0
      obtain ⟨⟨ki, ri, ni, tx⟩, hxi⟩ : ∃ x, sc[k] = x := ⟨_, rfl⟩
      have HXI := Lib.hid hxi
      rw [hxi] at hc0 hiok
      have q0 : wr.cell? ⟨g0, o0 + k * 4, none⟩ = some (.int .i64 ki) := (hc0 0 _ rfl).1
      have q1 : wr.cell? ⟨g0, o0 + k * 4 + 1, none⟩ = some (.int .i64 ri) := (hc0 1 _ rfl).1
      have q2 : wr.cell? ⟨g0, o0 + k * 4 + 2, none⟩ = some (.int .i64 ni) := (hc0 2 _ rfl).1
      have q3 : wr.cell? ⟨g0, o0 + k * 4 + 3, none⟩ = some (.string tx) := (hc0 3 _ rfl).1
      have hg0s : g0 < wr.heap.size := by have := hng0 g0 hg0F; omega
      have htx := hiok.h3
      clear hc0 hx0 hxi hiok
      have hkl : (k : Int) < (sc.length : Int) := by omega
      have hd0 : decide ((k : Int) < 0) = false := by simp
      have hd1 : decide (sc.length ≤ k) = false := by simp; omega
      have hS : ∀ w9, Below wr.heap.size wr w9 → w9.cell? ⟨w1.heap.size, 0, none⟩ = some (.slice (some ⟨g0, o0, none⟩) sc.length d0) ∧ w9.cell? ⟨w1.heap.size, 1, none⟩ = some (.int .i64 k) ∧ w9.cell? ⟨w1.heap.size, 3, none⟩ = some (.int .i64 st') ∧ w9.cell? ⟨g0, o0 + k * 4, none⟩ = some (.int .i64 ki) ∧ w9.cell? ⟨g0, o0 + k * 4 + 1, none⟩ = some (.int .i64 ri) ∧ w9.cell? ⟨g0, o0 + k * 4 + 2, none⟩ = some (.int .i64 ni) ∧ w9.cell? ⟨g0, o0 + k * 4 + 3, none⟩ = some (.string tx) := fun w9 hb => ⟨(hb.cell (p := ⟨w1.heap.size, 0, none⟩) hwrs.2.2.1).trans e0, (hb.cell (p := ⟨w1.heap.size, 1, none⟩) hwrs.2.2.1).trans e1, (hb.cell (p := ⟨w1.heap.size, 3, none⟩) hwrs.2.2.1).trans e3, (hb.cell (p := ⟨g0, o0 + k * 4, none⟩) hg0s).trans q0, (hb.cell (p := ⟨g0, o0 + k * 4 + 1, none⟩) hg0s).trans q1, (hb.cell (p := ⟨g0, o0 + k * 4 + 2, none⟩) hg0s).trans q2, (hb.cell (p := ⟨g0, o0 + k * 4 + 3, none⟩) hg0s).trans q3⟩
      cases hi : isInstr ⟨ki, ri, ni, tx⟩ sc.length
      case false =>
        go_wp2_with fail
        refine wp_region_held_drew (S := (fun w9 => w9.cell? ⟨w1.heap.size, 0, none⟩ = some (.slice (some ⟨g0, o0, none⟩) sc.length d0) ∧ w9.cell? ⟨w1.heap.size, 1, none⟩ = some (.int .i64 k) ∧ w9.cell? ⟨w1.heap.size, 3, none⟩ = some (.int .i64 st') ∧ w9.cell? ⟨g0, o0 + k * 4, none⟩ = some (.int .i64 ki) ∧ w9.cell? ⟨g0, o0 + k * 4 + 1, none⟩ = some (.int .i64 ri) ∧ w9.cell? ⟨g0, o0 + k * 4 + 2, none⟩ = some (.int .i64 ni) ∧ w9.cell? ⟨g0, o0 + k * 4 + 3, none⟩ = some (.string tx))) (by kernel_rfl) (by (try dsimp only); exact hS _ (by repeat (first | with_reducible exact Below.refl _ _ | with_reducible assumption | with_reducible refine bel_alloc ?_ _ | with_reducible refine bel_drew ?_ | with_reducible refine bel_drewN ?_ _ | (with_reducible refine bel_set ?_ ?_ _; rotate_left; ((try simp); (try omega)))))) (fun hHeld => ?_)
        refine take_read (i := 0) 27 (v := ?x3_v0) rfl rfl (by kernel_rfl) (by kernel_rfl) (by kernel_rfl) (fun _ _ _ h => h) (by rfl) ?x3_hy0 (by assumption) ?x3_rest0
        case x3_hy0 => (intro w hSw; (try dsimp only at hSw); go_simp; (try with_reducible rfl))
        try simp only [Act.put, List.setIfInBounds_toArray, List.set_cons_zero, List.set_cons_succ]
        refine take_read (i := 1) 28 (v := ?x3_v1) rfl rfl (by kernel_rfl) (by kernel_rfl) (by kernel_rfl) (fun _ _ _ h => h) (by rfl) ?x3_hy1 (by assumption) ?x3_rest1
        case x3_hy1 => (intro w hSw; (try dsimp only at hSw); go_simp; (try with_reducible rfl))
        try simp only [Act.put, List.setIfInBounds_toArray, List.set_cons_zero, List.set_cons_succ]
        refine take_read (i := 2) 29 (v := ?x3_v2) rfl rfl (by kernel_rfl) (by kernel_rfl) (by kernel_rfl) (fun _ _ _ h => h) (by rfl) ?x3_hy2 (by assumption) ?x3_rest2
        case x3_hy2 => (intro w hSw; (try dsimp only at hSw); go_simp; (try with_reducible rfl))
        try simp only [Act.put, List.setIfInBounds_toArray, List.set_cons_zero, List.set_cons_succ]
        refine take_read (i := 3) 30 (v := ?x3_v3) rfl rfl (by kernel_rfl) (by kernel_rfl) (by kernel_rfl) (fun _ _ _ h => h) (by rfl) ?x3_hy3 (by assumption) ?x3_rest3
        case x3_hy3 => (intro w hSw; (try dsimp only at hSw); go_simp; (try with_reducible rfl))
        try simp only [Act.put, List.setIfInBounds_toArray, List.set_cons_zero, List.set_cons_succ]
        refine take_read (i := 4) 31 (v := ?x3_v4) rfl rfl (by kernel_rfl) (by kernel_rfl) (by kernel_rfl) (fun _ _ _ h => h) (by rfl) ?x3_hy4 (by assumption) ?x3_rest4
        case x3_hy4 => (intro w hSw; (try dsimp only at hSw); go_simp; (try with_reducible rfl))
        try simp only [Act.put, List.setIfInBounds_toArray, List.set_cons_zero, List.set_cons_succ]
        refine take_read (i := 5) 32 (v := ?x3_v5) rfl rfl (by kernel_rfl) (by kernel_rfl) (by kernel_rfl) (fun _ _ _ h => h) (by rfl) ?x3_hy5 (by assumption) ?x3_rest5
        case x3_hy5 => (intro w hSw; (try dsimp only at hSw); go_simp; (try with_reducible rfl))
        try simp only [Act.put, List.setIfInBounds_toArray, List.set_cons_zero, List.set_cons_succ]
        refine take_read (i := 6) 33 (v := ?x3_v6) rfl rfl (by kernel_rfl) (by kernel_rfl) (by kernel_rfl) (fun _ _ _ h => h) (by rfl) ?x3_hy6 (by assumption) ?x3_rest6
        case x3_hy6 => (intro w hSw; (try dsimp only at hSw); go_simp; (try with_reducible rfl))
        try simp only [Act.put, List.setIfInBounds_toArray, List.set_cons_zero, List.set_cons_succ]
        refine take_read (i := 7) 34 (v := ?x3_v7) rfl rfl (by kernel_rfl) (by kernel_rfl) (by kernel_rfl) (fun _ _ _ h => h) (by rfl) ?x3_hy7 (by assumption) ?x3_rest7
        case x3_hy7 => (intro w hSw; (try dsimp only at hSw); go_simp; (try with_reducible rfl))
        try simp only [Act.put, List.setIfInBounds_toArray, List.set_cons_zero, List.set_cons_succ]
        refine take_read (i := 8) 35 (v := ?x3_v8) rfl rfl (by kernel_rfl) (by kernel_rfl) (by kernel_rfl) (fun _ _ _ h => h) (by rfl) ?x3_hy8 (by assumption) ?x3_rest8
        case x3_hy8 => (intro w hSw; (try dsimp only at hSw); go_simp; (try with_reducible rfl))
        try simp only [Act.put, List.setIfInBounds_toArray, List.set_cons_zero, List.set_cons_succ]
        refine take_read (i := 9) 36 (v := ?x3_v9) rfl rfl (by kernel_rfl) (by kernel_rfl) (by kernel_rfl) (fun _ _ _ h => h) (by rfl) ?x3_hy9 (by assumption) ?x3_rest9
        case x3_hy9 => (intro w hSw; (try dsimp only at hSw); go_simp; (try with_reducible rfl))
        try simp only [Act.put, List.setIfInBounds_toArray, List.set_cons_zero, List.set_cons_succ]
        refine take_read (i := 10) 37 (v := ?x3_v10) rfl rfl (by kernel_rfl) (by kernel_rfl) (by kernel_rfl) (fun _ _ _ h => h) (by rfl) ?x3_hy10 (by assumption) ?x3_rest10
        case x3_hy10 => (intro w hSw; (try dsimp only at hSw); go_simp; (try with_reducible rfl))
        try simp only [Act.put, List.setIfInBounds_toArray, List.set_cons_zero, List.set_cons_succ]
        refine take_read (i := 11) 38 (v := ?x3_v11) rfl rfl (by kernel_rfl) (by kernel_rfl) (by kernel_rfl) (fun _ _ _ h => h) (by rfl) ?x3_hy11 (by assumption) ?x3_rest11
        case x3_hy11 => (intro w hSw; (try dsimp only at hSw); go_simp; (try with_reducible rfl))
        try simp only [Act.put, List.setIfInBounds_toArray, List.set_cons_zero, List.set_cons_succ]
        refine take_read (i := 12) 39 (v := ?x3_v12) rfl rfl (by kernel_rfl) (by kernel_rfl) (by kernel_rfl) (fun _ _ _ h => h) (by rfl) ?x3_hy12 (by assumption) ?x3_rest12
        case x3_hy12 => (intro w hSw; (try dsimp only at hSw); go_simp; (try with_reducible rfl))
        try simp only [Act.put, List.setIfInBounds_toArray, List.set_cons_zero, List.set_cons_succ]
        refine take_read (i := 13) 40 (v := ?x3_v13) rfl rfl (by kernel_rfl) (by kernel_rfl) (by kernel_rfl) (fun _ _ _ h => h) (by rfl) ?x3_hy13 (by assumption) ?x3_rest13
        case x3_hy13 => (intro w hSw; (try dsimp only at hSw); go_simp; (try with_reducible rfl))
        try simp only [Act.put, List.setIfInBounds_toArray, List.set_cons_zero, List.set_cons_succ]
        refine take_read (i := 14) 41 (v := ?x3_v14) rfl rfl (by kernel_rfl) (by kernel_rfl) (by kernel_rfl) (fun _ _ _ h => h) (by rfl) ?x3_hy14 (by assumption) ?x3_rest14
        case x3_hy14 => (intro w hSw; (try dsimp only at hSw); go_simp; (try with_reducible rfl))
        try simp only [Act.put, List.setIfInBounds_toArray, List.set_cons_zero, List.set_cons_succ]
        refine take_read (i := 15) 42 (v := ?x3_v15) rfl rfl (by kernel_rfl) (by kernel_rfl) (by kernel_rfl) (fun _ _ _ h => h) (by rfl) ?x3_hy15 (by assumption) ?x3_rest15
        case x3_hy15 => (intro w hSw; (try dsimp only at hSw); go_simp; (try with_reducible rfl))
        try simp only [Act.put, List.setIfInBounds_toArray, List.set_cons_zero, List.set_cons_succ]
        refine take_read (i := 16) 43 (v := ?x3_v16) rfl rfl (by kernel_rfl) (by kernel_rfl) (by kernel_rfl) (fun _ _ _ h => h) (by rfl) ?x3_hy16 (by assumption) ?x3_rest16
        case x3_hy16 => (intro w hSw; (try dsimp only at hSw); go_simp; (try with_reducible rfl))
        try simp only [Act.put, List.setIfInBounds_toArray, List.set_cons_zero, List.set_cons_succ]
        refine take_read (i := 17) 44 (v := ?x3_v17) rfl rfl (by kernel_rfl) (by kernel_rfl) (by kernel_rfl) (fun _ _ _ h => h) (by rfl) ?x3_hy17 (by assumption) ?x3_rest17
        case x3_hy17 => (intro w hSw; (try dsimp only at hSw); go_simp; (try with_reducible rfl))
        try simp only [Act.put, List.setIfInBounds_toArray, List.set_cons_zero, List.set_cons_succ]
        refine take_read (i := 18) 45 (v := ?x3_v18) rfl rfl (by kernel_rfl) (by kernel_rfl) (by kernel_rfl) (fun _ _ _ h => h) (by rfl) ?x3_hy18 (by assumption) ?x3_rest18
        case x3_hy18 => (intro w hSw; (try dsimp only at hSw); go_simp; (try with_reducible rfl))
        try simp only [Act.put, List.setIfInBounds_toArray, List.set_cons_zero, List.set_cons_succ]
        refine take_read (i := 19) 46 (v := ?x3_v19) rfl rfl (by kernel_rfl) (by kernel_rfl) (by kernel_rfl) (fun _ _ _ h => h) (by rfl) ?x3_hy19 (by assumption) ?x3_rest19
        case x3_hy19 => (intro w hSw; (try dsimp only at hSw); go_simp; (try with_reducible rfl))
        try simp only [Act.put, List.setIfInBounds_toArray, List.set_cons_zero, List.set_cons_succ]
        refine take_read (i := 20) 47 (v := ?x3_v20) rfl rfl (by kernel_rfl) (by kernel_rfl) (by kernel_rfl) (fun _ _ _ h => h) (by rfl) ?x3_hy20 (by assumption) ?x3_rest20
        case x3_hy20 => (intro w hSw; (try dsimp only at hSw); go_simp; (try with_reducible rfl))
        try simp only [Act.put, List.setIfInBounds_toArray, List.set_cons_zero, List.set_cons_succ]
        refine wpAnyH_ready (rs := [21]) (by kernel_rfl) (by simp) ?_
        refine AllReadyH.cons rfl (fun K hK => ?_) AllReadyH.nil
        go_simp
        (go_at_call 64; refine (implInsCells ki ri ni tx _ _ htx).mono ?_; rw [hi]; rintro e wk ⟨rfl, hb⟩; have hBk : Below wr.heap.size wr wk := (bel_then (by repeat (first | with_reducible exact Below.refl _ _ | with_reducible assumption | with_reducible refine bel_alloc ?_ _ | with_reducible refine bel_drew ?_ | with_reducible refine bel_drewN ?_ _ | (with_reducible refine bel_set ?_ ?_ _; rotate_left; ((try simp); (try omega))))) hb); clear hb)
        try go_wp2_with fail
        refine hK.out _ _ ?_ (fun hHeld => ?_)
        · (try dsimp only)
          exact hS _ (by repeat (first | with_reducible exact Below.refl _ _ | with_reducible assumption | with_reducible refine bel_alloc ?_ _ | with_reducible refine bel_drew ?_ | with_reducible refine bel_drewN ?_ _ | (with_reducible refine bel_set ?_ ?_ _; rotate_left; ((try simp); (try omega)))))
        clear hK K
        try simp only [Act.put, List.setIfInBounds_toArray, List.set_cons_zero, List.set_cons_succ]
        refine take_read (i := 22) 49 (v := ?x3_v22) rfl rfl (by kernel_rfl) (by kernel_rfl) (by kernel_rfl) (fun _ _ _ h => h) (by rfl) ?x3_hy22 (by assumption) ?x3_rest22
        case x3_hy22 => (intro w hSw; (try dsimp only at hSw); go_simp; (try with_reducible rfl))
        try simp only [Act.put, List.setIfInBounds_toArray, List.set_cons_zero, List.set_cons_succ]
        refine take_read (i := 23) 50 (v := ?x3_v23) rfl rfl (by kernel_rfl) (by kernel_rfl) (by kernel_rfl) (fun _ _ _ h => h) (by rfl) ?x3_hy23 (by assumption) ?x3_rest23
        case x3_hy23 => (intro w hSw; (try dsimp only at hSw); go_simp; (try with_reducible rfl))
        try simp only [Act.put, List.setIfInBounds_toArray, List.set_cons_zero, List.set_cons_succ]
        refine take_read (i := 24) 51 (v := ?x3_v24) rfl rfl (by kernel_rfl) (by kernel_rfl) (by kernel_rfl) (fun _ _ _ h => h) (by rfl) ?x3_hy24 (by assumption) ?x3_rest24
        case x3_hy24 => (intro w hSw; (try dsimp only at hSw); go_simp; (try with_reducible rfl))
        try simp only [Act.put, List.setIfInBounds_toArray, List.set_cons_zero, List.set_cons_succ]
        refine take_skip (i := 25) 52 rfl rfl (by kernel_rfl) (by kernel_rfl) (by kernel_rfl) (fun _ _ _ h => h) (by rfl) (by assumption) ?_
        try simp only [Act.put, List.setIfInBounds_toArray, List.set_cons_zero, List.set_cons_succ]
        refine take_skip (i := 26) 53 rfl rfl (by kernel_rfl) (by kernel_rfl) (by kernel_rfl) (fun _ _ _ h => h) (by rfl) (by assumption) ?_
        try simp only [Act.put, List.setIfInBounds_toArray, List.set_cons_zero, List.set_cons_succ]
        refine take_skip (i := 27) 54 rfl rfl (by kernel_rfl) (by kernel_rfl) (by kernel_rfl) (fun _ _ _ h => h) (by rfl) (by assumption) ?_
        try simp only [Act.put, List.setIfInBounds_toArray, List.set_cons_zero, List.set_cons_succ]
        refine take_read (i := 28) 55 (v := ?x3_v28) rfl rfl (by kernel_rfl) (by kernel_rfl) (by kernel_rfl) (fun _ _ _ h => h) (by rfl) ?x3_hy28 (by assumption) ?x3_rest28
        case x3_hy28 => (intro w hSw; (try dsimp only at hSw); go_simp; (try with_reducible rfl))
        try simp only [Act.put, List.setIfInBounds_toArray, List.set_cons_zero, List.set_cons_succ]
        refine wpAnyH_done (by kernel_rfl) ?_ _
        have hBV : Below wr.heap.size wr wk := hBk
        have hBF : Below wr.heap.size wr wk := hBV
        clear e0 e1 e2 e3 e4 e5 f1 f3 f4 f5
        obtain ⟨P0, Q0, P1, Q1, P2, Q2, P3, Q3, P4, Q4, P5, Q5, R0, S0, R1, S1, R2, S2, R3, S3, R4, S4⟩ := HRS.out.of_block (hBF.block (w.heap.size + 1) (by omega)) (hBF.block (w.heap.size + 1 + 1) (by omega))
        obtain ⟨E0', E1', E2', E3', E4', E5', F1', F3', F4', F5'⟩ := HBW.out.of_block (hBF.block w1.heap.size (by omega))
        have T0 := Cod.bel HT0.out hBV
        have T2 := Cod.bel HT2.out hBV
        have hVs := hBV.size
        have hbV : Below w.heap.size w wk := bel_then hbwr hBV
        have hVz : w.heap.size + 1 < wk.heap.size ∧ w.heap.size + 1 + 1 < wk.heap.size ∧ w1.heap.size < wk.heap.size := by have := hBF.size; omega
        have hq1 : ¬ w1.heap.size = w.heap.size + 1 := by omega
        have hq2 : ¬ w1.heap.size = w.heap.size + 1 + 1 := by omega
        have hq3 : ¬ w.heap.size + 1 = w1.heap.size := by omega
        have hq4 : ¬ w.heap.size + 1 + 1 = w1.heap.size := by omega
        go_wp2_with fail
        refine sets_ret6_5 (a' := .slice none 0 0) (b' := .int .i64 0) (c' := .slice none 0 0) (d' := .int .i64 0) (e' := .bool false) (f' := .bool false) (g' := .int .i64 0) (u' := .int .i64 0) (i' := .int .i64 0) (j' := .string ⟨#[]⟩) (k' := .int .i64 0) (w.heap.size + 1) (w.heap.size + 1 + 1) (by omega) ?_ ?_ ?_ ?_ ?_ ?_ ?_ ?_ ?_ ?_ ?_ (fun W9 e9 a0 a1 a2 a3 a4 a5 b0 b1 b2 b3 b4 => ?_)
        · exact setNe (by omega) P0
        · exact setNe (by omega) P1
        · exact setNe (by omega) P2
        · exact setNe (by omega) P3
        · exact setNe (by omega) P4
        · exact setNe (by omega) P5
        · exact setNe (by omega) R0
        · exact setNe (by omega) R1
        · exact setNe (by omega) R2
        · exact setNe (by omega) R3
        · exact setNe (by omega) R4
        refine bodyPost_ret (v := .tuple #[.agg #[.slice (some ⟨g0, o0, none⟩) sc.length d0, .int .i64 k, .slice (some ⟨g, o, none⟩) 4 d2, .int .i64 st', .bool true, .bool false], .agg #[.int .i64 0, .int .i64 0, .int .i64 0, .string ⟨#[]⟩, .int .i64 0]]) (by simp [results, Try.results13, go_sem, a0, a1, a2, a3, a4, a5, b0, b1, b2, b3, b4]) rfl ?_
        clear a0 a1 a2 a3 a4 a5 b0 b1 b2 b3 b4
        subst e9
        rw [HM.out, ← HRUN.out, run_bad _ _ _ _ _ hks (by rw [HXI.out]; exact hi)]
        exact ⟨_, G0 ++ G2, rfl, (by repeat (first | with_reducible exact Below.refl _ _ | with_reducible assumption | with_reducible refine bel_alloc ?_ _ | with_reducible refine bel_drew ?_ | with_reducible refine bel_drewN ?_ _ | (with_reducible refine bel_set ?_ ?_ _; rotate_left; ((try simp); (try omega))))), TMach.mk_ (x := ⟨sc, k, rg', st', true, false⟩) ⟨hpc, ⟨by simp; omega, hs1⟩⟩ (by repeat (first | with_reducible exact T0 | with_reducible refine Cod.allocA ?_ _ | with_reducible refine Cod.drewA ?_ | with_reducible refine Cod.drewNA ?_ _ | ((with_reducible refine Cod.setA ?_ ?_ _); rotate_left; ((intro hm9; have hm8 := hng0 _ hm9; (try simp at hm8); (try omega)))))) (by repeat (first | with_reducible exact T2 | with_reducible refine Cod.allocA ?_ _ | with_reducible refine Cod.drewA ?_ | with_reducible refine Cod.drewNA ?_ _ | ((with_reducible refine Cod.setA ?_ ?_ _); rotate_left; ((intro hm9; have hm8 := hng2 _ hm9; (try simp at hm8); (try omega)))))), HG1.out.mono (by (try simp); (try omega))⟩
      case true =>
      by_cases h60 : 60 ≤ st'
      case pos =>
        have hd2 : decide (60 ≤ st') = true := by simp; omega
        go_wp2_with fail
        refine wp_region_held_drew (S := (fun w9 => w9.cell? ⟨w1.heap.size, 0, none⟩ = some (.slice (some ⟨g0, o0, none⟩) sc.length d0) ∧ w9.cell? ⟨w1.heap.size, 1, none⟩ = some (.int .i64 k) ∧ w9.cell? ⟨w1.heap.size, 3, none⟩ = some (.int .i64 st') ∧ w9.cell? ⟨g0, o0 + k * 4, none⟩ = some (.int .i64 ki) ∧ w9.cell? ⟨g0, o0 + k * 4 + 1, none⟩ = some (.int .i64 ri) ∧ w9.cell? ⟨g0, o0 + k * 4 + 2, none⟩ = some (.int .i64 ni) ∧ w9.cell? ⟨g0, o0 + k * 4 + 3, none⟩ = some (.string tx))) (by kernel_rfl) (by (try dsimp only); exact hS _ (by repeat (first | with_reducible exact Below.refl _ _ | with_reducible assumption | with_reducible refine bel_alloc ?_ _ | with_reducible refine bel_drew ?_ | with_reducible refine bel_drewN ?_ _ | (with_reducible refine bel_set ?_ ?_ _; rotate_left; ((try simp); (try omega)))))) (fun hHeld => ?_)
        refine take_read (i := 0) 27 (v := ?x4_v0) rfl rfl (by kernel_rfl) (by kernel_rfl) (by kernel_rfl) (fun _ _ _ h => h) (by rfl) ?x4_hy0 (by assumption) ?x4_rest0
        case x4_hy0 => (intro w hSw; (try dsimp only at hSw); go_simp; (try with_reducible rfl))
        try simp only [Act.put, List.setIfInBounds_toArray, List.set_cons_zero, List.set_cons_succ]
        refine take_read (i := 1) 28 (v := ?x4_v1) rfl rfl (by kernel_rfl) (by kernel_rfl) (by kernel_rfl) (fun _ _ _ h => h) (by rfl) ?x4_hy1 (by assumption) ?x4_rest1
        case x4_hy1 => (intro w hSw; (try dsimp only at hSw); go_simp; (try with_reducible rfl))
        try simp only [Act.put, List.setIfInBounds_toArray, List.set_cons_zero, List.set_cons_succ]
        refine take_read (i := 2) 29 (v := ?x4_v2) rfl rfl (by kernel_rfl) (by kernel_rfl) (by kernel_rfl) (fun _ _ _ h => h) (by rfl) ?x4_hy2 (by assumption) ?x4_rest2
        case x4_hy2 => (intro w hSw; (try dsimp only at hSw); go_simp; (try with_reducible rfl))
        try simp only [Act.put, List.setIfInBounds_toArray, List.set_cons_zero, List.set_cons_succ]
        refine take_read (i := 3) 30 (v := ?x4_v3) rfl rfl (by kernel_rfl) (by kernel_rfl) (by kernel_rfl) (fun _ _ _ h => h) (by rfl) ?x4_hy3 (by assumption) ?x4_rest3
        case x4_hy3 => (intro w hSw; (try dsimp only at hSw); go_simp; (try with_reducible rfl))
        try simp only [Act.put, List.setIfInBounds_toArray, List.set_cons_zero, List.set_cons_succ]
        refine take_read (i := 4) 31 (v := ?x4_v4) rfl rfl (by kernel_rfl) (by kernel_rfl) (by kernel_rfl) (fun _ _ _ h => h) (by rfl) ?x4_hy4 (by assumption) ?x4_rest4
        case x4_hy4 => (intro w hSw; (try dsimp only at hSw); go_simp; (try with_reducible rfl))
        try simp only [Act.put, List.setIfInBounds_toArray, List.set_cons_zero, List.set_cons_succ]
        refine take_read (i := 5) 32 (v := ?x4_v5) rfl rfl (by kernel_rfl) (by kernel_rfl) (by kernel_rfl) (fun _ _ _ h => h) (by rfl) ?x4_hy5 (by assumption) ?x4_rest5
        case x4_hy5 => (intro w hSw; (try dsimp only at hSw); go_simp; (try with_reducible rfl))
        try simp only [Act.put, List.setIfInBounds_toArray, List.set_cons_zero, List.set_cons_succ]
        refine take_read (i := 6) 33 (v := ?x4_v6) rfl rfl (by kernel_rfl) (by kernel_rfl) (by kernel_rfl) (fun _ _ _ h => h) (by rfl) ?x4_hy6 (by assumption) ?x4_rest6
        case x4_hy6 => (intro w hSw; (try dsimp only at hSw); go_simp; (try with_reducible rfl))
        try simp only [Act.put, List.setIfInBounds_toArray, List.set_cons_zero, List.set_cons_succ]
        refine take_read (i := 7) 34 (v := ?x4_v7) rfl rfl (by kernel_rfl) (by kernel_rfl) (by kernel_rfl) (fun _ _ _ h => h) (by rfl) ?x4_hy7 (by assumption) ?x4_rest7
        case x4_hy7 => (intro w hSw; (try dsimp only at hSw); go_simp; (try with_reducible rfl))
        try simp only [Act.put, List.setIfInBounds_toArray, List.set_cons_zero, List.set_cons_succ]
        refine take_read (i := 8) 35 (v := ?x4_v8) rfl rfl (by kernel_rfl) (by kernel_rfl) (by kernel_rfl) (fun _ _ _ h => h) (by rfl) ?x4_hy8 (by assumption) ?x4_rest8
        case x4_hy8 => (intro w hSw; (try dsimp only at hSw); go_simp; (try with_reducible rfl))
        try simp only [Act.put, List.setIfInBounds_toArray, List.set_cons_zero, List.set_cons_succ]
        refine take_read (i := 9) 36 (v := ?x4_v9) rfl rfl (by kernel_rfl) (by kernel_rfl) (by kernel_rfl) (fun _ _ _ h => h) (by rfl) ?x4_hy9 (by assumption) ?x4_rest9
        case x4_hy9 => (intro w hSw; (try dsimp only at hSw); go_simp; (try with_reducible rfl))
        try simp only [Act.put, List.setIfInBounds_toArray, List.set_cons_zero, List.set_cons_succ]
        refine take_read (i := 10) 37 (v := ?x4_v10) rfl rfl (by kernel_rfl) (by kernel_rfl) (by kernel_rfl) (fun _ _ _ h => h) (by rfl) ?x4_hy10 (by assumption) ?x4_rest10
        case x4_hy10 => (intro w hSw; (try dsimp only at hSw); go_simp; (try with_reducible rfl))
        try simp only [Act.put, List.setIfInBounds_toArray, List.set_cons_zero, List.set_cons_succ]
        refine take_read (i := 11) 38 (v := ?x4_v11) rfl rfl (by kernel_rfl) (by kernel_rfl) (by kernel_rfl) (fun _ _ _ h => h) (by rfl) ?x4_hy11 (by assumption) ?x4_rest11
        case x4_hy11 => (intro w hSw; (try dsimp only at hSw); go_simp; (try with_reducible rfl))
        try simp only [Act.put, List.setIfInBounds_toArray, List.set_cons_zero, List.set_cons_succ]
        refine take_read (i := 12) 39 (v := ?x4_v12) rfl rfl (by kernel_rfl) (by kernel_rfl) (by kernel_rfl) (fun _ _ _ h => h) (by rfl) ?x4_hy12 (by assumption) ?x4_rest12
        case x4_hy12 => (intro w hSw; (try dsimp only at hSw); go_simp; (try with_reducible rfl))
        try simp only [Act.put, List.setIfInBounds_toArray, List.set_cons_zero, List.set_cons_succ]
        refine take_read (i := 13) 40 (v := ?x4_v13) rfl rfl (by kernel_rfl) (by kernel_rfl) (by kernel_rfl) (fun _ _ _ h => h) (by rfl) ?x4_hy13 (by assumption) ?x4_rest13
        case x4_hy13 => (intro w hSw; (try dsimp only at hSw); go_simp; (try with_reducible rfl))
        try simp only [Act.put, List.setIfInBounds_toArray, List.set_cons_zero, List.set_cons_succ]
        refine take_read (i := 14) 41 (v := ?x4_v14) rfl rfl (by kernel_rfl) (by kernel_rfl) (by kernel_rfl) (fun _ _ _ h => h) (by rfl) ?x4_hy14 (by assumption) ?x4_rest14
        case x4_hy14 => (intro w hSw; (try dsimp only at hSw); go_simp; (try with_reducible rfl))
        try simp only [Act.put, List.setIfInBounds_toArray, List.set_cons_zero, List.set_cons_succ]
        refine take_read (i := 15) 42 (v := ?x4_v15) rfl rfl (by kernel_rfl) (by kernel_rfl) (by kernel_rfl) (fun _ _ _ h => h) (by rfl) ?x4_hy15 (by assumption) ?x4_rest15
        case x4_hy15 => (intro w hSw; (try dsimp only at hSw); go_simp; (try with_reducible rfl))
        try simp only [Act.put, List.setIfInBounds_toArray, List.set_cons_zero, List.set_cons_succ]
        refine take_read (i := 16) 43 (v := ?x4_v16) rfl rfl (by kernel_rfl) (by kernel_rfl) (by kernel_rfl) (fun _ _ _ h => h) (by rfl) ?x4_hy16 (by assumption) ?x4_rest16
        case x4_hy16 => (intro w hSw; (try dsimp only at hSw); go_simp; (try with_reducible rfl))
        try simp only [Act.put, List.setIfInBounds_toArray, List.set_cons_zero, List.set_cons_succ]
        refine take_read (i := 17) 44 (v := ?x4_v17) rfl rfl (by kernel_rfl) (by kernel_rfl) (by kernel_rfl) (fun _ _ _ h => h) (by rfl) ?x4_hy17 (by assumption) ?x4_rest17
        case x4_hy17 => (intro w hSw; (try dsimp only at hSw); go_simp; (try with_reducible rfl))
        try simp only [Act.put, List.setIfInBounds_toArray, List.set_cons_zero, List.set_cons_succ]
        refine take_read (i := 18) 45 (v := ?x4_v18) rfl rfl (by kernel_rfl) (by kernel_rfl) (by kernel_rfl) (fun _ _ _ h => h) (by rfl) ?x4_hy18 (by assumption) ?x4_rest18
        case x4_hy18 => (intro w hSw; (try dsimp only at hSw); go_simp; (try with_reducible rfl))
        try simp only [Act.put, List.setIfInBounds_toArray, List.set_cons_zero, List.set_cons_succ]
        refine take_read (i := 19) 46 (v := ?x4_v19) rfl rfl (by kernel_rfl) (by kernel_rfl) (by kernel_rfl) (fun _ _ _ h => h) (by rfl) ?x4_hy19 (by assumption) ?x4_rest19
        case x4_hy19 => (intro w hSw; (try dsimp only at hSw); go_simp; (try with_reducible rfl))
        try simp only [Act.put, List.setIfInBounds_toArray, List.set_cons_zero, List.set_cons_succ]
        refine take_read (i := 20) 47 (v := ?x4_v20) rfl rfl (by kernel_rfl) (by kernel_rfl) (by kernel_rfl) (fun _ _ _ h => h) (by rfl) ?x4_hy20 (by assumption) ?x4_rest20
        case x4_hy20 => (intro w hSw; (try dsimp only at hSw); go_simp; (try with_reducible rfl))
        try simp only [Act.put, List.setIfInBounds_toArray, List.set_cons_zero, List.set_cons_succ]
        refine wpAnyH_ready (rs := [21]) (by kernel_rfl) (by simp) ?_
        refine AllReadyH.cons rfl (fun K hK => ?_) AllReadyH.nil
        go_simp
        (go_at_call 64; refine (implInsCells ki ri ni tx _ _ htx).mono ?_; rw [hi]; rintro e wk ⟨rfl, hb⟩; have hBk : Below wr.heap.size wr wk := (bel_then (by repeat (first | with_reducible exact Below.refl _ _ | with_reducible assumption | with_reducible refine bel_alloc ?_ _ | with_reducible refine bel_drew ?_ | with_reducible refine bel_drewN ?_ _ | (with_reducible refine bel_set ?_ ?_ _; rotate_left; ((try simp); (try omega))))) hb); clear hb)
        try go_wp2_with fail
        refine hK.out _ _ ?_ (fun hHeld => ?_)
        · (try dsimp only)
          exact hS _ (by repeat (first | with_reducible exact Below.refl _ _ | with_reducible assumption | with_reducible refine bel_alloc ?_ _ | with_reducible refine bel_drew ?_ | with_reducible refine bel_drewN ?_ _ | (with_reducible refine bel_set ?_ ?_ _; rotate_left; ((try simp); (try omega)))))
        clear hK K
        try simp only [Act.put, List.setIfInBounds_toArray, List.set_cons_zero, List.set_cons_succ]
        refine take_read (i := 22) 49 (v := ?x4_v22) rfl rfl (by kernel_rfl) (by kernel_rfl) (by kernel_rfl) (fun _ _ _ h => h) (by rfl) ?x4_hy22 (by assumption) ?x4_rest22
        case x4_hy22 => (intro w hSw; (try dsimp only at hSw); go_simp; (try with_reducible rfl))
        try simp only [Act.put, List.setIfInBounds_toArray, List.set_cons_zero, List.set_cons_succ]
        refine take_read (i := 23) 50 (v := ?x4_v23) rfl rfl (by kernel_rfl) (by kernel_rfl) (by kernel_rfl) (fun _ _ _ h => h) (by rfl) ?x4_hy23 (by assumption) ?x4_rest23
        case x4_hy23 => (intro w hSw; (try dsimp only at hSw); go_simp; (try with_reducible rfl))
        try simp only [Act.put, List.setIfInBounds_toArray, List.set_cons_zero, List.set_cons_succ]
        refine take_read (i := 24) 51 (v := ?x4_v24) rfl rfl (by kernel_rfl) (by kernel_rfl) (by kernel_rfl) (fun _ _ _ h => h) (by rfl) ?x4_hy24 (by assumption) ?x4_rest24
        case x4_hy24 => (intro w hSw; (try dsimp only at hSw); go_simp; (try with_reducible rfl))
        try simp only [Act.put, List.setIfInBounds_toArray, List.set_cons_zero, List.set_cons_succ]
        refine take_read (i := 25) 52 (v := ?x4_v25) rfl rfl (by kernel_rfl) (by kernel_rfl) (by kernel_rfl) (fun _ _ _ h => h) (by rfl) ?x4_hy25 (by assumption) ?x4_rest25
        case x4_hy25 => (intro w hSw; (try dsimp only at hSw); go_simp; (try with_reducible rfl))
        try simp only [Act.put, List.setIfInBounds_toArray, List.set_cons_zero, List.set_cons_succ]
        refine take_read (i := 26) 53 (v := ?x4_v26) rfl rfl (by kernel_rfl) (by kernel_rfl) (by kernel_rfl) (fun _ _ _ h => h) (by rfl) ?x4_hy26 (by assumption) ?x4_rest26
        case x4_hy26 => (intro w hSw; (try dsimp only at hSw); go_simp; (try with_reducible rfl))
        try simp only [Act.put, List.setIfInBounds_toArray, List.set_cons_zero, List.set_cons_succ]
        refine take_read (i := 27) 54 (v := ?x4_v27) rfl rfl (by kernel_rfl) (by kernel_rfl) (by kernel_rfl) (fun _ _ _ h => h) (by rfl) ?x4_hy27 (by assumption) ?x4_rest27
        case x4_hy27 => (intro w hSw; (try dsimp only at hSw); go_simp; (try with_reducible rfl))
        try simp only [Act.put, List.setIfInBounds_toArray, List.set_cons_zero, List.set_cons_succ]
        refine take_read (i := 28) 55 (v := ?x4_v28) rfl rfl (by kernel_rfl) (by kernel_rfl) (by kernel_rfl) (fun _ _ _ h => h) (by rfl) ?x4_hy28 (by assumption) ?x4_rest28
        case x4_hy28 => (intro w hSw; (try dsimp only at hSw); go_simp; (try with_reducible rfl))
        try simp only [Act.put, List.setIfInBounds_toArray, List.set_cons_zero, List.set_cons_succ]
        refine wpAnyH_done (by kernel_rfl) ?_ _
        have hBV : Below wr.heap.size wr wk := hBk
        have hBF : Below wr.heap.size wr wk := hBV
        clear e0 e1 e2 e3 e4 e5 f1 f3 f4 f5
        obtain ⟨P0, Q0, P1, Q1, P2, Q2, P3, Q3, P4, Q4, P5, Q5, R0, S0, R1, S1, R2, S2, R3, S3, R4, S4⟩ := HRS.out.of_block (hBF.block (w.heap.size + 1) (by omega)) (hBF.block (w.heap.size + 1 + 1) (by omega))
        obtain ⟨E0', E1', E2', E3', E4', E5', F1', F3', F4', F5'⟩ := HBW.out.of_block (hBF.block w1.heap.size (by omega))
        have T0 := Cod.bel HT0.out hBV
        have T2 := Cod.bel HT2.out hBV
        have hVs := hBV.size
        have hbV : Below w.heap.size w wk := bel_then hbwr hBV
        have hVz : w.heap.size + 1 < wk.heap.size ∧ w.heap.size + 1 + 1 < wk.heap.size ∧ w1.heap.size < wk.heap.size := by have := hBF.size; omega
        have hq1 : ¬ w1.heap.size = w.heap.size + 1 := by omega
        have hq2 : ¬ w1.heap.size = w.heap.size + 1 + 1 := by omega
        have hq3 : ¬ w.heap.size + 1 = w1.heap.size := by omega
        have hq4 : ¬ w.heap.size + 1 + 1 = w1.heap.size := by omega
        go_wp2_with fail
        refine sets_ret6_5 (a' := .slice none 0 0) (b' := .int .i64 0) (c' := .slice none 0 0) (d' := .int .i64 0) (e' := .bool false) (f' := .bool false) (g' := .int .i64 0) (u' := .int .i64 0) (i' := .int .i64 0) (j' := .string ⟨#[]⟩) (k' := .int .i64 0) (w.heap.size + 1) (w.heap.size + 1 + 1) (by omega) ?_ ?_ ?_ ?_ ?_ ?_ ?_ ?_ ?_ ?_ ?_ (fun W9 e9 a0 a1 a2 a3 a4 a5 b0 b1 b2 b3 b4 => ?_)
        · exact setNe (by omega) P0
        · exact setNe (by omega) P1
        · exact setNe (by omega) P2
        · exact setNe (by omega) P3
        · exact setNe (by omega) P4
        · exact setNe (by omega) P5
        · exact setNe (by omega) R0
        · exact setNe (by omega) R1
        · exact setNe (by omega) R2
        · exact setNe (by omega) R3
        · exact setNe (by omega) R4
        refine bodyPost_ret (v := .tuple #[.agg #[.slice (some ⟨g0, o0, none⟩) sc.length d0, .int .i64 k, .slice (some ⟨g, o, none⟩) 4 d2, .int .i64 st', .bool true, .bool false], .agg #[.int .i64 0, .int .i64 0, .int .i64 0, .string ⟨#[]⟩, .int .i64 0]]) (by simp [results, Try.results13, go_sem, a0, a1, a2, a3, a4, a5, b0, b1, b2, b3, b4]) rfl ?_
        clear a0 a1 a2 a3 a4 a5 b0 b1 b2 b3 b4
        subst e9
        rw [HM.out, ← HRUN.out, run_end _ _ _ _ h60]
        exact ⟨_, G0 ++ G2, rfl, (by repeat (first | with_reducible exact Below.refl _ _ | with_reducible assumption | with_reducible refine bel_alloc ?_ _ | with_reducible refine bel_drew ?_ | with_reducible refine bel_drewN ?_ _ | (with_reducible refine bel_set ?_ ?_ _; rotate_left; ((try simp); (try omega))))), TMach.mk_ (x := ⟨sc, k, rg', st', true, false⟩) ⟨hpc, ⟨by simp; omega, hs1⟩⟩ (by repeat (first | with_reducible exact T0 | with_reducible refine Cod.allocA ?_ _ | with_reducible refine Cod.drewA ?_ | with_reducible refine Cod.drewNA ?_ _ | ((with_reducible refine Cod.setA ?_ ?_ _); rotate_left; ((intro hm9; have hm8 := hng0 _ hm9; (try simp at hm8); (try omega)))))) (by repeat (first | with_reducible exact T2 | with_reducible refine Cod.allocA ?_ _ | with_reducible refine Cod.drewA ?_ | with_reducible refine Cod.drewNA ?_ _ | ((with_reducible refine Cod.setA ?_ ?_ _); rotate_left; ((intro hm9; have hm8 := hng2 _ hm9; (try simp at hm8); (try omega)))))), HG1.out.mono (by (try simp); (try omega))⟩
      case neg =>
        have h61 : st' < 60 := by omega
        have hd2 : decide (60 ≤ st') = false := by simp; omega
        go_wp2_with fail
        refine wp_region_held_drew (S := (fun w9 => w9.cell? ⟨w1.heap.size, 0, none⟩ = some (.slice (some ⟨g0, o0, none⟩) sc.length d0) ∧ w9.cell? ⟨w1.heap.size, 1, none⟩ = some (.int .i64 k) ∧ w9.cell? ⟨w1.heap.size, 3, none⟩ = some (.int .i64 st') ∧ w9.cell? ⟨g0, o0 + k * 4, none⟩ = some (.int .i64 ki) ∧ w9.cell? ⟨g0, o0 + k * 4 + 1, none⟩ = some (.int .i64 ri) ∧ w9.cell? ⟨g0, o0 + k * 4 + 2, none⟩ = some (.int .i64 ni) ∧ w9.cell? ⟨g0, o0 + k * 4 + 3, none⟩ = some (.string tx))) (by kernel_rfl) (by (try dsimp only); exact hS _ (by repeat (first | with_reducible exact Below.refl _ _ | with_reducible assumption | with_reducible refine bel_alloc ?_ _ | with_reducible refine bel_drew ?_ | with_reducible refine bel_drewN ?_ _ | (with_reducible refine bel_set ?_ ?_ _; rotate_left; ((try simp); (try omega)))))) (fun hHeld => ?_)
        refine take_read (i := 0) 27 (v := ?x5_v0) rfl rfl (by kernel_rfl) (by kernel_rfl) (by kernel_rfl) (fun _ _ _ h => h) (by rfl) ?x5_hy0 (by assumption) ?x5_rest0
        case x5_hy0 => (intro w hSw; (try dsimp only at hSw); go_simp; (try with_reducible rfl))
        try simp only [Act.put, List.setIfInBounds_toArray, List.set_cons_zero, List.set_cons_succ]
        refine take_read (i := 1) 28 (v := ?x5_v1) rfl rfl (by kernel_rfl) (by kernel_rfl) (by kernel_rfl) (fun _ _ _ h => h) (by rfl) ?x5_hy1 (by assumption) ?x5_rest1
        case x5_hy1 => (intro w hSw; (try dsimp only at hSw); go_simp; (try with_reducible rfl))
        try simp only [Act.put, List.setIfInBounds_toArray, List.set_cons_zero, List.set_cons_succ]
        refine take_read (i := 2) 29 (v := ?x5_v2) rfl rfl (by kernel_rfl) (by kernel_rfl) (by kernel_rfl) (fun _ _ _ h => h) (by rfl) ?x5_hy2 (by assumption) ?x5_rest2
        case x5_hy2 => (intro w hSw; (try dsimp only at hSw); go_simp; (try with_reducible rfl))
        try simp only [Act.put, List.setIfInBounds_toArray, List.set_cons_zero, List.set_cons_succ]
        refine take_read (i := 3) 30 (v := ?x5_v3) rfl rfl (by kernel_rfl) (by kernel_rfl) (by kernel_rfl) (fun _ _ _ h => h) (by rfl) ?x5_hy3 (by assumption) ?x5_rest3
        case x5_hy3 => (intro w hSw; (try dsimp only at hSw); go_simp; (try with_reducible rfl))
        try simp only [Act.put, List.setIfInBounds_toArray, List.set_cons_zero, List.set_cons_succ]
        refine take_read (i := 4) 31 (v := ?x5_v4) rfl rfl (by kernel_rfl) (by kernel_rfl) (by kernel_rfl) (fun _ _ _ h => h) (by rfl) ?x5_hy4 (by assumption) ?x5_rest4
        case x5_hy4 => (intro w hSw; (try dsimp only at hSw); go_simp; (try with_reducible rfl))
        try simp only [Act.put, List.setIfInBounds_toArray, List.set_cons_zero, List.set_cons_succ]
        refine take_read (i := 5) 32 (v := ?x5_v5) rfl rfl (by kernel_rfl) (by kernel_rfl) (by kernel_rfl) (fun _ _ _ h => h) (by rfl) ?x5_hy5 (by assumption) ?x5_rest5
        case x5_hy5 => (intro w hSw; (try dsimp only at hSw); go_simp; (try with_reducible rfl))
        try simp only [Act.put, List.setIfInBounds_toArray, List.set_cons_zero, List.set_cons_succ]
        refine take_read (i := 6) 33 (v := ?x5_v6) rfl rfl (by kernel_rfl) (by kernel_rfl) (by kernel_rfl) (fun _ _ _ h => h) (by rfl) ?x5_hy6 (by assumption) ?x5_rest6
        case x5_hy6 => (intro w hSw; (try dsimp only at hSw); go_simp; (try with_reducible rfl))
        try simp only [Act.put, List.setIfInBounds_toArray, List.set_cons_zero, List.set_cons_succ]
        refine take_read (i := 7) 34 (v := ?x5_v7) rfl rfl (by kernel_rfl) (by kernel_rfl) (by kernel_rfl) (fun _ _ _ h => h) (by rfl) ?x5_hy7 (by assumption) ?x5_rest7
        case x5_hy7 => (intro w hSw; (try dsimp only at hSw); go_simp; (try with_reducible rfl))
        try simp only [Act.put, List.setIfInBounds_toArray, List.set_cons_zero, List.set_cons_succ]
        refine take_read (i := 8) 35 (v := ?x5_v8) rfl rfl (by kernel_rfl) (by kernel_rfl) (by kernel_rfl) (fun _ _ _ h => h) (by rfl) ?x5_hy8 (by assumption) ?x5_rest8
        case x5_hy8 => (intro w hSw; (try dsimp only at hSw); go_simp; (try with_reducible rfl))
        try simp only [Act.put, List.setIfInBounds_toArray, List.set_cons_zero, List.set_cons_succ]
        refine take_read (i := 9) 36 (v := ?x5_v9) rfl rfl (by kernel_rfl) (by kernel_rfl) (by kernel_rfl) (fun _ _ _ h => h) (by rfl) ?x5_hy9 (by assumption) ?x5_rest9
        case x5_hy9 => (intro w hSw; (try dsimp only at hSw); go_simp; (try with_reducible rfl))
        try simp only [Act.put, List.setIfInBounds_toArray, List.set_cons_zero, List.set_cons_succ]
        refine take_read (i := 10) 37 (v := ?x5_v10) rfl rfl (by kernel_rfl) (by kernel_rfl) (by kernel_rfl) (fun _ _ _ h => h) (by rfl) ?x5_hy10 (by assumption) ?x5_rest10
        case x5_hy10 => (intro w hSw; (try dsimp only at hSw); go_simp; (try with_reducible rfl))
        try simp only [Act.put, List.setIfInBounds_toArray, List.set_cons_zero, List.set_cons_succ]
        refine take_read (i := 11) 38 (v := ?x5_v11) rfl rfl (by kernel_rfl) (by kernel_rfl) (by kernel_rfl) (fun _ _ _ h => h) (by rfl) ?x5_hy11 (by assumption) ?x5_rest11
        case x5_hy11 => (intro w hSw; (try dsimp only at hSw); go_simp; (try with_reducible rfl))
        try simp only [Act.put, List.setIfInBounds_toArray, List.set_cons_zero, List.set_cons_succ]
        refine take_read (i := 12) 39 (v := ?x5_v12) rfl rfl (by kernel_rfl) (by kernel_rfl) (by kernel_rfl) (fun _ _ _ h => h) (by rfl) ?x5_hy12 (by assumption) ?x5_rest12
        case x5_hy12 => (intro w hSw; (try dsimp only at hSw); go_simp; (try with_reducible rfl))
        try simp only [Act.put, List.setIfInBounds_toArray, List.set_cons_zero, List.set_cons_succ]
        refine take_read (i := 13) 40 (v := ?x5_v13) rfl rfl (by kernel_rfl) (by kernel_rfl) (by kernel_rfl) (fun _ _ _ h => h) (by rfl) ?x5_hy13 (by assumption) ?x5_rest13
        case x5_hy13 => (intro w hSw; (try dsimp only at hSw); go_simp; (try with_reducible rfl))
        try simp only [Act.put, List.setIfInBounds_toArray, List.set_cons_zero, List.set_cons_succ]
        refine take_read (i := 14) 41 (v := ?x5_v14) rfl rfl (by kernel_rfl) (by kernel_rfl) (by kernel_rfl) (fun _ _ _ h => h) (by rfl) ?x5_hy14 (by assumption) ?x5_rest14
        case x5_hy14 => (intro w hSw; (try dsimp only at hSw); go_simp; (try with_reducible rfl))
        try simp only [Act.put, List.setIfInBounds_toArray, List.set_cons_zero, List.set_cons_succ]
        refine take_read (i := 15) 42 (v := ?x5_v15) rfl rfl (by kernel_rfl) (by kernel_rfl) (by kernel_rfl) (fun _ _ _ h => h) (by rfl) ?x5_hy15 (by assumption) ?x5_rest15
        case x5_hy15 => (intro w hSw; (try dsimp only at hSw); go_simp; (try with_reducible rfl))
        try simp only [Act.put, List.setIfInBounds_toArray, List.set_cons_zero, List.set_cons_succ]
        refine take_read (i := 16) 43 (v := ?x5_v16) rfl rfl (by kernel_rfl) (by kernel_rfl) (by kernel_rfl) (fun _ _ _ h => h) (by rfl) ?x5_hy16 (by assumption) ?x5_rest16
        case x5_hy16 => (intro w hSw; (try dsimp only at hSw); go_simp; (try with_reducible rfl))
        try simp only [Act.put, List.setIfInBounds_toArray, List.set_cons_zero, List.set_cons_succ]
        refine take_read (i := 17) 44 (v := ?x5_v17) rfl rfl (by kernel_rfl) (by kernel_rfl) (by kernel_rfl) (fun _ _ _ h => h) (by rfl) ?x5_hy17 (by assumption) ?x5_rest17
        case x5_hy17 => (intro w hSw; (try dsimp only at hSw); go_simp; (try with_reducible rfl))
        try simp only [Act.put, List.setIfInBounds_toArray, List.set_cons_zero, List.set_cons_succ]
        refine take_read (i := 18) 45 (v := ?x5_v18) rfl rfl (by kernel_rfl) (by kernel_rfl) (by kernel_rfl) (fun _ _ _ h => h) (by rfl) ?x5_hy18 (by assumption) ?x5_rest18
        case x5_hy18 => (intro w hSw; (try dsimp only at hSw); go_simp; (try with_reducible rfl))
        try simp only [Act.put, List.setIfInBounds_toArray, List.set_cons_zero, List.set_cons_succ]
        refine take_read (i := 19) 46 (v := ?x5_v19) rfl rfl (by kernel_rfl) (by kernel_rfl) (by kernel_rfl) (fun _ _ _ h => h) (by rfl) ?x5_hy19 (by assumption) ?x5_rest19
        case x5_hy19 => (intro w hSw; (try dsimp only at hSw); go_simp; (try with_reducible rfl))
        try simp only [Act.put, List.setIfInBounds_toArray, List.set_cons_zero, List.set_cons_succ]
        refine take_read (i := 20) 47 (v := ?x5_v20) rfl rfl (by kernel_rfl) (by kernel_rfl) (by kernel_rfl) (fun _ _ _ h => h) (by rfl) ?x5_hy20 (by assumption) ?x5_rest20
        case x5_hy20 => (intro w hSw; (try dsimp only at hSw); go_simp; (try with_reducible rfl))
        try simp only [Act.put, List.setIfInBounds_toArray, List.set_cons_zero, List.set_cons_succ]
        refine wpAnyH_ready (rs := [21]) (by kernel_rfl) (by simp) ?_
        refine AllReadyH.cons rfl (fun K hK => ?_) AllReadyH.nil
        go_simp
        (go_at_call 64; refine (implInsCells ki ri ni tx _ _ htx).mono ?_; rw [hi]; rintro e wk ⟨rfl, hb⟩; have hBk : Below wr.heap.size wr wk := (bel_then (by repeat (first | with_reducible exact Below.refl _ _ | with_reducible assumption | with_reducible refine bel_alloc ?_ _ | with_reducible refine bel_drew ?_ | with_reducible refine bel_drewN ?_ _ | (with_reducible refine bel_set ?_ ?_ _; rotate_left; ((try simp); (try omega))))) hb); clear hb)
        try go_wp2_with fail
        refine hK.out _ _ ?_ (fun hHeld => ?_)
        · (try dsimp only)
          exact hS _ (by repeat (first | with_reducible exact Below.refl _ _ | with_reducible assumption | with_reducible refine bel_alloc ?_ _ | with_reducible refine bel_drew ?_ | with_reducible refine bel_drewN ?_ _ | (with_reducible refine bel_set ?_ ?_ _; rotate_left; ((try simp); (try omega)))))
        clear hK K
        try simp only [Act.put, List.setIfInBounds_toArray, List.set_cons_zero, List.set_cons_succ]
        refine take_read (i := 22) 49 (v := ?x5_v22) rfl rfl (by kernel_rfl) (by kernel_rfl) (by kernel_rfl) (fun _ _ _ h => h) (by rfl) ?x5_hy22 (by assumption) ?x5_rest22
        case x5_hy22 => (intro w hSw; (try dsimp only at hSw); go_simp; (try with_reducible rfl))
        try simp only [Act.put, List.setIfInBounds_toArray, List.set_cons_zero, List.set_cons_succ]
        refine take_read (i := 23) 50 (v := ?x5_v23) rfl rfl (by kernel_rfl) (by kernel_rfl) (by kernel_rfl) (fun _ _ _ h => h) (by rfl) ?x5_hy23 (by assumption) ?x5_rest23
        case x5_hy23 => (intro w hSw; (try dsimp only at hSw); go_simp; (try with_reducible rfl))
        try simp only [Act.put, List.setIfInBounds_toArray, List.set_cons_zero, List.set_cons_succ]
        refine take_read (i := 24) 51 (v := ?x5_v24) rfl rfl (by kernel_rfl) (by kernel_rfl) (by kernel_rfl) (fun _ _ _ h => h) (by rfl) ?x5_hy24 (by assumption) ?x5_rest24
        case x5_hy24 => (intro w hSw; (try dsimp only at hSw); go_simp; (try with_reducible rfl))
        try simp only [Act.put, List.setIfInBounds_toArray, List.set_cons_zero, List.set_cons_succ]
        refine take_read (i := 25) 52 (v := ?x5_v25) rfl rfl (by kernel_rfl) (by kernel_rfl) (by kernel_rfl) (fun _ _ _ h => h) (by rfl) ?x5_hy25 (by assumption) ?x5_rest25
        case x5_hy25 => (intro w hSw; (try dsimp only at hSw); go_simp; (try with_reducible rfl))
        try simp only [Act.put, List.setIfInBounds_toArray, List.set_cons_zero, List.set_cons_succ]
        refine take_read (i := 26) 53 (v := ?x5_v26) rfl rfl (by kernel_rfl) (by kernel_rfl) (by kernel_rfl) (fun _ _ _ h => h) (by rfl) ?x5_hy26 (by assumption) ?x5_rest26
        case x5_hy26 => (intro w hSw; (try dsimp only at hSw); go_simp; (try with_reducible rfl))
        try simp only [Act.put, List.setIfInBounds_toArray, List.set_cons_zero, List.set_cons_succ]
        refine take_read (i := 27) 54 (v := ?x5_v27) rfl rfl (by kernel_rfl) (by kernel_rfl) (by kernel_rfl) (fun _ _ _ h => h) (by rfl) ?x5_hy27 (by assumption) ?x5_rest27
        case x5_hy27 => (intro w hSw; (try dsimp only at hSw); go_simp; (try with_reducible rfl))
        try simp only [Act.put, List.setIfInBounds_toArray, List.set_cons_zero, List.set_cons_succ]
        refine take_read (i := 28) 55 (v := ?x5_v28) rfl rfl (by kernel_rfl) (by kernel_rfl) (by kernel_rfl) (fun _ _ _ h => h) (by rfl) ?x5_hy28 (by assumption) ?x5_rest28
        case x5_hy28 => (intro w hSw; (try dsimp only at hSw); go_simp; (try with_reducible rfl))
        try simp only [Act.put, List.setIfInBounds_toArray, List.set_cons_zero, List.set_cons_succ]
        refine wpAnyH_done (by kernel_rfl) ?_ _
        have hwks : w.heap.size + 1 < wk.heap.size ∧ w.heap.size + 1 + 1 < wk.heap.size ∧ w1.heap.size < wk.heap.size ∧ w.heap.size < wk.heap.size := by have := hBk.size; omega
        obtain ⟨E0', E1', E2', E3', E4', E5', F1', F3', F4', F5'⟩ := HBW.out.of_block (hBk.block w1.heap.size (by omega))
        clear e0 e1 e2 e3 e4 e5 f1 f3 f4 f5 q0 q1 q2 q3 hS
        go_upto_region 10 with (fail)
        generalize hV : World.alloc _ _ = V
        have hVs : w.heap.size + 1 < V.heap.size ∧ w.heap.size + 1 + 1 < V.heap.size ∧ w1.heap.size < V.heap.size ∧ w.heap.size < V.heap.size ∧ wk.heap.size < V.heap.size := by rw [← hV]; clear hV; simp; omega
        have hOV : Only (w1.heap.size :: G2) X V := by rw [← hV]; clear hV; exact (((hO.trans (Only.of_below hBk)).set_ (by simp) _).set_ (by simp) _).alloc _
        have T0 : cInsS.rep V [.slice (some ⟨g0, o0, none⟩) sc.length d0] sc G0 := by rw [← hV]; clear hV; have h0 := Cod.bel HT0.out hBk; exact (by repeat (first | with_reducible exact h0 | with_reducible refine Cod.allocA ?_ _ | with_reducible refine Cod.drewA ?_ | with_reducible refine Cod.drewNA ?_ _ | ((with_reducible refine Cod.setA ?_ ?_ _); rotate_left; ((intro hm9; have hm8 := hng0 _ hm9; (try simp at hm8); (try omega))))))
        have T2 : cIS.rep V [.slice (some ⟨g, o, none⟩) 4 d2] rg' G2 := by rw [← hV]; clear hV; have h0 := Cod.bel HT2.out hBk; exact (by repeat (first | with_reducible exact h0 | with_reducible refine Cod.allocA ?_ _ | with_reducible refine Cod.drewA ?_ | with_reducible refine Cod.drewNA ?_ _ | ((with_reducible refine Cod.setA ?_ ?_ _); rotate_left; ((intro hm9; have hm8 := hng2 _ hm9; (try simp at hm8); (try omega))))))
        have x0 : V.cell? ⟨w1.heap.size, 0, none⟩ = some (.slice (some ⟨g0, o0, none⟩) sc.length d0) := by rw [← hV]; clear hV; go_simp
        have x1 : V.cell? ⟨w1.heap.size, 1, none⟩ = some (.int .i64 ((k : Int) + 1)) := by rw [← hV]; clear hV; go_simp
        have x2 : V.cell? ⟨w1.heap.size, 2, none⟩ = some (.slice (some ⟨g, o, none⟩) 4 d2) := by rw [← hV]; clear hV; go_simp
        have x3 : V.cell? ⟨w1.heap.size, 3, none⟩ = some (.int .i64 (st' + 1)) := by rw [← hV]; clear hV; go_simp
        have x4 : V.cell? ⟨w1.heap.size, 4, none⟩ = some (.bool false) := by rw [← hV]; clear hV; go_simp
        have x5 : V.cell? ⟨w1.heap.size, 5, none⟩ = some (.bool false) := by rw [← hV]; clear hV; go_simp
        have z1 : V.frozen? ⟨w1.heap.size, 1, none⟩ = false := by rw [← hV]; clear hV; go_simp
        have z3 : V.frozen? ⟨w1.heap.size, 3, none⟩ = false := by rw [← hV]; clear hV; go_simp
        have z4 : V.frozen? ⟨w1.heap.size, 4, none⟩ = false := by rw [← hV]; clear hV; go_simp
        have z5 : V.frozen? ⟨w1.heap.size, 5, none⟩ = false := by rw [← hV]; clear hV; go_simp
        have c0 : V.cell? ⟨wk.heap.size, 0, none⟩ = some (.int .i64 ki) := by rw [← hV]; clear hV; go_simp
        have c1 : V.cell? ⟨wk.heap.size, 1, none⟩ = some (.int .i64 ri) := by rw [← hV]; clear hV; go_simp
        have c2 : V.cell? ⟨wk.heap.size, 2, none⟩ = some (.int .i64 ni) := by rw [← hV]; clear hV; go_simp
        have c3 : V.cell? ⟨wk.heap.size, 3, none⟩ = some (.string tx) := by rw [← hV]; clear hV; go_simp
        have HT0' := Lib.hid T0
        have hip := ins_parts hi
        obtain ⟨hip1, hip2, hip3, hip4, hip5, hip6⟩ := hip
        simp only at hip1 hip2 hip3 hip4 hip5 hip6
        have hnw : ¬ g = w1.heap.size := by omega
        have hnk : ¬ g = wk.heap.size := by omega
        have hg0 : g ∉ G0 := fun hm => HG.out.2.2 g hm g hgF rfl
        have HBX := Lib.hid (show RunBox V w1.heap.size (.slice (some ⟨g0, o0, none⟩) sc.length d0) (.slice (some ⟨g, o, none⟩) 4 d2) ((k : Int) + 1) (st' + 1) from ⟨x0, x1, x2, x3, x4, x5, z1, z3, z4, z5⟩)
        clear hV E0' E1' E2' E3' E4' E5' F1' F3' F4' F5' hHeld T0
        rcases (by omega : ki = 1 ∨ ki = 2 ∨ ki = 3 ∨ ki = 4 ∨ ki = 5 ∨ ki = 6 ∨ ki = 7 ∨ ki = 8 ∨ ki = 9) with rfl | rfl | rfl | rfl | rfl | rfl | rfl | rfl | rfl
        · obtain ⟨i, rfl⟩ : ∃ i : Nat, ri = i := ⟨ri.toNat, by omega⟩
          have hi5 : (i : Int) < 4 := by omega
          have hi4 : i < rg'.length := by rw [HRL.out]; omega
          obtain ⟨g', o', vs, Fi, eA, -, hgi, hFi, hndi, hx, RR, hfr, hup⟩ := cL_upd (hw := by decide) (hw2 := by decide) T2 HG.out.2.1 hi4
          obtain ⟨rfl, rfl⟩ := slice_addr (n := 0) (m := 0) (n' := 0) (m' := 0) eA
          obtain ⟨rfl, rfl, -⟩ := hx
          rw [show (cI).wd = 1 from rfl, Nat.mul_one] at RR
          have u0 : V.cell? ⟨g', o' + i, none⟩ = some (.int .i64 rg'[i]) := RR.cell 0 _ rfl
          have uz : V.frozen? ⟨g', o' + i, none⟩ = false := by have := hfr 0 (by decide); rwa [show (cI).wd = 1 from rfl, Nat.mul_one, Nat.add_zero] at this
          have N2 := hup (V.setCell ⟨g', o' + i, none⟩ (.int .i64 ni)) [.int .i64 ni] ni (by rw [show (cI).wd = 1 from rfl, Nat.mul_one]; exact RR.set0 (by simp) (.int .i64 ni)) ⟨rfl, rfl, by omega⟩
          clear RR hup hfr T2
          have HN2 := Lib.hid N2
          clear N2
          go_wp2_with fail
          go_roundg ((60 - (st' + 1)).toNat)
          case measure => rw [HK.out]; omega
          case rel => exact ⟨(k : Int) + 1, st' + 1, rg'.set i ni, rfl, by omega, by omega, by omega, by (first | exact HRL.out | simp [HRL.out]), (run_right sc k rg' st' hks (by rw [HXI.out]; exact hi) h61 (show runStep sc k rg' st' sc[k] = .inr ((k : Int) + 1, rg'.set i ni) from (by rw [HXI.out]; rfl))).symm.trans HRUN.out, HBX.out.of_block (Below.heap_setCell _ _ _ _ (by (try simp); omega)), Cod.set_ HT0'.out hg0 _ _, HN2.out, hOV.set_ (by simp [hgF]) _⟩
        · obtain ⟨i, rfl⟩ : ∃ i : Nat, ri = i := ⟨ri.toNat, by omega⟩
          have hi5 : (i : Int) < 4 := by omega
          have hi4 : i < rg'.length := by rw [HRL.out]; omega
          obtain ⟨j, rfl⟩ : ∃ j : Nat, ni = j := ⟨ni.toNat, by omega⟩
          have hj3 := hip4 rfl
          have hj5 : (j : Int) < 4 := by omega
          have hj4 : j < rg'.length := by rw [HRL.out]; omega
          obtain ⟨g', o', vs, Fi, eA, -, hx, -, hcu⟩ := cL_get (hw := by decide) (hw2 := by decide) T2 hj4
          obtain ⟨rfl, rfl⟩ := slice_addr (n := 0) (m := 0) (n' := 0) (m' := 0) eA
          obtain ⟨rfl, -, hur⟩ := hx
          have uj : V.cell? ⟨g', o' + j, none⟩ = some (.int .i64 rg'[j]) := by have := (hcu 0 _ rfl).1; rwa [show (cI).wd = 1 from rfl, Nat.mul_one, Nat.add_zero] at this
          clear hcu hur eA
          obtain ⟨g2, o2, vs, Fi, eA, -, hgi, hFi, hndi, hx, RR, hfr, hup⟩ := cL_upd (hw := by decide) (hw2 := by decide) (Cod.drewA T2) HG.out.2.1 hi4
          obtain ⟨rfl, rfl⟩ := slice_addr (n := 0) (m := 0) (n' := 0) (m' := 0) eA
          obtain ⟨rfl, rfl, -⟩ := hx
          rw [show (cI).wd = 1 from rfl, Nat.mul_one] at RR
          have u0 : V.cell? ⟨g2, o2 + i, none⟩ = some (.int .i64 rg'[i]) := RR.cell 0 _ rfl
          have uz : V.frozen? ⟨g2, o2 + i, none⟩ = false := by have := hfr 0 (by decide); rwa [show (cI).wd = 1 from rfl, Nat.mul_one, Nat.add_zero] at this
          obtain ⟨a1, ha1⟩ : ∃ a, clampI rg'[i] = a := ⟨_, rfl⟩
          obtain ⟨a2, ha2⟩ : ∃ a, clampI rg'[j] = a := ⟨_, rfl⟩
          obtain ⟨a3, ha3⟩ : ∃ a, clampI (a1 + a2) = a := ⟨_, rfl⟩
          have hr1 := clampI_range rg'[i]
          have hr2 := clampI_range rg'[j]
          have hr3 := clampI_range (a1 + a2)
          rw [ha1] at hr1
          rw [ha2] at hr2
          rw [ha3] at hr3
          have HA1 := Lib.hid ha1
          have HA2 := Lib.hid ha2
          have HA3 := Lib.hid ha3
          clear ha1 ha2 ha3
          have N2 := hup (V.drew.setCell ⟨g2, o2 + i, none⟩ (.int .i64 a3)) [.int .i64 a3] a3 (by rw [show (cI).wd = 1 from rfl, Nat.mul_one]; exact RR.set0 (by simp) (.int .i64 a3)) ⟨rfl, rfl, by omega⟩
          clear RR hup hfr T2
          have HN2 := Lib.hid N2
          clear N2
          have hgV : g2 < V.heap.size := by omega
          have hS : ∀ w9, Below V.heap.size V w9 → w9.cell? ⟨w1.heap.size, 2, none⟩ = some (.slice (some ⟨g2, o2, none⟩) 4 d2) ∧ w9.cell? ⟨wk.heap.size, 1, none⟩ = some (.int .i64 (i : Int)) ∧ w9.cell? ⟨wk.heap.size, 2, none⟩ = some (.int .i64 (j : Int)) ∧ w9.cell? ⟨g2, o2 + i, none⟩ = some (.int .i64 rg'[i]) ∧ w9.cell? ⟨g2, o2 + j, none⟩ = some (.int .i64 rg'[j]) := fun w9 hb => ⟨(hb.cell (p := ⟨w1.heap.size, 2, none⟩) hVs.2.2.1).trans x2, (hb.cell (p := ⟨wk.heap.size, 1, none⟩) hVs.2.2.2.2).trans c1, (hb.cell (p := ⟨wk.heap.size, 2, none⟩) hVs.2.2.2.2).trans c2, (hb.cell (p := ⟨g2, o2 + i, none⟩) hgV).trans u0, (hb.cell (p := ⟨g2, o2 + j, none⟩) hgV).trans uj⟩
          have hwr : IntKind.i64.wrap (a1 + a2) = a1 + a2 := IntWalk.i64_in _ (by omega)
          go_upto_region 14 with (fail)
          refine wp_regionT (S := (fun w9 => w9.cell? ⟨w1.heap.size, 2, none⟩ = some (.slice (some ⟨g2, o2, none⟩) 4 d2) ∧ w9.cell? ⟨wk.heap.size, 1, none⟩ = some (.int .i64 (i : Int)) ∧ w9.cell? ⟨wk.heap.size, 2, none⟩ = some (.int .i64 (j : Int)) ∧ w9.cell? ⟨g2, o2 + i, none⟩ = some (.int .i64 rg'[i]) ∧ w9.cell? ⟨g2, o2 + j, none⟩ = some (.int .i64 rg'[j]))) [21] (by kernel_rfl) (by (try dsimp only); exact hS _ (by repeat (first | with_reducible exact Below.refl _ _ | with_reducible assumption | with_reducible refine bel_alloc ?_ _ | with_reducible refine bel_drew ?_ | with_reducible refine bel_drewN ?_ _ | (with_reducible refine bel_set ?_ ?_ _; rotate_left; ((try simp); (try omega)))))) (fun hHeld => ?_)
          refine takeT_read (i := 0) 22 86 (v := ?x6_v0) rfl rfl (by kernel_rfl) (by kernel_rfl) (by kernel_rfl) (by kernel_rfl) (by kernel_rfl) (by kernel_rfl) (fun _ _ _ h => h) (by rfl) ?x6_hy0 (by assumption) ?x6_rest0
          case x6_hy0 => (intro w hSw; (try dsimp only at hSw); go_simp; (try with_reducible rfl))
          try simp only [Act.put, List.setIfInBounds_toArray, List.set_cons_zero, List.set_cons_succ]
          refine takeT_read (i := 1) 22 87 (v := ?x6_v1) rfl rfl (by kernel_rfl) (by kernel_rfl) (by kernel_rfl) (by kernel_rfl) (by kernel_rfl) (by kernel_rfl) (fun _ _ _ h => h) (by rfl) ?x6_hy1 (by assumption) ?x6_rest1
          case x6_hy1 => (intro w hSw; (try dsimp only at hSw); go_simp; (try with_reducible rfl))
          try simp only [Act.put, List.setIfInBounds_toArray, List.set_cons_zero, List.set_cons_succ]
          refine takeT_read (i := 2) 22 88 (v := ?x6_v2) rfl rfl (by kernel_rfl) (by kernel_rfl) (by kernel_rfl) (by kernel_rfl) (by kernel_rfl) (by kernel_rfl) (fun _ _ _ h => h) (by rfl) ?x6_hy2 (by assumption) ?x6_rest2
          case x6_hy2 => (intro w hSw; (try dsimp only at hSw); go_simp; (try with_reducible rfl))
          try simp only [Act.put, List.setIfInBounds_toArray, List.set_cons_zero, List.set_cons_succ]
          refine takeT_read (i := 3) 22 89 (v := ?x6_v3) rfl rfl (by kernel_rfl) (by kernel_rfl) (by kernel_rfl) (by kernel_rfl) (by kernel_rfl) (by kernel_rfl) (fun _ _ _ h => h) (by rfl) ?x6_hy3 (by assumption) ?x6_rest3
          case x6_hy3 => (intro w hSw; (try dsimp only at hSw); go_simp; (try with_reducible rfl))
          try simp only [Act.put, List.setIfInBounds_toArray, List.set_cons_zero, List.set_cons_succ]
          refine takeT_read (i := 4) 22 90 (v := ?x6_v4) rfl rfl (by kernel_rfl) (by kernel_rfl) (by kernel_rfl) (by kernel_rfl) (by kernel_rfl) (by kernel_rfl) (fun _ _ _ h => h) (by rfl) ?x6_hy4 (by assumption) ?x6_rest4
          case x6_hy4 => (intro w hSw; (try dsimp only at hSw); go_simp; (try with_reducible rfl))
          try simp only [Act.put, List.setIfInBounds_toArray, List.set_cons_zero, List.set_cons_succ]
          refine takeT_read (i := 5) 22 91 (v := ?x6_v5) rfl rfl (by kernel_rfl) (by kernel_rfl) (by kernel_rfl) (by kernel_rfl) (by kernel_rfl) (by kernel_rfl) (fun _ _ _ h => h) (by rfl) ?x6_hy5 (by assumption) ?x6_rest5
          case x6_hy5 => (intro w hSw; (try dsimp only at hSw); go_simp; (try with_reducible rfl))
          try simp only [Act.put, List.setIfInBounds_toArray, List.set_cons_zero, List.set_cons_succ]
          refine takeT_read (i := 6) 22 92 (v := ?x6_v6) rfl rfl (by kernel_rfl) (by kernel_rfl) (by kernel_rfl) (by kernel_rfl) (by kernel_rfl) (by kernel_rfl) (fun _ _ _ h => h) (by rfl) ?x6_hy6 (by assumption) ?x6_rest6
          case x6_hy6 => (intro w hSw; (try dsimp only at hSw); go_simp; (try with_reducible rfl))
          try simp only [Act.put, List.setIfInBounds_toArray, List.set_cons_zero, List.set_cons_succ]
          refine takeT_read (i := 7) 22 93 (v := ?x6_v7) rfl rfl (by kernel_rfl) (by kernel_rfl) (by kernel_rfl) (by kernel_rfl) (by kernel_rfl) (by kernel_rfl) (fun _ _ _ h => h) (by rfl) ?x6_hy7 (by assumption) ?x6_rest7
          case x6_hy7 => (intro w hSw; (try dsimp only at hSw); go_simp; (try with_reducible rfl))
          try simp only [Act.put, List.setIfInBounds_toArray, List.set_cons_zero, List.set_cons_succ]
          refine takeT_read (i := 8) 22 94 (v := ?x6_v8) rfl rfl (by kernel_rfl) (by kernel_rfl) (by kernel_rfl) (by kernel_rfl) (by kernel_rfl) (by kernel_rfl) (fun _ _ _ h => h) (by rfl) ?x6_hy8 (by assumption) ?x6_rest8
          case x6_hy8 => (intro w hSw; (try dsimp only at hSw); go_simp; (try with_reducible rfl))
          try simp only [Act.put, List.setIfInBounds_toArray, List.set_cons_zero, List.set_cons_succ]
          refine takeT_read (i := 9) 22 95 (v := ?x6_v9) rfl rfl (by kernel_rfl) (by kernel_rfl) (by kernel_rfl) (by kernel_rfl) (by kernel_rfl) (by kernel_rfl) (fun _ _ _ h => h) (by rfl) ?x6_hy9 (by assumption) ?x6_rest9
          case x6_hy9 => (intro w hSw; (try dsimp only at hSw); go_simp; (try with_reducible rfl))
          try simp only [Act.put, List.setIfInBounds_toArray, List.set_cons_zero, List.set_cons_succ]
          refine takeT_read (i := 11) 22 97 (v := ?x6_v11) rfl rfl (by kernel_rfl) (by kernel_rfl) (by kernel_rfl) (by kernel_rfl) (by kernel_rfl) (by kernel_rfl) (fun _ _ _ h => h) (by rfl) ?x6_hy11 (by assumption) ?x6_rest11
          case x6_hy11 => (intro w hSw; (try dsimp only at hSw); go_simp; (try with_reducible rfl))
          try simp only [Act.put, List.setIfInBounds_toArray, List.set_cons_zero, List.set_cons_succ]
          refine takeT_read (i := 12) 22 98 (v := ?x6_v12) rfl rfl (by kernel_rfl) (by kernel_rfl) (by kernel_rfl) (by kernel_rfl) (by kernel_rfl) (by kernel_rfl) (fun _ _ _ h => h) (by rfl) ?x6_hy12 (by assumption) ?x6_rest12
          case x6_hy12 => (intro w hSw; (try dsimp only at hSw); go_simp; (try with_reducible rfl))
          try simp only [Act.put, List.setIfInBounds_toArray, List.set_cons_zero, List.set_cons_succ]
          refine takeT_read (i := 13) 22 99 (v := ?x6_v13) rfl rfl (by kernel_rfl) (by kernel_rfl) (by kernel_rfl) (by kernel_rfl) (by kernel_rfl) (by kernel_rfl) (fun _ _ _ h => h) (by rfl) ?x6_hy13 (by assumption) ?x6_rest13
          case x6_hy13 => (intro w hSw; (try dsimp only at hSw); go_simp; (try with_reducible rfl))
          try simp only [Act.put, List.setIfInBounds_toArray, List.set_cons_zero, List.set_cons_succ]
          refine takeT_read (i := 14) 22 100 (v := ?x6_v14) rfl rfl (by kernel_rfl) (by kernel_rfl) (by kernel_rfl) (by kernel_rfl) (by kernel_rfl) (by kernel_rfl) (fun _ _ _ h => h) (by rfl) ?x6_hy14 (by assumption) ?x6_rest14
          case x6_hy14 => (intro w hSw; (try dsimp only at hSw); go_simp; (try with_reducible rfl))
          try simp only [Act.put, List.setIfInBounds_toArray, List.set_cons_zero, List.set_cons_succ]
          refine takeT_read (i := 15) 22 101 (v := ?x6_v15) rfl rfl (by kernel_rfl) (by kernel_rfl) (by kernel_rfl) (by kernel_rfl) (by kernel_rfl) (by kernel_rfl) (fun _ _ _ h => h) (by rfl) ?x6_hy15 (by assumption) ?x6_rest15
          case x6_hy15 => (intro w hSw; (try dsimp only at hSw); go_simp; (try with_reducible rfl))
          try simp only [Act.put, List.setIfInBounds_toArray, List.set_cons_zero, List.set_cons_succ]
          refine takeT_read (i := 16) 22 102 (v := ?x6_v16) rfl rfl (by kernel_rfl) (by kernel_rfl) (by kernel_rfl) (by kernel_rfl) (by kernel_rfl) (by kernel_rfl) (fun _ _ _ h => h) (by rfl) ?x6_hy16 (by assumption) ?x6_rest16
          case x6_hy16 => (intro w hSw; (try dsimp only at hSw); go_simp; (try with_reducible rfl))
          try simp only [Act.put, List.setIfInBounds_toArray, List.set_cons_zero, List.set_cons_succ]
          refine stepT 10 (by kernel_rfl) rfl (fun K hK => ?_)
          go_simp
          (go_at_call 65; refine (implClamp_any _ _).mono ?_; (first | rw [HA1.out] | rw [HA2.out] | rw [HA3.out]); rintro e wq ⟨rfl, rfl⟩)
          try go_wp2_with fail
          refine hK.out _ _ ?_ (fun hHeld => ?_)
          · (try dsimp only)
            exact hS _ (by repeat (first | with_reducible exact Below.refl _ _ | with_reducible assumption | with_reducible refine bel_alloc ?_ _ | with_reducible refine bel_drew ?_ | with_reducible refine bel_drewN ?_ _ | (with_reducible refine bel_set ?_ ?_ _; rotate_left; ((try simp); (try omega)))))
          clear hK K
          refine stepT 17 (by kernel_rfl) rfl (fun K hK => ?_)
          go_simp
          (go_at_call 65; refine (implClamp_any _ _).mono ?_; (first | rw [HA1.out] | rw [HA2.out] | rw [HA3.out]); rintro e wq ⟨rfl, rfl⟩)
          try go_wp2_with fail
          refine hK.out _ _ ?_ (fun hHeld => ?_)
          · (try dsimp only)
            exact hS _ (by repeat (first | with_reducible exact Below.refl _ _ | with_reducible assumption | with_reducible refine bel_alloc ?_ _ | with_reducible refine bel_drew ?_ | with_reducible refine bel_drewN ?_ _ | (with_reducible refine bel_set ?_ ?_ _; rotate_left; ((try simp); (try omega)))))
          clear hK K
          refine takeT_read (i := 18) 22 104 (v := ?x6_v18) rfl rfl (by kernel_rfl) (by kernel_rfl) (by kernel_rfl) (by kernel_rfl) (by kernel_rfl) (by kernel_rfl) (fun _ _ _ h => h) (by rfl) ?x6_hy18 (by assumption) ?x6_rest18
          case x6_hy18 => (intro w hSw; (try dsimp only at hSw); go_simp; (try with_reducible rfl))
          refine stepT 19 (by kernel_rfl) rfl (fun K hK => ?_)
          go_simp
          (go_at_call 65; refine (implClamp_any _ _).mono ?_; (first | rw [HA1.out] | rw [HA2.out] | rw [HA3.out]); rintro e wq ⟨rfl, rfl⟩)
          try go_wp2_with fail
          refine hK.out _ _ ?_ (fun hHeld => ?_)
          · (try dsimp only)
            exact hS _ (by repeat (first | with_reducible exact Below.refl _ _ | with_reducible assumption | with_reducible refine bel_alloc ?_ _ | with_reducible refine bel_drew ?_ | with_reducible refine bel_drewN ?_ _ | (with_reducible refine bel_set ?_ ?_ _; rotate_left; ((try simp); (try omega)))))
          clear hK K
          refine takeT_read (i := 20) 22 106 (v := ?x6_v20) rfl rfl (by kernel_rfl) (by kernel_rfl) (by kernel_rfl) (by kernel_rfl) (by kernel_rfl) (by kernel_rfl) (fun _ _ _ h => h) (by rfl) ?x6_hy20 (by assumption) ?x6_rest20
          case x6_hy20 => (intro w hSw; (try dsimp only at hSw); go_simp; (try with_reducible rfl))
          refine stepT_end 21 (by kernel_rfl) rfl (by kernel_rfl) (fun K hK => ?_)
          go_simp
          refine hK.out _ _ ?_
          clear hK K
          refine doneT (by kernel_rfl) ?_ _
          clear hwr
          go_wp2_with fail
          go_roundg ((60 - (st' + 1)).toNat)
          case measure => rw [HK.out]; omega
          case rel => exact ⟨(k : Int) + 1, st' + 1, rg'.set i a3, rfl, by omega, by omega, by omega, by (first | exact HRL.out | simp [HRL.out]), (run_right sc k rg' st' hks (by rw [HXI.out]; exact hi) h61 (show runStep sc k rg' st' sc[k] = .inr ((k : Int) + 1, rg'.set i a3) from (by rw [HXI.out]; simp [runStep, regAt_get hi4, regAt_get hj4, HA1.out, HA2.out, HA3.out]))).symm.trans HRUN.out, HBX.out.of_block (Below.heap_setCell _ _ _ _ (by (try simp); omega)), Cod.set_ (Cod.drewA HT0'.out) hg0 _ _, HN2.out, hOV.drew.set_ (by simp [hgF]) _⟩
        · obtain ⟨i, rfl⟩ : ∃ i : Nat, ri = i := ⟨ri.toNat, by omega⟩
          have hi5 : (i : Int) < 4 := by omega
          have hi4 : i < rg'.length := by rw [HRL.out]; omega
          obtain ⟨g', o', vs, Fi, eA, -, hx, -, hcu⟩ := cL_get (hw := by decide) (hw2 := by decide) T2 hi4
          obtain ⟨rfl, rfl⟩ := slice_addr (n := 0) (m := 0) (n' := 0) (m' := 0) eA
          obtain ⟨rfl, -, hur⟩ := hx
          have u0 : V.cell? ⟨g', o' + i, none⟩ = some (.int .i64 rg'[i]) := by have := (hcu 0 _ rfl).1; rwa [show (cI).wd = 1 from rfl, Nat.mul_one, Nat.add_zero] at this
          clear hcu
          cases hz : (rg'[i] == 0)
          case false =>
            have hz' : ¬ rg'[i] = 0 := by simpa using hz
            have HZ := Lib.hid hz'
            clear hz'
            go_wp2_with fail
            go_roundg ((60 - (st' + 1)).toNat)
            case measure => rw [HK.out]; omega
            case rel => exact ⟨(k : Int) + 1, st' + 1, rg', rfl, by omega, by omega, by omega, by (first | exact HRL.out | simp [HRL.out]), (run_right sc k rg' st' hks (by rw [HXI.out]; exact hi) h61 (show runStep sc k rg' st' sc[k] = .inr ((k : Int) + 1, rg') from (by rw [HXI.out]; simp [runStep, regAt_get hi4, HZ.out]))).symm.trans HRUN.out, HBX.out, HT0'.out, T2, hOV⟩
          case true =>
            have hz' : rg'[i] = 0 := by simpa using hz
            have HZ := Lib.hid hz'
            clear hz'
            have hn3 := hip6 (.inl rfl)
            go_wp2_with fail
            go_roundg ((60 - (st' + 1)).toNat)
            case measure => rw [HK.out]; omega
            case rel => exact ⟨ni, st' + 1, rg', rfl, by omega, by omega, by omega, by (first | exact HRL.out | simp [HRL.out]), (run_right sc k rg' st' hks (by rw [HXI.out]; exact hi) h61 (show runStep sc k rg' st' sc[k] = .inr (ni, rg') from (by rw [HXI.out]; simp [runStep, regAt_get hi4, HZ.out]))).symm.trans HRUN.out, HBX.out.setPc ni, Cod.set_ HT0'.out (fun hm => by have := hng0 _ hm; omega) _ _, Cod.set_ T2 (fun hm => by have := hng2 _ hm; omega) _ _, hOV.set_ (by simp) _⟩
        · have hn3 := hip6 (.inr rfl)
          go_wp2_with fail
          go_roundg ((60 - (st' + 1)).toNat)
          case measure => rw [HK.out]; omega
          case rel => exact ⟨ni, st' + 1, rg', rfl, by omega, by omega, by omega, by (first | exact HRL.out | simp [HRL.out]), (run_right sc k rg' st' hks (by rw [HXI.out]; exact hi) h61 (show runStep sc k rg' st' sc[k] = .inr (ni, rg') from (by rw [HXI.out]; rfl))).symm.trans HRUN.out, HBX.out.setPc ni, Cod.set_ HT0'.out (fun hm => by have := hng0 _ hm; omega) _ _, Cod.set_ T2 (fun hm => by have := hng2 _ hm; omega) _ _, hOV.set_ (by simp) _⟩
        · have hrs : RunRes V (w.heap.size + 1) (w.heap.size + 1 + 1) := HRES.out.of_block (hOV.block _ (by omega) (fun hm => by rcases List.mem_cons.1 hm with e | hm; omega; have := hng2 _ hm; omega)) (hOV.block _ (by omega) (fun hm => by rcases List.mem_cons.1 hm with e | hm; omega; have := hng2 _ hm; omega))
          have hbV : Below w.heap.size w V := hbX.trans (hOV.bel w.heap.size hbX.size (fun x hx => by rcases List.mem_cons.1 hx with e | hm; omega; have := hng2 _ hm; omega))
          have hbV2 : Below w1.heap.size V V := Below.refl _ _
          go_upto_region 22 with (fail)
          generalize hU : World.setCell V _ _ = U
          have hUs : U.heap.size = V.heap.size := by rw [← hU]; simp
          have hbU : Below w.heap.size w U := by rw [← hU]; exact bel_set hbV (by (try simp); omega) _
          have hU2 : U.heap[w.heap.size + 1]? = V.heap[w.heap.size + 1]? := by rw [← hU]; exact Below.heap_setCell _ _ _ _ (by (try simp); omega)
          have hU3 : U.heap[w.heap.size + 1 + 1]? = V.heap[w.heap.size + 1 + 1]? := by rw [← hU]; exact Below.heap_setCell _ _ _ _ (by (try simp); omega)
          have T0U : cInsS.rep U [.slice (some ⟨g0, o0, none⟩) sc.length d0] sc G0 := by rw [← hU]; exact Cod.set_ HT0'.out (fun hm => by have := hng0 _ hm; omega) _ _
          have T2U : cIS.rep U [.slice (some ⟨g, o, none⟩) 4 d2] rg' G2 := by rw [← hU]; exact Cod.set_ T2 (fun hm => by have := hng2 _ hm; omega) _ _
          have y0 : U.cell? ⟨w1.heap.size, 0, none⟩ = some (.slice (some ⟨g0, o0, none⟩) sc.length d0) := by rw [← hU]; clear hU; go_simp
          have y1 : U.cell? ⟨w1.heap.size, 1, none⟩ = some (.int .i64 ((k : Int) + 1)) := by rw [← hU]; clear hU; go_simp
          have y2 : U.cell? ⟨w1.heap.size, 2, none⟩ = some (.slice (some ⟨g, o, none⟩) 4 d2) := by rw [← hU]; clear hU; go_simp
          have y3 : U.cell? ⟨w1.heap.size, 3, none⟩ = some (.int .i64 (st' + 1)) := by rw [← hU]; clear hU; go_simp
          have y4 : U.cell? ⟨w1.heap.size, 4, none⟩ = some (.bool false) := by rw [← hU]; clear hU; go_simp
          have y5 : U.cell? ⟨w1.heap.size, 5, none⟩ = some (.bool true) := by rw [← hU]; clear hU; go_simp
          have b0 : U.cell? ⟨wk.heap.size, 0, none⟩ = some (.int .i64 5) := by rw [← hU]; clear hU; go_simp
          have b1 : U.cell? ⟨wk.heap.size, 1, none⟩ = some (.int .i64 ri) := by rw [← hU]; clear hU; go_simp
          have b2 : U.cell? ⟨wk.heap.size, 2, none⟩ = some (.int .i64 ni) := by rw [← hU]; clear hU; go_simp
          have b3 : U.cell? ⟨wk.heap.size, 3, none⟩ = some (.string tx) := by rw [← hU]; clear hU; go_simp
          obtain ⟨P0, Q0, P1, Q1, P2, Q2, P3, Q3, P4, Q4, P5, Q5, R0, S0, R1, S1, R2, S2, R3, S3, R4, S4⟩ := hrs.of_block hU2 hU3
          clear hU hU2 hU3 hrs x0 x1 x2 x3 x4 x5 z1 z3 z4 z5 c0 c1 c2 c3
          have hU4 : w1.heap.size < U.heap.size ∧ wk.heap.size < U.heap.size := by omega
          have hS : ∀ w9, Only [w.heap.size + 1, w.heap.size + 1 + 1] U w9 → w9.cell? ⟨w1.heap.size, 0, none⟩ = some (.slice (some ⟨g0, o0, none⟩) sc.length d0) ∧ w9.cell? ⟨w1.heap.size, 1, none⟩ = some (.int .i64 ((k : Int) + 1)) ∧ w9.cell? ⟨w1.heap.size, 2, none⟩ = some (.slice (some ⟨g, o, none⟩) 4 d2) ∧ w9.cell? ⟨w1.heap.size, 3, none⟩ = some (.int .i64 (st' + 1)) ∧ w9.cell? ⟨w1.heap.size, 4, none⟩ = some (.bool false) ∧ w9.cell? ⟨w1.heap.size, 5, none⟩ = some (.bool true) ∧ w9.cell? ⟨wk.heap.size, 1, none⟩ = some (.int .i64 ri) ∧ w9.cell? ⟨wk.heap.size, 2, none⟩ = some (.int .i64 ni) ∧ w9.cell? ⟨wk.heap.size, 3, none⟩ = some (.string tx) := fun w9 hb => ⟨(World.cell?_of_block (a := ⟨w1.heap.size, 0, none⟩) (hb.block _ hU4.1 (by simp; omega))).trans y0, (World.cell?_of_block (a := ⟨w1.heap.size, 1, none⟩) (hb.block _ hU4.1 (by simp; omega))).trans y1, (World.cell?_of_block (a := ⟨w1.heap.size, 2, none⟩) (hb.block _ hU4.1 (by simp; omega))).trans y2, (World.cell?_of_block (a := ⟨w1.heap.size, 3, none⟩) (hb.block _ hU4.1 (by simp; omega))).trans y3, (World.cell?_of_block (a := ⟨w1.heap.size, 4, none⟩) (hb.block _ hU4.1 (by simp; omega))).trans y4, (World.cell?_of_block (a := ⟨w1.heap.size, 5, none⟩) (hb.block _ hU4.1 (by simp; omega))).trans y5, (World.cell?_of_block (a := ⟨wk.heap.size, 1, none⟩) (hb.block _ hU4.2 (by simp; omega))).trans b1, (World.cell?_of_block (a := ⟨wk.heap.size, 2, none⟩) (hb.block _ hU4.2 (by simp; omega))).trans b2, (World.cell?_of_block (a := ⟨wk.heap.size, 3, none⟩) (hb.block _ hU4.2 (by simp; omega))).trans b3⟩
          refine wp_region_held_drew (S := (fun w9 => w9.cell? ⟨w1.heap.size, 0, none⟩ = some (.slice (some ⟨g0, o0, none⟩) sc.length d0) ∧ w9.cell? ⟨w1.heap.size, 1, none⟩ = some (.int .i64 ((k : Int) + 1)) ∧ w9.cell? ⟨w1.heap.size, 2, none⟩ = some (.slice (some ⟨g, o, none⟩) 4 d2) ∧ w9.cell? ⟨w1.heap.size, 3, none⟩ = some (.int .i64 (st' + 1)) ∧ w9.cell? ⟨w1.heap.size, 4, none⟩ = some (.bool false) ∧ w9.cell? ⟨w1.heap.size, 5, none⟩ = some (.bool true) ∧ w9.cell? ⟨wk.heap.size, 1, none⟩ = some (.int .i64 ri) ∧ w9.cell? ⟨wk.heap.size, 2, none⟩ = some (.int .i64 ni) ∧ w9.cell? ⟨wk.heap.size, 3, none⟩ = some (.string tx))) (by kernel_rfl) (by (try dsimp only); exact hS _ (by repeat (first | with_reducible exact Only.refl _ _ | with_reducible refine Only.drew ?_ | ((with_reducible refine Only.set_ ?_ ?_ _); rotate_left; (focus simp))))) (fun hHeld => ?_)
          refine take_read (i := 0) 127 (v := ?x7_v0) rfl rfl (by kernel_rfl) (by kernel_rfl) (by kernel_rfl) (fun _ _ _ h => h) (by rfl) ?x7_hy0 (by assumption) ?x7_rest0
          case x7_hy0 => (intro w hSw; (try dsimp only at hSw); go_simp; (try with_reducible rfl))
          try simp only [Act.put, List.setIfInBounds_toArray, List.set_cons_zero, List.set_cons_succ]
          refine take_read (i := 1) 128 (v := ?x7_v1) rfl rfl (by kernel_rfl) (by kernel_rfl) (by kernel_rfl) (fun _ _ _ h => h) (by rfl) ?x7_hy1 (by assumption) ?x7_rest1
          case x7_hy1 => (intro w hSw; (try dsimp only at hSw); go_simp; (try with_reducible rfl))
          try simp only [Act.put, List.setIfInBounds_toArray, List.set_cons_zero, List.set_cons_succ]
          refine take_read (i := 2) 129 (v := ?x7_v2) rfl rfl (by kernel_rfl) (by kernel_rfl) (by kernel_rfl) (fun _ _ _ h => h) (by rfl) ?x7_hy2 (by assumption) ?x7_rest2
          case x7_hy2 => (intro w hSw; (try dsimp only at hSw); go_simp; (try with_reducible rfl))
          try simp only [Act.put, List.setIfInBounds_toArray, List.set_cons_zero, List.set_cons_succ]
          refine take_read (i := 3) 130 (v := ?x7_v3) rfl rfl (by kernel_rfl) (by kernel_rfl) (by kernel_rfl) (fun _ _ _ h => h) (by rfl) ?x7_hy3 (by assumption) ?x7_rest3
          case x7_hy3 => (intro w hSw; (try dsimp only at hSw); go_simp; (try with_reducible rfl))
          try simp only [Act.put, List.setIfInBounds_toArray, List.set_cons_zero, List.set_cons_succ]
          refine take_read (i := 4) 131 (v := ?x7_v4) rfl rfl (by kernel_rfl) (by kernel_rfl) (by kernel_rfl) (fun _ _ _ h => h) (by rfl) ?x7_hy4 (by assumption) ?x7_rest4
          case x7_hy4 => (intro w hSw; (try dsimp only at hSw); go_simp; (try with_reducible rfl))
          try simp only [Act.put, List.setIfInBounds_toArray, List.set_cons_zero, List.set_cons_succ]
          refine take_read (i := 5) 132 (v := ?x7_v5) rfl rfl (by kernel_rfl) (by kernel_rfl) (by kernel_rfl) (fun _ _ _ h => h) (by rfl) ?x7_hy5 (by assumption) ?x7_rest5
          case x7_hy5 => (intro w hSw; (try dsimp only at hSw); go_simp; (try with_reducible rfl))
          try simp only [Act.put, List.setIfInBounds_toArray, List.set_cons_zero, List.set_cons_succ]
          refine wpAnyH_ready (rs := [6]) (by kernel_rfl) (by simp) ?_
          refine AllReadyH.cons rfl (fun K hK => ?_) AllReadyH.nil
          first | fail | go_simp
          refine hK.out _ _ ?_ (fun hHeld => ?_)
          · (try dsimp only)
            exact hS _ (by repeat (first | with_reducible exact Only.refl _ _ | with_reducible refine Only.drew ?_ | ((with_reducible refine Only.set_ ?_ ?_ _); rotate_left; (focus simp))))
          clear hK K
          try simp only [Act.put, List.setIfInBounds_toArray, List.set_cons_zero, List.set_cons_succ]
          refine wpAnyH_ready (rs := [7]) (by kernel_rfl) (by simp) ?_
          refine AllReadyH.cons rfl (fun K hK => ?_) AllReadyH.nil
          first | fail | go_simp
          refine hK.out _ _ ?_ (fun hHeld => ?_)
          · (try dsimp only)
            exact hS _ (by repeat (first | with_reducible exact Only.refl _ _ | with_reducible refine Only.drew ?_ | ((with_reducible refine Only.set_ ?_ ?_ _); rotate_left; (focus simp))))
          clear hK K
          try simp only [Act.put, List.setIfInBounds_toArray, List.set_cons_zero, List.set_cons_succ]
          refine wpAnyH_done (by kernel_rfl) ?_ _
          clear hS
          go_wp2_with fail
          refine sets_retD6_5 (a' := .slice none 0 0) (b' := .int .i64 0) (c' := .slice none 0 0) (d' := .int .i64 0) (e' := .bool false) (f' := .bool false) (g' := .int .i64 0) (u' := .int .i64 0) (i' := .int .i64 0) (j' := .string ⟨#[]⟩) (k' := .int .i64 0) (w.heap.size + 1) (w.heap.size + 1 + 1) (by omega) ?_ ?_ ?_ ?_ ?_ ?_ ?_ ?_ ?_ ?_ ?_ (fun W9 e9 a0 a1 a2 a3 a4 a5 b0 b1 b2 b3 b4 => ?_)
          · exact P0
          · exact P1
          · exact P2
          · exact P3
          · exact P4
          · exact P5
          · exact R0
          · exact R1
          · exact R2
          · exact R3
          · exact R4
          refine bodyPost_ret (v := .tuple #[.agg #[.slice (some ⟨g0, o0, none⟩) sc.length d0, .int .i64 ((k : Int) + 1), .slice (some ⟨g, o, none⟩) 4 d2, .int .i64 (st' + 1), .bool false, .bool true], .agg #[.int .i64 1, .int .i64 ri, .int .i64 0, .string tx, .int .i64 0]]) (by simp [results, Try.results13, go_sem, a0, a1, a2, a3, a4, a5, b0, b1, b2, b3, b4]) rfl ?_
          clear a0 a1 a2 a3 a4 a5 b0 b1 b2 b3 b4
          subst e9
          rw [HM.out, ← HRUN.out, run_left sc k rg' st' hks (by rw [HXI.out]; exact hi) h61 (r := (⟨sc, (k : Int) + 1, rg', st' + 1, false, true⟩, ⟨1, ri, 0, tx, 0⟩)) (by rw [HXI.out]; simp [runStep])]
          exact ⟨_, G0 ++ G2, rfl, (by repeat (first | with_reducible exact Below.refl _ _ | with_reducible assumption | with_reducible refine bel_alloc ?_ _ | with_reducible refine bel_drew ?_ | with_reducible refine bel_drewN ?_ _ | (with_reducible refine bel_set ?_ ?_ _; rotate_left; ((try simp); (try omega))))), TMach.mk_ (x := ⟨sc, (k : Int) + 1, rg', st' + 1, false, true⟩) ⟨⟨by simp; omega, by simp; omega⟩, ⟨by simp; omega, by simp; omega⟩⟩ (by repeat (first | with_reducible exact T0U | with_reducible refine Cod.allocA ?_ _ | with_reducible refine Cod.drewA ?_ | with_reducible refine Cod.drewNA ?_ _ | ((with_reducible refine Cod.setA ?_ ?_ _); rotate_left; ((intro hm9; have hm8 := hng0 _ hm9; (try simp at hm8); (try omega)))))) (by repeat (first | with_reducible exact T2U | with_reducible refine Cod.allocA ?_ _ | with_reducible refine Cod.drewA ?_ | with_reducible refine Cod.drewNA ?_ _ | ((with_reducible refine Cod.setA ?_ ?_ _); rotate_left; ((intro hm9; have hm8 := hng2 _ hm9; (try simp at hm8); (try omega)))))), HG1.out.mono (by (try simp); (try omega))⟩
        · have hrs : RunRes V (w.heap.size + 1) (w.heap.size + 1 + 1) := HRES.out.of_block (hOV.block _ (by omega) (fun hm => by rcases List.mem_cons.1 hm with e | hm; omega; have := hng2 _ hm; omega)) (hOV.block _ (by omega) (fun hm => by rcases List.mem_cons.1 hm with e | hm; omega; have := hng2 _ hm; omega))
          have hbV : Below w.heap.size w V := hbX.trans (hOV.bel w.heap.size hbX.size (fun x hx => by rcases List.mem_cons.1 hx with e | hm; omega; have := hng2 _ hm; omega))
          have hbV2 : Below w1.heap.size V V := Below.refl _ _
          go_upto_region 25 with (fail)
          generalize hU : World.setCell V _ _ = U
          have hUs : U.heap.size = V.heap.size := by rw [← hU]; simp
          have hbU : Below w.heap.size w U := by rw [← hU]; exact bel_set hbV (by (try simp); omega) _
          have hU2 : U.heap[w.heap.size + 1]? = V.heap[w.heap.size + 1]? := by rw [← hU]; exact Below.heap_setCell _ _ _ _ (by (try simp); omega)
          have hU3 : U.heap[w.heap.size + 1 + 1]? = V.heap[w.heap.size + 1 + 1]? := by rw [← hU]; exact Below.heap_setCell _ _ _ _ (by (try simp); omega)
          have T0U : cInsS.rep U [.slice (some ⟨g0, o0, none⟩) sc.length d0] sc G0 := by rw [← hU]; exact Cod.set_ HT0'.out (fun hm => by have := hng0 _ hm; omega) _ _
          have T2U : cIS.rep U [.slice (some ⟨g, o, none⟩) 4 d2] rg' G2 := by rw [← hU]; exact Cod.set_ T2 (fun hm => by have := hng2 _ hm; omega) _ _
          have y0 : U.cell? ⟨w1.heap.size, 0, none⟩ = some (.slice (some ⟨g0, o0, none⟩) sc.length d0) := by rw [← hU]; clear hU; go_simp
          have y1 : U.cell? ⟨w1.heap.size, 1, none⟩ = some (.int .i64 ((k : Int) + 1)) := by rw [← hU]; clear hU; go_simp
          have y2 : U.cell? ⟨w1.heap.size, 2, none⟩ = some (.slice (some ⟨g, o, none⟩) 4 d2) := by rw [← hU]; clear hU; go_simp
          have y3 : U.cell? ⟨w1.heap.size, 3, none⟩ = some (.int .i64 (st' + 1)) := by rw [← hU]; clear hU; go_simp
          have y4 : U.cell? ⟨w1.heap.size, 4, none⟩ = some (.bool false) := by rw [← hU]; clear hU; go_simp
          have y5 : U.cell? ⟨w1.heap.size, 5, none⟩ = some (.bool true) := by rw [← hU]; clear hU; go_simp
          have b0 : U.cell? ⟨wk.heap.size, 0, none⟩ = some (.int .i64 6) := by rw [← hU]; clear hU; go_simp
          have b1 : U.cell? ⟨wk.heap.size, 1, none⟩ = some (.int .i64 ri) := by rw [← hU]; clear hU; go_simp
          have b2 : U.cell? ⟨wk.heap.size, 2, none⟩ = some (.int .i64 ni) := by rw [← hU]; clear hU; go_simp
          have b3 : U.cell? ⟨wk.heap.size, 3, none⟩ = some (.string tx) := by rw [← hU]; clear hU; go_simp
          obtain ⟨P0, Q0, P1, Q1, P2, Q2, P3, Q3, P4, Q4, P5, Q5, R0, S0, R1, S1, R2, S2, R3, S3, R4, S4⟩ := hrs.of_block hU2 hU3
          clear hU hU2 hU3 hrs x0 x1 x2 x3 x4 x5 z1 z3 z4 z5 c0 c1 c2 c3
          have hU4 : w1.heap.size < U.heap.size ∧ wk.heap.size < U.heap.size := by omega
          have hS : ∀ w9, Only [w.heap.size + 1, w.heap.size + 1 + 1] U w9 → w9.cell? ⟨w1.heap.size, 0, none⟩ = some (.slice (some ⟨g0, o0, none⟩) sc.length d0) ∧ w9.cell? ⟨w1.heap.size, 1, none⟩ = some (.int .i64 ((k : Int) + 1)) ∧ w9.cell? ⟨w1.heap.size, 2, none⟩ = some (.slice (some ⟨g, o, none⟩) 4 d2) ∧ w9.cell? ⟨w1.heap.size, 3, none⟩ = some (.int .i64 (st' + 1)) ∧ w9.cell? ⟨w1.heap.size, 4, none⟩ = some (.bool false) ∧ w9.cell? ⟨w1.heap.size, 5, none⟩ = some (.bool true) ∧ w9.cell? ⟨wk.heap.size, 1, none⟩ = some (.int .i64 ri) ∧ w9.cell? ⟨wk.heap.size, 2, none⟩ = some (.int .i64 ni) ∧ w9.cell? ⟨wk.heap.size, 3, none⟩ = some (.string tx) := fun w9 hb => ⟨(World.cell?_of_block (a := ⟨w1.heap.size, 0, none⟩) (hb.block _ hU4.1 (by simp; omega))).trans y0, (World.cell?_of_block (a := ⟨w1.heap.size, 1, none⟩) (hb.block _ hU4.1 (by simp; omega))).trans y1, (World.cell?_of_block (a := ⟨w1.heap.size, 2, none⟩) (hb.block _ hU4.1 (by simp; omega))).trans y2, (World.cell?_of_block (a := ⟨w1.heap.size, 3, none⟩) (hb.block _ hU4.1 (by simp; omega))).trans y3, (World.cell?_of_block (a := ⟨w1.heap.size, 4, none⟩) (hb.block _ hU4.1 (by simp; omega))).trans y4, (World.cell?_of_block (a := ⟨w1.heap.size, 5, none⟩) (hb.block _ hU4.1 (by simp; omega))).trans y5, (World.cell?_of_block (a := ⟨wk.heap.size, 1, none⟩) (hb.block _ hU4.2 (by simp; omega))).trans b1, (World.cell?_of_block (a := ⟨wk.heap.size, 2, none⟩) (hb.block _ hU4.2 (by simp; omega))).trans b2, (World.cell?_of_block (a := ⟨wk.heap.size, 3, none⟩) (hb.block _ hU4.2 (by simp; omega))).trans b3⟩
          refine wp_region_held_drew (S := (fun w9 => w9.cell? ⟨w1.heap.size, 0, none⟩ = some (.slice (some ⟨g0, o0, none⟩) sc.length d0) ∧ w9.cell? ⟨w1.heap.size, 1, none⟩ = some (.int .i64 ((k : Int) + 1)) ∧ w9.cell? ⟨w1.heap.size, 2, none⟩ = some (.slice (some ⟨g, o, none⟩) 4 d2) ∧ w9.cell? ⟨w1.heap.size, 3, none⟩ = some (.int .i64 (st' + 1)) ∧ w9.cell? ⟨w1.heap.size, 4, none⟩ = some (.bool false) ∧ w9.cell? ⟨w1.heap.size, 5, none⟩ = some (.bool true) ∧ w9.cell? ⟨wk.heap.size, 1, none⟩ = some (.int .i64 ri) ∧ w9.cell? ⟨wk.heap.size, 2, none⟩ = some (.int .i64 ni) ∧ w9.cell? ⟨wk.heap.size, 3, none⟩ = some (.string tx))) (by kernel_rfl) (by (try dsimp only); exact hS _ (by repeat (first | with_reducible exact Only.refl _ _ | with_reducible refine Only.drew ?_ | ((with_reducible refine Only.set_ ?_ ?_ _); rotate_left; (focus simp))))) (fun hHeld => ?_)
          refine take_read (i := 0) 136 (v := ?x8_v0) rfl rfl (by kernel_rfl) (by kernel_rfl) (by kernel_rfl) (fun _ _ _ h => h) (by rfl) ?x8_hy0 (by assumption) ?x8_rest0
          case x8_hy0 => (intro w hSw; (try dsimp only at hSw); go_simp; (try with_reducible rfl))
          try simp only [Act.put, List.setIfInBounds_toArray, List.set_cons_zero, List.set_cons_succ]
          refine take_read (i := 1) 137 (v := ?x8_v1) rfl rfl (by kernel_rfl) (by kernel_rfl) (by kernel_rfl) (fun _ _ _ h => h) (by rfl) ?x8_hy1 (by assumption) ?x8_rest1
          case x8_hy1 => (intro w hSw; (try dsimp only at hSw); go_simp; (try with_reducible rfl))
          try simp only [Act.put, List.setIfInBounds_toArray, List.set_cons_zero, List.set_cons_succ]
          refine take_read (i := 2) 138 (v := ?x8_v2) rfl rfl (by kernel_rfl) (by kernel_rfl) (by kernel_rfl) (fun _ _ _ h => h) (by rfl) ?x8_hy2 (by assumption) ?x8_rest2
          case x8_hy2 => (intro w hSw; (try dsimp only at hSw); go_simp; (try with_reducible rfl))
          try simp only [Act.put, List.setIfInBounds_toArray, List.set_cons_zero, List.set_cons_succ]
          refine take_read (i := 3) 139 (v := ?x8_v3) rfl rfl (by kernel_rfl) (by kernel_rfl) (by kernel_rfl) (fun _ _ _ h => h) (by rfl) ?x8_hy3 (by assumption) ?x8_rest3
          case x8_hy3 => (intro w hSw; (try dsimp only at hSw); go_simp; (try with_reducible rfl))
          try simp only [Act.put, List.setIfInBounds_toArray, List.set_cons_zero, List.set_cons_succ]
          refine take_read (i := 4) 140 (v := ?x8_v4) rfl rfl (by kernel_rfl) (by kernel_rfl) (by kernel_rfl) (fun _ _ _ h => h) (by rfl) ?x8_hy4 (by assumption) ?x8_rest4
          case x8_hy4 => (intro w hSw; (try dsimp only at hSw); go_simp; (try with_reducible rfl))
          try simp only [Act.put, List.setIfInBounds_toArray, List.set_cons_zero, List.set_cons_succ]
          refine take_read (i := 5) 141 (v := ?x8_v5) rfl rfl (by kernel_rfl) (by kernel_rfl) (by kernel_rfl) (fun _ _ _ h => h) (by rfl) ?x8_hy5 (by assumption) ?x8_rest5
          case x8_hy5 => (intro w hSw; (try dsimp only at hSw); go_simp; (try with_reducible rfl))
          try simp only [Act.put, List.setIfInBounds_toArray, List.set_cons_zero, List.set_cons_succ]
          refine take_read (i := 6) 142 (v := ?x8_v6) rfl rfl (by kernel_rfl) (by kernel_rfl) (by kernel_rfl) (fun _ _ _ h => h) (by rfl) ?x8_hy6 (by assumption) ?x8_rest6
          case x8_hy6 => (intro w hSw; (try dsimp only at hSw); go_simp; (try with_reducible rfl))
          try simp only [Act.put, List.setIfInBounds_toArray, List.set_cons_zero, List.set_cons_succ]
          refine take_read (i := 7) 143 (v := ?x8_v7) rfl rfl (by kernel_rfl) (by kernel_rfl) (by kernel_rfl) (fun _ _ _ h => h) (by rfl) ?x8_hy7 (by assumption) ?x8_rest7
          case x8_hy7 => (intro w hSw; (try dsimp only at hSw); go_simp; (try with_reducible rfl))
          try simp only [Act.put, List.setIfInBounds_toArray, List.set_cons_zero, List.set_cons_succ]
          refine wpAnyH_ready (rs := [8]) (by kernel_rfl) (by simp) ?_
          refine AllReadyH.cons rfl (fun K hK => ?_) AllReadyH.nil
          first | fail | go_simp
          refine hK.out _ _ ?_ (fun hHeld => ?_)
          · (try dsimp only)
            exact hS _ (by repeat (first | with_reducible exact Only.refl _ _ | with_reducible refine Only.drew ?_ | ((with_reducible refine Only.set_ ?_ ?_ _); rotate_left; (focus simp))))
          clear hK K
          try simp only [Act.put, List.setIfInBounds_toArray, List.set_cons_zero, List.set_cons_succ]
          refine wpAnyH_ready (rs := [9]) (by kernel_rfl) (by simp) ?_
          refine AllReadyH.cons rfl (fun K hK => ?_) AllReadyH.nil
          first | fail | go_simp
          refine hK.out _ _ ?_ (fun hHeld => ?_)
          · (try dsimp only)
            exact hS _ (by repeat (first | with_reducible exact Only.refl _ _ | with_reducible refine Only.drew ?_ | ((with_reducible refine Only.set_ ?_ ?_ _); rotate_left; (focus simp))))
          clear hK K
          try simp only [Act.put, List.setIfInBounds_toArray, List.set_cons_zero, List.set_cons_succ]
          refine wpAnyH_done (by kernel_rfl) ?_ _
          clear hS
          go_wp2_with fail
          refine sets_retD6_5 (a' := .slice none 0 0) (b' := .int .i64 0) (c' := .slice none 0 0) (d' := .int .i64 0) (e' := .bool false) (f' := .bool false) (g' := .int .i64 0) (u' := .int .i64 0) (i' := .int .i64 0) (j' := .string ⟨#[]⟩) (k' := .int .i64 0) (w.heap.size + 1) (w.heap.size + 1 + 1) (by omega) ?_ ?_ ?_ ?_ ?_ ?_ ?_ ?_ ?_ ?_ ?_ (fun W9 e9 a0 a1 a2 a3 a4 a5 b0 b1 b2 b3 b4 => ?_)
          · exact P0
          · exact P1
          · exact P2
          · exact P3
          · exact P4
          · exact P5
          · exact R0
          · exact R1
          · exact R2
          · exact R3
          · exact R4
          refine bodyPost_ret (v := .tuple #[.agg #[.slice (some ⟨g0, o0, none⟩) sc.length d0, .int .i64 ((k : Int) + 1), .slice (some ⟨g, o, none⟩) 4 d2, .int .i64 (st' + 1), .bool false, .bool true], .agg #[.int .i64 2, .int .i64 ri, .int .i64 ni, .string tx, .int .i64 0]]) (by simp [results, Try.results13, go_sem, a0, a1, a2, a3, a4, a5, b0, b1, b2, b3, b4]) rfl ?_
          clear a0 a1 a2 a3 a4 a5 b0 b1 b2 b3 b4
          subst e9
          rw [HM.out, ← HRUN.out, run_left sc k rg' st' hks (by rw [HXI.out]; exact hi) h61 (r := (⟨sc, (k : Int) + 1, rg', st' + 1, false, true⟩, ⟨2, ri, ni, tx, 0⟩)) (by rw [HXI.out]; simp [runStep])]
          exact ⟨_, G0 ++ G2, rfl, (by repeat (first | with_reducible exact Below.refl _ _ | with_reducible assumption | with_reducible refine bel_alloc ?_ _ | with_reducible refine bel_drew ?_ | with_reducible refine bel_drewN ?_ _ | (with_reducible refine bel_set ?_ ?_ _; rotate_left; ((try simp); (try omega))))), TMach.mk_ (x := ⟨sc, (k : Int) + 1, rg', st' + 1, false, true⟩) ⟨⟨by simp; omega, by simp; omega⟩, ⟨by simp; omega, by simp; omega⟩⟩ (by repeat (first | with_reducible exact T0U | with_reducible refine Cod.allocA ?_ _ | with_reducible refine Cod.drewA ?_ | with_reducible refine Cod.drewNA ?_ _ | ((with_reducible refine Cod.setA ?_ ?_ _); rotate_left; ((intro hm9; have hm8 := hng0 _ hm9; (try simp at hm8); (try omega)))))) (by repeat (first | with_reducible exact T2U | with_reducible refine Cod.allocA ?_ _ | with_reducible refine Cod.drewA ?_ | with_reducible refine Cod.drewNA ?_ _ | ((with_reducible refine Cod.setA ?_ ?_ _); rotate_left; ((intro hm9; have hm8 := hng2 _ hm9; (try simp at hm8); (try omega)))))), HG1.out.mono (by (try simp); (try omega))⟩
        · obtain ⟨i, rfl⟩ : ∃ i : Nat, ri = i := ⟨ri.toNat, by omega⟩
          have hi5 : (i : Int) < 4 := by omega
          have hi4 : i < rg'.length := by rw [HRL.out]; omega
          obtain ⟨g', o', vs, Fi, eA, -, hx, -, hcu⟩ := cL_get (hw := by decide) (hw2 := by decide) T2 hi4
          obtain ⟨rfl, rfl⟩ := slice_addr (n := 0) (m := 0) (n' := 0) (m' := 0) eA
          obtain ⟨rfl, -, hur⟩ := hx
          have u0 : V.cell? ⟨g', o' + i, none⟩ = some (.int .i64 rg'[i]) := by have := (hcu 0 _ rfl).1; rwa [show (cI).wd = 1 from rfl, Nat.mul_one, Nat.add_zero] at this
          clear hcu
          clear hur eA
          have hrs : RunRes V (w.heap.size + 1) (w.heap.size + 1 + 1) := HRES.out.of_block (hOV.block _ (by omega) (fun hm => by rcases List.mem_cons.1 hm with e | hm; omega; have := hng2 _ hm; omega)) (hOV.block _ (by omega) (fun hm => by rcases List.mem_cons.1 hm with e | hm; omega; have := hng2 _ hm; omega))
          have hbV : Below w.heap.size w V := hbX.trans (hOV.bel w.heap.size hbX.size (fun x hx => by rcases List.mem_cons.1 hx with e | hm; omega; have := hng2 _ hm; omega))
          have hbV2 : Below w1.heap.size V V := Below.refl _ _
          obtain ⟨P0, Q0, P1, Q1, P2, Q2, P3, Q3, P4, Q4, P5, Q5, R0, S0, R1, S1, R2, S2, R3, S3, R4, S4⟩ := hrs
          have hbU := hbV
          have T0U := HT0'.out
          have T2U := T2
          have hU4 : w1.heap.size < V.heap.size ∧ wk.heap.size < V.heap.size := by omega
          have hgV : g' < V.heap.size := by omega
          have hS : ∀ w9, Only [w.heap.size + 1, w.heap.size + 1 + 1] V w9 → w9.cell? ⟨w1.heap.size, 0, none⟩ = some (.slice (some ⟨g0, o0, none⟩) sc.length d0) ∧ w9.cell? ⟨w1.heap.size, 1, none⟩ = some (.int .i64 ((k : Int) + 1)) ∧ w9.cell? ⟨w1.heap.size, 2, none⟩ = some (.slice (some ⟨g', o', none⟩) 4 d2) ∧ w9.cell? ⟨w1.heap.size, 3, none⟩ = some (.int .i64 (st' + 1)) ∧ w9.cell? ⟨w1.heap.size, 4, none⟩ = some (.bool false) ∧ w9.cell? ⟨w1.heap.size, 5, none⟩ = some (.bool false) ∧ w9.cell? ⟨wk.heap.size, 1, none⟩ = some (.int .i64 (i : Int)) ∧ w9.cell? ⟨wk.heap.size, 2, none⟩ = some (.int .i64 ni) ∧ w9.cell? ⟨wk.heap.size, 3, none⟩ = some (.string tx) ∧ w9.cell? ⟨g', o' + i, none⟩ = some (.int .i64 rg'[i]) := fun w9 hb => ⟨(World.cell?_of_block (a := ⟨w1.heap.size, 0, none⟩) (hb.block _ hU4.1 (by simp; omega))).trans x0, (World.cell?_of_block (a := ⟨w1.heap.size, 1, none⟩) (hb.block _ hU4.1 (by simp; omega))).trans x1, (World.cell?_of_block (a := ⟨w1.heap.size, 2, none⟩) (hb.block _ hU4.1 (by simp; omega))).trans x2, (World.cell?_of_block (a := ⟨w1.heap.size, 3, none⟩) (hb.block _ hU4.1 (by simp; omega))).trans x3, (World.cell?_of_block (a := ⟨w1.heap.size, 4, none⟩) (hb.block _ hU4.1 (by simp; omega))).trans x4, (World.cell?_of_block (a := ⟨w1.heap.size, 5, none⟩) (hb.block _ hU4.1 (by simp; omega))).trans x5, (World.cell?_of_block (a := ⟨wk.heap.size, 1, none⟩) (hb.block _ hU4.2 (by simp; omega))).trans c1, (World.cell?_of_block (a := ⟨wk.heap.size, 2, none⟩) (hb.block _ hU4.2 (by simp; omega))).trans c2, (World.cell?_of_block (a := ⟨wk.heap.size, 3, none⟩) (hb.block _ hU4.2 (by simp; omega))).trans c3, (World.cell?_of_block (a := ⟨g', o' + i, none⟩) (hb.block _ hgV (by simp; omega))).trans u0⟩
          go_upto_region 27 with (fail)
          refine wp_region_held_drew (S := (fun w9 => w9.cell? ⟨w1.heap.size, 0, none⟩ = some (.slice (some ⟨g0, o0, none⟩) sc.length d0) ∧ w9.cell? ⟨w1.heap.size, 1, none⟩ = some (.int .i64 ((k : Int) + 1)) ∧ w9.cell? ⟨w1.heap.size, 2, none⟩ = some (.slice (some ⟨g', o', none⟩) 4 d2) ∧ w9.cell? ⟨w1.heap.size, 3, none⟩ = some (.int .i64 (st' + 1)) ∧ w9.cell? ⟨w1.heap.size, 4, none⟩ = some (.bool false) ∧ w9.cell? ⟨w1.heap.size, 5, none⟩ = some (.bool false) ∧ w9.cell? ⟨wk.heap.size, 1, none⟩ = some (.int .i64 (i : Int)) ∧ w9.cell? ⟨wk.heap.size, 2, none⟩ = some (.int .i64 ni) ∧ w9.cell? ⟨wk.heap.size, 3, none⟩ = some (.string tx) ∧ w9.cell? ⟨g', o' + i, none⟩ = some (.int .i64 rg'[i]))) (by kernel_rfl) (by (try dsimp only); exact hS _ (by repeat (first | with_reducible exact Only.refl _ _ | with_reducible refine Only.drew ?_ | ((with_reducible refine Only.set_ ?_ ?_ _); rotate_left; (focus simp))))) (fun hHeld => ?_)
          refine take_read (i := 0) 146 (v := ?x9_v0) rfl rfl (by kernel_rfl) (by kernel_rfl) (by kernel_rfl) (fun _ _ _ h => h) (by rfl) ?x9_hy0 (by assumption) ?x9_rest0
          case x9_hy0 => (intro w hSw; (try dsimp only at hSw); go_simp; (try with_reducible rfl))
          try simp only [Act.put, List.setIfInBounds_toArray, List.set_cons_zero, List.set_cons_succ]
          refine take_read (i := 1) 147 (v := ?x9_v1) rfl rfl (by kernel_rfl) (by kernel_rfl) (by kernel_rfl) (fun _ _ _ h => h) (by rfl) ?x9_hy1 (by assumption) ?x9_rest1
          case x9_hy1 => (intro w hSw; (try dsimp only at hSw); go_simp; (try with_reducible rfl))
          try simp only [Act.put, List.setIfInBounds_toArray, List.set_cons_zero, List.set_cons_succ]
          refine take_read (i := 2) 148 (v := ?x9_v2) rfl rfl (by kernel_rfl) (by kernel_rfl) (by kernel_rfl) (fun _ _ _ h => h) (by rfl) ?x9_hy2 (by assumption) ?x9_rest2
          case x9_hy2 => (intro w hSw; (try dsimp only at hSw); go_simp; (try with_reducible rfl))
          try simp only [Act.put, List.setIfInBounds_toArray, List.set_cons_zero, List.set_cons_succ]
          refine take_read (i := 3) 149 (v := ?x9_v3) rfl rfl (by kernel_rfl) (by kernel_rfl) (by kernel_rfl) (fun _ _ _ h => h) (by rfl) ?x9_hy3 (by assumption) ?x9_rest3
          case x9_hy3 => (intro w hSw; (try dsimp only at hSw); go_simp; (try with_reducible rfl))
          try simp only [Act.put, List.setIfInBounds_toArray, List.set_cons_zero, List.set_cons_succ]
          refine take_read (i := 4) 150 (v := ?x9_v4) rfl rfl (by kernel_rfl) (by kernel_rfl) (by kernel_rfl) (fun _ _ _ h => h) (by rfl) ?x9_hy4 (by assumption) ?x9_rest4
          case x9_hy4 => (intro w hSw; (try dsimp only at hSw); go_simp; (try with_reducible rfl))
          try simp only [Act.put, List.setIfInBounds_toArray, List.set_cons_zero, List.set_cons_succ]
          refine take_read (i := 5) 151 (v := ?x9_v5) rfl rfl (by kernel_rfl) (by kernel_rfl) (by kernel_rfl) (fun _ _ _ h => h) (by rfl) ?x9_hy5 (by assumption) ?x9_rest5
          case x9_hy5 => (intro w hSw; (try dsimp only at hSw); go_simp; (try with_reducible rfl))
          try simp only [Act.put, List.setIfInBounds_toArray, List.set_cons_zero, List.set_cons_succ]
          refine take_read (i := 6) 152 (v := ?x9_v6) rfl rfl (by kernel_rfl) (by kernel_rfl) (by kernel_rfl) (fun _ _ _ h => h) (by rfl) ?x9_hy6 (by assumption) ?x9_rest6
          case x9_hy6 => (intro w hSw; (try dsimp only at hSw); go_simp; (try with_reducible rfl))
          try simp only [Act.put, List.setIfInBounds_toArray, List.set_cons_zero, List.set_cons_succ]
          refine take_read (i := 7) 153 (v := ?x9_v7) rfl rfl (by kernel_rfl) (by kernel_rfl) (by kernel_rfl) (fun _ _ _ h => h) (by rfl) ?x9_hy7 (by assumption) ?x9_rest7
          case x9_hy7 => (intro w hSw; (try dsimp only at hSw); go_simp; (try with_reducible rfl))
          try simp only [Act.put, List.setIfInBounds_toArray, List.set_cons_zero, List.set_cons_succ]
          refine take_read (i := 8) 154 (v := ?x9_v8) rfl rfl (by kernel_rfl) (by kernel_rfl) (by kernel_rfl) (fun _ _ _ h => h) (by rfl) ?x9_hy8 (by assumption) ?x9_rest8
          case x9_hy8 => (intro w hSw; (try dsimp only at hSw); go_simp; (try with_reducible rfl))
          try simp only [Act.put, List.setIfInBounds_toArray, List.set_cons_zero, List.set_cons_succ]
          refine take_read (i := 9) 155 (v := ?x9_v9) rfl rfl (by kernel_rfl) (by kernel_rfl) (by kernel_rfl) (fun _ _ _ h => h) (by rfl) ?x9_hy9 (by assumption) ?x9_rest9
          case x9_hy9 => (intro w hSw; (try dsimp only at hSw); go_simp; (try with_reducible rfl))
          try simp only [Act.put, List.setIfInBounds_toArray, List.set_cons_zero, List.set_cons_succ]
          refine take_read (i := 10) 156 (v := ?x9_v10) rfl rfl (by kernel_rfl) (by kernel_rfl) (by kernel_rfl) (fun _ _ _ h => h) (by rfl) ?x9_hy10 (by assumption) ?x9_rest10
          case x9_hy10 => (intro w hSw; (try dsimp only at hSw); go_simp; (try with_reducible rfl))
          try simp only [Act.put, List.setIfInBounds_toArray, List.set_cons_zero, List.set_cons_succ]
          refine take_read (i := 11) 157 (v := ?x9_v11) rfl rfl (by kernel_rfl) (by kernel_rfl) (by kernel_rfl) (fun _ _ _ h => h) (by rfl) ?x9_hy11 (by assumption) ?x9_rest11
          case x9_hy11 => (intro w hSw; (try dsimp only at hSw); go_simp; (try with_reducible rfl))
          try simp only [Act.put, List.setIfInBounds_toArray, List.set_cons_zero, List.set_cons_succ]
          refine wpAnyH_ready (rs := [12]) (by kernel_rfl) (by simp) ?_
          refine AllReadyH.cons rfl (fun K hK => ?_) AllReadyH.nil
          first | fail | go_simp
          refine hK.out _ _ ?_ (fun hHeld => ?_)
          · (try dsimp only)
            exact hS _ (by repeat (first | with_reducible exact Only.refl _ _ | with_reducible refine Only.drew ?_ | ((with_reducible refine Only.set_ ?_ ?_ _); rotate_left; (focus simp))))
          clear hK K
          try simp only [Act.put, List.setIfInBounds_toArray, List.set_cons_zero, List.set_cons_succ]
          refine wpAnyH_ready (rs := [13]) (by kernel_rfl) (by simp) ?_
          refine AllReadyH.cons rfl (fun K hK => ?_) AllReadyH.nil
          first | fail | go_simp
          refine hK.out _ _ ?_ (fun hHeld => ?_)
          · (try dsimp only)
            exact hS _ (by repeat (first | with_reducible exact Only.refl _ _ | with_reducible refine Only.drew ?_ | ((with_reducible refine Only.set_ ?_ ?_ _); rotate_left; (focus simp))))
          clear hK K
          try simp only [Act.put, List.setIfInBounds_toArray, List.set_cons_zero, List.set_cons_succ]
          refine wpAnyH_done (by kernel_rfl) ?_ _
          clear hS
          go_wp2_with fail
          refine sets_retD6_5 (a' := .slice none 0 0) (b' := .int .i64 0) (c' := .slice none 0 0) (d' := .int .i64 0) (e' := .bool false) (f' := .bool false) (g' := .int .i64 0) (u' := .int .i64 0) (i' := .int .i64 0) (j' := .string ⟨#[]⟩) (k' := .int .i64 0) (w.heap.size + 1) (w.heap.size + 1 + 1) (by omega) ?_ ?_ ?_ ?_ ?_ ?_ ?_ ?_ ?_ ?_ ?_ (fun W9 e9 a0 a1 a2 a3 a4 a5 b0 b1 b2 b3 b4 => ?_)
          · exact P0
          · exact P1
          · exact P2
          · exact P3
          · exact P4
          · exact P5
          · exact R0
          · exact R1
          · exact R2
          · exact R3
          · exact R4
          refine bodyPost_ret (v := .tuple #[.agg #[.slice (some ⟨g0, o0, none⟩) sc.length d0, .int .i64 ((k : Int) + 1), .slice (some ⟨g', o', none⟩) 4 d2, .int .i64 (st' + 1), .bool false, .bool false], .agg #[.int .i64 3, .int .i64 0, .int .i64 ni, .string tx, .int .i64 rg'[i]]]) (by simp [results, Try.results13, go_sem, a0, a1, a2, a3, a4, a5, b0, b1, b2, b3, b4]) rfl ?_
          clear a0 a1 a2 a3 a4 a5 b0 b1 b2 b3 b4
          subst e9
          rw [HM.out, ← HRUN.out, run_left sc k rg' st' hks (by rw [HXI.out]; exact hi) h61 (r := (⟨sc, (k : Int) + 1, rg', st' + 1, false, false⟩, ⟨3, 0, ni, tx, rg'[i]⟩)) (by rw [HXI.out]; simp [runStep, regAt_get hi4])]
          exact ⟨_, G0 ++ G2, rfl, (by repeat (first | with_reducible exact Below.refl _ _ | with_reducible assumption | with_reducible refine bel_alloc ?_ _ | with_reducible refine bel_drew ?_ | with_reducible refine bel_drewN ?_ _ | (with_reducible refine bel_set ?_ ?_ _; rotate_left; ((try simp); (try omega))))), TMach.mk_ (x := ⟨sc, (k : Int) + 1, rg', st' + 1, false, false⟩) ⟨⟨by simp; omega, by simp; omega⟩, ⟨by simp; omega, by simp; omega⟩⟩ (by repeat (first | with_reducible exact T0U | with_reducible refine Cod.allocA ?_ _ | with_reducible refine Cod.drewA ?_ | with_reducible refine Cod.drewNA ?_ _ | ((with_reducible refine Cod.setA ?_ ?_ _); rotate_left; ((intro hm9; have hm8 := hng0 _ hm9; (try simp at hm8); (try omega)))))) (by repeat (first | with_reducible exact T2U | with_reducible refine Cod.allocA ?_ _ | with_reducible refine Cod.drewA ?_ | with_reducible refine Cod.drewNA ?_ _ | ((with_reducible refine Cod.setA ?_ ?_ _); rotate_left; ((intro hm9; have hm8 := hng2 _ hm9; (try simp at hm8); (try omega)))))), HG1.out.mono (by (try simp); (try omega))⟩
        · obtain ⟨i, rfl⟩ : ∃ i : Nat, ri = i := ⟨ri.toNat, by omega⟩
          have hi5 : (i : Int) < 4 := by omega
          have hi4 : i < rg'.length := by rw [HRL.out]; omega
          obtain ⟨g', o', vs, Fi, eA, -, hx, -, hcu⟩ := cL_get (hw := by decide) (hw2 := by decide) T2 hi4
          obtain ⟨rfl, rfl⟩ := slice_addr (n := 0) (m := 0) (n' := 0) (m' := 0) eA
          obtain ⟨rfl, -, hur⟩ := hx
          have u0 : V.cell? ⟨g', o' + i, none⟩ = some (.int .i64 rg'[i]) := by have := (hcu 0 _ rfl).1; rwa [show (cI).wd = 1 from rfl, Nat.mul_one, Nat.add_zero] at this
          clear hcu
          clear hur eA
          have hrs : RunRes V (w.heap.size + 1) (w.heap.size + 1 + 1) := HRES.out.of_block (hOV.block _ (by omega) (fun hm => by rcases List.mem_cons.1 hm with e | hm; omega; have := hng2 _ hm; omega)) (hOV.block _ (by omega) (fun hm => by rcases List.mem_cons.1 hm with e | hm; omega; have := hng2 _ hm; omega))
          have hbV : Below w.heap.size w V := hbX.trans (hOV.bel w.heap.size hbX.size (fun x hx => by rcases List.mem_cons.1 hx with e | hm; omega; have := hng2 _ hm; omega))
          have hbV2 : Below w1.heap.size V V := Below.refl _ _
          obtain ⟨P0, Q0, P1, Q1, P2, Q2, P3, Q3, P4, Q4, P5, Q5, R0, S0, R1, S1, R2, S2, R3, S3, R4, S4⟩ := hrs
          have hbU := hbV
          have T0U := HT0'.out
          have T2U := T2
          have hU4 : w1.heap.size < V.heap.size ∧ wk.heap.size < V.heap.size := by omega
          have hgV : g' < V.heap.size := by omega
          have hS : ∀ w9, Only [w.heap.size + 1, w.heap.size + 1 + 1] V w9 → w9.cell? ⟨w1.heap.size, 0, none⟩ = some (.slice (some ⟨g0, o0, none⟩) sc.length d0) ∧ w9.cell? ⟨w1.heap.size, 1, none⟩ = some (.int .i64 ((k : Int) + 1)) ∧ w9.cell? ⟨w1.heap.size, 2, none⟩ = some (.slice (some ⟨g', o', none⟩) 4 d2) ∧ w9.cell? ⟨w1.heap.size, 3, none⟩ = some (.int .i64 (st' + 1)) ∧ w9.cell? ⟨w1.heap.size, 4, none⟩ = some (.bool false) ∧ w9.cell? ⟨w1.heap.size, 5, none⟩ = some (.bool false) ∧ w9.cell? ⟨wk.heap.size, 1, none⟩ = some (.int .i64 (i : Int)) ∧ w9.cell? ⟨wk.heap.size, 2, none⟩ = some (.int .i64 ni) ∧ w9.cell? ⟨wk.heap.size, 3, none⟩ = some (.string tx) ∧ w9.cell? ⟨g', o' + i, none⟩ = some (.int .i64 rg'[i]) := fun w9 hb => ⟨(World.cell?_of_block (a := ⟨w1.heap.size, 0, none⟩) (hb.block _ hU4.1 (by simp; omega))).trans x0, (World.cell?_of_block (a := ⟨w1.heap.size, 1, none⟩) (hb.block _ hU4.1 (by simp; omega))).trans x1, (World.cell?_of_block (a := ⟨w1.heap.size, 2, none⟩) (hb.block _ hU4.1 (by simp; omega))).trans x2, (World.cell?_of_block (a := ⟨w1.heap.size, 3, none⟩) (hb.block _ hU4.1 (by simp; omega))).trans x3, (World.cell?_of_block (a := ⟨w1.heap.size, 4, none⟩) (hb.block _ hU4.1 (by simp; omega))).trans x4, (World.cell?_of_block (a := ⟨w1.heap.size, 5, none⟩) (hb.block _ hU4.1 (by simp; omega))).trans x5, (World.cell?_of_block (a := ⟨wk.heap.size, 1, none⟩) (hb.block _ hU4.2 (by simp; omega))).trans c1, (World.cell?_of_block (a := ⟨wk.heap.size, 2, none⟩) (hb.block _ hU4.2 (by simp; omega))).trans c2, (World.cell?_of_block (a := ⟨wk.heap.size, 3, none⟩) (hb.block _ hU4.2 (by simp; omega))).trans c3, (World.cell?_of_block (a := ⟨g', o' + i, none⟩) (hb.block _ hgV (by simp; omega))).trans u0⟩
          go_upto_region 29 with (fail)
          refine wp_region_held_drew (S := (fun w9 => w9.cell? ⟨w1.heap.size, 0, none⟩ = some (.slice (some ⟨g0, o0, none⟩) sc.length d0) ∧ w9.cell? ⟨w1.heap.size, 1, none⟩ = some (.int .i64 ((k : Int) + 1)) ∧ w9.cell? ⟨w1.heap.size, 2, none⟩ = some (.slice (some ⟨g', o', none⟩) 4 d2) ∧ w9.cell? ⟨w1.heap.size, 3, none⟩ = some (.int .i64 (st' + 1)) ∧ w9.cell? ⟨w1.heap.size, 4, none⟩ = some (.bool false) ∧ w9.cell? ⟨w1.heap.size, 5, none⟩ = some (.bool false) ∧ w9.cell? ⟨wk.heap.size, 1, none⟩ = some (.int .i64 (i : Int)) ∧ w9.cell? ⟨wk.heap.size, 2, none⟩ = some (.int .i64 ni) ∧ w9.cell? ⟨wk.heap.size, 3, none⟩ = some (.string tx) ∧ w9.cell? ⟨g', o' + i, none⟩ = some (.int .i64 rg'[i]))) (by kernel_rfl) (by (try dsimp only); exact hS _ (by repeat (first | with_reducible exact Only.refl _ _ | with_reducible refine Only.drew ?_ | ((with_reducible refine Only.set_ ?_ ?_ _); rotate_left; (focus simp))))) (fun hHeld => ?_)
          refine take_read (i := 0) 160 (v := ?x10_v0) rfl rfl (by kernel_rfl) (by kernel_rfl) (by kernel_rfl) (fun _ _ _ h => h) (by rfl) ?x10_hy0 (by assumption) ?x10_rest0
          case x10_hy0 => (intro w hSw; (try dsimp only at hSw); go_simp; (try with_reducible rfl))
          try simp only [Act.put, List.setIfInBounds_toArray, List.set_cons_zero, List.set_cons_succ]
          refine take_read (i := 1) 161 (v := ?x10_v1) rfl rfl (by kernel_rfl) (by kernel_rfl) (by kernel_rfl) (fun _ _ _ h => h) (by rfl) ?x10_hy1 (by assumption) ?x10_rest1
          case x10_hy1 => (intro w hSw; (try dsimp only at hSw); go_simp; (try with_reducible rfl))
          try simp only [Act.put, List.setIfInBounds_toArray, List.set_cons_zero, List.set_cons_succ]
          refine take_read (i := 2) 162 (v := ?x10_v2) rfl rfl (by kernel_rfl) (by kernel_rfl) (by kernel_rfl) (fun _ _ _ h => h) (by rfl) ?x10_hy2 (by assumption) ?x10_rest2
          case x10_hy2 => (intro w hSw; (try dsimp only at hSw); go_simp; (try with_reducible rfl))
          try simp only [Act.put, List.setIfInBounds_toArray, List.set_cons_zero, List.set_cons_succ]
          refine take_read (i := 3) 163 (v := ?x10_v3) rfl rfl (by kernel_rfl) (by kernel_rfl) (by kernel_rfl) (fun _ _ _ h => h) (by rfl) ?x10_hy3 (by assumption) ?x10_rest3
          case x10_hy3 => (intro w hSw; (try dsimp only at hSw); go_simp; (try with_reducible rfl))
          try simp only [Act.put, List.setIfInBounds_toArray, List.set_cons_zero, List.set_cons_succ]
          refine take_read (i := 4) 164 (v := ?x10_v4) rfl rfl (by kernel_rfl) (by kernel_rfl) (by kernel_rfl) (fun _ _ _ h => h) (by rfl) ?x10_hy4 (by assumption) ?x10_rest4
          case x10_hy4 => (intro w hSw; (try dsimp only at hSw); go_simp; (try with_reducible rfl))
          try simp only [Act.put, List.setIfInBounds_toArray, List.set_cons_zero, List.set_cons_succ]
          refine take_read (i := 5) 165 (v := ?x10_v5) rfl rfl (by kernel_rfl) (by kernel_rfl) (by kernel_rfl) (fun _ _ _ h => h) (by rfl) ?x10_hy5 (by assumption) ?x10_rest5
          case x10_hy5 => (intro w hSw; (try dsimp only at hSw); go_simp; (try with_reducible rfl))
          try simp only [Act.put, List.setIfInBounds_toArray, List.set_cons_zero, List.set_cons_succ]
          refine take_read (i := 6) 166 (v := ?x10_v6) rfl rfl (by kernel_rfl) (by kernel_rfl) (by kernel_rfl) (fun _ _ _ h => h) (by rfl) ?x10_hy6 (by assumption) ?x10_rest6
          case x10_hy6 => (intro w hSw; (try dsimp only at hSw); go_simp; (try with_reducible rfl))
          try simp only [Act.put, List.setIfInBounds_toArray, List.set_cons_zero, List.set_cons_succ]
          refine take_read (i := 7) 167 (v := ?x10_v7) rfl rfl (by kernel_rfl) (by kernel_rfl) (by kernel_rfl) (fun _ _ _ h => h) (by rfl) ?x10_hy7 (by assumption) ?x10_rest7
          case x10_hy7 => (intro w hSw; (try dsimp only at hSw); go_simp; (try with_reducible rfl))
          try simp only [Act.put, List.setIfInBounds_toArray, List.set_cons_zero, List.set_cons_succ]
          refine take_read (i := 8) 168 (v := ?x10_v8) rfl rfl (by kernel_rfl) (by kernel_rfl) (by kernel_rfl) (fun _ _ _ h => h) (by rfl) ?x10_hy8 (by assumption) ?x10_rest8
          case x10_hy8 => (intro w hSw; (try dsimp only at hSw); go_simp; (try with_reducible rfl))
          try simp only [Act.put, List.setIfInBounds_toArray, List.set_cons_zero, List.set_cons_succ]
          refine take_read (i := 9) 169 (v := ?x10_v9) rfl rfl (by kernel_rfl) (by kernel_rfl) (by kernel_rfl) (fun _ _ _ h => h) (by rfl) ?x10_hy9 (by assumption) ?x10_rest9
          case x10_hy9 => (intro w hSw; (try dsimp only at hSw); go_simp; (try with_reducible rfl))
          try simp only [Act.put, List.setIfInBounds_toArray, List.set_cons_zero, List.set_cons_succ]
          refine take_read (i := 10) 170 (v := ?x10_v10) rfl rfl (by kernel_rfl) (by kernel_rfl) (by kernel_rfl) (fun _ _ _ h => h) (by rfl) ?x10_hy10 (by assumption) ?x10_rest10
          case x10_hy10 => (intro w hSw; (try dsimp only at hSw); go_simp; (try with_reducible rfl))
          try simp only [Act.put, List.setIfInBounds_toArray, List.set_cons_zero, List.set_cons_succ]
          refine take_read (i := 11) 171 (v := ?x10_v11) rfl rfl (by kernel_rfl) (by kernel_rfl) (by kernel_rfl) (fun _ _ _ h => h) (by rfl) ?x10_hy11 (by assumption) ?x10_rest11
          case x10_hy11 => (intro w hSw; (try dsimp only at hSw); go_simp; (try with_reducible rfl))
          try simp only [Act.put, List.setIfInBounds_toArray, List.set_cons_zero, List.set_cons_succ]
          refine wpAnyH_ready (rs := [12]) (by kernel_rfl) (by simp) ?_
          refine AllReadyH.cons rfl (fun K hK => ?_) AllReadyH.nil
          first | fail | go_simp
          refine hK.out _ _ ?_ (fun hHeld => ?_)
          · (try dsimp only)
            exact hS _ (by repeat (first | with_reducible exact Only.refl _ _ | with_reducible refine Only.drew ?_ | ((with_reducible refine Only.set_ ?_ ?_ _); rotate_left; (focus simp))))
          clear hK K
          try simp only [Act.put, List.setIfInBounds_toArray, List.set_cons_zero, List.set_cons_succ]
          refine wpAnyH_ready (rs := [13]) (by kernel_rfl) (by simp) ?_
          refine AllReadyH.cons rfl (fun K hK => ?_) AllReadyH.nil
          first | fail | go_simp
          refine hK.out _ _ ?_ (fun hHeld => ?_)
          · (try dsimp only)
            exact hS _ (by repeat (first | with_reducible exact Only.refl _ _ | with_reducible refine Only.drew ?_ | ((with_reducible refine Only.set_ ?_ ?_ _); rotate_left; (focus simp))))
          clear hK K
          try simp only [Act.put, List.setIfInBounds_toArray, List.set_cons_zero, List.set_cons_succ]
          refine wpAnyH_done (by kernel_rfl) ?_ _
          clear hS
          go_wp2_with fail
          refine sets_retD6_5 (a' := .slice none 0 0) (b' := .int .i64 0) (c' := .slice none 0 0) (d' := .int .i64 0) (e' := .bool false) (f' := .bool false) (g' := .int .i64 0) (u' := .int .i64 0) (i' := .int .i64 0) (j' := .string ⟨#[]⟩) (k' := .int .i64 0) (w.heap.size + 1) (w.heap.size + 1 + 1) (by omega) ?_ ?_ ?_ ?_ ?_ ?_ ?_ ?_ ?_ ?_ ?_ (fun W9 e9 a0 a1 a2 a3 a4 a5 b0 b1 b2 b3 b4 => ?_)
          · exact P0
          · exact P1
          · exact P2
          · exact P3
          · exact P4
          · exact P5
          · exact R0
          · exact R1
          · exact R2
          · exact R3
          · exact R4
          refine bodyPost_ret (v := .tuple #[.agg #[.slice (some ⟨g0, o0, none⟩) sc.length d0, .int .i64 ((k : Int) + 1), .slice (some ⟨g', o', none⟩) 4 d2, .int .i64 (st' + 1), .bool false, .bool false], .agg #[.int .i64 4, .int .i64 0, .int .i64 ni, .string tx, .int .i64 rg'[i]]]) (by simp [results, Try.results13, go_sem, a0, a1, a2, a3, a4, a5, b0, b1, b2, b3, b4]) rfl ?_
          clear a0 a1 a2 a3 a4 a5 b0 b1 b2 b3 b4
          subst e9
          rw [HM.out, ← HRUN.out, run_left sc k rg' st' hks (by rw [HXI.out]; exact hi) h61 (r := (⟨sc, (k : Int) + 1, rg', st' + 1, false, false⟩, ⟨4, 0, ni, tx, rg'[i]⟩)) (by rw [HXI.out]; simp [runStep, regAt_get hi4])]
          exact ⟨_, G0 ++ G2, rfl, (by repeat (first | with_reducible exact Below.refl _ _ | with_reducible assumption | with_reducible refine bel_alloc ?_ _ | with_reducible refine bel_drew ?_ | with_reducible refine bel_drewN ?_ _ | (with_reducible refine bel_set ?_ ?_ _; rotate_left; ((try simp); (try omega))))), TMach.mk_ (x := ⟨sc, (k : Int) + 1, rg', st' + 1, false, false⟩) ⟨⟨by simp; omega, by simp; omega⟩, ⟨by simp; omega, by simp; omega⟩⟩ (by repeat (first | with_reducible exact T0U | with_reducible refine Cod.allocA ?_ _ | with_reducible refine Cod.drewA ?_ | with_reducible refine Cod.drewNA ?_ _ | ((with_reducible refine Cod.setA ?_ ?_ _); rotate_left; ((intro hm9; have hm8 := hng0 _ hm9; (try simp at hm8); (try omega)))))) (by repeat (first | with_reducible exact T2U | with_reducible refine Cod.allocA ?_ _ | with_reducible refine Cod.drewA ?_ | with_reducible refine Cod.drewNA ?_ _ | ((with_reducible refine Cod.setA ?_ ?_ _); rotate_left; ((intro hm9; have hm8 := hng2 _ hm9; (try simp at hm8); (try omega)))))), HG1.out.mono (by (try simp); (try omega))⟩
        · have hrs : RunRes V (w.heap.size + 1) (w.heap.size + 1 + 1) := HRES.out.of_block (hOV.block _ (by omega) (fun hm => by rcases List.mem_cons.1 hm with e | hm; omega; have := hng2 _ hm; omega)) (hOV.block _ (by omega) (fun hm => by rcases List.mem_cons.1 hm with e | hm; omega; have := hng2 _ hm; omega))
          have hbV : Below w.heap.size w V := hbX.trans (hOV.bel w.heap.size hbX.size (fun x hx => by rcases List.mem_cons.1 hx with e | hm; omega; have := hng2 _ hm; omega))
          have hbV2 : Below w1.heap.size V V := Below.refl _ _
          obtain ⟨P0, Q0, P1, Q1, P2, Q2, P3, Q3, P4, Q4, P5, Q5, R0, S0, R1, S1, R2, S2, R3, S3, R4, S4⟩ := hrs
          have hbU := hbV
          have T0U := HT0'.out
          have T2U := T2
          have hq1 : ¬ w1.heap.size = w.heap.size + 1 := by omega
          have hq2 : ¬ w1.heap.size = w.heap.size + 1 + 1 := by omega
          have hq3 : ¬ w.heap.size + 1 = w1.heap.size := by omega
          have hq4 : ¬ w.heap.size + 1 + 1 = w1.heap.size := by omega
          go_wp2_with fail
          refine sets_ret6_5 (a' := .slice none 0 0) (b' := .int .i64 0) (c' := .slice none 0 0) (d' := .int .i64 0) (e' := .bool false) (f' := .bool false) (g' := .int .i64 0) (u' := .int .i64 0) (i' := .int .i64 0) (j' := .string ⟨#[]⟩) (k' := .int .i64 0) (w.heap.size + 1) (w.heap.size + 1 + 1) (by omega) ?_ ?_ ?_ ?_ ?_ ?_ ?_ ?_ ?_ ?_ ?_ (fun W9 e9 a0 a1 a2 a3 a4 a5 b0 b1 b2 b3 b4 => ?_)
          · exact setNe (by omega) P0
          · exact setNe (by omega) P1
          · exact setNe (by omega) P2
          · exact setNe (by omega) P3
          · exact setNe (by omega) P4
          · exact setNe (by omega) P5
          · exact setNe (by omega) R0
          · exact setNe (by omega) R1
          · exact setNe (by omega) R2
          · exact setNe (by omega) R3
          · exact setNe (by omega) R4
          refine bodyPost_ret (v := .tuple #[.agg #[.slice (some ⟨g0, o0, none⟩) sc.length d0, .int .i64 ((k : Int) + 1), .slice (some ⟨g, o, none⟩) 4 d2, .int .i64 (st' + 1), .bool true, .bool false], .agg #[.int .i64 0, .int .i64 0, .int .i64 0, .string ⟨#[]⟩, .int .i64 0]]) (by simp [results, Try.results13, go_sem, a0, a1, a2, a3, a4, a5, b0, b1, b2, b3, b4]) rfl ?_
          clear a0 a1 a2 a3 a4 a5 b0 b1 b2 b3 b4
          subst e9
          rw [HM.out, ← HRUN.out, run_left sc k rg' st' hks (by rw [HXI.out]; exact hi) h61 (r := (⟨sc, (k : Int) + 1, rg', st' + 1, true, false⟩, ask0)) (by rw [HXI.out]; simp [runStep])]
          exact ⟨_, G0 ++ G2, rfl, (by repeat (first | with_reducible exact Below.refl _ _ | with_reducible assumption | with_reducible refine bel_alloc ?_ _ | with_reducible refine bel_drew ?_ | with_reducible refine bel_drewN ?_ _ | (with_reducible refine bel_set ?_ ?_ _; rotate_left; ((try simp); (try omega))))), TMach.mk_ (x := ⟨sc, (k : Int) + 1, rg', st' + 1, true, false⟩) ⟨⟨by simp; omega, by simp; omega⟩, ⟨by simp; omega, by simp; omega⟩⟩ (by repeat (first | with_reducible exact T0U | with_reducible refine Cod.allocA ?_ _ | with_reducible refine Cod.drewA ?_ | with_reducible refine Cod.drewNA ?_ _ | ((with_reducible refine Cod.setA ?_ ?_ _); rotate_left; ((intro hm9; have hm8 := hng0 _ hm9; (try simp at hm8); (try omega)))))) (by repeat (first | with_reducible exact T2U | with_reducible refine Cod.allocA ?_ _ | with_reducible refine Cod.drewA ?_ | with_reducible refine Cod.drewNA ?_ _ | ((with_reducible refine Cod.setA ?_ ?_ _); rotate_left; ((intro hm9; have hm8 := hng2 _ hm9; (try simp at hm8); (try omega)))))), HG1.out.mono (by (try simp); (try omega))⟩
end Go.Proofs.Ytlicnppfgfjkgaa
