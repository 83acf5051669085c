/-
  AnswerMachine of the program and of the reference. No conditions.
-/
import Derived.Test.YteipaolcmjfhdaaCopyMach
import Derived.Test.YteipaolcmjfhdaaUpd
import Derived.Test.YteipaolcmjfhdaaName
namespace Go.Proofs.Yteipaolcmjfhdaa
open Go.ChangeShapes Go.WideShapes Go.RowKit
set_option linter.unusedVariables false

def answerMachine (x : TMach) (r n : Int) : TMach × Bool :=
  bif x.wait && inR r 0 (x.regs.length - 1) && inR n (-1) 1000 then (⟨x.script, x.pc, x.regs.set r.toNat n, x.steps, x.done, false⟩, true) else (x, false)
set_option maxRecDepth 100000 in
set_option maxHeartbeats 8000000 in
theorem implAnswerMachine_any (vs : Array Value) (x : TMach) (F : List Nat) (r n : Int) (w : World) (h : cMach.rep w vs.toList x F) (hn : cMach.sz x ≤ 1048576) (hr1 : -9223372036854775808 ≤ r ∧ r ≤ 9223372036854775807) (hn1 : -9223372036854775808 ≤ n ∧ n ≤ 9223372036854775807) :
    Calls Try.prog 27 #[.agg vs, .int .i64 r, .int .i64 n] w (GivesR2 cMach w (answerMachine x r n).1 (.bool (answerMachine x r n).2)) := by
  have hr := h
  obtain ⟨u0, u2, E0, E2, rfl, -, hok, s0, s2⟩ := TMach.outA h
  obtain ⟨A0, c0, rfl⟩ := cL_form s0
  obtain ⟨A2, c2, rfl⟩ := cL_form s2
  obtain ⟨-, hc2, hm2⟩ := cL_len s2
  have hlens := TMach.lens hn
  clear h s0 s2
  have HF := Lib.hid (show (x.wait && inR r 0 (x.regs.length - 1) && inR n (-1) 1000) = false → GivesR2 cMach w x (.bool false) = GivesR2 cMach w (answerMachine x r n).1 (.bool (answerMachine x r n).2) from fun e => by unfold answerMachine; rw [e]; rfl)
  obtain ⟨sc, pc, rg, st, dn, wt⟩ := x
  simp only at *
  cases wt
  · rw [← HF.out (by first | (simp; done) | (simp [inR_low (show r < 0 by omega)]; done) | (simp [inR_high (show (rg.length : Int) - 1 < r by omega)]; done) | (simp [*]; done))]
    go_enter Try.func27, Try.ntmps27
    go_wp2_with fail
    refine (implCopyMachine_any _ ⟨sc, pc, rg, st, dn, false⟩ _ _ (by exact Cod.bel hr (by repeat (first | with_reducible exact Below.refl _ _ | with_reducible assumption | with_reducible refine bel_alloc ?_ _ | with_reducible refine bel_drew ?_ | with_reducible refine bel_drewN ?_ _ | (with_reducible refine bel_set ?_ ?_ _; rotate_left; ((try simp); (try omega)))))) hn).mono ?_
    rintro e w1 ⟨vs1, G1, rfl, hb1, hrep, hf1⟩
    obtain ⟨v0, v2, G0, G2, rfl, rfl, -, t0, t2⟩ := TMach.outA hrep
    obtain ⟨B0, d0, rfl⟩ := cL_form t0
    obtain ⟨B2, d2, rfl⟩ := cL_form t2
    have hz_w1 := hb1.size
    (try simp at hz_w1)
    have ha0_w1 : w.heap.size < w1.heap.size := by omega
    have ha1_w1 : w.heap.size + 1 < w1.heap.size := by omega
    obtain ⟨hc_w1, hf_w1, -⟩ := bcell hb1
    have hb_w1 : Below w.heap.size w w1 := bel_then (by repeat (first | with_reducible exact Below.refl _ _ | with_reducible assumption | with_reducible refine bel_alloc ?_ _ | with_reducible refine bel_drew ?_ | with_reducible refine bel_drewN ?_ _ | (with_reducible refine bel_set ?_ ?_ _; rotate_left; ((try simp); (try omega))))) hb1
    have hg1 : Fresh (w.heap.size + 1 + 1) (G0 ++ G2) := hf1.mono (by simp)
    clear hb1 hf1 t0 t2
    go_wp2_with (first | (go_at_call 85; refine (inRange_any _ _ _ _).mono ?_; rintro e w1 ⟨rfl, rfl⟩))
    refine bodyPost_ret (v := .tuple #[.agg #[.slice B0 sc.length d0, .int .i64 pc, .slice B2 rg.length d2, .int .i64 st, .bool dn, .bool false], .bool false]) (by simp [results, Try.results27, go_sem, *]) rfl ?_
    exact ⟨_, G0 ++ G2, rfl, (by repeat (first | with_reducible exact Below.refl _ _ | with_reducible assumption | with_reducible refine bel_alloc ?_ _ | with_reducible refine bel_drew ?_ | with_reducible refine bel_drewN ?_ _ | (with_reducible refine bel_set ?_ ?_ _; rotate_left; ((try simp); (try omega))))), Cod.keep2 hrep hg1 (by repeat (first | with_reducible exact Keep.refl _ _ | with_reducible assumption | with_reducible refine Keep.alloc ?_ _ | with_reducible refine Keep.drew ?_ | with_reducible refine Keep.drewN ?_ _ | (with_reducible refine Keep.set_ ?_ ?_ _; rotate_left; ((try simp); (try omega))))), hg1.mono (by (try simp); (try omega))⟩
  ·
    by_cases e2 : r < 0
    · rw [← HF.out (by first | (simp; done) | (simp [inR_low (show r < 0 by omega)]; done) | (simp [inR_high (show (rg.length : Int) - 1 < r by omega)]; done) | (simp [*]; done))]
      go_enter Try.func27, Try.ntmps27
      go_wp2_with fail
      refine (implCopyMachine_any _ ⟨sc, pc, rg, st, dn, true⟩ _ _ (by exact Cod.bel hr (by repeat (first | with_reducible exact Below.refl _ _ | with_reducible assumption | with_reducible refine bel_alloc ?_ _ | with_reducible refine bel_drew ?_ | with_reducible refine bel_drewN ?_ _ | (with_reducible refine bel_set ?_ ?_ _; rotate_left; ((try simp); (try omega)))))) hn).mono ?_
      rintro e w1 ⟨vs1, G1, rfl, hb1, hrep, hf1⟩
      obtain ⟨v0, v2, G0, G2, rfl, rfl, -, t0, t2⟩ := TMach.outA hrep
      obtain ⟨B0, d0, rfl⟩ := cL_form t0
      obtain ⟨B2, d2, rfl⟩ := cL_form t2
      have hz_w1 := hb1.size
      (try simp at hz_w1)
      have ha0_w1 : w.heap.size < w1.heap.size := by omega
      have ha1_w1 : w.heap.size + 1 < w1.heap.size := by omega
      obtain ⟨hc_w1, hf_w1, -⟩ := bcell hb1
      have hb_w1 : Below w.heap.size w w1 := bel_then (by repeat (first | with_reducible exact Below.refl _ _ | with_reducible assumption | with_reducible refine bel_alloc ?_ _ | with_reducible refine bel_drew ?_ | with_reducible refine bel_drewN ?_ _ | (with_reducible refine bel_set ?_ ?_ _; rotate_left; ((try simp); (try omega))))) hb1
      have hg1 : Fresh (w.heap.size + 1 + 1) (G0 ++ G2) := hf1.mono (by simp)
      clear hb1 hf1 t0 t2
      go_wp2_with (first | (go_at_call 85; refine (inRange_any _ _ _ _).mono ?_; rintro e w1 ⟨rfl, rfl⟩))
      refine bodyPost_ret (v := .tuple #[.agg #[.slice B0 sc.length d0, .int .i64 pc, .slice B2 rg.length d2, .int .i64 st, .bool dn, .bool true], .bool false]) (by simp [results, Try.results27, go_sem, *]) rfl ?_
      exact ⟨_, G0 ++ G2, rfl, (by repeat (first | with_reducible exact Below.refl _ _ | with_reducible assumption | with_reducible refine bel_alloc ?_ _ | with_reducible refine bel_drew ?_ | with_reducible refine bel_drewN ?_ _ | (with_reducible refine bel_set ?_ ?_ _; rotate_left; ((try simp); (try omega))))), Cod.keep2 hrep hg1 (by repeat (first | with_reducible exact Keep.refl _ _ | with_reducible assumption | with_reducible refine Keep.alloc ?_ _ | with_reducible refine Keep.drew ?_ | with_reducible refine Keep.drewN ?_ _ | (with_reducible refine Keep.set_ ?_ ?_ _; rotate_left; ((try simp); (try omega))))), hg1.mono (by (try simp); (try omega))⟩
    · replace e2 : 0 ≤ r := (by omega)
      by_cases e3 : (rg.length : Int) ≤ r
      · rw [← HF.out (by first | (simp; done) | (simp [inR_low (show r < 0 by omega)]; done) | (simp [inR_high (show (rg.length : Int) - 1 < r by omega)]; done) | (simp [*]; done))]
        go_enter Try.func27, Try.ntmps27
        go_wp2_with fail
        refine (implCopyMachine_any _ ⟨sc, pc, rg, st, dn, true⟩ _ _ (by exact Cod.bel hr (by repeat (first | with_reducible exact Below.refl _ _ | with_reducible assumption | with_reducible refine bel_alloc ?_ _ | with_reducible refine bel_drew ?_ | with_reducible refine bel_drewN ?_ _ | (with_reducible refine bel_set ?_ ?_ _; rotate_left; ((try simp); (try omega)))))) hn).mono ?_
        rintro e w1 ⟨vs1, G1, rfl, hb1, hrep, hf1⟩
        obtain ⟨v0, v2, G0, G2, rfl, rfl, -, t0, t2⟩ := TMach.outA hrep
        obtain ⟨B0, d0, rfl⟩ := cL_form t0
        obtain ⟨B2, d2, rfl⟩ := cL_form t2
        have hz_w1 := hb1.size
        (try simp at hz_w1)
        have ha0_w1 : w.heap.size < w1.heap.size := by omega
        have ha1_w1 : w.heap.size + 1 < w1.heap.size := by omega
        obtain ⟨hc_w1, hf_w1, -⟩ := bcell hb1
        have hb_w1 : Below w.heap.size w w1 := bel_then (by repeat (first | with_reducible exact Below.refl _ _ | with_reducible assumption | with_reducible refine bel_alloc ?_ _ | with_reducible refine bel_drew ?_ | with_reducible refine bel_drewN ?_ _ | (with_reducible refine bel_set ?_ ?_ _; rotate_left; ((try simp); (try omega))))) hb1
        have hg1 : Fresh (w.heap.size + 1 + 1) (G0 ++ G2) := hf1.mono (by simp)
        clear hb1 hf1 t0 t2
        go_wp2_with (first | (go_at_call 85; refine (inRange_any _ _ _ _).mono ?_; rintro e w1 ⟨rfl, rfl⟩))
        refine bodyPost_ret (v := .tuple #[.agg #[.slice B0 sc.length d0, .int .i64 pc, .slice B2 rg.length d2, .int .i64 st, .bool dn, .bool true], .bool false]) (by simp [results, Try.results27, go_sem, *]) rfl ?_
        exact ⟨_, G0 ++ G2, rfl, (by repeat (first | with_reducible exact Below.refl _ _ | with_reducible assumption | with_reducible refine bel_alloc ?_ _ | with_reducible refine bel_drew ?_ | with_reducible refine bel_drewN ?_ _ | (with_reducible refine bel_set ?_ ?_ _; rotate_left; ((try simp); (try omega))))), Cod.keep2 hrep hg1 (by repeat (first | with_reducible exact Keep.refl _ _ | with_reducible assumption | with_reducible refine Keep.alloc ?_ _ | with_reducible refine Keep.drew ?_ | with_reducible refine Keep.drewN ?_ _ | (with_reducible refine Keep.set_ ?_ ?_ _; rotate_left; ((try simp); (try omega))))), hg1.mono (by (try simp); (try omega))⟩
      · replace e3 : r < (rg.length : Int) := (by omega)
        cases e4 : (inR n (-1) 1000)
        · rw [← HF.out (by first | (simp; done) | (simp [inR_low (show r < 0 by omega)]; done) | (simp [inR_high (show (rg.length : Int) - 1 < r by omega)]; done) | (simp [*]; done))]
          go_enter Try.func27, Try.ntmps27
          go_wp2_with fail
          refine (implCopyMachine_any _ ⟨sc, pc, rg, st, dn, true⟩ _ _ (by exact Cod.bel hr (by repeat (first | with_reducible exact Below.refl _ _ | with_reducible assumption | with_reducible refine bel_alloc ?_ _ | with_reducible refine bel_drew ?_ | with_reducible refine bel_drewN ?_ _ | (with_reducible refine bel_set ?_ ?_ _; rotate_left; ((try simp); (try omega)))))) hn).mono ?_
          rintro e w1 ⟨vs1, G1, rfl, hb1, hrep, hf1⟩
          obtain ⟨v0, v2, G0, G2, rfl, rfl, -, t0, t2⟩ := TMach.outA hrep
          obtain ⟨B0, d0, rfl⟩ := cL_form t0
          obtain ⟨B2, d2, rfl⟩ := cL_form t2
          have hz_w1 := hb1.size
          (try simp at hz_w1)
          have ha0_w1 : w.heap.size < w1.heap.size := by omega
          have ha1_w1 : w.heap.size + 1 < w1.heap.size := by omega
          obtain ⟨hc_w1, hf_w1, -⟩ := bcell hb1
          have hb_w1 : Below w.heap.size w w1 := bel_then (by repeat (first | with_reducible exact Below.refl _ _ | with_reducible assumption | with_reducible refine bel_alloc ?_ _ | with_reducible refine bel_drew ?_ | with_reducible refine bel_drewN ?_ _ | (with_reducible refine bel_set ?_ ?_ _; rotate_left; ((try simp); (try omega))))) hb1
          have hg1 : Fresh (w.heap.size + 1 + 1) (G0 ++ G2) := hf1.mono (by simp)
          clear hb1 hf1 t0 t2
          go_wp2_with (first | (go_at_call 85; refine (inRange_any _ _ _ _).mono ?_; rintro e w1 ⟨rfl, rfl⟩))
          refine bodyPost_ret (v := .tuple #[.agg #[.slice B0 sc.length d0, .int .i64 pc, .slice B2 rg.length d2, .int .i64 st, .bool dn, .bool true], .bool false]) (by simp [results, Try.results27, go_sem, *]) rfl ?_
          exact ⟨_, G0 ++ G2, rfl, (by repeat (first | with_reducible exact Below.refl _ _ | with_reducible assumption | with_reducible refine bel_alloc ?_ _ | with_reducible refine bel_drew ?_ | with_reducible refine bel_drewN ?_ _ | (with_reducible refine bel_set ?_ ?_ _; rotate_left; ((try simp); (try omega))))), Cod.keep2 hrep hg1 (by repeat (first | with_reducible exact Keep.refl _ _ | with_reducible assumption | with_reducible refine Keep.alloc ?_ _ | with_reducible refine Keep.drew ?_ | with_reducible refine Keep.drewN ?_ _ | (with_reducible refine Keep.set_ ?_ ?_ _; rotate_left; ((try simp); (try omega))))), hg1.mono (by (try simp); (try omega))⟩
        ·
          obtain ⟨i, rfl⟩ : ∃ i : Nat, r = i := ⟨r.toNat, by omega⟩
          have hil : i < rg.length := by omega
          have HT := Lib.hid (show answerMachine ⟨sc, pc, rg, st, dn, true⟩ i n = (⟨sc, pc, rg.set i n, st, dn, false⟩, true) by (have e5 : inR (i : Int) 0 ((rg.length : Int) - 1) = true := inR_mk (by omega) (by omega)); simp [answerMachine, e4, e5])
          rw [HT.out]
          go_enter Try.func27, Try.ntmps27
          go_wp2_with fail
          refine (implCopyMachine_any _ ⟨sc, pc, rg, st, dn, true⟩ _ _ (by exact Cod.bel hr (by repeat (first | with_reducible exact Below.refl _ _ | with_reducible assumption | with_reducible refine bel_alloc ?_ _ | with_reducible refine bel_drew ?_ | with_reducible refine bel_drewN ?_ _ | (with_reducible refine bel_set ?_ ?_ _; rotate_left; ((try simp); (try omega)))))) hn).mono ?_
          rintro e w1 ⟨vs1, G1, rfl, hb1, hrep, hf1⟩
          obtain ⟨v0, v2, G0, G2, rfl, rfl, -, t0, t2⟩ := TMach.outA hrep
          obtain ⟨B0, d0, rfl⟩ := cL_form t0
          obtain ⟨B2, d2, rfl⟩ := cL_form t2
          have hlt2 := Cod.lt _ t2
          have hz_w1 := hb1.size
          (try simp at hz_w1)
          have ha0_w1 : w.heap.size < w1.heap.size := by omega
          have ha1_w1 : w.heap.size + 1 < w1.heap.size := by omega
          obtain ⟨hc_w1, hf_w1, -⟩ := bcell hb1
          have hb_w1 : Below w.heap.size w w1 := bel_then (by repeat (first | with_reducible exact Below.refl _ _ | with_reducible assumption | with_reducible refine bel_alloc ?_ _ | with_reducible refine bel_drew ?_ | with_reducible refine bel_drewN ?_ _ | (with_reducible refine bel_set ?_ ?_ _; rotate_left; ((try simp); (try omega))))) hb1
          have hg1 : Fresh (w.heap.size + 1 + 1) (G0 ++ G2) := hf1.mono (by simp)
          have hnd := List.nodup_append.1 hg1.2
          obtain ⟨g, o, vs, Fi, rfl, hgF, hgi, hFi, hndi, hx, R0, hfr, hup⟩ := cL_upd (hw := by decide) (hw2 := by decide) t2 hnd.2.1 hil
          obtain ⟨rfl, rfl, -⟩ := hx
          rw [show (cI).wd = 1 from rfl, Nat.mul_one] at R0
          have hgl : g < w1.heap.size := hlt2 g hgF
          have q0 : w1.cell? ⟨g, o + i, none⟩ = some (.int .i64 rg[i]) := R0.cell 0 _ rfl
          have z0 : w1.frozen? ⟨g, o + i, none⟩ = false := by have := hfr 0 (by decide); rwa [show (cI).wd = 1 from rfl, Nat.mul_one, Nat.add_zero] at this
          clear hb1 hf1
          have j0 : w1.cell? ⟨w.heap.size + 1, 0, none⟩ = some (.slice none 0 0) := by go_simp
          have j1 : w1.cell? ⟨w.heap.size + 1, 1, none⟩ = some (.int .i64 0) := by go_simp
          have j2 : w1.cell? ⟨w.heap.size + 1, 2, none⟩ = some (.slice none 0 0) := by go_simp
          have j3 : w1.cell? ⟨w.heap.size + 1, 3, none⟩ = some (.int .i64 0) := by go_simp
          have j4 : w1.cell? ⟨w.heap.size + 1, 4, none⟩ = some (.bool false) := by go_simp
          have j5 : w1.cell? ⟨w.heap.size + 1, 5, none⟩ = some (.bool false) := by go_simp
          have hgw : w.heap.size + 1 + 1 ≤ g := hg1.1 g (by simp [hgF])
          have hne1 : ¬ g = w1.heap.size := by omega
          have hne2 : ¬ g = w.heap.size + 1 := by omega
          have hg0 : g ∉ G0 := fun hm => hnd.2.2 g hm g hgF rfl
          have y0 := Cod.set_ t0 hg0 (o + i) (.int .i64 n)
          have y2 := hup (w1.setCell ⟨g, o + i, none⟩ (.int .i64 n)) [.int .i64 n] n (by rw [show (cI).wd = 1 from rfl, Nat.mul_one]; exact R0.set0 (by simp) (.int .i64 n)) ⟨rfl, rfl, hn1⟩
          have hl9 : (rg.set i n).length = rg.length := List.length_set
          clear R0 hup t0 t2 hrep hfr
          have HY := Lib.hid (And.intro y0 y2)
          clear y0 y2
          go_wp2_with (first | (go_at_call 85; refine (inRange_any _ _ _ _).mono ?_; rintro e w1 ⟨rfl, rfl⟩))
          refine bodyPost_ret (v := .tuple #[.agg #[.slice B0 sc.length d0, .int .i64 pc, .slice (some ⟨g, o, none⟩) rg.length d2, .int .i64 st, .bool dn, .bool false], .bool true]) (by simp [results, Try.results27, go_sem, *]) rfl ?_
          exact ⟨_, G0 ++ G2, rfl, (by repeat (first | with_reducible exact Below.refl _ _ | with_reducible assumption | with_reducible refine bel_alloc ?_ _ | with_reducible refine bel_drew ?_ | with_reducible refine bel_drewN ?_ _ | (with_reducible refine bel_set ?_ ?_ _; rotate_left; ((try simp); (try omega))))), TMach.mk_ (x := ⟨sc, pc, rg.set i n, st, dn, false⟩) ⟨hok.h1, hok.h3⟩ (Cod.keep2 HY.out.1 ⟨fun b hb => hg1.1 b (by simp [hb]), hnd.1⟩ (by repeat (first | with_reducible exact Keep.refl _ _ | with_reducible assumption | with_reducible refine Keep.alloc ?_ _ | with_reducible refine Keep.drew ?_ | with_reducible refine Keep.drewN ?_ _ | (with_reducible refine Keep.set_ ?_ ?_ _; rotate_left; ((try simp); (try omega)))))) (Cod.keep2 HY.out.2 ⟨fun b hb => hg1.1 b (by simp [hb]), hnd.2.1⟩ (by repeat (first | with_reducible exact Keep.refl _ _ | with_reducible assumption | with_reducible refine Keep.alloc ?_ _ | with_reducible refine Keep.drew ?_ | with_reducible refine Keep.drewN ?_ _ | (with_reducible refine Keep.set_ ?_ ?_ _; rotate_left; ((try simp); (try omega)))))), hg1.mono (by omega)⟩
theorem answerMachine_sz (x : TMach) (r n : Int) : cMach.sz (answerMachine x r n).1 = cMach.sz x := by
  unfold answerMachine
  cases (x.wait && inR r 0 (x.regs.length - 1) && inR n (-1) 1000)
  · rfl
  · have h : cIS.sz (x.regs.set r.toNat n) = cIS.sz x.regs := by
      show Cod.szs cI _ = Cod.szs cI _
      rw [Cod.szs_flat (c := cI) (fun _ => rfl), Cod.szs_flat (c := cI) (fun _ => rfl), List.length_set]
    show cInsS.sz x.script + (0 + (cIS.sz (x.regs.set r.toNat n) + (0 + (0 + 0)))) = _
    rw [h]; rfl
end Go.Proofs.Yteipaolcmjfhdaa
