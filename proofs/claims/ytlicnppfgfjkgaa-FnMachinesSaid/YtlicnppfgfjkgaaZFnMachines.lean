/-
  The law FnMachines: a machine asks only for what its script contains, and ends after a bounded number of steps. No conditions.
-/
import Derived.Test.YtlicnppfgfjkgaaZMachInv
import Derived.Test.YtlicnppfgfjkgaaZRunI
import Derived.Test.YtlicnppfgfjkgaaZA
namespace Go.Proofs.Ytlicnppfgfjkgaa
open Go.ChangeShapes Go.WideShapes Go.RowKit
set_option linter.unusedVariables false

set_option maxRecDepth 100000 in
set_option maxHeartbeats 8000000 in
theorem lawMachines_any (v : Value) (xs : List UInt8) (F : List Nat) (w : World) (h : cUS.rep w [v] xs F) :
    Calls Try.prog 3 #[v] w (Gives w (.bool true)) := by
  obtain ⟨A, cp, rfl⟩ := cL_form h
  have HR := Lib.hid h
  clear h
  by_cases hbig : (1048576 : Int) < xs.length
  · have hd : decide ((1048576 : Int) < xs.length) = true := by simpa using hbig
    go_enter Try.func3, Try.ntmps3
    go_wp2_with (go_at_call 10; refine (big_any _ _ _ _).mono ?_; rw [hd]; rintro e w1 ⟨rfl, rfl⟩)
    go_ret
    exact ⟨rfl, (by repeat (first | with_reducible exact Below.refl _ _ | with_reducible assumption | with_reducible refine bel_alloc ?_ _ | with_reducible refine bel_drew ?_ | with_reducible refine bel_drewN ?_ _ | (with_reducible refine bel_set ?_ ?_ _; rotate_left; ((try simp); (try omega)))))⟩
  · have hn : xs.length ≤ 1048576 := by omega
    have hd : decide ((1048576 : Int) < xs.length) = false := by simpa using hbig
    go_enter Try.func3, Try.ntmps3
    go_wp2_with (go_at_call 10; refine (big_any _ _ _ _).mono ?_; rw [hd]; rintro e w1 ⟨rfl, rfl⟩)
    clear hbig hd
    refine (drawScript_any _ xs F _ (Cod.bel HR.out (by repeat (first | with_reducible exact Below.refl _ _ | with_reducible assumption | with_reducible refine bel_alloc ?_ _ | with_reducible refine bel_drew ?_ | with_reducible refine bel_drewN ?_ _ | (with_reducible refine bel_set ?_ ?_ _; rotate_left; ((try simp); (try omega)))))) hn).mono ?_
    rintro e w1 ⟨u, sc, Gs, rfl, hb1, hsc, -, hsm⟩
    obtain ⟨As, cs, rfl⟩ := cL_form hsc
    have hB1 : Below w.heap.size w w1 := bel_then (by repeat (first | with_reducible exact Below.refl _ _ | with_reducible assumption | with_reducible refine bel_alloc ?_ _ | with_reducible refine bel_drew ?_ | with_reducible refine bel_drewN ?_ _ | (with_reducible refine bel_set ?_ ?_ _; rotate_left; ((try simp); (try omega))))) hb1
    have hscl := hsm.1
    have HS1 := Lib.hid hsc
    have hszs := small_szs sc hsm.2
    have HI0 := Lib.hid (minv_new hsm)
    clear hb1 hsc hsm
    obtain ⟨n, hsn⟩ : ∃ n, sc.length = n := ⟨_, rfl⟩
    have HN := Lib.hid hsn
    rw [hsn] at hscl hszs HS1 ⊢
    clear hsn
    go_wp2_with fail
    refine (implNewMachine_any _ sc Gs _ (Cod.bel HS1.out (by repeat (first | with_reducible exact Below.refl _ _ | with_reducible assumption | with_reducible refine bel_alloc ?_ _ | with_reducible refine bel_drew ?_ | with_reducible refine bel_drewN ?_ _ | (with_reducible refine bel_set ?_ ?_ _; rotate_left; ((try simp); (try omega)))))) (by omega)).mono ?_
    rintro e w2 ⟨vs2, G2, rfl, hb2, hr2, hf2⟩
    have hB2 : Below w.heap.size w w2 := bel_then (by repeat (first | with_reducible exact Below.refl _ _ | with_reducible assumption | with_reducible refine bel_alloc ?_ _ | with_reducible refine bel_drew ?_ | with_reducible refine bel_drewN ?_ _ | (with_reducible refine bel_set ?_ ?_ _; rotate_left; ((try simp); (try omega))))) hb2
    obtain ⟨u0, u2, E0, E2, rfl, -, -, s0, s2⟩ := TMach.outA hr2
    obtain ⟨A0, c0, rfl⟩ := cL_form s0
    obtain ⟨A2, c2, rfl⟩ := cL_form s2
    have HS2 := Lib.hid (Cod.bel HS1.out (bel_then (by repeat (first | with_reducible exact Below.refl _ _ | with_reducible assumption | with_reducible refine bel_alloc ?_ _ | with_reducible refine bel_drew ?_ | with_reducible refine bel_drewN ?_ _ | (with_reducible refine bel_set ?_ ?_ _; rotate_left; ((try simp); (try omega))))) hb2))
    have HM2 := Lib.hid (MBox.new 28 hr2)
    have hz2 := hB2.size
    have HG := Lib.hid (show ∀ b, b ∈ Gs → b < w2.heap.size from fun b hb => Cod.lt _ HS2.out b hb)
    clear hb2 hr2 hf2 s0 s2 HS1
    go_wp2_with fail
    generalize hW : World.alloc w2 _ = W
    rw [hW] at HM2
    have hbW : Below w.heap.size w W := by rw [← hW]; exact (by repeat (first | with_reducible exact Below.refl _ _ | with_reducible assumption | with_reducible refine bel_alloc ?_ _ | with_reducible refine bel_drew ?_ | with_reducible refine bel_drewN ?_ _ | (with_reducible refine bel_set ?_ ?_ _; rotate_left; ((try simp); (try omega)))))
    have HS := Lib.hid (show cInsS.rep W [.slice As n cs] sc Gs from by rw [← hW]; exact Cod.bel HS2.out (bel_alloc (Below.refl _ _) _))
    clear hW HS2
    generalize w2.heap.size = mb at *
    go_loopw [5, 6] (fun a i wr => ∃ k : Nat, ∃ x : TMach, i = .int .i64 k ∧ a = .int .i64 k ∧ MInv sc k x ∧ MBox wr mb x ∧ cInsS.rep wr [.slice As n cs] sc Gs ∧ Below w.heap.size w wr) (fun _ i _ => 61 - (intOf i).toNat)
    case atStart => exact ⟨0, newMachine sc, rfl, rfl, HI0.out, HM2.out, HS.out, hbW⟩
    case round =>
      obtain ⟨k, x, rfl, rfl, hinv, hbox, hsc, hB⟩ := hrel
      have hk60 : (k : Int) ≤ 60 := by have := hinv.lo; have := hinv.hi; omega
      have hsz := hinv.sz
      have hrun := minv_run hinv
      have hmw := hbox.lt
      obtain ⟨D0, d0, D2, d2, F9, m0, m1, m2, m3, m4, m5, hmr, hmF⟩ := hbox.rep
      have HB := Lib.hid hbox
      have HSC := Lib.hid hsc
      clear hinv hbox hsc hmF HM2 HS HI0
      go_wp2_with fail
      refine (implRunMachine_any _ x F9 _ hmr hsz).mono ?_
      rintro e w3 ⟨vs3, G3, rfl, hb3, hr3, hf3⟩
      generalize (runMachine x).1 = y at *
      generalize (runMachine x).2 = ak at *
      obtain ⟨kd, ar, an, tx, av⟩ := ak
      clear m0 m1 m2 m3 m4 m5 hmr
      obtain ⟨v0, v2, H0, H2, rfl, -, -, t0, t2⟩ := TMach.outA hr3
      obtain ⟨E0, e0, rfl⟩ := cL_form t0
      obtain ⟨E2, e2, rfl⟩ := cL_form t2
      have hB3 : Below w.heap.size w w3 := bel_then hB hb3
      have hz3 := hb3.size
      have HB3 := Lib.hid (HB.out.bel hb3)
      have HSC3 := Lib.hid (Cod.bel HSC.out hb3)
      have HY3 := Lib.hid (And.intro hr3 hf3)
      have HRUN := Lib.hid hrun
      clear hr3 hf3 t0 t2 HB HSC hrun hb3
      unfold TAsk.val
      go_upto_region 10 with (fail)
      generalize hW2 : World.alloc _ _ = W2
      obtain ⟨xb, hxb⟩ : ∃ xb, w3.heap.size = xb := ⟨_, rfl⟩
      have HA := Lib.hid (show Below w3.heap.size w3 W2 ∧ W2.heap.size = xb + 2 ∧ (∀ j, W2.frozen? ⟨xb, j, none⟩ = false) from by
        rw [← hW2, ← hxb]; clear hW2 hxb; refine ⟨(by repeat (first | with_reducible exact Below.refl _ _ | with_reducible assumption | with_reducible refine bel_alloc ?_ _ | with_reducible refine bel_drew ?_ | with_reducible refine bel_drewN ?_ _ | (with_reducible refine bel_set ?_ ?_ _; rotate_left; ((try simp); (try omega))))), by simp, fun j => ?_⟩; go_simp)
      have HK := Lib.hid (show W2.cell? ⟨xb, 0, none⟩ = some (.slice E0 y.script.length e0) ∧ W2.cell? ⟨xb, 1, none⟩ = some (.int .i64 y.pc) ∧ W2.cell? ⟨xb, 2, none⟩ = some (.slice E2 y.regs.length e2) ∧ W2.cell? ⟨xb, 3, none⟩ = some (.int .i64 y.steps) ∧ W2.cell? ⟨xb, 4, none⟩ = some (.bool y.done) ∧ W2.cell? ⟨xb, 5, none⟩ = some (.bool y.wait) ∧
          W2.cell? ⟨xb + 1, 0, none⟩ = some (.int .i64 kd) ∧ W2.cell? ⟨xb + 1, 1, none⟩ = some (.int .i64 ar) ∧ W2.cell? ⟨xb + 1, 3, none⟩ = some (.string tx) ∧ W2.cell? ⟨xb + 1, 4, none⟩ = some (.int .i64 av) from by
        rw [← hW2, ← hxb]; clear hW2 hxb HA; refine ⟨?_, ?_, ?_, ?_, ?_, ?_, ?_, ?_, ?_, ?_⟩ <;> go_simp)
      clear hW2
      rw [hxb]
      have hmx : mb < xb := by omega
      have hB4 : Below w.heap.size w W2 := bel_then hB3 HA.out.1
      have hz4 := HA.out.2.1
      have HB4 := Lib.hid (HB3.out.bel HA.out.1)
      have HSC4 := Lib.hid (Cod.bel HSC3.out HA.out.1)
      have HY4 := Lib.hid (show cMach.rep W2 [.slice E0 y.script.length e0, .int .i64 y.pc, .slice E2 y.regs.length e2, .int .i64 y.steps, .bool y.done, .bool y.wait] y G3 ∧ ∀ b, b ∈ G3 → b ≠ mb from ⟨Cod.bel HY3.out.1 HA.out.1, fun b hb => by have := HY3.out.2.1 b hb; omega⟩)
      clear HB3 HSC3 HY3 hB3 hB HA
      rcases HRUN.out with ⟨rfl, hdn, hs60, hks⟩ | ⟨hkd, hmr⟩
      · have q0 := HK.out.2.2.2.2.2.2.1
        have q4 := HK.out.2.2.2.2.1
        have q3 := HK.out.2.2.2.1
        rw [hdn] at q4
        clear HK HRUN
        go_wp2_with fail
        go_ret
        exact ⟨rfl, (by repeat (first | with_reducible exact Below.refl _ _ | with_reducible assumption | with_reducible refine bel_alloc ?_ _ | with_reducible refine bel_drew ?_ | with_reducible refine bel_drewN ?_ _ | (with_reducible refine bel_set ?_ ?_ _; rotate_left; ((try simp); (try omega)))))⟩
      · have q0 := HK.out.2.2.2.2.2.2.1
        have hkb : (kd == 0) = false := by simpa using hkd
        have HMR := Lib.hid hmr
        clear HRUN hmr
        go_wp2_with fail
        clear q0
        go_loopw [9, 10] (fun f i wl => ∃ j : Nat, j ≤ n ∧ i = .int .i64 j ∧ f = .bool (hits tx sc j) ∧ Below W2.heap.size W2 wl) (fun _ i _ => n - (intOf i).toNat)
        case atStart => exact ⟨0, Nat.zero_le _, rfl, rfl, Below.refl _ _⟩
        case round =>
          obtain ⟨j, hj, rfl, rfl, hBl⟩ := hrel
          by_cases hlt : j < n
          · have hjx : j < sc.length := by rw [HN.out]; exact hlt
            obtain ⟨g, o, vs, F1, rfl, hgF, hx, -, hc⟩ := cL_get (hw := by decide) (hw2 := by decide) (Cod.bel HSC4.out hBl) hjx
            obtain ⟨rfl, -, hok⟩ := TIns.out hx
            have q0 : wr.cell? ⟨g, o + j * 4, none⟩ = some _ := (hc 0 _ rfl).1
            have q3 : wr.cell? ⟨g, o + j * 4 + 3, none⟩ = some _ := (hc 3 _ rfl).1
            have p3 : wr.cell? ⟨xb + 1, 3, none⟩ = some (.string tx) := (hBl.cell (p := ⟨xb + 1, 3, none⟩) (by simp; omega)).trans HK.out.2.2.2.2.2.2.2.2.1
            have HH := Lib.hid (hits_succ tx sc j hjx)
            have hji : (j : Int) < (n : Int) := by omega
            have hj0 : (0 : Int) ≤ (j : Int) := by omega
            clear hc hx hok hkd hkb
            have HHI := Lib.hid (show hitIns tx sc[j] = (sc[j].text.toList == tx.toList && (decide (5 ≤ sc[j].kind) && decide (sc[j].kind ≤ 8))) from rfl)
            generalize sc[j].text = txj at *
            generalize sc[j].kind = kj at *
            generalize hits tx sc j = f at *
            cases f
            · cases e1 : (txj.toList == tx.toList)
              · rw [HHI.out, e1] at HH
                go_wp2
                go_quiet (fail)
                go_wp2
                go_roundw
                case rel => exact ⟨j + 1, by omega, by go_num, by rw [HH.out]; rfl, bel_drewN hBl _⟩
                case measure => simp [intOf]; omega
              · by_cases e2 : 5 ≤ kj
                · by_cases e3 : kj ≤ 8
                  · rw [HHI.out, e1, decide_eq_true e2, decide_eq_true e3] at HH
                    go_wp2
                    go_quiet (fail)
                    go_wp2
                    go_roundw
                    case rel => exact ⟨j + 1, by omega, by go_num, by rw [HH.out]; rfl, bel_drewN hBl _⟩
                    case measure => simp [intOf]; omega
                  · have d3 : decide (kj ≤ 8) = false := decide_eq_false e3
                    rw [HHI.out, e1, decide_eq_true e2, d3] at HH
                    go_wp2
                    go_quiet (fail)
                    go_wp2
                    go_roundw
                    case rel => exact ⟨j + 1, by omega, by go_num, by rw [HH.out]; rfl, bel_drewN hBl _⟩
                    case measure => simp [intOf]; omega
                · have d2 : decide (5 ≤ kj) = false := decide_eq_false e2
                  rw [HHI.out, e1, d2] at HH
                  go_wp2
                  go_quiet (fail)
                  go_wp2
                  go_roundw
                  case rel => exact ⟨j + 1, by omega, by go_num, by rw [HH.out]; rfl, bel_drewN hBl _⟩
                  case measure => simp [intOf]; omega
            · go_wp2
              go_quiet (fail)
              go_wp2
              go_roundw
              case rel => exact ⟨j + 1, by omega, by go_num, by rw [HH.out]; rfl, bel_drewN hBl _⟩
              case measure => simp [intOf]; omega
          · obtain rfl : j = n := by omega
            have he : hits tx sc j = true := by rw [← HN.out]; exact hits_all HMR.out.found
            rw [he]
            have hB5 : Below w.heap.size w wr := bel_then hB4 hBl
            have HB5 := Lib.hid (HB4.out.bel hBl)
            have HSC5 := Lib.hid (Cod.bel HSC4.out hBl)
            have HY5 := Lib.hid (And.intro (Cod.bel HY4.out.1 hBl) HY4.out.2)
            have HK5 := Lib.hid (show ∀ b i, b < xb + 2 → wr.cell? ⟨b, i, none⟩ = W2.cell? ⟨b, i, none⟩ from fun b i h9 => hBl.cell (p := ⟨b, i, none⟩) (by simp; omega))
            have HF5 := Lib.hid (show ∀ i, wr.frozen? ⟨xb, i, none⟩ = W2.frozen? ⟨xb, i, none⟩ from fun i => hBl.frozen (p := ⟨xb, i, none⟩) (by simp; omega))
            have x0 := (HK5.out xb 0 (by omega)).trans HK.out.1
            have x1 := (HK5.out xb 1 (by omega)).trans HK.out.2.1
            have x2 := (HK5.out xb 2 (by omega)).trans HK.out.2.2.1
            have x3 := (HK5.out xb 3 (by omega)).trans HK.out.2.2.2.1
            have x4 := (HK5.out xb 4 (by omega)).trans HK.out.2.2.2.2.1
            have x5 := (HK5.out xb 5 (by omega)).trans HK.out.2.2.2.2.2.1
            have a0 := (HK5.out (xb + 1) 0 (by omega)).trans HK.out.2.2.2.2.2.2.1
            have a1 := (HK5.out (xb + 1) 1 (by omega)).trans HK.out.2.2.2.2.2.2.2.1
            have a4 := (HK5.out (xb + 1) 4 (by omega)).trans HK.out.2.2.2.2.2.2.2.2.2
            have hzr5 := hBl.size
            clear HB4 HSC4 HY4 HK HK5 HF5 he hkb hkd hBl
            have hav := HMR.out.value
            have hv1 : ¬ av < -1 := by have := hav.1; simp only at this; omega
            have hv2 : ¬ av > 1000 := by have := hav.2; simp only at this; omega
            have hwt := HMR.out.wait
            simp only at hwt
            clear hav
            have hmb5 := HB5.out.lt
            obtain ⟨D0', d0', D2', d2', F9', m0, m1, m2, m3, m4, m5, -, -⟩ := HB5.out.rep
            have f0 := HB5.out.fz 0; have f1 := HB5.out.fz 1; have f2 := HB5.out.fz 2; have f3 := HB5.out.fz 3; have f4 := HB5.out.fz 4; have f5 := HB5.out.fz 5
            have hne1 : ¬ mb = xb := by omega
            have hne2 : ¬ xb = mb := by omega
            cases h1 : (kd == 1)
            · cases h2 : (kd == 2)
              · rw [h1, h2] at hwt
                simp only [Bool.or_self] at hwt
                rw [hwt] at x5
                go_wp2_with fail
                go_roundw
                case rel =>
                  have hst := HB5.out.store HY5.out.1 HY5.out.2
                  rw [hwt] at hst
                  exact ⟨k + 1, y, by go_num, by go_num, minv_next HMR.out hwt, hst, Cod.keep _ HSC5.out (fun b hb => sets6_block (by have := HG.out b hb; omega) _ _ _ _ _ _), (by repeat (first | with_reducible exact Below.refl _ _ | with_reducible assumption | with_reducible refine bel_alloc ?_ _ | with_reducible refine bel_drew ?_ | with_reducible refine bel_drewN ?_ _ | (with_reducible refine bel_set ?_ ?_ _; rotate_left; ((try simp); (try omega)))))⟩
                case measure => simp [intOf]; omega
              · rw [h1, h2] at hwt
                simp only [Bool.or_true] at hwt
                rw [hwt] at x5
                go_upto_region 22 with (fail)
                have HMB := Lib.hid (HB5.out.store HY5.out.1 HY5.out.2)
                rw [hwt] at HMB
                generalize hWm : World.setCell _ _ _ = wm
                rw [hWm] at HMB
                have hblk : ∀ c, c ≠ mb → wm.heap[c]? = wr.heap[c]? := fun c hc => by rw [← hWm]; exact sets6_block hc _ _ _ _ _ _
                have hszm : wr.heap.size ≤ wm.heap.size := by rw [← hWm]; clear hWm; simp
                have hBm : Below w.heap.size w wm := by rw [← hWm]; exact (by repeat (first | with_reducible exact Below.refl _ _ | with_reducible assumption | with_reducible refine bel_alloc ?_ _ | with_reducible refine bel_drew ?_ | with_reducible refine bel_drewN ?_ _ | (with_reducible refine bel_set ?_ ?_ _; rotate_left; ((try simp); (try omega)))))
                have HYm := Lib.hid (Cod.keep _ HY5.out.1 (fun b hb => hblk b (HY5.out.2 b hb)))
                have HSm := Lib.hid (Cod.keep _ HSC5.out (fun b hb => hblk b (by have := HG.out b hb; omega)))
                clear hWm
                replace x0 := (World.cell?_of_block (a := ⟨xb, 0, none⟩) (hblk xb hne2)).trans x0
                replace x1 := (World.cell?_of_block (a := ⟨xb, 1, none⟩) (hblk xb hne2)).trans x1
                replace x2 := (World.cell?_of_block (a := ⟨xb, 2, none⟩) (hblk xb hne2)).trans x2
                replace x3 := (World.cell?_of_block (a := ⟨xb, 3, none⟩) (hblk xb hne2)).trans x3
                replace x4 := (World.cell?_of_block (a := ⟨xb, 4, none⟩) (hblk xb hne2)).trans x4
                replace x5 := (World.cell?_of_block (a := ⟨xb, 5, none⟩) (hblk xb hne2)).trans x5
                replace a1 := (World.cell?_of_block (a := ⟨xb + 1, 1, none⟩) (hblk (xb + 1) (by omega))).trans a1
                clear a0 a4 m0 m1 m2 m3 m4 m5 f0 f1 f2 f3 f4 f5 hblk HB5 HSC5 HY5 hv1 hv2 hmb5
                have hatr := atC_range xs k
                have hat0 : ∀ W, Below w.heap.size w W → Calls Try.prog 15 #[.slice A xs.length cp, .int .i64 k] W fun e w' => e = .returned (.int .i64 (atC xs k)) ∧ W = w' := fun W hb => at_any A xs.length cp xs F k W (Cod.bel HR.out hb) hn (by omega)
                generalize atC xs k = ch at *
                have HAT := Lib.hid hat0
                clear hat0
                have hchm : ch.tmod 1000 = ch := by rw [Int.tmod_eq_emod_of_nonneg hatr.1]; omega
                have hrr := HMR.out.r
                simp only at hrr
                obtain ⟨r, rfl⟩ : ∃ r : Nat, ar = r := ⟨ar.toNat, by omega⟩
                obtain ⟨hans, hnext⟩ := minv_answer HMR.out hwt hatr
                simp only [Int.toNat_natCast] at hans hnext
                have hyl := HMR.out.regs.1
                rw [hyl, hwt] at HYm
                rw [hyl] at x2
                have hysz := HMR.out.sz
                have HNX := Lib.hid hnext
                have HAN := Lib.hid hans
                clear hans hnext
                have hS : ∀ w9, Below wm.heap.size wm w9 → Below wm.heap.size wm w9 ∧ w9.cell? ⟨xb, 0, none⟩ = some (.slice E0 y.script.length e0) ∧ w9.cell? ⟨xb, 1, none⟩ = some (.int .i64 y.pc) ∧ w9.cell? ⟨xb, 2, none⟩ = some (.slice E2 4 e2) ∧ w9.cell? ⟨xb, 3, none⟩ = some (.int .i64 y.steps) ∧ w9.cell? ⟨xb, 4, none⟩ = some (.bool y.done) ∧ w9.cell? ⟨xb, 5, none⟩ = some (.bool true) ∧ w9.cell? ⟨xb + 1, 1, none⟩ = some (.int .i64 r) := fun w9 hb =>
                  ⟨hb, (hb.cell (p := ⟨xb, 0, none⟩) (by simp; omega)).trans x0, (hb.cell (p := ⟨xb, 1, none⟩) (by simp; omega)).trans x1, (hb.cell (p := ⟨xb, 2, none⟩) (by simp; omega)).trans x2, (hb.cell (p := ⟨xb, 3, none⟩) (by simp; omega)).trans x3, (hb.cell (p := ⟨xb, 4, none⟩) (by simp; omega)).trans x4, (hb.cell (p := ⟨xb, 5, none⟩) (by simp; omega)).trans x5, (hb.cell (p := ⟨xb + 1, 1, none⟩) (by simp; omega)).trans a1⟩
                have hwb : Below wm.heap.size wm wm := Below.refl _ _
                go_region_held3 (fun w9 => Below wm.heap.size wm w9 ∧ w9.cell? ⟨xb, 0, none⟩ = some (.slice E0 y.script.length e0) ∧ w9.cell? ⟨xb, 1, none⟩ = some (.int .i64 y.pc) ∧ w9.cell? ⟨xb, 2, none⟩ = some (.slice E2 4 e2) ∧ w9.cell? ⟨xb, 3, none⟩ = some (.int .i64 y.steps) ∧ w9.cell? ⟨xb, 4, none⟩ = some (.bool y.done) ∧ w9.cell? ⟨xb, 5, none⟩ = some (.bool true) ∧ w9.cell? ⟨xb + 1, 1, none⟩ = some (.int .i64 r)) (exact hS _ (by repeat (first | with_reducible exact Below.refl _ _ | with_reducible assumption | with_reducible refine bel_alloc ?_ _ | with_reducible refine bel_drew ?_ | with_reducible refine bel_drewN ?_ _ | (with_reducible refine bel_set ?_ ?_ _; rotate_left; ((try simp); (try omega))))))
                  (first
                    | (go_at_call 15
                       refine (HAT.out _ (bel_then hBm (by repeat (first | with_reducible exact Below.refl _ _ | with_reducible assumption | with_reducible refine bel_alloc ?_ _ | with_reducible refine bel_drew ?_ | with_reducible refine bel_drewN ?_ _ | (with_reducible refine bel_set ?_ ?_ _; rotate_left; ((try simp); (try omega))))))).mono ?_
                       rintro e w1 ⟨rfl, rfl⟩)
                    | (go_at_call 14
                       refine (implAnswerMachine_any _ y _ r ch _ (by exact Cod.bel HYm.out (by repeat (first | with_reducible exact Below.refl _ _ | with_reducible assumption | with_reducible refine bel_alloc ?_ _ | with_reducible refine bel_drew ?_ | with_reducible refine bel_drewN ?_ _ | (with_reducible refine bel_set ?_ ?_ _; rotate_left; ((try simp); (try omega)))))) hysz (by omega) (by omega)).mono ?_
                       rw [HAN.out]
                       rintro e wa ⟨vsa, Ga, rfl, hba, hra, hfa⟩
                       have hBa : Below wm.heap.size wm wa := bel_then (by repeat (first | with_reducible exact Below.refl _ _ | with_reducible assumption | with_reducible refine bel_alloc ?_ _ | with_reducible refine bel_drew ?_ | with_reducible refine bel_drewN ?_ _ | (with_reducible refine bel_set ?_ ?_ _; rotate_left; ((try simp); (try omega))))) hba
                       obtain ⟨hcA, hfA, hzA⟩ := bcell hba
                       (try simp at hzA)
                       obtain ⟨p0, p2, P0, P2, rfl, hPF, -, ta0, ta2⟩ := TMach.outA hra
                       obtain ⟨Y0, d0, rfl⟩ := cL_form ta0
                       obtain ⟨gr, oR, d2, rfl, hcr, hgF⟩ := regs_get ta2 (by omega)
                       have hFa : ∀ b, b ∈ Ga → _ ≤ b := fun b hb => hfa.1 b hb
                       (try simp at hFa)
                       have hgr : gr < wa.heap.size := World.block_lt_of_cell? _ _ hcr
                       have hgm := hFa gr (by rw [hPF]; simp [hgF])
                       have HRA := Lib.hid (And.intro hra hFa)
                       clear hba hra hfa ta0 ta2 hFa hPF hgF))
                · generalize hWz : World.alloc wa _ = wz
                  rename_i hHd
                  clear hHd
                  have HZ := Lib.hid (show wz.cell? ⟨wa.heap.size, 0, none⟩ = some (.slice Y0 y.script.length d0) ∧ wz.cell? ⟨wa.heap.size, 1, none⟩ = some (.int .i64 y.pc) ∧ wz.cell? ⟨wa.heap.size, 2, none⟩ = some (.slice (some ⟨gr, oR, none⟩) 4 d2) ∧ wz.cell? ⟨wa.heap.size, 3, none⟩ = some (.int .i64 y.steps) ∧ wz.cell? ⟨wa.heap.size, 4, none⟩ = some (.bool y.done) ∧ wz.cell? ⟨wa.heap.size, 5, none⟩ = some (.bool false) ∧ wz.cell? ⟨gr, oR + r, none⟩ = some (.int .i64 ch) from by
                    have hg1 : ¬ gr = wa.heap.size := by omega
                    rw [← hWz]; clear hWz; refine ⟨?_, ?_, ?_, ?_, ?_, ?_, ?_⟩ <;> go_simp)
                  have HRZ := Lib.hid (show cMach.rep wz [.slice Y0 y.script.length d0, .int .i64 y.pc, .slice (some ⟨gr, oR, none⟩) y.regs.length d2, .int .i64 y.steps, .bool y.done, .bool false] ⟨y.script, y.pc, y.regs.set r ch, y.steps, y.done, false⟩ Ga from by rw [← hWz]; clear hWz; exact (by repeat (first | with_reducible exact HRA.out.1 | with_reducible refine Cod.allocA ?_ _ | with_reducible refine Cod.drewA ?_ | with_reducible refine Cod.drewNA ?_ _ | ((with_reducible refine Cod.setA ?_ ?_ _); rotate_left; ((intro hm9; have hm8 := HRA.out.2 _ hm9; (try simp at hm8); (try omega)))))))
                  have hBz : Below wm.heap.size wm wz := by rw [← hWz]; clear hWz; exact (by repeat (first | with_reducible exact Below.refl _ _ | with_reducible assumption | with_reducible refine bel_alloc ?_ _ | with_reducible refine bel_drew ?_ | with_reducible refine bel_drewN ?_ _ | (with_reducible refine bel_set ?_ ?_ _; rotate_left; ((try simp); (try omega)))))
                  have hFz : ∀ b, b ∈ Ga → b ≠ mb := fun b hb => by have := HRA.out.2 b hb; omega
                  clear hWz HRA hcA hfA
                  have hBwz : Below w.heap.size w wz := bel_then hBm hBz
                  have hzz := hBz.size
                  have k0 := HZ.out.1
                  have k1 := HZ.out.2.1
                  have k2 := HZ.out.2.2.1
                  have k3 := HZ.out.2.2.2.1
                  have k4 := HZ.out.2.2.2.2.1
                  have k5 := HZ.out.2.2.2.2.2.1
                  have k6 := HZ.out.2.2.2.2.2.2
                  have k7 := (hBz.cell (p := ⟨xb + 1, 1, none⟩) (by simp; omega)).trans a1
                  have hr0 : (0 : Int) ≤ (r : Int) := by omega
                  have hr4 : (r : Int) < 4 := by omega
                  clear hcr
                  have HMZ := Lib.hid (HMB.out.bel hBz)
                  have hmz := HMZ.out.lt
                  obtain ⟨D0', d0', D2', d2', F9', m0, m1, m2, m3, m4, m5, -, -⟩ := HMZ.out.rep
                  have f0 := HMZ.out.fz 0; have f1 := HMZ.out.fz 1; have f2 := HMZ.out.fz 2; have f3 := HMZ.out.fz 3; have f4 := HMZ.out.fz 4; have f5 := HMZ.out.fz 5
                  go_wp2_with fail
                  go_quiet ((go_at_call 15; first | exact quiet_left (HAT.out _ (bel_drewN hBwz _)) | exact quiet_add_left (HAT.out _ (bel_drewN hBwz _))))
                  go_wp2_with fail
                  go_roundw
                  case rel =>
                    have hdn : Below wz.heap.size wz (wz.drewN nq) := bel_drewN (Below.refl _ _) _
                    have hst := (HMZ.out.bel hdn).store (x := ⟨y.script, y.pc, y.regs.set r ch, y.steps, y.done, false⟩) (A0 := Y0) (c0 := d0) (A2 := some ⟨gr, oR, none⟩) (c2 := d2) (F := Ga) (by simp only [List.length_set]; exact Cod.bel HRZ.out hdn) hFz
                    simp only [List.length_set, hyl] at hst
                    exact ⟨k + 1, _, by go_num, by go_num, HNX.out, hst, Cod.keep _ (Cod.bel HSm.out (bel_then hBz hdn)) (fun b hb => sets6_block (by have := HG.out b hb; omega) _ _ _ _ _ _), (by repeat (first | with_reducible exact Below.refl _ _ | with_reducible assumption | with_reducible refine bel_alloc ?_ _ | with_reducible refine bel_drew ?_ | with_reducible refine bel_drewN ?_ _ | (with_reducible refine bel_set ?_ ?_ _; rotate_left; ((try simp); (try omega)))))⟩
                  case measure => simp [intOf]; omega
                · generalize hWz : World.setCell _ _ _ = wz
                  rename_i hHd
                  clear hHd
                  have HZ := Lib.hid (show wz.cell? ⟨wm.heap.size, 0, none⟩ = some (.slice Y0 y.script.length d0) ∧ wz.cell? ⟨wm.heap.size, 1, none⟩ = some (.int .i64 y.pc) ∧ wz.cell? ⟨wm.heap.size, 2, none⟩ = some (.slice (some ⟨gr, oR, none⟩) 4 d2) ∧ wz.cell? ⟨wm.heap.size, 3, none⟩ = some (.int .i64 y.steps) ∧ wz.cell? ⟨wm.heap.size, 4, none⟩ = some (.bool y.done) ∧ wz.cell? ⟨wm.heap.size, 5, none⟩ = some (.bool false) ∧ wz.cell? ⟨gr, oR + r, none⟩ = some (.int .i64 ch) from by
                    have hg1 : ¬ gr = wm.heap.size := by omega
                    rw [← hWz]; clear hWz; refine ⟨?_, ?_, ?_, ?_, ?_, ?_, ?_⟩ <;> go_simp)
                  have HRZ := Lib.hid (show cMach.rep wz [.slice Y0 y.script.length d0, .int .i64 y.pc, .slice (some ⟨gr, oR, none⟩) y.regs.length d2, .int .i64 y.steps, .bool y.done, .bool false] ⟨y.script, y.pc, y.regs.set r ch, y.steps, y.done, false⟩ Ga from by rw [← hWz]; clear hWz; exact (by repeat (first | with_reducible exact HRA.out.1 | with_reducible refine Cod.allocA ?_ _ | with_reducible refine Cod.drewA ?_ | with_reducible refine Cod.drewNA ?_ _ | ((with_reducible refine Cod.setA ?_ ?_ _); rotate_left; ((intro hm9; have hm8 := HRA.out.2 _ hm9; (try simp at hm8); (try omega)))))))
                  have hBz : Below wm.heap.size wm wz := by rw [← hWz]; clear hWz; exact (by repeat (first | with_reducible exact Below.refl _ _ | with_reducible assumption | with_reducible refine bel_alloc ?_ _ | with_reducible refine bel_drew ?_ | with_reducible refine bel_drewN ?_ _ | (with_reducible refine bel_set ?_ ?_ _; rotate_left; ((try simp); (try omega)))))
                  have hFz : ∀ b, b ∈ Ga → b ≠ mb := fun b hb => by have := HRA.out.2 b hb; omega
                  clear hWz HRA hcA hfA
                  have hBwz : Below w.heap.size w wz := bel_then hBm hBz
                  have hzz := hBz.size
                  have k0 := HZ.out.1
                  have k1 := HZ.out.2.1
                  have k2 := HZ.out.2.2.1
                  have k3 := HZ.out.2.2.2.1
                  have k4 := HZ.out.2.2.2.2.1
                  have k5 := HZ.out.2.2.2.2.2.1
                  have k6 := HZ.out.2.2.2.2.2.2
                  have k7 := (hBz.cell (p := ⟨xb + 1, 1, none⟩) (by simp; omega)).trans a1
                  have hr0 : (0 : Int) ≤ (r : Int) := by omega
                  have hr4 : (r : Int) < 4 := by omega
                  clear hcr
                  have HMZ := Lib.hid (HMB.out.bel hBz)
                  have hmz := HMZ.out.lt
                  obtain ⟨D0', d0', D2', d2', F9', m0, m1, m2, m3, m4, m5, -, -⟩ := HMZ.out.rep
                  have f0 := HMZ.out.fz 0; have f1 := HMZ.out.fz 1; have f2 := HMZ.out.fz 2; have f3 := HMZ.out.fz 3; have f4 := HMZ.out.fz 4; have f5 := HMZ.out.fz 5
                  go_wp2_with fail
                  go_quiet ((go_at_call 15; first | exact quiet_left (HAT.out _ (bel_drewN hBwz _)) | exact quiet_add_left (HAT.out _ (bel_drewN hBwz _))))
                  go_wp2_with fail
                  go_roundw
                  case rel =>
                    have hdn : Below wz.heap.size wz (wz.drewN nq) := bel_drewN (Below.refl _ _) _
                    have hst := (HMZ.out.bel hdn).store (x := ⟨y.script, y.pc, y.regs.set r ch, y.steps, y.done, false⟩) (A0 := Y0) (c0 := d0) (A2 := some ⟨gr, oR, none⟩) (c2 := d2) (F := Ga) (by simp only [List.length_set]; exact Cod.bel HRZ.out hdn) hFz
                    simp only [List.length_set, hyl] at hst
                    exact ⟨k + 1, _, by go_num, by go_num, HNX.out, hst, Cod.keep _ (Cod.bel HSm.out (bel_then hBz hdn)) (fun b hb => sets6_block (by have := HG.out b hb; omega) _ _ _ _ _ _), (by repeat (first | with_reducible exact Below.refl _ _ | with_reducible assumption | with_reducible refine bel_alloc ?_ _ | with_reducible refine bel_drew ?_ | with_reducible refine bel_drewN ?_ _ | (with_reducible refine bel_set ?_ ?_ _; rotate_left; ((try simp); (try omega)))))⟩
                  case measure => simp [intOf]; omega
                · generalize hWz : World.setCell _ _ _ = wz
                  rename_i hHd
                  clear hHd
                  have HZ := Lib.hid (show wz.cell? ⟨wm.heap.size, 0, none⟩ = some (.slice Y0 y.script.length d0) ∧ wz.cell? ⟨wm.heap.size, 1, none⟩ = some (.int .i64 y.pc) ∧ wz.cell? ⟨wm.heap.size, 2, none⟩ = some (.slice (some ⟨gr, oR, none⟩) 4 d2) ∧ wz.cell? ⟨wm.heap.size, 3, none⟩ = some (.int .i64 y.steps) ∧ wz.cell? ⟨wm.heap.size, 4, none⟩ = some (.bool y.done) ∧ wz.cell? ⟨wm.heap.size, 5, none⟩ = some (.bool false) ∧ wz.cell? ⟨gr, oR + r, none⟩ = some (.int .i64 ch) from by
                    have hg1 : ¬ gr = wm.heap.size := by omega
                    rw [← hWz]; clear hWz; refine ⟨?_, ?_, ?_, ?_, ?_, ?_, ?_⟩ <;> go_simp)
                  have HRZ := Lib.hid (show cMach.rep wz [.slice Y0 y.script.length d0, .int .i64 y.pc, .slice (some ⟨gr, oR, none⟩) y.regs.length d2, .int .i64 y.steps, .bool y.done, .bool false] ⟨y.script, y.pc, y.regs.set r ch, y.steps, y.done, false⟩ Ga from by rw [← hWz]; clear hWz; exact (by repeat (first | with_reducible exact HRA.out.1 | with_reducible refine Cod.allocA ?_ _ | with_reducible refine Cod.drewA ?_ | with_reducible refine Cod.drewNA ?_ _ | ((with_reducible refine Cod.setA ?_ ?_ _); rotate_left; ((intro hm9; have hm8 := HRA.out.2 _ hm9; (try simp at hm8); (try omega)))))))
                  have hBz : Below wm.heap.size wm wz := by rw [← hWz]; clear hWz; exact (by repeat (first | with_reducible exact Below.refl _ _ | with_reducible assumption | with_reducible refine bel_alloc ?_ _ | with_reducible refine bel_drew ?_ | with_reducible refine bel_drewN ?_ _ | (with_reducible refine bel_set ?_ ?_ _; rotate_left; ((try simp); (try omega)))))
                  have hFz : ∀ b, b ∈ Ga → b ≠ mb := fun b hb => by have := HRA.out.2 b hb; omega
                  clear hWz HRA hcA hfA
                  have hBwz : Below w.heap.size w wz := bel_then hBm hBz
                  have hzz := hBz.size
                  have k0 := HZ.out.1
                  have k1 := HZ.out.2.1
                  have k2 := HZ.out.2.2.1
                  have k3 := HZ.out.2.2.2.1
                  have k4 := HZ.out.2.2.2.2.1
                  have k5 := HZ.out.2.2.2.2.2.1
                  have k6 := HZ.out.2.2.2.2.2.2
                  have k7 := (hBz.cell (p := ⟨xb + 1, 1, none⟩) (by simp; omega)).trans a1
                  have hr0 : (0 : Int) ≤ (r : Int) := by omega
                  have hr4 : (r : Int) < 4 := by omega
                  clear hcr
                  have HMZ := Lib.hid (HMB.out.bel hBz)
                  have hmz := HMZ.out.lt
                  obtain ⟨D0', d0', D2', d2', F9', m0, m1, m2, m3, m4, m5, -, -⟩ := HMZ.out.rep
                  have f0 := HMZ.out.fz 0; have f1 := HMZ.out.fz 1; have f2 := HMZ.out.fz 2; have f3 := HMZ.out.fz 3; have f4 := HMZ.out.fz 4; have f5 := HMZ.out.fz 5
                  go_wp2_with fail
                  go_quiet ((go_at_call 15; first | exact quiet_left (HAT.out _ (bel_drewN hBwz _)) | exact quiet_add_left (HAT.out _ (bel_drewN hBwz _))))
                  go_wp2_with fail
                  go_roundw
                  case rel =>
                    have hdn : Below wz.heap.size wz (wz.drewN nq) := bel_drewN (Below.refl _ _) _
                    have hst := (HMZ.out.bel hdn).store (x := ⟨y.script, y.pc, y.regs.set r ch, y.steps, y.done, false⟩) (A0 := Y0) (c0 := d0) (A2 := some ⟨gr, oR, none⟩) (c2 := d2) (F := Ga) (by simp only [List.length_set]; exact Cod.bel HRZ.out hdn) hFz
                    simp only [List.length_set, hyl] at hst
                    exact ⟨k + 1, _, by go_num, by go_num, HNX.out, hst, Cod.keep _ (Cod.bel HSm.out (bel_then hBz hdn)) (fun b hb => sets6_block (by have := HG.out b hb; omega) _ _ _ _ _ _), (by repeat (first | with_reducible exact Below.refl _ _ | with_reducible assumption | with_reducible refine bel_alloc ?_ _ | with_reducible refine bel_drew ?_ | with_reducible refine bel_drewN ?_ _ | (with_reducible refine bel_set ?_ ?_ _; rotate_left; ((try simp); (try omega)))))⟩
                  case measure => simp [intOf]; omega
            · rw [h1] at hwt
              simp only [Bool.true_or] at hwt
              rw [hwt] at x5
              go_upto_region 22 with (fail)
              have HMB := Lib.hid (HB5.out.store HY5.out.1 HY5.out.2)
              rw [hwt] at HMB
              generalize hWm : World.setCell _ _ _ = wm
              rw [hWm] at HMB
              have hblk : ∀ c, c ≠ mb → wm.heap[c]? = wr.heap[c]? := fun c hc => by rw [← hWm]; exact sets6_block hc _ _ _ _ _ _
              have hszm : wr.heap.size ≤ wm.heap.size := by rw [← hWm]; clear hWm; simp
              have hBm : Below w.heap.size w wm := by rw [← hWm]; exact (by repeat (first | with_reducible exact Below.refl _ _ | with_reducible assumption | with_reducible refine bel_alloc ?_ _ | with_reducible refine bel_drew ?_ | with_reducible refine bel_drewN ?_ _ | (with_reducible refine bel_set ?_ ?_ _; rotate_left; ((try simp); (try omega)))))
              have HYm := Lib.hid (Cod.keep _ HY5.out.1 (fun b hb => hblk b (HY5.out.2 b hb)))
              have HSm := Lib.hid (Cod.keep _ HSC5.out (fun b hb => hblk b (by have := HG.out b hb; omega)))
              clear hWm
              replace x0 := (World.cell?_of_block (a := ⟨xb, 0, none⟩) (hblk xb hne2)).trans x0
              replace x1 := (World.cell?_of_block (a := ⟨xb, 1, none⟩) (hblk xb hne2)).trans x1
              replace x2 := (World.cell?_of_block (a := ⟨xb, 2, none⟩) (hblk xb hne2)).trans x2
              replace x3 := (World.cell?_of_block (a := ⟨xb, 3, none⟩) (hblk xb hne2)).trans x3
              replace x4 := (World.cell?_of_block (a := ⟨xb, 4, none⟩) (hblk xb hne2)).trans x4
              replace x5 := (World.cell?_of_block (a := ⟨xb, 5, none⟩) (hblk xb hne2)).trans x5
              replace a1 := (World.cell?_of_block (a := ⟨xb + 1, 1, none⟩) (hblk (xb + 1) (by omega))).trans a1
              clear a0 a4 m0 m1 m2 m3 m4 m5 f0 f1 f2 f3 f4 f5 hblk HB5 HSC5 HY5 hv1 hv2 hmb5
              have hatr := atC_range xs k
              have hat0 : ∀ W, Below w.heap.size w W → Calls Try.prog 15 #[.slice A xs.length cp, .int .i64 k] W fun e w' => e = .returned (.int .i64 (atC xs k)) ∧ W = w' := fun W hb => at_any A xs.length cp xs F k W (Cod.bel HR.out hb) hn (by omega)
              generalize atC xs k = ch at *
              have HAT := Lib.hid hat0
              clear hat0
              have hchm : ch.tmod 1000 = ch := by rw [Int.tmod_eq_emod_of_nonneg hatr.1]; omega
              have hrr := HMR.out.r
              simp only at hrr
              obtain ⟨r, rfl⟩ : ∃ r : Nat, ar = r := ⟨ar.toNat, by omega⟩
              obtain ⟨hans, hnext⟩ := minv_answer HMR.out hwt hatr
              simp only [Int.toNat_natCast] at hans hnext
              have hyl := HMR.out.regs.1
              rw [hyl, hwt] at HYm
              rw [hyl] at x2
              have hysz := HMR.out.sz
              have HNX := Lib.hid hnext
              have HAN := Lib.hid hans
              clear hans hnext
              have hS : ∀ w9, Below wm.heap.size wm w9 → Below wm.heap.size wm w9 ∧ w9.cell? ⟨xb, 0, none⟩ = some (.slice E0 y.script.length e0) ∧ w9.cell? ⟨xb, 1, none⟩ = some (.int .i64 y.pc) ∧ w9.cell? ⟨xb, 2, none⟩ = some (.slice E2 4 e2) ∧ w9.cell? ⟨xb, 3, none⟩ = some (.int .i64 y.steps) ∧ w9.cell? ⟨xb, 4, none⟩ = some (.bool y.done) ∧ w9.cell? ⟨xb, 5, none⟩ = some (.bool true) ∧ w9.cell? ⟨xb + 1, 1, none⟩ = some (.int .i64 r) := fun w9 hb =>
                ⟨hb, (hb.cell (p := ⟨xb, 0, none⟩) (by simp; omega)).trans x0, (hb.cell (p := ⟨xb, 1, none⟩) (by simp; omega)).trans x1, (hb.cell (p := ⟨xb, 2, none⟩) (by simp; omega)).trans x2, (hb.cell (p := ⟨xb, 3, none⟩) (by simp; omega)).trans x3, (hb.cell (p := ⟨xb, 4, none⟩) (by simp; omega)).trans x4, (hb.cell (p := ⟨xb, 5, none⟩) (by simp; omega)).trans x5, (hb.cell (p := ⟨xb + 1, 1, none⟩) (by simp; omega)).trans a1⟩
              have hwb : Below wm.heap.size wm wm := Below.refl _ _
              go_region_held3 (fun w9 => Below wm.heap.size wm w9 ∧ w9.cell? ⟨xb, 0, none⟩ = some (.slice E0 y.script.length e0) ∧ w9.cell? ⟨xb, 1, none⟩ = some (.int .i64 y.pc) ∧ w9.cell? ⟨xb, 2, none⟩ = some (.slice E2 4 e2) ∧ w9.cell? ⟨xb, 3, none⟩ = some (.int .i64 y.steps) ∧ w9.cell? ⟨xb, 4, none⟩ = some (.bool y.done) ∧ w9.cell? ⟨xb, 5, none⟩ = some (.bool true) ∧ w9.cell? ⟨xb + 1, 1, none⟩ = some (.int .i64 r)) (exact hS _ (by repeat (first | with_reducible exact Below.refl _ _ | with_reducible assumption | with_reducible refine bel_alloc ?_ _ | with_reducible refine bel_drew ?_ | with_reducible refine bel_drewN ?_ _ | (with_reducible refine bel_set ?_ ?_ _; rotate_left; ((try simp); (try omega))))))
                (first
                  | (go_at_call 15
                     refine (HAT.out _ (bel_then hBm (by repeat (first | with_reducible exact Below.refl _ _ | with_reducible assumption | with_reducible refine bel_alloc ?_ _ | with_reducible refine bel_drew ?_ | with_reducible refine bel_drewN ?_ _ | (with_reducible refine bel_set ?_ ?_ _; rotate_left; ((try simp); (try omega))))))).mono ?_
                     rintro e w1 ⟨rfl, rfl⟩)
                  | (go_at_call 14
                     refine (implAnswerMachine_any _ y _ r ch _ (by exact Cod.bel HYm.out (by repeat (first | with_reducible exact Below.refl _ _ | with_reducible assumption | with_reducible refine bel_alloc ?_ _ | with_reducible refine bel_drew ?_ | with_reducible refine bel_drewN ?_ _ | (with_reducible refine bel_set ?_ ?_ _; rotate_left; ((try simp); (try omega)))))) hysz (by omega) (by omega)).mono ?_
                     rw [HAN.out]
                     rintro e wa ⟨vsa, Ga, rfl, hba, hra, hfa⟩
                     have hBa : Below wm.heap.size wm wa := bel_then (by repeat (first | with_reducible exact Below.refl _ _ | with_reducible assumption | with_reducible refine bel_alloc ?_ _ | with_reducible refine bel_drew ?_ | with_reducible refine bel_drewN ?_ _ | (with_reducible refine bel_set ?_ ?_ _; rotate_left; ((try simp); (try omega))))) hba
                     obtain ⟨hcA, hfA, hzA⟩ := bcell hba
                     (try simp at hzA)
                     obtain ⟨p0, p2, P0, P2, rfl, hPF, -, ta0, ta2⟩ := TMach.outA hra
                     obtain ⟨Y0, d0, rfl⟩ := cL_form ta0
                     obtain ⟨gr, oR, d2, rfl, hcr, hgF⟩ := regs_get ta2 (by omega)
                     have hFa : ∀ b, b ∈ Ga → _ ≤ b := fun b hb => hfa.1 b hb
                     (try simp at hFa)
                     have hgr : gr < wa.heap.size := World.block_lt_of_cell? _ _ hcr
                     have hgm := hFa gr (by rw [hPF]; simp [hgF])
                     have HRA := Lib.hid (And.intro hra hFa)
                     clear hba hra hfa ta0 ta2 hFa hPF hgF))
              · generalize hWz : World.alloc wa _ = wz
                rename_i hHd
                clear hHd
                have HZ := Lib.hid (show wz.cell? ⟨wa.heap.size, 0, none⟩ = some (.slice Y0 y.script.length d0) ∧ wz.cell? ⟨wa.heap.size, 1, none⟩ = some (.int .i64 y.pc) ∧ wz.cell? ⟨wa.heap.size, 2, none⟩ = some (.slice (some ⟨gr, oR, none⟩) 4 d2) ∧ wz.cell? ⟨wa.heap.size, 3, none⟩ = some (.int .i64 y.steps) ∧ wz.cell? ⟨wa.heap.size, 4, none⟩ = some (.bool y.done) ∧ wz.cell? ⟨wa.heap.size, 5, none⟩ = some (.bool false) ∧ wz.cell? ⟨gr, oR + r, none⟩ = some (.int .i64 ch) from by
                  have hg1 : ¬ gr = wa.heap.size := by omega
                  rw [← hWz]; clear hWz; refine ⟨?_, ?_, ?_, ?_, ?_, ?_, ?_⟩ <;> go_simp)
                have HRZ := Lib.hid (show cMach.rep wz [.slice Y0 y.script.length d0, .int .i64 y.pc, .slice (some ⟨gr, oR, none⟩) y.regs.length d2, .int .i64 y.steps, .bool y.done, .bool false] ⟨y.script, y.pc, y.regs.set r ch, y.steps, y.done, false⟩ Ga from by rw [← hWz]; clear hWz; exact (by repeat (first | with_reducible exact HRA.out.1 | with_reducible refine Cod.allocA ?_ _ | with_reducible refine Cod.drewA ?_ | with_reducible refine Cod.drewNA ?_ _ | ((with_reducible refine Cod.setA ?_ ?_ _); rotate_left; ((intro hm9; have hm8 := HRA.out.2 _ hm9; (try simp at hm8); (try omega)))))))
                have hBz : Below wm.heap.size wm wz := by rw [← hWz]; clear hWz; exact (by repeat (first | with_reducible exact Below.refl _ _ | with_reducible assumption | with_reducible refine bel_alloc ?_ _ | with_reducible refine bel_drew ?_ | with_reducible refine bel_drewN ?_ _ | (with_reducible refine bel_set ?_ ?_ _; rotate_left; ((try simp); (try omega)))))
                have hFz : ∀ b, b ∈ Ga → b ≠ mb := fun b hb => by have := HRA.out.2 b hb; omega
                clear hWz HRA hcA hfA
                have hBwz : Below w.heap.size w wz := bel_then hBm hBz
                have hzz := hBz.size
                have k0 := HZ.out.1
                have k1 := HZ.out.2.1
                have k2 := HZ.out.2.2.1
                have k3 := HZ.out.2.2.2.1
                have k4 := HZ.out.2.2.2.2.1
                have k5 := HZ.out.2.2.2.2.2.1
                have k6 := HZ.out.2.2.2.2.2.2
                have k7 := (hBz.cell (p := ⟨xb + 1, 1, none⟩) (by simp; omega)).trans a1
                have hr0 : (0 : Int) ≤ (r : Int) := by omega
                have hr4 : (r : Int) < 4 := by omega
                clear hcr
                have HMZ := Lib.hid (HMB.out.bel hBz)
                have hmz := HMZ.out.lt
                obtain ⟨D0', d0', D2', d2', F9', m0, m1, m2, m3, m4, m5, -, -⟩ := HMZ.out.rep
                have f0 := HMZ.out.fz 0; have f1 := HMZ.out.fz 1; have f2 := HMZ.out.fz 2; have f3 := HMZ.out.fz 3; have f4 := HMZ.out.fz 4; have f5 := HMZ.out.fz 5
                go_wp2_with fail
                go_quiet ((go_at_call 15; first | exact quiet_left (HAT.out _ (bel_drewN hBwz _)) | exact quiet_add_left (HAT.out _ (bel_drewN hBwz _))))
                go_wp2_with fail
                go_roundw
                case rel =>
                  have hdn : Below wz.heap.size wz (wz.drewN nq) := bel_drewN (Below.refl _ _) _
                  have hst := (HMZ.out.bel hdn).store (x := ⟨y.script, y.pc, y.regs.set r ch, y.steps, y.done, false⟩) (A0 := Y0) (c0 := d0) (A2 := some ⟨gr, oR, none⟩) (c2 := d2) (F := Ga) (by simp only [List.length_set]; exact Cod.bel HRZ.out hdn) hFz
                  simp only [List.length_set, hyl] at hst
                  exact ⟨k + 1, _, by go_num, by go_num, HNX.out, hst, Cod.keep _ (Cod.bel HSm.out (bel_then hBz hdn)) (fun b hb => sets6_block (by have := HG.out b hb; omega) _ _ _ _ _ _), (by repeat (first | with_reducible exact Below.refl _ _ | with_reducible assumption | with_reducible refine bel_alloc ?_ _ | with_reducible refine bel_drew ?_ | with_reducible refine bel_drewN ?_ _ | (with_reducible refine bel_set ?_ ?_ _; rotate_left; ((try simp); (try omega)))))⟩
                case measure => simp [intOf]; omega
              · generalize hWz : World.setCell _ _ _ = wz
                rename_i hHd
                clear hHd
                have HZ := Lib.hid (show wz.cell? ⟨wm.heap.size, 0, none⟩ = some (.slice Y0 y.script.length d0) ∧ wz.cell? ⟨wm.heap.size, 1, none⟩ = some (.int .i64 y.pc) ∧ wz.cell? ⟨wm.heap.size, 2, none⟩ = some (.slice (some ⟨gr, oR, none⟩) 4 d2) ∧ wz.cell? ⟨wm.heap.size, 3, none⟩ = some (.int .i64 y.steps) ∧ wz.cell? ⟨wm.heap.size, 4, none⟩ = some (.bool y.done) ∧ wz.cell? ⟨wm.heap.size, 5, none⟩ = some (.bool false) ∧ wz.cell? ⟨gr, oR + r, none⟩ = some (.int .i64 ch) from by
                  have hg1 : ¬ gr = wm.heap.size := by omega
                  rw [← hWz]; clear hWz; refine ⟨?_, ?_, ?_, ?_, ?_, ?_, ?_⟩ <;> go_simp)
                have HRZ := Lib.hid (show cMach.rep wz [.slice Y0 y.script.length d0, .int .i64 y.pc, .slice (some ⟨gr, oR, none⟩) y.regs.length d2, .int .i64 y.steps, .bool y.done, .bool false] ⟨y.script, y.pc, y.regs.set r ch, y.steps, y.done, false⟩ Ga from by rw [← hWz]; clear hWz; exact (by repeat (first | with_reducible exact HRA.out.1 | with_reducible refine Cod.allocA ?_ _ | with_reducible refine Cod.drewA ?_ | with_reducible refine Cod.drewNA ?_ _ | ((with_reducible refine Cod.setA ?_ ?_ _); rotate_left; ((intro hm9; have hm8 := HRA.out.2 _ hm9; (try simp at hm8); (try omega)))))))
                have hBz : Below wm.heap.size wm wz := by rw [← hWz]; clear hWz; exact (by repeat (first | with_reducible exact Below.refl _ _ | with_reducible assumption | with_reducible refine bel_alloc ?_ _ | with_reducible refine bel_drew ?_ | with_reducible refine bel_drewN ?_ _ | (with_reducible refine bel_set ?_ ?_ _; rotate_left; ((try simp); (try omega)))))
                have hFz : ∀ b, b ∈ Ga → b ≠ mb := fun b hb => by have := HRA.out.2 b hb; omega
                clear hWz HRA hcA hfA
                have hBwz : Below w.heap.size w wz := bel_then hBm hBz
                have hzz := hBz.size
                have k0 := HZ.out.1
                have k1 := HZ.out.2.1
                have k2 := HZ.out.2.2.1
                have k3 := HZ.out.2.2.2.1
                have k4 := HZ.out.2.2.2.2.1
                have k5 := HZ.out.2.2.2.2.2.1
                have k6 := HZ.out.2.2.2.2.2.2
                have k7 := (hBz.cell (p := ⟨xb + 1, 1, none⟩) (by simp; omega)).trans a1
                have hr0 : (0 : Int) ≤ (r : Int) := by omega
                have hr4 : (r : Int) < 4 := by omega
                clear hcr
                have HMZ := Lib.hid (HMB.out.bel hBz)
                have hmz := HMZ.out.lt
                obtain ⟨D0', d0', D2', d2', F9', m0, m1, m2, m3, m4, m5, -, -⟩ := HMZ.out.rep
                have f0 := HMZ.out.fz 0; have f1 := HMZ.out.fz 1; have f2 := HMZ.out.fz 2; have f3 := HMZ.out.fz 3; have f4 := HMZ.out.fz 4; have f5 := HMZ.out.fz 5
                go_wp2_with fail
                go_quiet ((go_at_call 15; first | exact quiet_left (HAT.out _ (bel_drewN hBwz _)) | exact quiet_add_left (HAT.out _ (bel_drewN hBwz _))))
                go_wp2_with fail
                go_roundw
                case rel =>
                  have hdn : Below wz.heap.size wz (wz.drewN nq) := bel_drewN (Below.refl _ _) _
                  have hst := (HMZ.out.bel hdn).store (x := ⟨y.script, y.pc, y.regs.set r ch, y.steps, y.done, false⟩) (A0 := Y0) (c0 := d0) (A2 := some ⟨gr, oR, none⟩) (c2 := d2) (F := Ga) (by simp only [List.length_set]; exact Cod.bel HRZ.out hdn) hFz
                  simp only [List.length_set, hyl] at hst
                  exact ⟨k + 1, _, by go_num, by go_num, HNX.out, hst, Cod.keep _ (Cod.bel HSm.out (bel_then hBz hdn)) (fun b hb => sets6_block (by have := HG.out b hb; omega) _ _ _ _ _ _), (by repeat (first | with_reducible exact Below.refl _ _ | with_reducible assumption | with_reducible refine bel_alloc ?_ _ | with_reducible refine bel_drew ?_ | with_reducible refine bel_drewN ?_ _ | (with_reducible refine bel_set ?_ ?_ _; rotate_left; ((try simp); (try omega)))))⟩
                case measure => simp [intOf]; omega
              · generalize hWz : World.setCell _ _ _ = wz
                rename_i hHd
                clear hHd
                have HZ := Lib.hid (show wz.cell? ⟨wm.heap.size, 0, none⟩ = some (.slice Y0 y.script.length d0) ∧ wz.cell? ⟨wm.heap.size, 1, none⟩ = some (.int .i64 y.pc) ∧ wz.cell? ⟨wm.heap.size, 2, none⟩ = some (.slice (some ⟨gr, oR, none⟩) 4 d2) ∧ wz.cell? ⟨wm.heap.size, 3, none⟩ = some (.int .i64 y.steps) ∧ wz.cell? ⟨wm.heap.size, 4, none⟩ = some (.bool y.done) ∧ wz.cell? ⟨wm.heap.size, 5, none⟩ = some (.bool false) ∧ wz.cell? ⟨gr, oR + r, none⟩ = some (.int .i64 ch) from by
                  have hg1 : ¬ gr = wm.heap.size := by omega
                  rw [← hWz]; clear hWz; refine ⟨?_, ?_, ?_, ?_, ?_, ?_, ?_⟩ <;> go_simp)
                have HRZ := Lib.hid (show cMach.rep wz [.slice Y0 y.script.length d0, .int .i64 y.pc, .slice (some ⟨gr, oR, none⟩) y.regs.length d2, .int .i64 y.steps, .bool y.done, .bool false] ⟨y.script, y.pc, y.regs.set r ch, y.steps, y.done, false⟩ Ga from by rw [← hWz]; clear hWz; exact (by repeat (first | with_reducible exact HRA.out.1 | with_reducible refine Cod.allocA ?_ _ | with_reducible refine Cod.drewA ?_ | with_reducible refine Cod.drewNA ?_ _ | ((with_reducible refine Cod.setA ?_ ?_ _); rotate_left; ((intro hm9; have hm8 := HRA.out.2 _ hm9; (try simp at hm8); (try omega)))))))
                have hBz : Below wm.heap.size wm wz := by rw [← hWz]; clear hWz; exact (by repeat (first | with_reducible exact Below.refl _ _ | with_reducible assumption | with_reducible refine bel_alloc ?_ _ | with_reducible refine bel_drew ?_ | with_reducible refine bel_drewN ?_ _ | (with_reducible refine bel_set ?_ ?_ _; rotate_left; ((try simp); (try omega)))))
                have hFz : ∀ b, b ∈ Ga → b ≠ mb := fun b hb => by have := HRA.out.2 b hb; omega
                clear hWz HRA hcA hfA
                have hBwz : Below w.heap.size w wz := bel_then hBm hBz
                have hzz := hBz.size
                have k0 := HZ.out.1
                have k1 := HZ.out.2.1
                have k2 := HZ.out.2.2.1
                have k3 := HZ.out.2.2.2.1
                have k4 := HZ.out.2.2.2.2.1
                have k5 := HZ.out.2.2.2.2.2.1
                have k6 := HZ.out.2.2.2.2.2.2
                have k7 := (hBz.cell (p := ⟨xb + 1, 1, none⟩) (by simp; omega)).trans a1
                have hr0 : (0 : Int) ≤ (r : Int) := by omega
                have hr4 : (r : Int) < 4 := by omega
                clear hcr
                have HMZ := Lib.hid (HMB.out.bel hBz)
                have hmz := HMZ.out.lt
                obtain ⟨D0', d0', D2', d2', F9', m0, m1, m2, m3, m4, m5, -, -⟩ := HMZ.out.rep
                have f0 := HMZ.out.fz 0; have f1 := HMZ.out.fz 1; have f2 := HMZ.out.fz 2; have f3 := HMZ.out.fz 3; have f4 := HMZ.out.fz 4; have f5 := HMZ.out.fz 5
                go_wp2_with fail
                go_quiet ((go_at_call 15; first | exact quiet_left (HAT.out _ (bel_drewN hBwz _)) | exact quiet_add_left (HAT.out _ (bel_drewN hBwz _))))
                go_wp2_with fail
                go_roundw
                case rel =>
                  have hdn : Below wz.heap.size wz (wz.drewN nq) := bel_drewN (Below.refl _ _) _
                  have hst := (HMZ.out.bel hdn).store (x := ⟨y.script, y.pc, y.regs.set r ch, y.steps, y.done, false⟩) (A0 := Y0) (c0 := d0) (A2 := some ⟨gr, oR, none⟩) (c2 := d2) (F := Ga) (by simp only [List.length_set]; exact Cod.bel HRZ.out hdn) hFz
                  simp only [List.length_set, hyl] at hst
                  exact ⟨k + 1, _, by go_num, by go_num, HNX.out, hst, Cod.keep _ (Cod.bel HSm.out (bel_then hBz hdn)) (fun b hb => sets6_block (by have := HG.out b hb; omega) _ _ _ _ _ _), (by repeat (first | with_reducible exact Below.refl _ _ | with_reducible assumption | with_reducible refine bel_alloc ?_ _ | with_reducible refine bel_drew ?_ | with_reducible refine bel_drewN ?_ _ | (with_reducible refine bel_set ?_ ?_ _; rotate_left; ((try simp); (try omega)))))⟩
                case measure => simp [intOf]; omega
set_option maxRecDepth 100000 in
theorem lawMachines_walk (H : Type) (enc : TypeId × Value → H) (W : World) (base : Nat) (args : Array Value) (ds : List (DataW H)) (p : List MemPlace)
    (hval : ∀ (j : Nat) t v, Try.f3.params[j]? = some t → args[j]? = some v → Value.okWide Try.prog W .any base t v)
    (hA : DataW.TrodAll enc Try.prog W 0 (fun _ => true) true Try.f3.params.toList args.toList ds p) (hf : W.noneFrozen p) :
    Calls Try.prog 3 args W (Gives W (.bool true)) := by
  rw [Try.params3] at hA hval
  obtain ⟨v0, vs0, d0, ds0, q0, s0, hargs, rfl, rfl, k0, t0⟩ := trodAll_cons hA
  obtain ⟨rfl, rfl, rfl⟩ := trodAll_nil t0
  obtain rfl : args = #[v0] := by cases args; simp_all
  obtain ⟨x0, F0, hx0⟩ := opens_US.slice_ Try.underlying22 (hval 0 _ _ rfl rfl) k0 (noneFrozen_mono hf fun y hy => by simp [hy])
  exact lawMachines_any v0 x0 F0 W hx0

set_option maxRecDepth 100000 in
theorem lawMachines_lifted (os : Os) (started : os.Started) (H : Type) (enc : TypeId × Value → H) :
    ReturnsInHanded {} Try.checked os 3 .any (Rows.fnMachinesSpec.pre6 enc Try.prog Try.f3 Rows.fnMachinesRow.domain false) (Rows.fnMachinesSpec.post enc Try.prog Try.f3 false true false false) := by
  refine returnsInHanded_of_change (C := Try.checked) (by kernel_rfl) started (by kernel_rfl) Try.func3
    (ChangeSpec.witness6 (enc := enc) (C := Try.checked) false ⟨#[], #[.slice none 0 0], []⟩ 16 (by kernel_rfl) (by kernel_rfl) (by kernel_rfl) (by kernel_rfl)) ?_
  intro W base args ds gs before hval hW _ _
  have hW' := hW
  obtain ⟨p, q, hA, hV, rfl, hfz, hnd⟩ := hW
  refine (lawMachines_walk H enc W base args ds p hval hA (noneFrozen_mono hfz fun y hy => by simp [hy])).mono fun e W' ⟨he, hb⟩ => ⟨_, he, ?_⟩
  exact law_post (by kernel_rfl) rfl (by kernel_rfl) Try.underlying4 (by kernel_rfl) (fun ds h => by
    match ds, h with
    | [d0], _ => exact ⟨rfl, rfl, rfl⟩) hW' hb
theorem lawMachines_over : Rows.fnMachinesRow.holds Try.pinned (OpenSpec.ofChange Rows.fnMachinesSpec) :=
  OpenClaim.holds_of_wide 3 Try.f3 rfl rfl rfl rfl rfl rfl rfl ⟨rfl, rfl, rfl, rfl, rfl⟩ rfl rfl rfl rfl rfl (by kernel_rfl) Try.func3 (by kernel_rfl)
    (of_decide_eq_true (by kernel_rfl)) (by unfold Func.isWrapper; rw [if_neg (of_decide_eq_false (by kernel_rfl))]; exact ⟨rfl, rfl⟩)
    (fun os started H enc _ => lawMachines_lifted os started H enc)
/-- THE STATEMENT -/
theorem lawMachines_holds : Rows.FnMachinesSaid := lawMachines_over

end Go.Proofs.Ytlicnppfgfjkgaa
