/-
  InstallFiles of the program. No conditions.
-/
import Derived.Test.YtlicnppfgfjkgaaZInstPlain
import Derived.Test.YtlicnppfgfjkgaaZRegP
import Derived.Deep.CutRange
namespace Go.Proofs.Ytlicnppfgfjkgaa
open Go.ChangeShapes Go.WideShapes Go.RowKit
set_option linter.unusedVariables false

set_option maxRecDepth 100000 in
set_option maxHeartbeats 8000000 in
theorem implInstallFiles_any (vs : Array Value) (x : TCSet) (F : List Nat) (vs2 : Array Value) (y : TSite) (F2 : List Nat) (v : Int) (on : Bool) (w : World) (h : cCSet.rep w vs.toList x F) (hn : cCSet.sz x ≤ 1048576) (h2 : cSite.rep w vs2.toList y F2) (hn2 : cSite.sz y ≤ 1048576) (hv : -9223372036854775808 ≤ v ∧ v ≤ 9223372036854775807) :
    Calls Try.prog 53 #[.agg vs, .agg vs2, .int .i64 v, .bool on] w (GivesR2 cCSet w (installFiles x y v on).1 (.bool (installFiles x y v on).2)) := by
  have hr := h
  have hr2 := h2
  obtain ⟨v0, F0, rfl, -, -, m0⟩ := TCSet.outA h
  obtain ⟨A, cp, rfl⟩ := cL_form m0
  obtain ⟨v2, G2, rfl, rfl, hok2, m2⟩ := TSite.outA h2
  obtain ⟨A2, c2, e2⟩ := cL_form m2
  subst e2
  obtain ⟨hnm, hfl, hfz⟩ := site_parts hr2 hn2
  clear h h2 m0
  cases on
  · have HE := Lib.hid (show installFiles x y v false = (x, false) from rfl)
    go_enter Try.func53, Try.ntmps53
    go_wp2_with fail
    refine (implCopySet_any _ x _ _ (by exact Cod.bel hr (by repeat (first | with_reducible exact Below.refl _ _ | with_reducible assumption | with_reducible refine bel_alloc ?_ _ | with_reducible refine bel_drew ?_ | with_reducible refine bel_drewN ?_ _ | (with_reducible refine bel_set ?_ ?_ _; rotate_left; ((try simp); (try omega)))))) hn).mono ?_
    rintro e w7 ⟨vs7, G7, rfl, hb7, hrep7, hf7⟩
    obtain ⟨B7, d7, rfl, n7⟩ := TCSet.outO hrep7
    have hbq7 : Below w.heap.size w w7 := bel_then (by repeat (first | with_reducible exact Below.refl _ _ | with_reducible assumption | with_reducible refine bel_alloc ?_ _ | with_reducible refine bel_drew ?_ | with_reducible refine bel_drewN ?_ _ | (with_reducible refine bel_set ?_ ?_ _; rotate_left; ((try simp); (try omega))))) hb7
    obtain ⟨hc_w7, hf_w7, hz_w7⟩ := bcell hb7
    have hf7' : Fresh (w.heap.size + 1 + 1 + 1) G7 := hf7.mono (by (try simp); (try omega))
    have hb7w := hb7
    (try simp at hz_w7)
    have hq27 : w.heap.size + 1 + 1 < w7.heap.size := by omega
    clear hb7 hrep7 hf7
    go_wp2_with fail
    refine bodyPost_ret (v := .tuple #[.agg #[.slice B7 x.caches.length d7], .bool false]) (by simp [results, Try.results53, go_sem, *]) rfl ?_
    rw [HE.out]
    refine GivesR2.weak weak_cset (show GivesR2 cCSetO w x (.bool false) _ _ from ?_)
    have hfin : cCachesO.rep w7 [.slice B7 x.caches.length d7] x.caches G7 := n7
    have hlow := hf7'.1
    exact ⟨_, G7, rfl, (by repeat (first | with_reducible exact Below.refl _ _ | with_reducible assumption | with_reducible refine bel_alloc ?_ _ | with_reducible refine bel_drew ?_ | with_reducible refine bel_drewN ?_ _ | (with_reducible refine bel_set ?_ ?_ _; rotate_left; ((try simp); (try omega))))), TCSet.mkO (by repeat (first | with_reducible exact hfin | with_reducible refine Cod.allocA ?_ _ | with_reducible refine Cod.drewA ?_ | with_reducible refine Cod.drewNA ?_ _ | ((with_reducible refine Cod.setA ?_ ?_ _); rotate_left; ((intro hm9; have hm8 := hlow _ hm9; (try simp at hm8); (try omega)))))), hf7'.mono (by omega)⟩
  · cases hs : servesVersion y v
    · have HE := Lib.hid (show installFiles x y v true = (x, false) by unfold installFiles; rw [hs]; rfl)
      have hsv := fun W hb => implServesVersion_any _ y F2 v W (Cod.bel hr2 hb) hn2 hv
      rw [hs] at hsv
      go_enter Try.func53, Try.ntmps53
      go_wp2_with fail
      refine (hsv _ (by repeat (first | with_reducible exact Below.refl _ _ | with_reducible assumption | with_reducible refine bel_alloc ?_ _ | with_reducible refine bel_drew ?_ | with_reducible refine bel_drewN ?_ _ | (with_reducible refine bel_set ?_ ?_ _; rotate_left; ((try simp); (try omega)))))).mono ?_
      rintro e w3 ⟨rfl, hb3⟩
      obtain ⟨hc_w3, hf_w3, hz_w3⟩ := bcell hb3
      (try simp at hz_w3)
      have hbw3 : Below w.heap.size w w3 := bel_then (by repeat (first | with_reducible exact Below.refl _ _ | with_reducible assumption | with_reducible refine bel_alloc ?_ _ | with_reducible refine bel_drew ?_ | with_reducible refine bel_drewN ?_ _ | (with_reducible refine bel_set ?_ ?_ _; rotate_left; ((try simp); (try omega))))) hb3
      have hq23 : w.heap.size + 1 + 1 < w3.heap.size := by omega
      have hq13 : w.heap.size + 1 < w3.heap.size := by omega
      have hq03 : w.heap.size < w3.heap.size := by omega
      clear hb3 hsv
      go_wp2_with fail
      refine (implCopySet_any _ x _ _ (by exact Cod.bel hr hbw3) hn).mono ?_
      rintro e w7 ⟨vs7, G7, rfl, hb7, hrep7, hf7⟩
      obtain ⟨B7, d7, rfl, n7⟩ := TCSet.outO hrep7
      have hbq7 : Below w.heap.size w w7 := bel_then hbw3 hb7
      obtain ⟨hc_w7, hf_w7, hz_w7⟩ := bcell hb7
      have hf7' : Fresh (w.heap.size + 1 + 1 + 1) G7 := hf7.mono (by (try simp); (try omega))
      have hb7w := hb7
      (try simp at hz_w7)
      have hq27 : w.heap.size + 1 + 1 < w7.heap.size := by omega
      clear hb7 hrep7 hf7
      go_wp2_with fail
      refine bodyPost_ret (v := .tuple #[.agg #[.slice B7 x.caches.length d7], .bool false]) (by simp [results, Try.results53, go_sem, *]) rfl ?_
      rw [HE.out]
      refine GivesR2.weak weak_cset (show GivesR2 cCSetO w x (.bool false) _ _ from ?_)
      have hfin : cCachesO.rep w7 [.slice B7 x.caches.length d7] x.caches G7 := n7
      have hlow := hf7'.1
      exact ⟨_, G7, rfl, (by repeat (first | with_reducible exact Below.refl _ _ | with_reducible assumption | with_reducible refine bel_alloc ?_ _ | with_reducible refine bel_drew ?_ | with_reducible refine bel_drewN ?_ _ | (with_reducible refine bel_set ?_ ?_ _; rotate_left; ((try simp); (try omega))))), TCSet.mkO (by repeat (first | with_reducible exact hfin | with_reducible refine Cod.allocA ?_ _ | with_reducible refine Cod.drewA ?_ | with_reducible refine Cod.drewNA ?_ _ | ((with_reducible refine Cod.setA ?_ ?_ _); rotate_left; ((intro hm9; have hm8 := hlow _ hm9; (try simp at hm8); (try omega)))))), hf7'.mono (by omega)⟩
    · have hsv := fun W hb => implServesVersion_any _ y F2 v W (Cod.bel hr2 hb) hn2 hv
      rw [hs] at hsv
      go_enter Try.func53, Try.ntmps53
      go_wp2_with fail
      refine (hsv _ (by repeat (first | with_reducible exact Below.refl _ _ | with_reducible assumption | with_reducible refine bel_alloc ?_ _ | with_reducible refine bel_drew ?_ | with_reducible refine bel_drewN ?_ _ | (with_reducible refine bel_set ?_ ?_ _; rotate_left; ((try simp); (try omega)))))).mono ?_
      rintro e w3 ⟨rfl, hb3⟩
      obtain ⟨hc_w3, hf_w3, hz_w3⟩ := bcell hb3
      (try simp at hz_w3)
      have hbw3 : Below w.heap.size w w3 := bel_then (by repeat (first | with_reducible exact Below.refl _ _ | with_reducible assumption | with_reducible refine bel_alloc ?_ _ | with_reducible refine bel_drew ?_ | with_reducible refine bel_drewN ?_ _ | (with_reducible refine bel_set ?_ ?_ _; rotate_left; ((try simp); (try omega))))) hb3
      have hq23 : w.heap.size + 1 + 1 < w3.heap.size := by omega
      have hq13 : w.heap.size + 1 < w3.heap.size := by omega
      have hq03 : w.heap.size < w3.heap.size := by omega
      clear hb3 hsv
      go_wp2_with fail
      refine (implOpenCache_any _ x F v _ (by exact Cod.bel hr hbw3) hn hv).mono ?_
      obtain ⟨s0, hs0⟩ : ∃ s0, openCache x v = s0 := ⟨_, rfl⟩
      have hsm := fun h9 => openCache_small (s := x) (v := v) h9
      rw [hs0] at hsm ⊢
      rintro e w4 ⟨vs4, G4, rfl, hb4, hr4, hf4⟩
      obtain ⟨v4, _, rfl, rfl, -, n4⟩ := TCSet.outA hr4
      obtain ⟨A4, c4, rfl⟩ := cL_form n4
      have hbw4 : Below w.heap.size w w4 := bel_then hbw3 hb4
      have hz4 := hb4.size
      have l0 : w4.cell? ⟨w.heap.size + 1 + 1, 0, none⟩ = some (.slice none 0 0) := (hb4.cell (p := ⟨w.heap.size + 1 + 1, 0, none⟩) hq23).trans (by go_simp)
      have lz : w4.frozen? ⟨w.heap.size + 1 + 1, 0, none⟩ = false := (hb4.frozen (p := ⟨w.heap.size + 1 + 1, 0, none⟩) hq23).trans (by go_simp)
      have b0 : w4.cell? ⟨w.heap.size, 0, none⟩ = some (.slice A x.caches.length cp) := (hb4.cell (p := ⟨w.heap.size, 0, none⟩) hq03).trans (by go_simp)
      have s00 : w4.cell? ⟨w.heap.size + 1, 0, none⟩ = some (.string y.name) := (hb4.cell (p := ⟨w.heap.size + 1, 0, none⟩) hq13).trans (by go_simp)
      have s01 : w4.cell? ⟨w.heap.size + 1, 1, none⟩ = some (.int .i64 y.ver) := (hb4.cell (p := ⟨w.heap.size + 1, 1, none⟩) hq13).trans (by go_simp)
      have s02 : w4.cell? ⟨w.heap.size + 1, 2, none⟩ = some (.slice A2 y.files.length c2) := (hb4.cell (p := ⟨w.heap.size + 1, 2, none⟩) hq13).trans (by go_simp)
      have s03 : w4.cell? ⟨w.heap.size + 1, 3, none⟩ = some (.bool y.shared) := (hb4.cell (p := ⟨w.heap.size + 1, 3, none⟩) hq13).trans (by go_simp)
      have hq24 : w.heap.size + 1 + 1 < w4.heap.size := by omega
      have HK := Lib.hid (And.intro l0 (And.intro lz (And.intro b0 (And.intro s00 (And.intro s01 (And.intro s02 s03))))))
      have HG4 := Lib.hid (And.intro n4 (hf4.mono (show w.heap.size + 1 + 1 + 1 ≤ w3.heap.size by omega)))
      clear hc_w3 hf_w3 hb4 hr4 hf4 n4 l0 lz b0 s00 s01 s02 s03
      go_upto_region 4 with (fail)
      obtain ⟨ob, hob⟩ : ∃ ob, w4.heap.size = ob := ⟨_, rfl⟩
      generalize hW : World.alloc w4 _ = W
      have hbW : Below ob w4 W := by rw [← hW, ← hob]; exact bel_alloc (Below.refl _ _) _
      have hzW : ob < W.heap.size := by rw [← hW, ← hob]; clear hW hob; simp
      have HO := Lib.hid (show W.cell? ⟨ob, 0, none⟩ = some (.slice A4 s0.1.caches.length c4) ∧ W.frozen? ⟨ob, 0, none⟩ = false from by rw [← hW, ← hob]; clear hW hob; exact ⟨by go_simp, by go_simp⟩)
      have HG5 := Lib.hid (show cCacheS.rep W [.slice A4 s0.1.caches.length c4] s0.1.caches G4 ∧ Fresh (w.heap.size + 1 + 1 + 1) G4 ∧ ∀ b, b ∈ G4 → b ≠ ob from ⟨by rw [← hW]; exact Cod.bel HG4.out.1 (bel_alloc (Below.refl _ _) _), HG4.out.2, fun b hb => by have := Cod.lt _ HG4.out.1 b hb; omega⟩)
      rw [hob] at hz4 hq24
      have HOB := Lib.hid hob
      clear hW HG4
      rw [hob]
      clear hob
      have hkeep : ∀ W9, Below ob w4 W9 → ∀ b i, b < ob → W9.cell? ⟨b, i, none⟩ = w4.cell? ⟨b, i, none⟩ := fun W9 hb b i hlt => World.cell?_of_block (a := ⟨b, i, none⟩) (hb.block b hlt)
      have hkeepf : ∀ W9, Below ob w4 W9 → ∀ b i, b < ob → W9.frozen? ⟨b, i, none⟩ = w4.frozen? ⟨b, i, none⟩ := fun W9 hb b i hlt => World.frozen?_of_block (a := ⟨b, i, none⟩) (hb.block b hlt)
      have hbelw : ∀ W9, Below ob w4 W9 → Below w.heap.size w W9 := fun W9 hb => hbw4.trans (hb.mono (by omega))
      have HKP := Lib.hid (And.intro hkeep (And.intro hkeepf hbelw))
      clear hkeep hkeepf hbelw
      obtain ⟨m, hm⟩ : ∃ m, y.files.length = m := ⟨_, rfl⟩
      have HM := Lib.hid hm
      have s02 := (HKP.out.1 W hbW (w.heap.size + 1) 2 (by omega)).trans HK.out.2.2.2.2.2.1
      rw [hm] at s02 hfl HK ⊢
      clear hm
      go_wp2_with fail
      go_loopw [11, 33] (fun ok i wr => ∃ k : Nat, k ≤ m ∧ i = .int .i64 k ∧ ok = .bool (instAt y v s0 k).2 ∧ Below ob w4 wr ∧ ob < wr.heap.size ∧ wr.frozen? ⟨ob, 0, none⟩ = false ∧ ∃ A5 c5 G5, wr.cell? ⟨ob, 0, none⟩ = some (.slice A5 (instAt y v s0 k).1.caches.length c5) ∧ cCacheS.rep wr [.slice A5 (instAt y v s0 k).1.caches.length c5] (instAt y v s0 k).1.caches G5 ∧ Fresh (w.heap.size + 1 + 1 + 1) G5 ∧ ∀ b, b ∈ G5 → b ≠ ob) (fun _ i _ => m - (intOf i).toNat)
      case atStart => exact ⟨0, Nat.zero_le _, rfl, rfl, hbW, hzW, HO.out.2, A4, c4, G4, HO.out.1, HG5.out.1, HG5.out.2.1, HG5.out.2.2⟩
      case round =>
        obtain ⟨k, hk, rfl, rfl, hbr, hzr, hfr, A5, c5, G5, o0, hrep, hfG, hnG⟩ := hrel
        have HR := Lib.hid (And.intro hrep (And.intro hfG hnG))
        clear hrep hfG hnG
        have hsmk := instAt_small (x := y) (v := v) hsm k
        by_cases hlt : k < m
        · have hkx : k < y.files.length := by rw [HM.out]; exact hlt
          obtain ⟨g, o, vs9, F9, rfl, hgF, hx9, -, hc9⟩ := cL_get (hw := by decide) (hw2 := by decide) (Cod.bel m2 (HKP.out.2.2 _ hbr)) hkx
          obtain ⟨rfl, -, -⟩ := hx9
          have qf := (hc9 0 _ rfl).1
          rw [show cS.wd = 1 from rfl, Nat.mul_one, Nat.add_zero] at qf
          have hfk := hfz _ (List.getElem_mem hkx)
          have hki : (k : Int) < (m : Int) := by omega
          have hk0 : (0 : Int) ≤ (k : Int) := by omega
          clear hc9
          cases hok : (instAt y v s0 k).2
          · have hstep := instAt_no hok
            have HST := Lib.hid (And.intro hstep hok)
            clear hstep hok hsmk
            go_wp2_with fail
            go_roundw
            case rel => exact ⟨k + 1, by omega, by go_num, by rw [HST.out.1, HST.out.2], hbr, hzr, hfr, A5, c5, G5, by rw [HST.out.1]; exact o0, by rw [HST.out.1]; exact HR.out.1, HR.out.2.1, HR.out.2.2⟩
            case measure => simp [intOf]; omega
          · have hstep := instAt_yes hkx hok
            have hszk := hsmk hok
            generalize y.files[k] = f at *
            have hresz := serveFile_sz y f v
            have HST := Lib.hid hstep
            clear hstep hok hsmk
            generalize instAt y v s0 k = sk at *
            obtain ⟨sk1, hsk1⟩ : ∃ s, instAt y v s0 (k + 1) = s := ⟨_, rfl⟩
            rw [hsk1] at HST
            have HSK := Lib.hid hsk1
            clear hsk1
            have s0' := (HKP.out.1 wr hbr (w.heap.size + 1) 0 (by omega)).trans HK.out.2.2.2.1
            have s1' := (HKP.out.1 wr hbr (w.heap.size + 1) 1 (by omega)).trans HK.out.2.2.2.2.1
            have s2' := (HKP.out.1 wr hbr (w.heap.size + 1) 2 (by omega)).trans HK.out.2.2.2.2.2.1
            have s3' := (HKP.out.1 wr hbr (w.heap.size + 1) 3 (by omega)).trans HK.out.2.2.2.2.2.2
            have hS : ∀ w9, Below wr.heap.size wr w9 → w9.cell? ⟨ob, 0, none⟩ = some (.slice A5 sk.1.caches.length c5) ∧ w9.cell? ⟨w.heap.size + 1, 0, none⟩ = some (.string y.name) ∧ w9.cell? ⟨w.heap.size + 1, 1, none⟩ = some (.int .i64 y.ver) ∧ w9.cell? ⟨w.heap.size + 1, 2, none⟩ = some (.slice (some ⟨g, o, none⟩) m c2) ∧ w9.cell? ⟨w.heap.size + 1, 3, none⟩ = some (.bool y.shared) :=
              fun w9 hb => ⟨(hb.cell (p := ⟨ob, 0, none⟩) (by simp; omega)).trans o0, (hb.cell (p := ⟨w.heap.size + 1, 0, none⟩) (by simp; omega)).trans s0', (hb.cell (p := ⟨w.heap.size + 1, 1, none⟩) (by simp; omega)).trans s1', (hb.cell (p := ⟨w.heap.size + 1, 2, none⟩) (by simp; omega)).trans s2', (hb.cell (p := ⟨w.heap.size + 1, 3, none⟩) (by simp; omega)).trans s3'⟩
            have hbwr : Below w.heap.size w wr := HKP.out.2.2 _ hbr
            rw [HM.out] at hr2
            go_upto_region 8 with (fail)
            refine wp_regionT (S := (fun w9 => w9.cell? ⟨ob, 0, none⟩ = some (.slice A5 sk.1.caches.length c5) ∧ w9.cell? ⟨w.heap.size + 1, 0, none⟩ = some (.string y.name) ∧ w9.cell? ⟨w.heap.size + 1, 1, none⟩ = some (.int .i64 y.ver) ∧ w9.cell? ⟨w.heap.size + 1, 2, none⟩ = some (.slice (some ⟨g, o, none⟩) m c2) ∧ w9.cell? ⟨w.heap.size + 1, 3, none⟩ = some (.bool y.shared))) [11, 12, 13, 14] (by kernel_rfl) (by (try dsimp only); exact hS _ (by repeat (first | with_reducible exact Below.refl _ _ | with_reducible assumption | with_reducible refine bel_alloc ?_ _ | with_reducible refine bel_drew ?_ | with_reducible refine bel_drewN ?_ _ | (with_reducible refine bel_set ?_ ?_ _; rotate_left; ((try simp); (try omega)))))) (fun hHeld => ?_)
            refine takeT_read (i := 0) 15 39 (v := ?v0) rfl rfl (by kernel_rfl) (by kernel_rfl) (by kernel_rfl) (by kernel_rfl) (by kernel_rfl) (by kernel_rfl) (fun _ _ _ h => h) (by rfl) ?hy0 (by assumption) ?rest0
            case hy0 => (intro w hSw; (try dsimp only at hSw); go_simp; (try with_reducible rfl))
            try simp only [Act.put, List.setIfInBounds_toArray, List.set_cons_zero, List.set_cons_succ]
            refine takeT_read (i := 1) 15 40 (v := ?v1) rfl rfl (by kernel_rfl) (by kernel_rfl) (by kernel_rfl) (by kernel_rfl) (by kernel_rfl) (by kernel_rfl) (fun _ _ _ h => h) (by rfl) ?hy1 (by assumption) ?rest1
            case hy1 => (intro w hSw; (try dsimp only at hSw); go_simp; (try with_reducible rfl))
            try simp only [Act.put, List.setIfInBounds_toArray, List.set_cons_zero, List.set_cons_succ]
            refine takeT_read (i := 2) 15 41 (v := ?v2) rfl rfl (by kernel_rfl) (by kernel_rfl) (by kernel_rfl) (by kernel_rfl) (by kernel_rfl) (by kernel_rfl) (fun _ _ _ h => h) (by rfl) ?hy2 (by assumption) ?rest2
            case hy2 => (intro w hSw; (try dsimp only at hSw); go_simp; (try with_reducible rfl))
            try simp only [Act.put, List.setIfInBounds_toArray, List.set_cons_zero, List.set_cons_succ]
            refine takeT_read (i := 3) 15 42 (v := ?v3) rfl rfl (by kernel_rfl) (by kernel_rfl) (by kernel_rfl) (by kernel_rfl) (by kernel_rfl) (by kernel_rfl) (fun _ _ _ h => h) (by rfl) ?hy3 (by assumption) ?rest3
            case hy3 => (intro w hSw; (try dsimp only at hSw); go_simp; (try with_reducible rfl))
            try simp only [Act.put, List.setIfInBounds_toArray, List.set_cons_zero, List.set_cons_succ]
            refine takeT_read (i := 4) 15 43 (v := ?v4) rfl rfl (by kernel_rfl) (by kernel_rfl) (by kernel_rfl) (by kernel_rfl) (by kernel_rfl) (by kernel_rfl) (fun _ _ _ h => h) (by rfl) ?hy4 (by assumption) ?rest4
            case hy4 => (intro w hSw; (try dsimp only at hSw); go_simp; (try with_reducible rfl))
            try simp only [Act.put, List.setIfInBounds_toArray, List.set_cons_zero, List.set_cons_succ]
            refine takeT_read (i := 5) 15 44 (v := ?v5) rfl rfl (by kernel_rfl) (by kernel_rfl) (by kernel_rfl) (by kernel_rfl) (by kernel_rfl) (by kernel_rfl) (fun _ _ _ h => h) (by rfl) ?hy5 (by assumption) ?rest5
            case hy5 => (intro w hSw; (try dsimp only at hSw); go_simp; (try with_reducible rfl))
            try simp only [Act.put, List.setIfInBounds_toArray, List.set_cons_zero, List.set_cons_succ]
            refine takeT_read (i := 6) 15 45 (v := ?v6) rfl rfl (by kernel_rfl) (by kernel_rfl) (by kernel_rfl) (by kernel_rfl) (by kernel_rfl) (by kernel_rfl) (fun _ _ _ h => h) (by rfl) ?hy6 (by assumption) ?rest6
            case hy6 => (intro w hSw; (try dsimp only at hSw); go_simp; (try with_reducible rfl))
            try simp only [Act.put, List.setIfInBounds_toArray, List.set_cons_zero, List.set_cons_succ]
            refine takeT_read (i := 7) 15 46 (v := ?v7) rfl rfl (by kernel_rfl) (by kernel_rfl) (by kernel_rfl) (by kernel_rfl) (by kernel_rfl) (by kernel_rfl) (fun _ _ _ h => h) (by rfl) ?hy7 (by assumption) ?rest7
            case hy7 => (intro w hSw; (try dsimp only at hSw); go_simp; (try with_reducible rfl))
            try simp only [Act.put, List.setIfInBounds_toArray, List.set_cons_zero, List.set_cons_succ]
            refine stepT 8 (by kernel_rfl) rfl (fun K hK => ?_)
            go_simp
            (first | (go_at_call 26; refine (implServeFile_any _ y F2 f v _ (by exact Cod.bel hr2 (bel_then hbwr (by repeat (first | with_reducible exact Below.refl _ _ | with_reducible assumption | with_reducible refine bel_alloc ?_ _ | with_reducible refine bel_drew ?_ | with_reducible refine bel_drewN ?_ _ | (with_reducible refine bel_set ?_ ?_ _; rotate_left; ((try simp); (try omega))))))) hn2 hfk hv).mono ?_; rintro e w5 ⟨vs5, G9, rfl, hb5, hr5, -⟩; obtain ⟨u5, _, rfl, rfl, -, n5⟩ := TResp.outA hr5; obtain ⟨Y5, d5, hy5⟩ := cL_form n5; subst hy5; have hB5 : Below wr.heap.size wr w5 := bel_then (by repeat (first | with_reducible exact Below.refl _ _ | with_reducible assumption | with_reducible refine bel_alloc ?_ _ | with_reducible refine bel_drew ?_ | with_reducible refine bel_drewN ?_ _ | (with_reducible refine bel_set ?_ ?_ _; rotate_left; ((try simp); (try omega))))) hb5; clear hb5 n5) | (go_at_call 37; refine (implStoreResponse_any _ sk.1 G5 v y.name f _ (serveFile y f v) G9 _ (by exact Cod.bel HR.out.1 (by assumption)) (by omega) hv (by unfold maxLen; omega) (by unfold maxLen; omega) (by exact Cod.bel hr5 (by repeat (first | with_reducible exact Below.refl _ _ | with_reducible assumption | with_reducible refine bel_alloc ?_ _ | with_reducible refine bel_drew ?_ | with_reducible refine bel_drewN ?_ _ | (with_reducible refine bel_set ?_ ?_ _; rotate_left; ((try simp); (try omega)))))) (by omega)).mono ?_; rw [← HST.out]; rintro e w6 ⟨vs6, G6, rfl, hb6, hr6, hf6⟩; obtain ⟨u6, _, rfl, rfl, -, n6⟩ := TCSet.outA hr6; obtain ⟨A6, c6, rfl⟩ := cL_form n6; have hB6 : Below wr.heap.size wr w6 := bel_then hB5 (bel_then (by repeat (first | with_reducible exact Below.refl _ _ | with_reducible assumption | with_reducible refine bel_alloc ?_ _ | with_reducible refine bel_drew ?_ | with_reducible refine bel_drewN ?_ _ | (with_reducible refine bel_set ?_ ?_ _; rotate_left; ((try simp); (try omega))))) hb6); have hf6' : ∀ b, b ∈ G6 → wr.heap.size ≤ b := (fun b hb => by have h9 := hf6.1 b hb; have h8 := hB5.size; (try simp at h9); omega); have hob6 := (hB6.cell (p := ⟨ob, 0, none⟩) (by simp; omega)).trans o0; have hoz6 := (hB6.frozen (p := ⟨ob, 0, none⟩) (by simp; omega)).trans hfr; have H6 := Lib.hid (And.intro n6 (And.intro hf6' hf6)); clear hb6 hr6 hf6 n6 hf6' hr5))
            try go_wp2_with fail
            refine hK.out _ _ ?_ (fun hHeld => ?_)
            · (try dsimp only)
              exact hS _ (by repeat (first | with_reducible exact Below.refl _ _ | with_reducible assumption | with_reducible refine bel_alloc ?_ _ | with_reducible refine bel_drew ?_ | with_reducible refine bel_drewN ?_ _ | (with_reducible refine bel_set ?_ ?_ _; rotate_left; ((try simp); (try omega)))))
            clear hK K
            refine stepT 9 (by kernel_rfl) rfl (fun K hK => ?_)
            go_simp
            (first | (go_at_call 26; refine (implServeFile_any _ y F2 f v _ (by exact Cod.bel hr2 (bel_then hbwr (by repeat (first | with_reducible exact Below.refl _ _ | with_reducible assumption | with_reducible refine bel_alloc ?_ _ | with_reducible refine bel_drew ?_ | with_reducible refine bel_drewN ?_ _ | (with_reducible refine bel_set ?_ ?_ _; rotate_left; ((try simp); (try omega))))))) hn2 hfk hv).mono ?_; rintro e w5 ⟨vs5, G9, rfl, hb5, hr5, -⟩; obtain ⟨u5, _, rfl, rfl, -, n5⟩ := TResp.outA hr5; obtain ⟨Y5, d5, hy5⟩ := cL_form n5; subst hy5; have hB5 : Below wr.heap.size wr w5 := bel_then (by repeat (first | with_reducible exact Below.refl _ _ | with_reducible assumption | with_reducible refine bel_alloc ?_ _ | with_reducible refine bel_drew ?_ | with_reducible refine bel_drewN ?_ _ | (with_reducible refine bel_set ?_ ?_ _; rotate_left; ((try simp); (try omega))))) hb5; clear hb5 n5) | (go_at_call 37; refine (implStoreResponse_any _ sk.1 G5 v y.name f _ (serveFile y f v) G9 _ (by exact Cod.bel HR.out.1 (by assumption)) (by omega) hv (by unfold maxLen; omega) (by unfold maxLen; omega) (by exact Cod.bel hr5 (by repeat (first | with_reducible exact Below.refl _ _ | with_reducible assumption | with_reducible refine bel_alloc ?_ _ | with_reducible refine bel_drew ?_ | with_reducible refine bel_drewN ?_ _ | (with_reducible refine bel_set ?_ ?_ _; rotate_left; ((try simp); (try omega)))))) (by omega)).mono ?_; rw [← HST.out]; rintro e w6 ⟨vs6, G6, rfl, hb6, hr6, hf6⟩; obtain ⟨u6, _, rfl, rfl, -, n6⟩ := TCSet.outA hr6; obtain ⟨A6, c6, rfl⟩ := cL_form n6; have hB6 : Below wr.heap.size wr w6 := bel_then hB5 (bel_then (by repeat (first | with_reducible exact Below.refl _ _ | with_reducible assumption | with_reducible refine bel_alloc ?_ _ | with_reducible refine bel_drew ?_ | with_reducible refine bel_drewN ?_ _ | (with_reducible refine bel_set ?_ ?_ _; rotate_left; ((try simp); (try omega))))) hb6); have hf6' : ∀ b, b ∈ G6 → wr.heap.size ≤ b := (fun b hb => by have h9 := hf6.1 b hb; have h8 := hB5.size; (try simp at h9); omega); have hob6 := (hB6.cell (p := ⟨ob, 0, none⟩) (by simp; omega)).trans o0; have hoz6 := (hB6.frozen (p := ⟨ob, 0, none⟩) (by simp; omega)).trans hfr; have H6 := Lib.hid (And.intro n6 (And.intro hf6' hf6)); clear hb6 hr6 hf6 n6 hf6' hr5))
            try go_wp2_with fail
            refine hK.out _ _ ?_ (fun hHeld => ?_)
            · (try dsimp only)
              exact hS _ (by repeat (first | with_reducible exact Below.refl _ _ | with_reducible assumption | with_reducible refine bel_alloc ?_ _ | with_reducible refine bel_drew ?_ | with_reducible refine bel_drewN ?_ _ | (with_reducible refine bel_set ?_ ?_ _; rotate_left; ((try simp); (try omega)))))
            clear hK K
            refine takeT_read (i := 10) 15 38 (v := ?v10) rfl rfl (by kernel_rfl) (by kernel_rfl) (by kernel_rfl) (by kernel_rfl) (by kernel_rfl) (by kernel_rfl) (fun _ _ _ h => h) (by rfl) ?hy10 (by assumption) ?rest10
            case hy10 => (intro w hSw; (try dsimp only at hSw); go_simp; (try with_reducible rfl))
            refine takeT_pure (i := 11) 49 (v := ?v11) rfl rfl (by kernel_rfl) (by kernel_rfl) (by kernel_rfl) (by kernel_rfl) (fun _ _ _ h => h) (by rfl) ?hy11 ?rest11
            case hy11 => (intro w; go_simp; (try with_reducible rfl))
            refine takeT_pure (i := 12) 50 (v := ?v12) rfl rfl (by kernel_rfl) (by kernel_rfl) (by kernel_rfl) (by kernel_rfl) (fun _ _ _ h => h) (by rfl) ?hy12 ?rest12
            case hy12 => (intro w; go_simp; (try with_reducible rfl))
            refine stepT_end 13 (by kernel_rfl) rfl (by kernel_rfl) (fun K hK => ?_)
            go_simp
            refine hK.out _ _ ?_
            clear hK K
            refine stepT_end 14 (by kernel_rfl) rfl (by kernel_rfl) (fun K hK => ?_)
            go_simp
            refine hK.out _ _ ?_
            clear hK K
            refine doneT (by kernel_rfl) ?_ _
            go_wp2_with fail
            have hbr6 : Below ob w4 w6 := hbr.trans (hB6.mono (by omega))
            have hof6 : ∀ b, b ∈ G6 → b ≠ ob := fun b hb => by have := H6.out.2.1 b hb; omega
            have hz6 : ob < w6.heap.size := by have := hB6.size; omega
            have hlo6 : Fresh (w.heap.size + 1 + 1 + 1) G6 := H6.out.2.2.mono (by have := hB5.size; (try simp); omega)
            go_roundw
            case rel => first | exact ⟨k + 1, by omega, by go_num, by rw [HSK.out], hbr6.setCell (Nat.le_refl _) _, (by simp; omega), by rw [frozen?_set]; exact hoz6, A6, c6, G6, by rw [HSK.out]; exact cell?_set_same hob6, by rw [HSK.out]; exact Cod.keep _ H6.out.1 (fun b hb => Below.heap_setCell _ _ _ _ (hof6 b hb)), hlo6, hof6⟩ | ((repeat apply Exists.intro); exact ⟨⟨k + 1, by omega, by go_num, by rw [HSK.out], hbr6.setCell (Nat.le_refl _) _, (by simp; omega), by rw [frozen?_set]; exact hoz6, A6, c6, G6, by rw [HSK.out]; exact cell?_set_same hob6, by rw [HSK.out]; exact Cod.keep _ H6.out.1 (fun b hb => Below.heap_setCell _ _ _ _ (hof6 b hb)), hlo6, hof6⟩, rfl⟩)
            case measure => simp [intOf]; omega
        · have hkm : k = m := by omega
          subst hkm
          have hbwr : Below w.heap.size w wr := HKP.out.2.2 _ hbr
          have hq2r : w.heap.size + 1 + 1 < wr.heap.size := by omega
          have hq0r : w.heap.size < wr.heap.size := by omega
          have lr := (HKP.out.1 wr hbr (w.heap.size + 1 + 1) 0 (by omega)).trans HK.out.1
          have lzr := (HKP.out.2.1 wr hbr (w.heap.size + 1 + 1) 0 (by omega)).trans HK.out.2.1
          have b0r := (HKP.out.1 wr hbr w.heap.size 0 (by omega)).trans HK.out.2.2.1
          clear HK HO HG5 hbW hzW
          have hne : ¬ ob = w.heap.size + 1 + 1 := by omega
          cases hok : (instAt y v s0 k).2
          · have HE := Lib.hid (show installFiles x y v true = (x, false) by unfold installFiles; rw [hs0, HM.out, hok, Bool.and_false]; rfl)
            clear hsmk hsm hs0 HR o0 hfr hbr hzr
            go_wp2_with fail
            refine (implCopySet_any _ x _ _ (by exact Cod.bel hr hbwr) hn).mono ?_
            rintro e w7 ⟨vs7, G7, rfl, hb7, hrep7, hf7⟩
            obtain ⟨B7, d7, rfl, n7⟩ := TCSet.outO hrep7
            have hbq7 : Below w.heap.size w w7 := bel_then hbwr hb7
            obtain ⟨hc_w7, hf_w7, hz_w7⟩ := bcell hb7
            have hf7' : Fresh (w.heap.size + 1 + 1 + 1) G7 := hf7.mono (by (try simp); (try omega))
            have hb7w := hb7
            (try simp at hz_w7)
            have hq27 : w.heap.size + 1 + 1 < w7.heap.size := by omega
            clear hb7 hrep7 hf7
            go_wp2_with fail
            refine bodyPost_ret (v := .tuple #[.agg #[.slice B7 x.caches.length d7], .bool false]) (by simp [results, Try.results53, go_sem, *]) rfl ?_
            rw [HE.out]
            refine GivesR2.weak weak_cset (show GivesR2 cCSetO w x (.bool false) _ _ from ?_)
            have hfin : cCachesO.rep w7 [.slice B7 x.caches.length d7] x.caches G7 := n7
            have hlow := hf7'.1
            exact ⟨_, G7, rfl, (by repeat (first | with_reducible exact Below.refl _ _ | with_reducible assumption | with_reducible refine bel_alloc ?_ _ | with_reducible refine bel_drew ?_ | with_reducible refine bel_drewN ?_ _ | (with_reducible refine bel_set ?_ ?_ _; rotate_left; ((try simp); (try omega))))), TCSet.mkO (by repeat (first | with_reducible exact hfin | with_reducible refine Cod.allocA ?_ _ | with_reducible refine Cod.drewA ?_ | with_reducible refine Cod.drewNA ?_ _ | ((with_reducible refine Cod.setA ?_ ?_ _); rotate_left; ((intro hm9; have hm8 := hlow _ hm9; (try simp at hm8); (try omega)))))), hf7'.mono (by omega)⟩
          · have HE := Lib.hid (show installFiles x y v true = ((instAt y v s0 k).1, true) by unfold installFiles; rw [hs0, HM.out, hok, hs]; rfl)
            clear hsmk hsm hs0
            generalize (instAt y v s0 k).1 = sk at *
            go_wp2_with fail
            refine bodyPost_ret (v := .tuple #[.agg #[.slice A5 sk.caches.length c5], .bool true]) (by simp [results, Try.results53, go_sem, *]) rfl ?_
            rw [HE.out]
            have hfin : cCacheS.rep wr [.slice A5 sk.caches.length c5] sk.caches G5 := HR.out.1
            have hlow := HR.out.2.1.1
            exact ⟨_, G5, rfl, (by repeat (first | with_reducible exact Below.refl _ _ | with_reducible assumption | with_reducible refine bel_alloc ?_ _ | with_reducible refine bel_drew ?_ | with_reducible refine bel_drewN ?_ _ | (with_reducible refine bel_set ?_ ?_ _; rotate_left; ((try simp); (try omega))))), TCSet.mk_ (x := sk) trivial (by repeat (first | with_reducible exact hfin | with_reducible refine Cod.allocA ?_ _ | with_reducible refine Cod.drewA ?_ | with_reducible refine Cod.drewNA ?_ _ | ((with_reducible refine Cod.setA ?_ ?_ _); rotate_left; ((intro hm9; have hm8 := hlow _ hm9; (try simp at hm8); (try omega)))))), HR.out.2.1.mono (by omega)⟩
end Go.Proofs.Ytlicnppfgfjkgaa
