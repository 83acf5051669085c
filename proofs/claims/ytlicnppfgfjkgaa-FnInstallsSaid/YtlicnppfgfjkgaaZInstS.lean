/-
  InstallFiles of the reference. No conditions.
-/
import Derived.Test.YtlicnppfgfjkgaaZInstI
import Derived.Deep.RegionHeld3
namespace Go.Proofs.Ytlicnppfgfjkgaa
open Go.ChangeShapes Go.WideShapes Go.RowKit
set_option linter.unusedVariables false

set_option maxRecDepth 100000 in
set_option maxHeartbeats 8000000 in
theorem specInstallFiles_any (vs : Array Value) (x : TCSet) (F : List Nat) (vs2 : Array Value) (y : TSite) (F2 : List Nat) (v : Int) (on : Bool) (w : World) (h : cCSet.rep w vs.toList x F) (hn : cCSet.sz x ≤ 1048576) (h2 : cSite.rep w vs2.toList y F2) (hn2 : cSite.sz y ≤ 1048576) (hv : -9223372036854775808 ≤ v ∧ v ≤ 9223372036854775807) :
    Calls Try.prog 54 #[.agg vs, .agg vs2, .int .i64 v, .bool on] w (GivesR2 cCSet w (installFiles x y v on).1 (.bool (installFiles x y v on).2)) := by
  have hr := h
  have hr2 := h2
  obtain ⟨v0, F0, rfl, -, -, m0⟩ := TCSet.outA h
  obtain ⟨A, cp, rfl⟩ := cL_form m0
  obtain ⟨v2, G2, rfl, rfl, hok2, m2⟩ := TSite.outA h2
  obtain ⟨A2, c2, e2⟩ := cL_form m2
  subst e2
  obtain ⟨hnm, hfl, hfz⟩ := site_parts hr2 hn2
  clear h h2 m0
  go_enter Try.func54, Try.ntmps54
  go_wp2_with fail
  refine (specOpenCache_any _ x F v _ (by exact Cod.bel hr (by repeat (first | with_reducible exact Below.refl _ _ | with_reducible assumption | with_reducible refine bel_alloc ?_ _ | with_reducible refine bel_drew ?_ | with_reducible refine bel_drewN ?_ _ | (with_reducible refine bel_set ?_ ?_ _; rotate_left; ((try simp); (try omega)))))) hn hv).mono ?_
  obtain ⟨s0, hs0⟩ : ∃ s0, openCache x v = s0 := ⟨_, rfl⟩
  have hsm := fun h9 => openCache_small (s := x) (v := v) h9
  rw [hs0] at hsm ⊢
  rintro e w4 ⟨vs4, G4, rfl, hb4, hr4, hf4⟩
  obtain ⟨v4, _, rfl, rfl, -, n4⟩ := TCSet.outA hr4
  obtain ⟨A4, c4, rfl⟩ := cL_form n4
  have hbw4 : Below w.heap.size w w4 := bel_then (by repeat (first | with_reducible exact Below.refl _ _ | with_reducible assumption | with_reducible refine bel_alloc ?_ _ | with_reducible refine bel_drew ?_ | with_reducible refine bel_drewN ?_ _ | (with_reducible refine bel_set ?_ ?_ _; rotate_left; ((try simp); (try omega))))) hb4
  have hz4 := hb4.size
  (try simp at hz4)
  have l0 : w4.cell? ⟨w.heap.size + 1 + 1, 0, none⟩ = some (.slice none 0 0) := (hb4.cell (p := ⟨w.heap.size + 1 + 1, 0, none⟩) (by simp)).trans (by go_simp)
  have lz : w4.frozen? ⟨w.heap.size + 1 + 1, 0, none⟩ = false := (hb4.frozen (p := ⟨w.heap.size + 1 + 1, 0, none⟩) (by simp)).trans (by go_simp)
  have b0 : w4.cell? ⟨w.heap.size, 0, none⟩ = some (.slice A x.caches.length cp) := (hb4.cell (p := ⟨w.heap.size, 0, none⟩) (by simp; omega)).trans (by go_simp)
  have s00 : w4.cell? ⟨w.heap.size + 1, 0, none⟩ = some (.string y.name) := (hb4.cell (p := ⟨w.heap.size + 1, 0, none⟩) (by simp)).trans (by go_simp)
  have s01 : w4.cell? ⟨w.heap.size + 1, 1, none⟩ = some (.int .i64 y.ver) := (hb4.cell (p := ⟨w.heap.size + 1, 1, none⟩) (by simp)).trans (by go_simp)
  have s02 : w4.cell? ⟨w.heap.size + 1, 2, none⟩ = some (.slice A2 y.files.length c2) := (hb4.cell (p := ⟨w.heap.size + 1, 2, none⟩) (by simp)).trans (by go_simp)
  have s03 : w4.cell? ⟨w.heap.size + 1, 3, none⟩ = some (.bool y.shared) := (hb4.cell (p := ⟨w.heap.size + 1, 3, none⟩) (by simp)).trans (by go_simp)
  have hq24 : w.heap.size + 1 + 1 < w4.heap.size := by omega
  have HK := Lib.hid (And.intro l0 (And.intro lz (And.intro b0 (And.intro s00 (And.intro s01 (And.intro s02 s03))))))
  have HG4 := Lib.hid (And.intro n4 (hf4.mono (show w.heap.size + 1 + 1 + 1 ≤ _ by simp)))
  clear hb4 hr4 hf4 n4 l0 lz b0 s00 s01 s02 s03
  go_upto_region 2 with (fail)
  obtain ⟨ob, hob⟩ : ∃ ob, w4.heap.size = ob := ⟨_, rfl⟩
  generalize hW : World.alloc w4 _ = W
  have hbW : Below ob w4 W := by rw [← hW, ← hob]; exact bel_alloc (Below.refl _ _) _
  have hzW : ob < W.heap.size := by rw [← hW, ← hob]; clear hW hob; simp
  have HO := Lib.hid (show W.cell? ⟨ob, 0, none⟩ = some (.slice A4 s0.1.caches.length c4) ∧ W.frozen? ⟨ob, 0, none⟩ = false from by rw [← hW, ← hob]; clear hW hob; exact ⟨by go_simp, by go_simp⟩)
  have HG5 := Lib.hid (show cCacheS.rep W [.slice A4 s0.1.caches.length c4] s0.1.caches G4 ∧ Fresh (w.heap.size + 1 + 1 + 1) G4 ∧ ∀ b, b ∈ G4 → b ≠ ob from ⟨by rw [← hW]; exact Cod.bel HG4.out.1 (bel_alloc (Below.refl _ _) _), HG4.out.2, fun b hb => by have := Cod.lt _ HG4.out.1 b hb; omega⟩)
  rw [hob] at hz4 hq24
  have HOB := Lib.hid hob
  clear hW HG4
  rw [hob]
  clear hob
  have hkeep : ∀ W9, Below ob w4 W9 → ∀ b i, b < ob → W9.cell? ⟨b, i, none⟩ = w4.cell? ⟨b, i, none⟩ := fun W9 hb b i hlt => World.cell?_of_block (a := ⟨b, i, none⟩) (hb.block b hlt)
  have hkeepf : ∀ W9, Below ob w4 W9 → ∀ b i, b < ob → W9.frozen? ⟨b, i, none⟩ = w4.frozen? ⟨b, i, none⟩ := fun W9 hb b i hlt => World.frozen?_of_block (a := ⟨b, i, none⟩) (hb.block b hlt)
  have hbelw : ∀ W9, Below ob w4 W9 → Below w.heap.size w W9 := fun W9 hb => hbw4.trans (hb.mono (by omega))
  have HKP := Lib.hid (And.intro hkeep (And.intro hkeepf hbelw))
  clear hkeep hkeepf hbelw
  cases ho0 : s0.2
  · have HE := Lib.hid (show installFiles x y v on = (x, false) from install_open (by rw [hs0]; exact ho0))
    clear hsm hs0
    have hbwr : Below w.heap.size w W := HKP.out.2.2 _ hbW
    have hzr9 := (hbW).size
    have hq2r : w.heap.size + 1 + 1 < W.heap.size := by omega
    have hq1r : w.heap.size + 1 < W.heap.size := by omega
    have hq0r : w.heap.size < W.heap.size := by omega
    have lr := (HKP.out.1 W hbW (w.heap.size + 1 + 1) 0 (by omega)).trans HK.out.1
    have lzr := (HKP.out.2.1 W hbW (w.heap.size + 1 + 1) 0 (by omega)).trans HK.out.2.1
    have b0r := (HKP.out.1 W hbW w.heap.size 0 (by omega)).trans HK.out.2.2.1
    go_wp2_with fail
    refine (specCopySet_any _ x _ _ (by exact Cod.bel hr hbwr) hn).mono ?_
    rintro e w7 ⟨vs7, G7, rfl, hb7, hrep7, hf7⟩
    obtain ⟨B7, d7, rfl, n7⟩ := TCSet.outO hrep7
    have hbq7 : Below w.heap.size w w7 := bel_then hbwr hb7
    obtain ⟨hc_w7, hf_w7, hz_w7⟩ := bcell hb7
    have hf7' : Fresh (w.heap.size + 1 + 1 + 1) G7 := hf7.mono (by (try simp); (try omega))
    have hb7w := hb7
    (try simp at hz_w7)
    have hq27 : w.heap.size + 1 + 1 < w7.heap.size := by omega
    clear hb7 hrep7 hf7
    go_wp2_with fail
    refine bodyPost_ret (v := .tuple #[.agg #[.slice B7 x.caches.length d7], .bool false]) (by simp [results, Try.results54, go_sem, *]) rfl ?_
    rw [HE.out]
    refine GivesR2.weak weak_cset (show GivesR2 cCSetO w x (.bool false) _ _ from ?_)
    have hfin : cCachesO.rep w7 [.slice B7 x.caches.length d7] x.caches G7 := n7
    have hlow := hf7'.1
    exact ⟨_, G7, rfl, (by repeat (first | with_reducible exact Below.refl _ _ | with_reducible assumption | with_reducible refine bel_alloc ?_ _ | with_reducible refine bel_drew ?_ | with_reducible refine bel_drewN ?_ _ | (with_reducible refine bel_set ?_ ?_ _; rotate_left; ((try simp); (try omega))))), TCSet.mkO (by repeat (first | with_reducible exact hfin | with_reducible refine Cod.allocA ?_ _ | with_reducible refine Cod.drewA ?_ | with_reducible refine Cod.drewNA ?_ _ | ((with_reducible refine Cod.setA ?_ ?_ _); rotate_left; ((intro hm9; have hm8 := hlow _ hm9; (try simp at hm8); (try omega)))))), hf7'.mono (by omega)⟩
  · cases on
    · have HE := Lib.hid (show installFiles x y v false = (x, false) from rfl)
      clear hsm hs0
      have hbwr : Below w.heap.size w W := HKP.out.2.2 _ hbW
      have hzr9 := (hbW).size
      have hq2r : w.heap.size + 1 + 1 < W.heap.size := by omega
      have hq1r : w.heap.size + 1 < W.heap.size := by omega
      have hq0r : w.heap.size < W.heap.size := by omega
      have lr := (HKP.out.1 W hbW (w.heap.size + 1 + 1) 0 (by omega)).trans HK.out.1
      have lzr := (HKP.out.2.1 W hbW (w.heap.size + 1 + 1) 0 (by omega)).trans HK.out.2.1
      have b0r := (HKP.out.1 W hbW w.heap.size 0 (by omega)).trans HK.out.2.2.1
      go_wp2_with fail
      refine (specCopySet_any _ x _ _ (by exact Cod.bel hr hbwr) hn).mono ?_
      rintro e w7 ⟨vs7, G7, rfl, hb7, hrep7, hf7⟩
      obtain ⟨B7, d7, rfl, n7⟩ := TCSet.outO hrep7
      have hbq7 : Below w.heap.size w w7 := bel_then hbwr hb7
      obtain ⟨hc_w7, hf_w7, hz_w7⟩ := bcell hb7
      have hf7' : Fresh (w.heap.size + 1 + 1 + 1) G7 := hf7.mono (by (try simp); (try omega))
      have hb7w := hb7
      (try simp at hz_w7)
      have hq27 : w.heap.size + 1 + 1 < w7.heap.size := by omega
      clear hb7 hrep7 hf7
      go_wp2_with fail
      refine bodyPost_ret (v := .tuple #[.agg #[.slice B7 x.caches.length d7], .bool false]) (by simp [results, Try.results54, go_sem, *]) rfl ?_
      rw [HE.out]
      refine GivesR2.weak weak_cset (show GivesR2 cCSetO w x (.bool false) _ _ from ?_)
      have hfin : cCachesO.rep w7 [.slice B7 x.caches.length d7] x.caches G7 := n7
      have hlow := hf7'.1
      exact ⟨_, G7, rfl, (by repeat (first | with_reducible exact Below.refl _ _ | with_reducible assumption | with_reducible refine bel_alloc ?_ _ | with_reducible refine bel_drew ?_ | with_reducible refine bel_drewN ?_ _ | (with_reducible refine bel_set ?_ ?_ _; rotate_left; ((try simp); (try omega))))), TCSet.mkO (by repeat (first | with_reducible exact hfin | with_reducible refine Cod.allocA ?_ _ | with_reducible refine Cod.drewA ?_ | with_reducible refine Cod.drewNA ?_ _ | ((with_reducible refine Cod.setA ?_ ?_ _); rotate_left; ((intro hm9; have hm8 := hlow _ hm9; (try simp at hm8); (try omega)))))), hf7'.mono (by omega)⟩
    · have s00 := (HKP.out.1 W hbW (w.heap.size + 1) 0 (by omega)).trans HK.out.2.2.2.1
      have s01 := (HKP.out.1 W hbW (w.heap.size + 1) 1 (by omega)).trans HK.out.2.2.2.2.1
      have s02 := (HKP.out.1 W hbW (w.heap.size + 1) 2 (by omega)).trans HK.out.2.2.2.2.2.1
      have s03 := (HKP.out.1 W hbW (w.heap.size + 1) 3 (by omega)).trans HK.out.2.2.2.2.2.2
      have hbwW := HKP.out.2.2 _ hbW
      cases hs : servesVersion y v
      · have HE := Lib.hid (show installFiles x y v true = (x, false) by unfold installFiles; rw [hs]; rfl)
        have hsv := fun W hb => specServesVersion_any _ y F2 v W (Cod.bel hr2 hb) hn2 hv
        rw [hs] at hsv
        go_wp2_with fail
        refine (hsv _ hbwW).mono ?_
        rintro e wv ⟨rfl, hbv⟩
        have hbWv : Below ob w4 wv := hbW.trans (hbv.mono (by omega))
        clear hsm hs0 hsv s00 s01 s02 s03 hbwW
        have hbvz := hbv.size
        clear hbv
        have hbwr : Below w.heap.size w wv := HKP.out.2.2 _ hbWv
        have hzr9 := (hbWv).size
        have hq2r : w.heap.size + 1 + 1 < wv.heap.size := by omega
        have hq1r : w.heap.size + 1 < wv.heap.size := by omega
        have hq0r : w.heap.size < wv.heap.size := by omega
        have lr := (HKP.out.1 wv hbWv (w.heap.size + 1 + 1) 0 (by omega)).trans HK.out.1
        have lzr := (HKP.out.2.1 wv hbWv (w.heap.size + 1 + 1) 0 (by omega)).trans HK.out.2.1
        have b0r := (HKP.out.1 wv hbWv w.heap.size 0 (by omega)).trans HK.out.2.2.1
        go_wp2_with fail
        refine (specCopySet_any _ x _ _ (by exact Cod.bel hr hbwr) hn).mono ?_
        rintro e w7 ⟨vs7, G7, rfl, hb7, hrep7, hf7⟩
        obtain ⟨B7, d7, rfl, n7⟩ := TCSet.outO hrep7
        have hbq7 : Below w.heap.size w w7 := bel_then hbwr hb7
        obtain ⟨hc_w7, hf_w7, hz_w7⟩ := bcell hb7
        have hf7' : Fresh (w.heap.size + 1 + 1 + 1) G7 := hf7.mono (by (try simp); (try omega))
        have hb7w := hb7
        (try simp at hz_w7)
        have hq27 : w.heap.size + 1 + 1 < w7.heap.size := by omega
        clear hb7 hrep7 hf7
        go_wp2_with fail
        refine bodyPost_ret (v := .tuple #[.agg #[.slice B7 x.caches.length d7], .bool false]) (by simp [results, Try.results54, go_sem, *]) rfl ?_
        rw [HE.out]
        refine GivesR2.weak weak_cset (show GivesR2 cCSetO w x (.bool false) _ _ from ?_)
        have hfin : cCachesO.rep w7 [.slice B7 x.caches.length d7] x.caches G7 := n7
        have hlow := hf7'.1
        exact ⟨_, G7, rfl, (by repeat (first | with_reducible exact Below.refl _ _ | with_reducible assumption | with_reducible refine bel_alloc ?_ _ | with_reducible refine bel_drew ?_ | with_reducible refine bel_drewN ?_ _ | (with_reducible refine bel_set ?_ ?_ _; rotate_left; ((try simp); (try omega))))), TCSet.mkO (by repeat (first | with_reducible exact hfin | with_reducible refine Cod.allocA ?_ _ | with_reducible refine Cod.drewA ?_ | with_reducible refine Cod.drewNA ?_ _ | ((with_reducible refine Cod.setA ?_ ?_ _); rotate_left; ((intro hm9; have hm8 := hlow _ hm9; (try simp at hm8); (try omega)))))), hf7'.mono (by omega)⟩
      · have hsv := fun W hb => specServesVersion_any _ y F2 v W (Cod.bel hr2 hb) hn2 hv
        rw [hs] at hsv
        go_wp2_with fail
        refine (hsv _ hbwW).mono ?_
        rintro e wv ⟨rfl, hbv⟩
        have hbWv : Below ob w4 wv := hbW.trans (hbv.mono (by omega))
        have hzv : ob < wv.heap.size := by have := hbv.size; omega
        have HV := Lib.hid (show wv.cell? ⟨ob, 0, none⟩ = some (.slice A4 s0.1.caches.length c4) ∧ wv.frozen? ⟨ob, 0, none⟩ = false ∧ cCacheS.rep wv [.slice A4 s0.1.caches.length c4] s0.1.caches G4 from ⟨(hbv.cell (p := ⟨ob, 0, none⟩) hzW).trans HO.out.1, (hbv.frozen (p := ⟨ob, 0, none⟩) hzW).trans HO.out.2, Cod.bel HG5.out.1 hbv⟩)
        clear hsv s00 s01 s02 s03 hbwW hbv hbW hzW HO
        obtain ⟨m, hm⟩ : ∃ m, y.files.length = m := ⟨_, rfl⟩
        have HM := Lib.hid hm
        have s02 := (HKP.out.1 wv hbWv (w.heap.size + 1) 2 (by omega)).trans HK.out.2.2.2.2.2.1
        rw [hm] at s02 hfl HK ⊢
        clear hm
        have HS0 := Lib.hid hs0
        clear hs0
        go_wp2_with fail
        go_loopw [12] (fun i wr => ∃ k : Nat, k ≤ m ∧ i = .int .i64 k ∧ (instAt y v s0 k).2 = true ∧ Below ob w4 wr ∧ ob < wr.heap.size ∧ wr.frozen? ⟨ob, 0, none⟩ = false ∧ ∃ A5 c5 G5, wr.cell? ⟨ob, 0, none⟩ = some (.slice A5 (instAt y v s0 k).1.caches.length c5) ∧ cCacheS.rep wr [.slice A5 (instAt y v s0 k).1.caches.length c5] (instAt y v s0 k).1.caches G5 ∧ Fresh (w.heap.size + 1 + 1 + 1) G5 ∧ ∀ b, b ∈ G5 → b ≠ ob) (fun i _ => m - (intOf i).toNat)
        case atStart => exact ⟨0, Nat.zero_le _, rfl, ho0, hbWv, hzv, HV.out.2.1, A4, c4, G4, HV.out.1, HV.out.2.2, HG5.out.2.1, HG5.out.2.2⟩
        case round =>
          obtain ⟨k, hk, rfl, hok, hbr, hzr, hfr, A5, c5, G5, o0, hrep, hfG, hnG⟩ := hrel
          have HR := Lib.hid (And.intro hrep (And.intro hfG hnG))
          clear hrep hfG hnG HV hbWv hzv HG5 s02
          have hsmk := instAt_small (x := y) (v := v) hsm k
          have s0' := (HKP.out.1 wr hbr (w.heap.size + 1) 0 (by omega)).trans HK.out.2.2.2.1
          have s1' := (HKP.out.1 wr hbr (w.heap.size + 1) 1 (by omega)).trans HK.out.2.2.2.2.1
          have s2' := (HKP.out.1 wr hbr (w.heap.size + 1) 2 (by omega)).trans HK.out.2.2.2.2.2.1
          have s3' := (HKP.out.1 wr hbr (w.heap.size + 1) 3 (by omega)).trans HK.out.2.2.2.2.2.2
          have hbwr : Below w.heap.size w wr := HKP.out.2.2 _ hbr
          by_cases hlt : k < m
          · have hkx : k < y.files.length := by rw [HM.out]; exact hlt
            obtain ⟨g, o, vs9, F9, rfl, hgF, hx9, -, hc9⟩ := cL_get (hw := by decide) (hw2 := by decide) (Cod.bel m2 hbwr) hkx
            obtain ⟨rfl, -, -⟩ := hx9
            have qf := (hc9 0 _ rfl).1
            rw [show cS.wd = 1 from rfl, Nat.mul_one, Nat.add_zero] at qf
            have hfk := hfz _ (List.getElem_mem hkx)
            have hki : (k : Int) < (m : Int) := by omega
            have hk0 : (0 : Int) ≤ (k : Int) := by omega
            clear hc9
            have hgr := World.block_lt_of_cell? _ _ qf
            have hstep := instAt_yes hkx hok
            have hszk := hsmk hok
            generalize y.files[k] = f at *
            have hresz := serveFile_sz y f v
            have HST := Lib.hid hstep
            clear hstep hok hsmk
            generalize instAt y v s0 k = sk at *
            obtain ⟨sk1, hsk1⟩ : ∃ s, instAt y v s0 (k + 1) = s := ⟨_, rfl⟩
            rw [hsk1] at HST
            have HSK := Lib.hid hsk1
            clear hsk1
            rw [HM.out] at hr2
            have hS : ∀ w9, Below wr.heap.size wr w9 → Below wr.heap.size wr w9 ∧ w9.cell? ⟨ob, 0, none⟩ = some (.slice A5 sk.1.caches.length c5) ∧ w9.cell? ⟨w.heap.size + 1, 0, none⟩ = some (.string y.name) ∧ w9.cell? ⟨w.heap.size + 1, 1, none⟩ = some (.int .i64 y.ver) ∧ w9.cell? ⟨w.heap.size + 1, 2, none⟩ = some (.slice (some ⟨g, o, none⟩) m c2) ∧ w9.cell? ⟨w.heap.size + 1, 3, none⟩ = some (.bool y.shared) ∧ w9.cell? ⟨g, o + k, none⟩ = some (.string f) :=
              fun w9 hb => ⟨hb, (hb.cell (p := ⟨ob, 0, none⟩) (by simp; omega)).trans o0, (hb.cell (p := ⟨w.heap.size + 1, 0, none⟩) (by simp; omega)).trans s0', (hb.cell (p := ⟨w.heap.size + 1, 1, none⟩) (by simp; omega)).trans s1', (hb.cell (p := ⟨w.heap.size + 1, 2, none⟩) (by simp; omega)).trans s2', (hb.cell (p := ⟨w.heap.size + 1, 3, none⟩) (by simp; omega)).trans s3', (hb.cell (p := ⟨g, o + k, none⟩) hgr).trans qf⟩
            go_upto_region 7 with (fail)
            have hwb : Below wr.heap.size wr wr := Below.refl _ _
            go_region_held3 (fun w9 => Below wr.heap.size wr w9 ∧ w9.cell? ⟨ob, 0, none⟩ = some (.slice A5 sk.1.caches.length c5) ∧ w9.cell? ⟨w.heap.size + 1, 0, none⟩ = some (.string y.name) ∧ w9.cell? ⟨w.heap.size + 1, 1, none⟩ = some (.int .i64 y.ver) ∧ w9.cell? ⟨w.heap.size + 1, 2, none⟩ = some (.slice (some ⟨g, o, none⟩) m c2) ∧ w9.cell? ⟨w.heap.size + 1, 3, none⟩ = some (.bool y.shared) ∧ w9.cell? ⟨g, o + k, none⟩ = some (.string f)) (exact hS _ (by repeat (first | with_reducible exact Below.refl _ _ | with_reducible assumption | with_reducible refine bel_alloc ?_ _ | with_reducible refine bel_drew ?_ | with_reducible refine bel_drewN ?_ _ | (with_reducible refine bel_set ?_ ?_ _; rotate_left; ((try simp); (try omega))))))
              (first
                | (go_at_call 28
                   refine (specServeFile_any _ y F2 f v _ (by exact Cod.bel hr2 (bel_then hbwr (by repeat (first | with_reducible exact Below.refl _ _ | with_reducible assumption | with_reducible refine bel_alloc ?_ _ | with_reducible refine bel_drew ?_ | with_reducible refine bel_drewN ?_ _ | (with_reducible refine bel_set ?_ ?_ _; rotate_left; ((try simp); (try omega))))))) hn2 hfk hv).mono ?_
                   rintro e w5 ⟨vs5, G9, rfl, hb5, hr5, -⟩
                   obtain ⟨u5, _, rfl, rfl, -, n5⟩ := TResp.outA hr5
                   obtain ⟨Y5, d5, hy5⟩ := cL_form n5
                   subst hy5
                   have hB5 : Below wr.heap.size wr w5 := bel_then (by repeat (first | with_reducible exact Below.refl _ _ | with_reducible assumption | with_reducible refine bel_alloc ?_ _ | with_reducible refine bel_drew ?_ | with_reducible refine bel_drewN ?_ _ | (with_reducible refine bel_set ?_ ?_ _; rotate_left; ((try simp); (try omega))))) hb5
                   obtain ⟨hcA, hfA, hzA⟩ := bcell hb5
                   (try simp at hzA)
                   (try (have hzq5 : wr.heap.size < w5.heap.size := by omega))
                   clear hb5 n5)
                | (go_at_call 38
                   refine (specStoreResponse_any _ sk.1 G5 v y.name f _ (serveFile y f v) G9 _ (by exact Cod.bel HR.out.1 (by repeat (first | with_reducible exact Below.refl _ _ | with_reducible assumption | with_reducible refine bel_alloc ?_ _ | with_reducible refine bel_drew ?_ | with_reducible refine bel_drewN ?_ _ | (with_reducible refine bel_set ?_ ?_ _; rotate_left; ((try simp); (try omega)))))) (by omega) hv (by unfold maxLen; omega) (by unfold maxLen; omega) (by exact Cod.bel hr5 (by repeat (first | with_reducible exact Below.refl _ _ | with_reducible assumption | with_reducible refine bel_alloc ?_ _ | with_reducible refine bel_drew ?_ | with_reducible refine bel_drewN ?_ _ | (with_reducible refine bel_set ?_ ?_ _; rotate_left; ((try simp); (try omega)))))) (by omega)).mono ?_
                   rw [← HST.out]
                   rintro e w6 ⟨vs6, G6, rfl, hb6, hr6, hf6⟩
                   obtain ⟨u6, _, rfl, rfl, -, n6⟩ := TCSet.outA hr6
                   obtain ⟨A6, c6, rfl⟩ := cL_form n6
                   have hB6 : Below wr.heap.size wr w6 := bel_then hB5 (bel_then (by repeat (first | with_reducible exact Below.refl _ _ | with_reducible assumption | with_reducible refine bel_alloc ?_ _ | with_reducible refine bel_drew ?_ | with_reducible refine bel_drewN ?_ _ | (with_reducible refine bel_set ?_ ?_ _; rotate_left; ((try simp); (try omega))))) hb6)
                   obtain ⟨hcB, hfB, hzB⟩ := bcell hb6
                   (try simp at hzB)
                   have hF6 : ∀ b, b ∈ G6 → _ ≤ b := fun b hb => hf6.1 b hb
                   (try simp at hF6)
                   have hz5' := hB5.size
                   have hm6 := Fresh.mono hf6 (show w.heap.size + 1 + 1 + 1 ≤ _ by (try simp); omega)
                   have H6 := Lib.hid (And.intro n6 (And.intro hF6 hm6))
                   clear hb6 hr6 hf6 n6 hF6 hm6 hr5))
            · generalize hWz : World.alloc w6 _ = wz
              rename_i hHd
              clear hHd
              have hnz : ∀ b, b ∈ G6 → wr.heap.size ≤ b := fun b hb => by have := H6.out.2.1 b hb; omega
              have hgz : ∀ b, b ∈ G6 → b ≠ ob := fun b hb => by have := hnz b hb; omega
              have hBz : Below wr.heap.size wr wz := by rw [← hWz]; clear hWz; exact (by repeat (first | with_reducible exact Below.refl _ _ | with_reducible assumption | with_reducible refine bel_alloc ?_ _ | with_reducible refine bel_drew ?_ | with_reducible refine bel_drewN ?_ _ | (with_reducible refine bel_set ?_ ?_ _; rotate_left; ((try simp); (try omega)))))
              have kN : wz.cell? ⟨w6.heap.size, 0, none⟩ = some (.slice A6 sk1.1.caches.length c6) := by rw [← hWz]; clear hWz; go_simp
              have hlow6 := H6.out.2.1
              have hrz : cCacheS.rep wz [.slice A6 sk1.1.caches.length c6] sk1.1.caches G6 := by rw [← hWz]; clear hWz; have hfin := H6.out.1; exact (by repeat (first | with_reducible exact hfin | with_reducible refine Cod.allocA ?_ _ | with_reducible refine Cod.drewA ?_ | with_reducible refine Cod.drewNA ?_ _ | ((with_reducible refine Cod.setA ?_ ?_ _); rotate_left; ((intro hm9; have hm8 := hlow6 _ hm9; (try simp at hm8); (try omega))))))
              have HZ := Lib.hid (And.intro hrz (And.intro H6.out.2.2 hnz))
              have oz := (hBz.cell (p := ⟨ob, 0, none⟩) hzr).trans o0
              have fz := (hBz.frozen (p := ⟨ob, 0, none⟩) hzr).trans hfr
              have hbz : Below ob w4 wz := hbr.trans (hBz.mono (by omega))
              have hzz : ob < wz.heap.size := by have := hBz.size; omega
              clear hWz hrz hnz hlow6 H6 HR hcA hfA hcB hfB hB5 hB6 hBz o0 hfr hbr hzr hbwr s0' s1' s2' s3' qf hS
              have hne : ¬ ob = w.heap.size + 1 + 1 := by omega
              have hbwr : Below w.heap.size w wz := HKP.out.2.2 _ hbz
              have hzr9 := (hbz).size
              have hq2r : w.heap.size + 1 + 1 < wz.heap.size := by omega
              have hq1r : w.heap.size + 1 < wz.heap.size := by omega
              have hq0r : w.heap.size < wz.heap.size := by omega
              have lr := (HKP.out.1 wz hbz (w.heap.size + 1 + 1) 0 (by omega)).trans HK.out.1
              have lzr := (HKP.out.2.1 wz hbz (w.heap.size + 1 + 1) 0 (by omega)).trans HK.out.2.1
              have b0r := (HKP.out.1 wz hbz w.heap.size 0 (by omega)).trans HK.out.2.2.1
              cases hko : sk1.2
              · have HE := Lib.hid (show installFiles x y v true = (x, false) by unfold installFiles; rw [HS0.out, HM.out, instAt_off (k := k + 1) (by rw [HSK.out]; exact hko) m (by omega), Bool.and_false]; rfl)
                clear HZ oz fz hsm HSK HST
                go_wp2_with fail
                refine (specCopySet_any _ x _ _ (by exact Cod.bel hr hbwr) hn).mono ?_
                rintro e w7 ⟨vs7, G7, rfl, hb7, hrep7, hf7⟩
                obtain ⟨B7, d7, rfl, n7⟩ := TCSet.outO hrep7
                have hbq7 : Below w.heap.size w w7 := bel_then hbwr hb7
                obtain ⟨hc_w7, hf_w7, hz_w7⟩ := bcell hb7
                have hf7' : Fresh (w.heap.size + 1 + 1 + 1) G7 := hf7.mono (by (try simp); (try omega))
                have hb7w := hb7
                (try simp at hz_w7)
                have hq27 : w.heap.size + 1 + 1 < w7.heap.size := by omega
                clear hb7 hrep7 hf7
                go_wp2_with fail
                refine bodyPost_ret (v := .tuple #[.agg #[.slice B7 x.caches.length d7], .bool false]) (by simp [results, Try.results54, go_sem, *]) rfl ?_
                rw [HE.out]
                refine GivesR2.weak weak_cset (show GivesR2 cCSetO w x (.bool false) _ _ from ?_)
                have hfin : cCachesO.rep w7 [.slice B7 x.caches.length d7] x.caches G7 := n7
                have hlow := hf7'.1
                exact ⟨_, G7, rfl, (by repeat (first | with_reducible exact Below.refl _ _ | with_reducible assumption | with_reducible refine bel_alloc ?_ _ | with_reducible refine bel_drew ?_ | with_reducible refine bel_drewN ?_ _ | (with_reducible refine bel_set ?_ ?_ _; rotate_left; ((try simp); (try omega))))), TCSet.mkO (by repeat (first | with_reducible exact hfin | with_reducible refine Cod.allocA ?_ _ | with_reducible refine Cod.drewA ?_ | with_reducible refine Cod.drewNA ?_ _ | ((with_reducible refine Cod.setA ?_ ?_ _); rotate_left; ((intro hm9; have hm8 := hlow _ hm9; (try simp at hm8); (try omega)))))), hf7'.mono (by omega)⟩
              · go_wp2_with fail
                go_roundw
                case rel => first | exact ⟨k + 1, by omega, by go_num, by rw [HSK.out]; exact hko, hbz.setCell (Nat.le_refl _) _, (by simp; omega), by rw [frozen?_set]; exact fz, A6, c6, G6, by rw [HSK.out]; exact cell?_set_same oz, by rw [HSK.out]; exact Cod.keep _ HZ.out.1 (fun b hb => Below.heap_setCell _ _ _ _ (hgz b hb)), HZ.out.2.1, hgz⟩ | ((repeat apply Exists.intro); exact ⟨⟨k + 1, by omega, by go_num, by rw [HSK.out]; exact hko, hbz.setCell (Nat.le_refl _) _, (by simp; omega), by rw [frozen?_set]; exact fz, A6, c6, G6, by rw [HSK.out]; exact cell?_set_same oz, by rw [HSK.out]; exact Cod.keep _ HZ.out.1 (fun b hb => Below.heap_setCell _ _ _ _ (hgz b hb)), HZ.out.2.1, hgz⟩, rfl⟩)
                case measure => simp [intOf]; omega
            · generalize hWz : World.setCell _ _ _ = wz
              rename_i hHd
              clear hHd
              have hnz : ∀ b, b ∈ G6 → wr.heap.size ≤ b := fun b hb => by have := H6.out.2.1 b hb; omega
              have hgz : ∀ b, b ∈ G6 → b ≠ ob := fun b hb => by have := hnz b hb; omega
              have hBz : Below wr.heap.size wr wz := by rw [← hWz]; clear hWz; exact (by repeat (first | with_reducible exact Below.refl _ _ | with_reducible assumption | with_reducible refine bel_alloc ?_ _ | with_reducible refine bel_drew ?_ | with_reducible refine bel_drewN ?_ _ | (with_reducible refine bel_set ?_ ?_ _; rotate_left; ((try simp); (try omega)))))
              have kN : wz.cell? ⟨w5.heap.size, 0, none⟩ = some (.slice A6 sk1.1.caches.length c6) := by rw [← hWz]; clear hWz; go_simp
              have hlow6 := H6.out.2.1
              have hrz : cCacheS.rep wz [.slice A6 sk1.1.caches.length c6] sk1.1.caches G6 := by rw [← hWz]; clear hWz; have hfin := H6.out.1; exact (by repeat (first | with_reducible exact hfin | with_reducible refine Cod.allocA ?_ _ | with_reducible refine Cod.drewA ?_ | with_reducible refine Cod.drewNA ?_ _ | ((with_reducible refine Cod.setA ?_ ?_ _); rotate_left; ((intro hm9; have hm8 := hlow6 _ hm9; (try simp at hm8); (try omega))))))
              have HZ := Lib.hid (And.intro hrz (And.intro H6.out.2.2 hnz))
              have oz := (hBz.cell (p := ⟨ob, 0, none⟩) hzr).trans o0
              have fz := (hBz.frozen (p := ⟨ob, 0, none⟩) hzr).trans hfr
              have hbz : Below ob w4 wz := hbr.trans (hBz.mono (by omega))
              have hzz : ob < wz.heap.size := by have := hBz.size; omega
              clear hWz hrz hnz hlow6 H6 HR hcA hfA hcB hfB hB5 hB6 hBz o0 hfr hbr hzr hbwr s0' s1' s2' s3' qf hS
              have hne : ¬ ob = w.heap.size + 1 + 1 := by omega
              have hbwr : Below w.heap.size w wz := HKP.out.2.2 _ hbz
              have hzr9 := (hbz).size
              have hq2r : w.heap.size + 1 + 1 < wz.heap.size := by omega
              have hq1r : w.heap.size + 1 < wz.heap.size := by omega
              have hq0r : w.heap.size < wz.heap.size := by omega
              have lr := (HKP.out.1 wz hbz (w.heap.size + 1 + 1) 0 (by omega)).trans HK.out.1
              have lzr := (HKP.out.2.1 wz hbz (w.heap.size + 1 + 1) 0 (by omega)).trans HK.out.2.1
              have b0r := (HKP.out.1 wz hbz w.heap.size 0 (by omega)).trans HK.out.2.2.1
              cases hko : sk1.2
              · have HE := Lib.hid (show installFiles x y v true = (x, false) by unfold installFiles; rw [HS0.out, HM.out, instAt_off (k := k + 1) (by rw [HSK.out]; exact hko) m (by omega), Bool.and_false]; rfl)
                clear HZ oz fz hsm HSK HST
                go_wp2_with fail
                refine (specCopySet_any _ x _ _ (by exact Cod.bel hr hbwr) hn).mono ?_
                rintro e w7 ⟨vs7, G7, rfl, hb7, hrep7, hf7⟩
                obtain ⟨B7, d7, rfl, n7⟩ := TCSet.outO hrep7
                have hbq7 : Below w.heap.size w w7 := bel_then hbwr hb7
                obtain ⟨hc_w7, hf_w7, hz_w7⟩ := bcell hb7
                have hf7' : Fresh (w.heap.size + 1 + 1 + 1) G7 := hf7.mono (by (try simp); (try omega))
                have hb7w := hb7
                (try simp at hz_w7)
                have hq27 : w.heap.size + 1 + 1 < w7.heap.size := by omega
                clear hb7 hrep7 hf7
                go_wp2_with fail
                refine bodyPost_ret (v := .tuple #[.agg #[.slice B7 x.caches.length d7], .bool false]) (by simp [results, Try.results54, go_sem, *]) rfl ?_
                rw [HE.out]
                refine GivesR2.weak weak_cset (show GivesR2 cCSetO w x (.bool false) _ _ from ?_)
                have hfin : cCachesO.rep w7 [.slice B7 x.caches.length d7] x.caches G7 := n7
                have hlow := hf7'.1
                exact ⟨_, G7, rfl, (by repeat (first | with_reducible exact Below.refl _ _ | with_reducible assumption | with_reducible refine bel_alloc ?_ _ | with_reducible refine bel_drew ?_ | with_reducible refine bel_drewN ?_ _ | (with_reducible refine bel_set ?_ ?_ _; rotate_left; ((try simp); (try omega))))), TCSet.mkO (by repeat (first | with_reducible exact hfin | with_reducible refine Cod.allocA ?_ _ | with_reducible refine Cod.drewA ?_ | with_reducible refine Cod.drewNA ?_ _ | ((with_reducible refine Cod.setA ?_ ?_ _); rotate_left; ((intro hm9; have hm8 := hlow _ hm9; (try simp at hm8); (try omega)))))), hf7'.mono (by omega)⟩
              · go_wp2_with fail
                go_roundw
                case rel => first | exact ⟨k + 1, by omega, by go_num, by rw [HSK.out]; exact hko, hbz.setCell (Nat.le_refl _) _, (by simp; omega), by rw [frozen?_set]; exact fz, A6, c6, G6, by rw [HSK.out]; exact cell?_set_same oz, by rw [HSK.out]; exact Cod.keep _ HZ.out.1 (fun b hb => Below.heap_setCell _ _ _ _ (hgz b hb)), HZ.out.2.1, hgz⟩ | ((repeat apply Exists.intro); exact ⟨⟨k + 1, by omega, by go_num, by rw [HSK.out]; exact hko, hbz.setCell (Nat.le_refl _) _, (by simp; omega), by rw [frozen?_set]; exact fz, A6, c6, G6, by rw [HSK.out]; exact cell?_set_same oz, by rw [HSK.out]; exact Cod.keep _ HZ.out.1 (fun b hb => Below.heap_setCell _ _ _ _ (hgz b hb)), HZ.out.2.1, hgz⟩, rfl⟩)
                case measure => simp [intOf]; omega
            · generalize hWz : World.setCell _ _ _ = wz
              rename_i hHd
              clear hHd
              have hnz : ∀ b, b ∈ G6 → wr.heap.size ≤ b := fun b hb => by have := H6.out.2.1 b hb; omega
              have hgz : ∀ b, b ∈ G6 → b ≠ ob := fun b hb => by have := hnz b hb; omega
              have hBz : Below wr.heap.size wr wz := by rw [← hWz]; clear hWz; exact (by repeat (first | with_reducible exact Below.refl _ _ | with_reducible assumption | with_reducible refine bel_alloc ?_ _ | with_reducible refine bel_drew ?_ | with_reducible refine bel_drewN ?_ _ | (with_reducible refine bel_set ?_ ?_ _; rotate_left; ((try simp); (try omega)))))
              have kN : wz.cell? ⟨wr.heap.size, 0, none⟩ = some (.slice A6 sk1.1.caches.length c6) := by rw [← hWz]; clear hWz; go_simp
              have hlow6 := H6.out.2.1
              have hrz : cCacheS.rep wz [.slice A6 sk1.1.caches.length c6] sk1.1.caches G6 := by rw [← hWz]; clear hWz; have hfin := H6.out.1; exact (by repeat (first | with_reducible exact hfin | with_reducible refine Cod.allocA ?_ _ | with_reducible refine Cod.drewA ?_ | with_reducible refine Cod.drewNA ?_ _ | ((with_reducible refine Cod.setA ?_ ?_ _); rotate_left; ((intro hm9; have hm8 := hlow6 _ hm9; (try simp at hm8); (try omega))))))
              have HZ := Lib.hid (And.intro hrz (And.intro H6.out.2.2 hnz))
              have oz := (hBz.cell (p := ⟨ob, 0, none⟩) hzr).trans o0
              have fz := (hBz.frozen (p := ⟨ob, 0, none⟩) hzr).trans hfr
              have hbz : Below ob w4 wz := hbr.trans (hBz.mono (by omega))
              have hzz : ob < wz.heap.size := by have := hBz.size; omega
              clear hWz hrz hnz hlow6 H6 HR hcA hfA hcB hfB hB5 hB6 hBz o0 hfr hbr hzr hbwr s0' s1' s2' s3' qf hS
              have hne : ¬ ob = w.heap.size + 1 + 1 := by omega
              have hbwr : Below w.heap.size w wz := HKP.out.2.2 _ hbz
              have hzr9 := (hbz).size
              have hq2r : w.heap.size + 1 + 1 < wz.heap.size := by omega
              have hq1r : w.heap.size + 1 < wz.heap.size := by omega
              have hq0r : w.heap.size < wz.heap.size := by omega
              have lr := (HKP.out.1 wz hbz (w.heap.size + 1 + 1) 0 (by omega)).trans HK.out.1
              have lzr := (HKP.out.2.1 wz hbz (w.heap.size + 1 + 1) 0 (by omega)).trans HK.out.2.1
              have b0r := (HKP.out.1 wz hbz w.heap.size 0 (by omega)).trans HK.out.2.2.1
              cases hko : sk1.2
              · have HE := Lib.hid (show installFiles x y v true = (x, false) by unfold installFiles; rw [HS0.out, HM.out, instAt_off (k := k + 1) (by rw [HSK.out]; exact hko) m (by omega), Bool.and_false]; rfl)
                clear HZ oz fz hsm HSK HST
                go_wp2_with fail
                refine (specCopySet_any _ x _ _ (by exact Cod.bel hr hbwr) hn).mono ?_
                rintro e w7 ⟨vs7, G7, rfl, hb7, hrep7, hf7⟩
                obtain ⟨B7, d7, rfl, n7⟩ := TCSet.outO hrep7
                have hbq7 : Below w.heap.size w w7 := bel_then hbwr hb7
                obtain ⟨hc_w7, hf_w7, hz_w7⟩ := bcell hb7
                have hf7' : Fresh (w.heap.size + 1 + 1 + 1) G7 := hf7.mono (by (try simp); (try omega))
                have hb7w := hb7
                (try simp at hz_w7)
                have hq27 : w.heap.size + 1 + 1 < w7.heap.size := by omega
                clear hb7 hrep7 hf7
                go_wp2_with fail
                refine bodyPost_ret (v := .tuple #[.agg #[.slice B7 x.caches.length d7], .bool false]) (by simp [results, Try.results54, go_sem, *]) rfl ?_
                rw [HE.out]
                refine GivesR2.weak weak_cset (show GivesR2 cCSetO w x (.bool false) _ _ from ?_)
                have hfin : cCachesO.rep w7 [.slice B7 x.caches.length d7] x.caches G7 := n7
                have hlow := hf7'.1
                exact ⟨_, G7, rfl, (by repeat (first | with_reducible exact Below.refl _ _ | with_reducible assumption | with_reducible refine bel_alloc ?_ _ | with_reducible refine bel_drew ?_ | with_reducible refine bel_drewN ?_ _ | (with_reducible refine bel_set ?_ ?_ _; rotate_left; ((try simp); (try omega))))), TCSet.mkO (by repeat (first | with_reducible exact hfin | with_reducible refine Cod.allocA ?_ _ | with_reducible refine Cod.drewA ?_ | with_reducible refine Cod.drewNA ?_ _ | ((with_reducible refine Cod.setA ?_ ?_ _); rotate_left; ((intro hm9; have hm8 := hlow _ hm9; (try simp at hm8); (try omega)))))), hf7'.mono (by omega)⟩
              · go_wp2_with fail
                go_roundw
                case rel => first | exact ⟨k + 1, by omega, by go_num, by rw [HSK.out]; exact hko, hbz.setCell (Nat.le_refl _) _, (by simp; omega), by rw [frozen?_set]; exact fz, A6, c6, G6, by rw [HSK.out]; exact cell?_set_same oz, by rw [HSK.out]; exact Cod.keep _ HZ.out.1 (fun b hb => Below.heap_setCell _ _ _ _ (hgz b hb)), HZ.out.2.1, hgz⟩ | ((repeat apply Exists.intro); exact ⟨⟨k + 1, by omega, by go_num, by rw [HSK.out]; exact hko, hbz.setCell (Nat.le_refl _) _, (by simp; omega), by rw [frozen?_set]; exact fz, A6, c6, G6, by rw [HSK.out]; exact cell?_set_same oz, by rw [HSK.out]; exact Cod.keep _ HZ.out.1 (fun b hb => Below.heap_setCell _ _ _ _ (hgz b hb)), HZ.out.2.1, hgz⟩, rfl⟩)
                case measure => simp [intOf]; omega
          · have hkm : k = m := by omega
            subst hkm
            clear hbwr
            have hbwr : Below w.heap.size w wr := HKP.out.2.2 _ hbr
            have hzr9 := (hbr).size
            have hq2r : w.heap.size + 1 + 1 < wr.heap.size := by omega
            have hq1r : w.heap.size + 1 < wr.heap.size := by omega
            have hq0r : w.heap.size < wr.heap.size := by omega
            have lr := (HKP.out.1 wr hbr (w.heap.size + 1 + 1) 0 (by omega)).trans HK.out.1
            have lzr := (HKP.out.2.1 wr hbr (w.heap.size + 1 + 1) 0 (by omega)).trans HK.out.2.1
            have b0r := (HKP.out.1 wr hbr w.heap.size 0 (by omega)).trans HK.out.2.2.1
            have hne : ¬ ob = w.heap.size + 1 + 1 := by omega
            have HE := Lib.hid (show installFiles x y v true = ((instAt y v s0 k).1, true) by unfold installFiles; rw [HS0.out, HM.out, hok, hs]; rfl)
            clear hsmk hsm
            generalize (instAt y v s0 k).1 = sk at *
            go_wp2_with fail
            refine bodyPost_ret (v := .tuple #[.agg #[.slice A5 sk.caches.length c5], .bool true]) (by simp [results, Try.results54, go_sem, *]) rfl ?_
            rw [HE.out]
            have hfin : cCacheS.rep wr [.slice A5 sk.caches.length c5] sk.caches G5 := HR.out.1
            have hlow := HR.out.2.1.1
            exact ⟨_, G5, rfl, (by repeat (first | with_reducible exact Below.refl _ _ | with_reducible assumption | with_reducible refine bel_alloc ?_ _ | with_reducible refine bel_drew ?_ | with_reducible refine bel_drewN ?_ _ | (with_reducible refine bel_set ?_ ?_ _; rotate_left; ((try simp); (try omega))))), TCSet.mk_ (x := sk) trivial (by repeat (first | with_reducible exact hfin | with_reducible refine Cod.allocA ?_ _ | with_reducible refine Cod.drewA ?_ | with_reducible refine Cod.drewNA ?_ _ | ((with_reducible refine Cod.setA ?_ ?_ _); rotate_left; ((intro hm9; have hm8 := hlow _ hm9; (try simp at hm8); (try omega)))))), HR.out.2.1.mono (by omega)⟩
end Go.Proofs.Ytlicnppfgfjkgaa
