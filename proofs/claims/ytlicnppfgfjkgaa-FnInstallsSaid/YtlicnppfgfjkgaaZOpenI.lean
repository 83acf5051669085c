/-
  OpenCache of the program. No conditions.
-/
import Derived.Test.YtlicnppfgfjkgaaZStorePlain
import Derived.Test.YtlicnppfgfjkgaaZInsertFn
import Derived.Test.YtlicnppfgfjkgaaZA
import Derived.Deep.CutRange
namespace Go.Proofs.Ytlicnppfgfjkgaa
open Go.ChangeShapes Go.WideShapes Go.RowKit
set_option linter.unusedVariables false

theorem setNeC {W : World} {b c i j : Nat} {v u : Value} (h : b ≠ c) (k : W.cell? ⟨c, j, none⟩ = some u) : (W.setCell ⟨b, i, none⟩ v).cell? ⟨c, j, none⟩ = some u :=
  (World.cell?_setCell_other W ⟨b, i, none⟩ ⟨c, j, none⟩ v (fun e => h (by injection e))).trans k
theorem atVer_step {v : Int} {cs : List TCache} {k : Nat} (hk : k < cs.length) (h : k ≤ atVer v cs) (hv : cs[k].ver < v) : k + 1 ≤ atVer v cs := by
  rcases Nat.lt_or_eq_of_le h with h1 | h1
  · exact h1
  · subst h1
    exact absurd hv (atVer_end hk)
theorem atVer_stop {v : Int} {cs : List TCache} {k : Nat} (hk : k < cs.length) (h : k ≤ atVer v cs) (hv : ¬ cs[k].ver < v) : k = atVer v cs := by
  rcases Nat.lt_or_eq_of_le h with h1 | h1
  · exact absurd (atVer_lt hk h1) hv
  · exact h1
/-- a cache's version in a row of caches -/
theorem caches_ver {w : World} {A : Option Addr} {n d : Nat} {xs : List TCache} {F : List Nat} (h : cCacheS.rep w [.slice A n d] xs F) {k : Nat} (hk : k < xs.length) : ∃ g o, A = some ⟨g, o, none⟩ ∧ w.cell? ⟨g, o + k * 2, none⟩ = some (.int .i64 xs[k].ver) := by
  obtain ⟨g, o, vs, F1, hA, -, hx, -, hc⟩ := cL_get (hw := by decide) (hw2 := by decide) h hk
  obtain ⟨v1, F2, rfl, -, -, -⟩ := TCache.out hx
  exact ⟨g, o, hA, (hc 0 _ rfl).1⟩
set_option maxRecDepth 100000 in
set_option maxHeartbeats 8000000 in
theorem implOpenCacheO_any (vs : Array Value) (x : TCSet) (F : List Nat) (v : Int) (w : World) (h : cCSet.rep w vs.toList x F) (hn : cCSet.sz x ≤ 1048576) (hv : -9223372036854775808 ≤ v ∧ v ≤ 9223372036854775807) :
    Calls Try.prog 48 #[.agg vs, .int .i64 v] w (GivesR2 cCSetO w (openCache x v).1 (.bool (openCache x v).2)) := by
  have hr := h
  obtain ⟨v0, F0, rfl, -, -, m0⟩ := TCSet.outA h
  obtain ⟨A, cp, rfl⟩ := cL_form m0
  clear h
  have hnl := cset_len hn
  have HE := Lib.hid (show openCache x v = bif isCacheSet x && isCacheSet (openOut x v) then (openOut x v, true) else (x, false) from rfl)
  rw [HE.out]
  clear HE
  go_enter Try.func48, Try.ntmps48
  go_wp2_with fail
  refine (implCopySet_any _ x _ _ (by exact Cod.bel hr (by repeat (first | with_reducible exact Below.refl _ _ | with_reducible assumption | with_reducible refine bel_alloc ?_ _ | with_reducible refine bel_drew ?_ | with_reducible refine bel_drewN ?_ _ | (with_reducible refine bel_set ?_ ?_ _; rotate_left; ((try simp); (try omega)))))) hn).mono ?_
  rintro e w1 ⟨vs1, G1, rfl, hb1, hrep1, hf1⟩
  obtain ⟨B1, d1, rfl, n1⟩ := TCSet.outO hrep1
  have hz_w1 := hb1.size
  (try simp at hz_w1)
  have ha0_w1 : w.heap.size < w1.heap.size := by omega
  have ha1_w1 : w.heap.size + 1 < w1.heap.size := by omega
  obtain ⟨hc_w1, hf_w1, -⟩ := bcell hb1
  have hb_w1 : Below w.heap.size w w1 := bel_then (by repeat (first | with_reducible exact Below.refl _ _ | with_reducible assumption | with_reducible refine bel_alloc ?_ _ | with_reducible refine bel_drew ?_ | with_reducible refine bel_drewN ?_ _ | (with_reducible refine bel_set ?_ ?_ _; rotate_left; ((try simp); (try omega))))) hb1
  have hg1 : Fresh (w.heap.size + 1 + 1) G1 := hf1.mono (by (try simp); (try omega))
  have hlt1 : ∀ b, b ∈ G1 → b < w1.heap.size := Cod.lt _ n1
  clear hb1 hf1 hrep1
  go_wp2_with fail
  generalize hW : World.alloc w1 _ = w2
  have hb12 : Below w1.heap.size w1 w2 := by rw [← hW]; exact bel_alloc (Below.refl _ _) _
  have hz2 : w1.heap.size + 1 ≤ w2.heap.size := by rw [← hW]; clear hW; simp
  have j0 : w2.cell? ⟨w1.heap.size, 0, none⟩ = some (.slice B1 x.caches.length d1) := by rw [← hW]; clear hW; go_simp
  have z6 : w2.frozen? ⟨w1.heap.size, 0, none⟩ = false := by rw [← hW]; clear hW; go_simp
  have b0 : w2.cell? ⟨w.heap.size, 0, none⟩ = some (.slice A x.caches.length cp) := by rw [← hW]; clear hW; go_simp
  have l0 : w2.cell? ⟨w.heap.size + 1, 0, none⟩ = some (.slice none 0 0) := by rw [← hW]; clear hW; go_simp
  have z4 : w2.frozen? ⟨w.heap.size + 1, 0, none⟩ = false := by rw [← hW]; clear hW; go_simp
  have n2 := Cod.bel n1 hb12
  have hbw2 : Below w.heap.size w w2 := bel_then hb_w1 hb12
  clear hW n1 hc_w1 hf_w1
  obtain ⟨Gw, n2w, -⟩ := weak_caches.2 n2
  have HN2 := Lib.hid (And.intro n2 n2w)
  clear n2 n2w
  obtain ⟨n, hxn⟩ : ∃ n, x.caches.length = n := ⟨_, rfl⟩
  have HX := Lib.hid hxn
  have hat := atVer_le v x.caches
  rw [hxn] at hr j0 b0 hnl hat HN2 ⊢
  clear hxn
  go_loopw [7] (fun i wr => ∃ k : Nat, k ≤ n ∧ i = .int .i64 k ∧ k ≤ atVer v x.caches ∧ wr = w2) (fun i _ => n - (intOf i).toNat)
  case atStart => exact ⟨0, Nat.zero_le _, rfl, Nat.zero_le _, rfl⟩
  case round =>
    obtain ⟨k, hk, rfl, hka, rfl⟩ := hrel
    by_cases hgo : ∃ hlt : k < x.caches.length, x.caches[k].ver < v
    · obtain ⟨hkx, hver⟩ := hgo
      have hkn : k < n := by rw [← HX.out]; exact hkx
      have hst := atVer_step hkx hka hver
      obtain ⟨g, o, rfl, q0⟩ := caches_ver HN2.out.2 hkx
      have hki : (k : Int) < (n : Int) := by omega
      have hk0 : (0 : Int) ≤ (k : Int) := by omega
      generalize x.caches[k].ver = vk at *
      go_wp2_with fail
      go_roundw
      case rel => exact ⟨k + 1, by omega, by go_num, hst, by first | rfl | trivial⟩
      case measure => simp [intOf]; omega
    · have hend : k = atVer v x.caches := by
        by_cases hkx : k < x.caches.length
        · exact atVer_stop hkx hka (fun hv9 => hgo ⟨hkx, hv9⟩)
        · have := HX.out; omega
      have hI : ∃ Fi, G1 = ownL (.slice B1 n d1) ++ Fi ∧ Own cCacheO 125 (w.heap.size + 1 + 1) wr (.slice B1 n d1) x.caches Fi ∧ Fresh (w.heap.size + 1 + 1) Fi ∧ (∀ g, ownB (.slice B1 n d1) = some g → g ∉ Fi) ∧ ∀ g, ownB (.slice B1 n d1) = some g → w.heap.size + 1 + 1 ≤ g := cO_own HN2.out.1 hg1
      obtain ⟨Fi, hGF, hown, hFi, hneF, hgB⟩ := hI
      have hOG : ∀ g, ownB (.slice B1 n d1) = some g → g ∈ G1 := fun g hg => by rw [hGF]; exact List.mem_append_left _ (mem_ownL.2 hg)
      have hFG : ∀ b, b ∈ Fi → b ∈ G1 := fun b hb => by rw [hGF]; exact List.mem_append_right _ hb
      have HO := Lib.hid (And.intro hown (And.intro hFi hneF))
      clear hown hFi hneF hGF
      have hw1r : w1.heap.size < wr.heap.size := by omega
      have hw0r : w.heap.size + 1 < wr.heap.size := by omega
      have hins : ∀ vb W, Below wr.heap.size wr W → wr.heap.size ≤ vb → Blk W vb 125 #[.int .i64 v, .slice none 0 0] → Calls Try.prog 109 #[.slice B1 n d1, .int .i64 k, .slice (some ⟨vb, 0, none⟩) 1 1] W (Inserts cCacheO 125 (w.heap.size + 1 + 1) W (.slice B1 n d1) x.caches Fi k ⟨v, []⟩ []) :=
        fun vb W hb hvb hblk => insertCache_any B1 n d1 k x.caches ⟨v, []⟩ #[.int .i64 v, .slice none 0 0] Fi [] vb (w.heap.size + 1 + 1) W (HO.out.1.bel hb) (fun g hg => ⟨HO.out.2.2 g hg, by simp, by have := hlt1 g (hOG g hg); omega⟩) HX.out (by omega) hnl hblk (TCache.mkO (x := ⟨v, []⟩) ⟨hv⟩ ⟨_, [], rfl, Own.empty none, by simp [ownL, ownB]⟩) (by have := hb.size; omega)
      have HI := Lib.hid hins
      clear hins
      have hcond : (¬ (k : Int) < (n : Int)) ∨ ∃ g o vk, (k : Int) < (n : Int) ∧ B1 = some ⟨g, o, none⟩ ∧ wr.cell? ⟨g, o + k * 2, none⟩ = some (.int .i64 vk) ∧ ¬ vk < v := by
        by_cases hkx : k < x.caches.length
        · obtain ⟨g, o, hB, q0⟩ := caches_ver HN2.out.2 hkx
          exact .inr ⟨g, o, _, by have := HX.out; omega, hB, q0, fun hv9 => hgo ⟨hkx, hv9⟩⟩
        · exact .inl (by have := HX.out; omega)
      clear hgo
      have HEND := Lib.hid hend
      clear hend
      rcases hcond with hc | ⟨g, o, vk, hc1, rfl, hc2, hc3⟩
      · go_upto_region 5 with (fail)
        go_wp2_with fail
        refine (HI.out _ _ (by exact (by repeat (first | with_reducible exact Below.refl _ _ | with_reducible assumption | with_reducible refine bel_alloc ?_ _ | with_reducible refine bel_drew ?_ | with_reducible refine bel_drewN ?_ _ | (with_reducible refine bel_set ?_ ?_ _; rotate_left; ((try simp); (try omega)))))) (Nat.le_refl _) (by exact Blk.new _ _ _)).mono ?_
        rintro e w3 ⟨A2, c2, F1, F2, rfl, hF12, ho3, hg3, hat3⟩
        have hz3 := hg3.size
        (try simp at hz3)
        have hr6 := hg3.block w1.heap.size (by simp; omega) (fun e9 => by have := hlt1 _ (hOG _ e9.symm); omega)
        have hr4 := hg3.block (w.heap.size + 1) (by simp; omega) (fun e9 => by have := hg1.1 _ (hOG _ e9.symm); omega)
        have hr0 := hg3.block w.heap.size (by simp; omega) (fun e9 => by have := hg1.1 _ (hOG _ e9.symm); omega)
        have hbl := fun b (hb : b < wr.heap.size) => Below.block (bel_alloc (Below.refl wr.heap.size wr) (.cells #[.int .i64 v, .slice none 0 0] 125)) b hb
        have q6 := (World.cell?_of_block (a := ⟨w1.heap.size, 0, none⟩) (hr6.trans (hbl _ hw1r))).trans j0
        have y6 := (World.frozen?_of_block (a := ⟨w1.heap.size, 0, none⟩) (hr6.trans (hbl _ hw1r))).trans z6
        have q4 := (World.cell?_of_block (a := ⟨w.heap.size + 1, 0, none⟩) (hr4.trans (hbl _ hw0r))).trans l0
        have y4 := (World.frozen?_of_block (a := ⟨w.heap.size + 1, 0, none⟩) (hr4.trans (hbl _ hw0r))).trans z4
        have q0 := (World.cell?_of_block (a := ⟨w.heap.size, 0, none⟩) (hr0.trans (hbl _ (by omega)))).trans b0
        have hb3 : Below w.heap.size w w3 := Below.grown (show Below w.heap.size w _ from (by repeat (first | with_reducible exact Below.refl _ _ | with_reducible assumption | with_reducible refine bel_alloc ?_ _ | with_reducible refine bel_drew ?_ | with_reducible refine bel_drewN ?_ _ | (with_reducible refine bel_set ?_ ?_ _; rotate_left; ((try simp); (try omega)))))) hg3 (by simp; omega) (fun g hg => by have := hg1.1 _ (hOG _ hg); omega)
        have hown2 : ∀ g, ownB (.slice A2 (x.caches.length + 1) c2) = some g → w.heap.size + 1 + 1 ≤ g ∧ g ≠ w1.heap.size ∧ g ∉ F1 ++ ([] ++ F2) := fun g hg => by
          rcases hat3 g hg with h9 | h9
          · have h8 := hOG g h9
            refine ⟨hg1.1 g h8, by have := hlt1 g h8; omega, fun hm => HO.out.2.2 g h9 (by rw [hF12]; simpa using hm)⟩
          · simp at h9
            refine ⟨by omega, by omega, fun hm => ?_⟩
            have := hlt1 g (hFG g (by rw [hF12]; simpa using hm))
            omega
        have hfr2 : Fresh (w.heap.size + 1 + 1) (F1 ++ ([] ++ F2)) := by have h9 := HO.out.2.1; rw [hF12] at h9; simpa using h9
        obtain ⟨hrp, hfp⟩ := ho3.toO (hw2 := by decide) hfr2 (fun g hg => (hown2 g hg).2.2)
        have hnp : ∀ b, b ∈ ownL (.slice A2 (x.caches.length + 1) c2) ++ (F1 ++ ([] ++ F2)) → b ≠ w1.heap.size := fun b hb => by
          rcases List.mem_append.1 hb with hb | hb
          · exact (hown2 b (mem_ownL.1 hb)).2.1
          · have := hlt1 b (hFG b (by rw [hF12]; simpa using hb)); omega
        rw [HEND.out] at hrp
        have HRP := Lib.hid (And.intro hrp (And.intro hfp hnp))
        clear hrp hfp hnp hown2 hfr2 ho3 hg3 hat3 hr6 hr4 hr0 hbl HI HO HN2 hF12 hOG hFG hgB
        go_upto_region 6 with (fail)
        generalize hWq : World.setCell w3 _ _ = wc
        have hbq : Below w.heap.size w wc := by rw [← hWq]; exact (by repeat (first | with_reducible exact Below.refl _ _ | with_reducible assumption | with_reducible refine bel_alloc ?_ _ | with_reducible refine bel_drew ?_ | with_reducible refine bel_drewN ?_ _ | (with_reducible refine bel_set ?_ ?_ _; rotate_left; ((try simp); (try omega)))))
        have hsq : w1.heap.size < wc.heap.size := by rw [← hWq]; clear hWq; simp; omega
        have a0 : wc.cell? ⟨w.heap.size, 0, none⟩ = some (.slice A n cp) := by rw [← hWq]; exact setNeC (by omega) q0
        have u0 : wc.cell? ⟨w.heap.size + 1, 0, none⟩ = some (.slice none 0 0) := by rw [← hWq]; exact setNeC (by omega) q4
        have zq : wc.frozen? ⟨w.heap.size + 1, 0, none⟩ = false := by rw [← hWq, frozen?_set]; exact y4
        have v0 : wc.cell? ⟨w1.heap.size, 0, none⟩ = some (.slice A2 (x.caches.length + 1) c2) := by rw [← hWq]; exact cell?_set_same q6
        obtain ⟨F', hrq, hfq, hnq⟩ : ∃ F', cCachesO.rep wc [.slice A2 (x.caches.length + 1) c2] (openOut x v).caches F' ∧ Fresh (w.heap.size + 1 + 1) F' ∧ ∀ b, b ∈ F' → b ≠ w1.heap.size :=
          ⟨_, by rw [← hWq]; exact Cod.keep _ HRP.out.1 (fun b hb => Below.heap_setCell _ _ _ _ (HRP.out.2.2 b hb)), HRP.out.2.1, HRP.out.2.2⟩
        clear hWq q6 y6 q4 y4 q0 j0 z6 b0 l0 z4 HRP
        have hq0 : w.heap.size < wc.heap.size := by omega
        have hq2 : w.heap.size + 1 < wc.heap.size := by omega
        have hnq2 : ¬ w1.heap.size = w.heap.size + 1 := by omega
        have hnq3 : ¬ w.heap.size + 1 = w1.heap.size := by omega
        cases hs : isCacheSet x with
        | false =>
          go_wp2_with fail
          refine (implIsCacheSetN_any _ x _ _ (by exact Cod.bel hr (bel_then hbq (by repeat (first | with_reducible exact Below.refl _ _ | with_reducible assumption | with_reducible refine bel_alloc ?_ _ | with_reducible refine bel_drew ?_ | with_reducible refine bel_drewN ?_ _ | (with_reducible refine bel_set ?_ ?_ _; rotate_left; ((try simp); (try omega)))))))).mono ?_
          rw [hs]
          rintro e w6 ⟨rfl, hb6⟩
          have hbq6 : Below w.heap.size w w6 := bel_then hbq hb6
          obtain ⟨hc_w6, hf_w6, hz_w6⟩ := bcell hb6
          have hq06 : w.heap.size < w6.heap.size := by omega
          have hq26 : w.heap.size + 1 < w6.heap.size := by omega
          clear hb6
          go_wp2_with fail
          refine (implCopySet_any _ x _ _ (by exact Cod.bel hr (bel_then hbq6 (by repeat (first | with_reducible exact Below.refl _ _ | with_reducible assumption | with_reducible refine bel_alloc ?_ _ | with_reducible refine bel_drew ?_ | with_reducible refine bel_drewN ?_ _ | (with_reducible refine bel_set ?_ ?_ _; rotate_left; ((try simp); (try omega))))))) hn).mono ?_
          rintro e w7 ⟨vs7, G7, rfl, hb7, hrep7, hf7⟩
          obtain ⟨B7, d7, rfl, n7⟩ := TCSet.outO hrep7
          have hbq7 : Below w.heap.size w w7 := bel_then hbq6 hb7
          obtain ⟨hc_w7, hf_w7, hz_w7⟩ := bcell hb7
          have hq27 : w.heap.size + 1 < w7.heap.size := by omega
          have hf7' : Fresh (w.heap.size + 1 + 1) G7 := hf7.mono (by omega)
          clear hb7 hrep7 hf7
          go_wp2_with fail
          refine bodyPost_ret (v := .tuple #[.agg #[.slice B7 x.caches.length d7], .bool false]) (by simp [results, Try.results48, go_sem, *]) rfl ?_
          rw [hs]
          show GivesR2 cCSetO w x (.bool false) _ _
          have hfin : cCachesO.rep w7 [.slice B7 x.caches.length d7] x.caches G7 := n7
          have hlow := hf7'.1
          exact ⟨_, G7, rfl, (by repeat (first | with_reducible exact Below.refl _ _ | with_reducible assumption | with_reducible refine bel_alloc ?_ _ | with_reducible refine bel_drew ?_ | with_reducible refine bel_drewN ?_ _ | (with_reducible refine bel_set ?_ ?_ _; rotate_left; ((try simp); (try omega))))), TCSet.mkO (by repeat (first | with_reducible exact hfin | with_reducible refine Cod.allocA ?_ _ | with_reducible refine Cod.drewA ?_ | with_reducible refine Cod.drewNA ?_ _ | ((with_reducible refine Cod.setA ?_ ?_ _); rotate_left; ((intro hm9; have hm8 := hlow _ hm9; (try simp at hm8); (try omega)))))), hf7'.mono (by omega)⟩
        | true =>
          cases ho : isCacheSet (openOut x v) with
          | false =>
            go_wp2_with fail
            refine (implIsCacheSetN_any _ x _ _ (by exact Cod.bel hr (bel_then hbq (by repeat (first | with_reducible exact Below.refl _ _ | with_reducible assumption | with_reducible refine bel_alloc ?_ _ | with_reducible refine bel_drew ?_ | with_reducible refine bel_drewN ?_ _ | (with_reducible refine bel_set ?_ ?_ _; rotate_left; ((try simp); (try omega)))))))).mono ?_
            rw [hs]
            rintro e w6 ⟨rfl, hb6⟩
            have hbq6 : Below w.heap.size w w6 := bel_then hbq hb6
            obtain ⟨hc_w6, hf_w6, hz_w6⟩ := bcell hb6
            have hq06 : w.heap.size < w6.heap.size := by omega
            have hq26 : w.heap.size + 1 < w6.heap.size := by omega
            have hrq6 := Cod.bel hrq hb6
            clear hb6 hrq
            go_wp2_with fail
            obtain ⟨Fw, hrw, -⟩ := weak_cset.2 (TCSet.mkO (x := openOut x v) hrq6)
            refine (implIsCacheSetN_any _ (openOut x v) _ _ (by exact Cod.bel hrw (by repeat (first | with_reducible exact Below.refl _ _ | with_reducible assumption | with_reducible refine bel_alloc ?_ _ | with_reducible refine bel_drew ?_ | with_reducible refine bel_drewN ?_ _ | (with_reducible refine bel_set ?_ ?_ _; rotate_left; ((try simp); (try omega))))))).mono ?_
            rw [ho]
            rintro e w8 ⟨rfl, hb8⟩
            have hbq8 : Below w.heap.size w w8 := bel_then hbq6 (bel_then (by repeat (first | with_reducible exact Below.refl _ _ | with_reducible assumption | with_reducible refine bel_alloc ?_ _ | with_reducible refine bel_drew ?_ | with_reducible refine bel_drewN ?_ _ | (with_reducible refine bel_set ?_ ?_ _; rotate_left; ((try simp); (try omega))))) hb8)
            obtain ⟨hc_w8, hf_w8, hz_w8⟩ := bcell hb8
            have hq08 : w.heap.size < w8.heap.size := by omega
            have hq28 : w.heap.size + 1 < w8.heap.size := by omega
            clear hb8
            go_wp2_with fail
            refine (implCopySet_any _ x _ _ (by exact Cod.bel hr (bel_then hbq8 (by repeat (first | with_reducible exact Below.refl _ _ | with_reducible assumption | with_reducible refine bel_alloc ?_ _ | with_reducible refine bel_drew ?_ | with_reducible refine bel_drewN ?_ _ | (with_reducible refine bel_set ?_ ?_ _; rotate_left; ((try simp); (try omega))))))) hn).mono ?_
            rintro e w7 ⟨vs7, G7, rfl, hb7, hrep7, hf7⟩
            obtain ⟨B7, d7, rfl, n7⟩ := TCSet.outO hrep7
            have hbq7 : Below w.heap.size w w7 := bel_then hbq8 hb7
            obtain ⟨hc_w7, hf_w7, hz_w7⟩ := bcell hb7
            have hq27 : w.heap.size + 1 < w7.heap.size := by omega
            have hf7' : Fresh (w.heap.size + 1 + 1) G7 := hf7.mono (by omega)
            clear hb7 hrep7 hf7
            go_wp2_with fail
            refine bodyPost_ret (v := .tuple #[.agg #[.slice B7 x.caches.length d7], .bool false]) (by simp [results, Try.results48, go_sem, *]) rfl ?_
            rw [hs, ho]
            show GivesR2 cCSetO w x (.bool false) _ _
            have hfin : cCachesO.rep w7 [.slice B7 x.caches.length d7] x.caches G7 := n7
            have hlow := hf7'.1
            exact ⟨_, G7, rfl, (by repeat (first | with_reducible exact Below.refl _ _ | with_reducible assumption | with_reducible refine bel_alloc ?_ _ | with_reducible refine bel_drew ?_ | with_reducible refine bel_drewN ?_ _ | (with_reducible refine bel_set ?_ ?_ _; rotate_left; ((try simp); (try omega))))), TCSet.mkO (by repeat (first | with_reducible exact hfin | with_reducible refine Cod.allocA ?_ _ | with_reducible refine Cod.drewA ?_ | with_reducible refine Cod.drewNA ?_ _ | ((with_reducible refine Cod.setA ?_ ?_ _); rotate_left; ((intro hm9; have hm8 := hlow _ hm9; (try simp at hm8); (try omega)))))), hf7'.mono (by omega)⟩
          | true =>
            go_wp2_with fail
            refine (implIsCacheSetN_any _ x _ _ (by exact Cod.bel hr (bel_then hbq (by repeat (first | with_reducible exact Below.refl _ _ | with_reducible assumption | with_reducible refine bel_alloc ?_ _ | with_reducible refine bel_drew ?_ | with_reducible refine bel_drewN ?_ _ | (with_reducible refine bel_set ?_ ?_ _; rotate_left; ((try simp); (try omega)))))))).mono ?_
            rw [hs]
            rintro e w6 ⟨rfl, hb6⟩
            have hbq6 : Below w.heap.size w w6 := bel_then hbq hb6
            obtain ⟨hc_w6, hf_w6, hz_w6⟩ := bcell hb6
            have hq06 : w.heap.size < w6.heap.size := by omega
            have hq26 : w.heap.size + 1 < w6.heap.size := by omega
            have hrq6 := Cod.bel hrq hb6
            clear hb6 hrq
            go_wp2_with fail
            obtain ⟨Fw, hrw, -⟩ := weak_cset.2 (TCSet.mkO (x := openOut x v) hrq6)
            refine (implIsCacheSetN_any _ (openOut x v) _ _ (by exact Cod.bel hrw (by repeat (first | with_reducible exact Below.refl _ _ | with_reducible assumption | with_reducible refine bel_alloc ?_ _ | with_reducible refine bel_drew ?_ | with_reducible refine bel_drewN ?_ _ | (with_reducible refine bel_set ?_ ?_ _; rotate_left; ((try simp); (try omega))))))).mono ?_
            rw [ho]
            rintro e w8 ⟨rfl, hb8⟩
            have hq16 : w1.heap.size < w6.heap.size := by omega
            have hb68 : Below w6.heap.size w6 w8 := bel_then (by repeat (first | with_reducible exact Below.refl _ _ | with_reducible assumption | with_reducible refine bel_alloc ?_ _ | with_reducible refine bel_drew ?_ | with_reducible refine bel_drewN ?_ _ | (with_reducible refine bel_set ?_ ?_ _; rotate_left; ((try simp); (try omega))))) hb8
            have hbq8 : Below w.heap.size w w8 := bel_then hbq6 hb68
            obtain ⟨hc_w8, hf_w8, hz_w8⟩ := bcell hb8
            have hq08 : w.heap.size < w8.heap.size := by omega
            have hq28 : w.heap.size + 1 < w8.heap.size := by omega
            have hq18 : w1.heap.size < w8.heap.size := by omega
            have hfin := Cod.bel hrq6 hb68
            have hlow := hfq.1
            clear hb8 hrq6 hb68
            have HF9 := Lib.hid (And.intro hfin hlow)
            clear hfin hlow
            go_wp2_with fail
            refine bodyPost_ret (v := .tuple #[.agg #[.slice A2 (x.caches.length + 1) c2], .bool true]) (by simp [results, Try.results48, go_sem, *]) rfl ?_
            rw [hs, ho]
            show GivesR2 cCSetO w (openOut x v) (.bool true) _ _
            obtain ⟨hfin, hlow⟩ := HF9.out
            exact ⟨_, F', rfl, (by repeat (first | with_reducible exact Below.refl _ _ | with_reducible assumption | with_reducible refine bel_alloc ?_ _ | with_reducible refine bel_drew ?_ | with_reducible refine bel_drewN ?_ _ | (with_reducible refine bel_set ?_ ?_ _; rotate_left; ((try simp); (try omega))))), TCSet.mkO (x := openOut x v) (by repeat (first | with_reducible exact hfin | with_reducible refine Cod.allocA ?_ _ | with_reducible refine Cod.drewA ?_ | with_reducible refine Cod.drewNA ?_ _ | ((with_reducible refine Cod.setA ?_ ?_ _); rotate_left; ((intro hm9; have hm8 := hlow _ hm9; (try simp at hm8); (try omega)))))), hfq.mono (by omega)⟩
      · have hk0 : (0 : Int) ≤ (k : Int) := by omega
        go_upto_region 5 with (fail)
        go_wp2_with fail
        refine (HI.out _ _ (by exact (by repeat (first | with_reducible exact Below.refl _ _ | with_reducible assumption | with_reducible refine bel_alloc ?_ _ | with_reducible refine bel_drew ?_ | with_reducible refine bel_drewN ?_ _ | (with_reducible refine bel_set ?_ ?_ _; rotate_left; ((try simp); (try omega)))))) (Nat.le_refl _) (by exact Blk.new _ _ _)).mono ?_
        rintro e w3 ⟨A2, c2, F1, F2, rfl, hF12, ho3, hg3, hat3⟩
        have hz3 := hg3.size
        (try simp at hz3)
        have hr6 := hg3.block w1.heap.size (by simp; omega) (fun e9 => by have := hlt1 _ (hOG _ e9.symm); omega)
        have hr4 := hg3.block (w.heap.size + 1) (by simp; omega) (fun e9 => by have := hg1.1 _ (hOG _ e9.symm); omega)
        have hr0 := hg3.block w.heap.size (by simp; omega) (fun e9 => by have := hg1.1 _ (hOG _ e9.symm); omega)
        have hbl := fun b (hb : b < wr.heap.size) => Below.block (bel_alloc (Below.refl wr.heap.size wr) (.cells #[.int .i64 v, .slice none 0 0] 125)) b hb
        have q6 := (World.cell?_of_block (a := ⟨w1.heap.size, 0, none⟩) (hr6.trans (hbl _ hw1r))).trans j0
        have y6 := (World.frozen?_of_block (a := ⟨w1.heap.size, 0, none⟩) (hr6.trans (hbl _ hw1r))).trans z6
        have q4 := (World.cell?_of_block (a := ⟨w.heap.size + 1, 0, none⟩) (hr4.trans (hbl _ hw0r))).trans l0
        have y4 := (World.frozen?_of_block (a := ⟨w.heap.size + 1, 0, none⟩) (hr4.trans (hbl _ hw0r))).trans z4
        have q0 := (World.cell?_of_block (a := ⟨w.heap.size, 0, none⟩) (hr0.trans (hbl _ (by omega)))).trans b0
        have hb3 : Below w.heap.size w w3 := Below.grown (show Below w.heap.size w _ from (by repeat (first | with_reducible exact Below.refl _ _ | with_reducible assumption | with_reducible refine bel_alloc ?_ _ | with_reducible refine bel_drew ?_ | with_reducible refine bel_drewN ?_ _ | (with_reducible refine bel_set ?_ ?_ _; rotate_left; ((try simp); (try omega)))))) hg3 (by simp; omega) (fun g hg => by have := hg1.1 _ (hOG _ hg); omega)
        have hown2 : ∀ g, ownB (.slice A2 (x.caches.length + 1) c2) = some g → w.heap.size + 1 + 1 ≤ g ∧ g ≠ w1.heap.size ∧ g ∉ F1 ++ ([] ++ F2) := fun g hg => by
          rcases hat3 g hg with h9 | h9
          · have h8 := hOG g h9
            refine ⟨hg1.1 g h8, by have := hlt1 g h8; omega, fun hm => HO.out.2.2 g h9 (by rw [hF12]; simpa using hm)⟩
          · simp at h9
            refine ⟨by omega, by omega, fun hm => ?_⟩
            have := hlt1 g (hFG g (by rw [hF12]; simpa using hm))
            omega
        have hfr2 : Fresh (w.heap.size + 1 + 1) (F1 ++ ([] ++ F2)) := by have h9 := HO.out.2.1; rw [hF12] at h9; simpa using h9
        obtain ⟨hrp, hfp⟩ := ho3.toO (hw2 := by decide) hfr2 (fun g hg => (hown2 g hg).2.2)
        have hnp : ∀ b, b ∈ ownL (.slice A2 (x.caches.length + 1) c2) ++ (F1 ++ ([] ++ F2)) → b ≠ w1.heap.size := fun b hb => by
          rcases List.mem_append.1 hb with hb | hb
          · exact (hown2 b (mem_ownL.1 hb)).2.1
          · have := hlt1 b (hFG b (by rw [hF12]; simpa using hb)); omega
        rw [HEND.out] at hrp
        have HRP := Lib.hid (And.intro hrp (And.intro hfp hnp))
        clear hrp hfp hnp hown2 hfr2 ho3 hg3 hat3 hr6 hr4 hr0 hbl HI HO HN2 hF12 hOG hFG hgB
        go_upto_region 6 with (fail)
        generalize hWq : World.setCell w3 _ _ = wc
        have hbq : Below w.heap.size w wc := by rw [← hWq]; exact (by repeat (first | with_reducible exact Below.refl _ _ | with_reducible assumption | with_reducible refine bel_alloc ?_ _ | with_reducible refine bel_drew ?_ | with_reducible refine bel_drewN ?_ _ | (with_reducible refine bel_set ?_ ?_ _; rotate_left; ((try simp); (try omega)))))
        have hsq : w1.heap.size < wc.heap.size := by rw [← hWq]; clear hWq; simp; omega
        have a0 : wc.cell? ⟨w.heap.size, 0, none⟩ = some (.slice A n cp) := by rw [← hWq]; exact setNeC (by omega) q0
        have u0 : wc.cell? ⟨w.heap.size + 1, 0, none⟩ = some (.slice none 0 0) := by rw [← hWq]; exact setNeC (by omega) q4
        have zq : wc.frozen? ⟨w.heap.size + 1, 0, none⟩ = false := by rw [← hWq, frozen?_set]; exact y4
        have v0 : wc.cell? ⟨w1.heap.size, 0, none⟩ = some (.slice A2 (x.caches.length + 1) c2) := by rw [← hWq]; exact cell?_set_same q6
        obtain ⟨F', hrq, hfq, hnq⟩ : ∃ F', cCachesO.rep wc [.slice A2 (x.caches.length + 1) c2] (openOut x v).caches F' ∧ Fresh (w.heap.size + 1 + 1) F' ∧ ∀ b, b ∈ F' → b ≠ w1.heap.size :=
          ⟨_, by rw [← hWq]; exact Cod.keep _ HRP.out.1 (fun b hb => Below.heap_setCell _ _ _ _ (HRP.out.2.2 b hb)), HRP.out.2.1, HRP.out.2.2⟩
        clear hWq q6 y6 q4 y4 q0 j0 z6 b0 l0 z4 HRP
        have hq0 : w.heap.size < wc.heap.size := by omega
        have hq2 : w.heap.size + 1 < wc.heap.size := by omega
        have hnq2 : ¬ w1.heap.size = w.heap.size + 1 := by omega
        have hnq3 : ¬ w.heap.size + 1 = w1.heap.size := by omega
        cases hs : isCacheSet x with
        | false =>
          go_wp2_with fail
          refine (implIsCacheSetN_any _ x _ _ (by exact Cod.bel hr (bel_then hbq (by repeat (first | with_reducible exact Below.refl _ _ | with_reducible assumption | with_reducible refine bel_alloc ?_ _ | with_reducible refine bel_drew ?_ | with_reducible refine bel_drewN ?_ _ | (with_reducible refine bel_set ?_ ?_ _; rotate_left; ((try simp); (try omega)))))))).mono ?_
          rw [hs]
          rintro e w6 ⟨rfl, hb6⟩
          have hbq6 : Below w.heap.size w w6 := bel_then hbq hb6
          obtain ⟨hc_w6, hf_w6, hz_w6⟩ := bcell hb6
          have hq06 : w.heap.size < w6.heap.size := by omega
          have hq26 : w.heap.size + 1 < w6.heap.size := by omega
          clear hb6
          go_wp2_with fail
          refine (implCopySet_any _ x _ _ (by exact Cod.bel hr (bel_then hbq6 (by repeat (first | with_reducible exact Below.refl _ _ | with_reducible assumption | with_reducible refine bel_alloc ?_ _ | with_reducible refine bel_drew ?_ | with_reducible refine bel_drewN ?_ _ | (with_reducible refine bel_set ?_ ?_ _; rotate_left; ((try simp); (try omega))))))) hn).mono ?_
          rintro e w7 ⟨vs7, G7, rfl, hb7, hrep7, hf7⟩
          obtain ⟨B7, d7, rfl, n7⟩ := TCSet.outO hrep7
          have hbq7 : Below w.heap.size w w7 := bel_then hbq6 hb7
          obtain ⟨hc_w7, hf_w7, hz_w7⟩ := bcell hb7
          have hq27 : w.heap.size + 1 < w7.heap.size := by omega
          have hf7' : Fresh (w.heap.size + 1 + 1) G7 := hf7.mono (by omega)
          clear hb7 hrep7 hf7
          go_wp2_with fail
          refine bodyPost_ret (v := .tuple #[.agg #[.slice B7 x.caches.length d7], .bool false]) (by simp [results, Try.results48, go_sem, *]) rfl ?_
          rw [hs]
          show GivesR2 cCSetO w x (.bool false) _ _
          have hfin : cCachesO.rep w7 [.slice B7 x.caches.length d7] x.caches G7 := n7
          have hlow := hf7'.1
          exact ⟨_, G7, rfl, (by repeat (first | with_reducible exact Below.refl _ _ | with_reducible assumption | with_reducible refine bel_alloc ?_ _ | with_reducible refine bel_drew ?_ | with_reducible refine bel_drewN ?_ _ | (with_reducible refine bel_set ?_ ?_ _; rotate_left; ((try simp); (try omega))))), TCSet.mkO (by repeat (first | with_reducible exact hfin | with_reducible refine Cod.allocA ?_ _ | with_reducible refine Cod.drewA ?_ | with_reducible refine Cod.drewNA ?_ _ | ((with_reducible refine Cod.setA ?_ ?_ _); rotate_left; ((intro hm9; have hm8 := hlow _ hm9; (try simp at hm8); (try omega)))))), hf7'.mono (by omega)⟩
        | true =>
          cases ho : isCacheSet (openOut x v) with
          | false =>
            go_wp2_with fail
            refine (implIsCacheSetN_any _ x _ _ (by exact Cod.bel hr (bel_then hbq (by repeat (first | with_reducible exact Below.refl _ _ | with_reducible assumption | with_reducible refine bel_alloc ?_ _ | with_reducible refine bel_drew ?_ | with_reducible refine bel_drewN ?_ _ | (with_reducible refine bel_set ?_ ?_ _; rotate_left; ((try simp); (try omega)))))))).mono ?_
            rw [hs]
            rintro e w6 ⟨rfl, hb6⟩
            have hbq6 : Below w.heap.size w w6 := bel_then hbq hb6
            obtain ⟨hc_w6, hf_w6, hz_w6⟩ := bcell hb6
            have hq06 : w.heap.size < w6.heap.size := by omega
            have hq26 : w.heap.size + 1 < w6.heap.size := by omega
            have hrq6 := Cod.bel hrq hb6
            clear hb6 hrq
            go_wp2_with fail
            obtain ⟨Fw, hrw, -⟩ := weak_cset.2 (TCSet.mkO (x := openOut x v) hrq6)
            refine (implIsCacheSetN_any _ (openOut x v) _ _ (by exact Cod.bel hrw (by repeat (first | with_reducible exact Below.refl _ _ | with_reducible assumption | with_reducible refine bel_alloc ?_ _ | with_reducible refine bel_drew ?_ | with_reducible refine bel_drewN ?_ _ | (with_reducible refine bel_set ?_ ?_ _; rotate_left; ((try simp); (try omega))))))).mono ?_
            rw [ho]
            rintro e w8 ⟨rfl, hb8⟩
            have hbq8 : Below w.heap.size w w8 := bel_then hbq6 (bel_then (by repeat (first | with_reducible exact Below.refl _ _ | with_reducible assumption | with_reducible refine bel_alloc ?_ _ | with_reducible refine bel_drew ?_ | with_reducible refine bel_drewN ?_ _ | (with_reducible refine bel_set ?_ ?_ _; rotate_left; ((try simp); (try omega))))) hb8)
            obtain ⟨hc_w8, hf_w8, hz_w8⟩ := bcell hb8
            have hq08 : w.heap.size < w8.heap.size := by omega
            have hq28 : w.heap.size + 1 < w8.heap.size := by omega
            clear hb8
            go_wp2_with fail
            refine (implCopySet_any _ x _ _ (by exact Cod.bel hr (bel_then hbq8 (by repeat (first | with_reducible exact Below.refl _ _ | with_reducible assumption | with_reducible refine bel_alloc ?_ _ | with_reducible refine bel_drew ?_ | with_reducible refine bel_drewN ?_ _ | (with_reducible refine bel_set ?_ ?_ _; rotate_left; ((try simp); (try omega))))))) hn).mono ?_
            rintro e w7 ⟨vs7, G7, rfl, hb7, hrep7, hf7⟩
            obtain ⟨B7, d7, rfl, n7⟩ := TCSet.outO hrep7
            have hbq7 : Below w.heap.size w w7 := bel_then hbq8 hb7
            obtain ⟨hc_w7, hf_w7, hz_w7⟩ := bcell hb7
            have hq27 : w.heap.size + 1 < w7.heap.size := by omega
            have hf7' : Fresh (w.heap.size + 1 + 1) G7 := hf7.mono (by omega)
            clear hb7 hrep7 hf7
            go_wp2_with fail
            refine bodyPost_ret (v := .tuple #[.agg #[.slice B7 x.caches.length d7], .bool false]) (by simp [results, Try.results48, go_sem, *]) rfl ?_
            rw [hs, ho]
            show GivesR2 cCSetO w x (.bool false) _ _
            have hfin : cCachesO.rep w7 [.slice B7 x.caches.length d7] x.caches G7 := n7
            have hlow := hf7'.1
            exact ⟨_, G7, rfl, (by repeat (first | with_reducible exact Below.refl _ _ | with_reducible assumption | with_reducible refine bel_alloc ?_ _ | with_reducible refine bel_drew ?_ | with_reducible refine bel_drewN ?_ _ | (with_reducible refine bel_set ?_ ?_ _; rotate_left; ((try simp); (try omega))))), TCSet.mkO (by repeat (first | with_reducible exact hfin | with_reducible refine Cod.allocA ?_ _ | with_reducible refine Cod.drewA ?_ | with_reducible refine Cod.drewNA ?_ _ | ((with_reducible refine Cod.setA ?_ ?_ _); rotate_left; ((intro hm9; have hm8 := hlow _ hm9; (try simp at hm8); (try omega)))))), hf7'.mono (by omega)⟩
          | true =>
            go_wp2_with fail
            refine (implIsCacheSetN_any _ x _ _ (by exact Cod.bel hr (bel_then hbq (by repeat (first | with_reducible exact Below.refl _ _ | with_reducible assumption | with_reducible refine bel_alloc ?_ _ | with_reducible refine bel_drew ?_ | with_reducible refine bel_drewN ?_ _ | (with_reducible refine bel_set ?_ ?_ _; rotate_left; ((try simp); (try omega)))))))).mono ?_
            rw [hs]
            rintro e w6 ⟨rfl, hb6⟩
            have hbq6 : Below w.heap.size w w6 := bel_then hbq hb6
            obtain ⟨hc_w6, hf_w6, hz_w6⟩ := bcell hb6
            have hq06 : w.heap.size < w6.heap.size := by omega
            have hq26 : w.heap.size + 1 < w6.heap.size := by omega
            have hrq6 := Cod.bel hrq hb6
            clear hb6 hrq
            go_wp2_with fail
            obtain ⟨Fw, hrw, -⟩ := weak_cset.2 (TCSet.mkO (x := openOut x v) hrq6)
            refine (implIsCacheSetN_any _ (openOut x v) _ _ (by exact Cod.bel hrw (by repeat (first | with_reducible exact Below.refl _ _ | with_reducible assumption | with_reducible refine bel_alloc ?_ _ | with_reducible refine bel_drew ?_ | with_reducible refine bel_drewN ?_ _ | (with_reducible refine bel_set ?_ ?_ _; rotate_left; ((try simp); (try omega))))))).mono ?_
            rw [ho]
            rintro e w8 ⟨rfl, hb8⟩
            have hq16 : w1.heap.size < w6.heap.size := by omega
            have hb68 : Below w6.heap.size w6 w8 := bel_then (by repeat (first | with_reducible exact Below.refl _ _ | with_reducible assumption | with_reducible refine bel_alloc ?_ _ | with_reducible refine bel_drew ?_ | with_reducible refine bel_drewN ?_ _ | (with_reducible refine bel_set ?_ ?_ _; rotate_left; ((try simp); (try omega))))) hb8
            have hbq8 : Below w.heap.size w w8 := bel_then hbq6 hb68
            obtain ⟨hc_w8, hf_w8, hz_w8⟩ := bcell hb8
            have hq08 : w.heap.size < w8.heap.size := by omega
            have hq28 : w.heap.size + 1 < w8.heap.size := by omega
            have hq18 : w1.heap.size < w8.heap.size := by omega
            have hfin := Cod.bel hrq6 hb68
            have hlow := hfq.1
            clear hb8 hrq6 hb68
            have HF9 := Lib.hid (And.intro hfin hlow)
            clear hfin hlow
            go_wp2_with fail
            refine bodyPost_ret (v := .tuple #[.agg #[.slice A2 (x.caches.length + 1) c2], .bool true]) (by simp [results, Try.results48, go_sem, *]) rfl ?_
            rw [hs, ho]
            show GivesR2 cCSetO w (openOut x v) (.bool true) _ _
            obtain ⟨hfin, hlow⟩ := HF9.out
            exact ⟨_, F', rfl, (by repeat (first | with_reducible exact Below.refl _ _ | with_reducible assumption | with_reducible refine bel_alloc ?_ _ | with_reducible refine bel_drew ?_ | with_reducible refine bel_drewN ?_ _ | (with_reducible refine bel_set ?_ ?_ _; rotate_left; ((try simp); (try omega))))), TCSet.mkO (x := openOut x v) (by repeat (first | with_reducible exact hfin | with_reducible refine Cod.allocA ?_ _ | with_reducible refine Cod.drewA ?_ | with_reducible refine Cod.drewNA ?_ _ | ((with_reducible refine Cod.setA ?_ ?_ _); rotate_left; ((intro hm9; have hm8 := hlow _ hm9; (try simp at hm8); (try omega)))))), hfq.mono (by omega)⟩
end Go.Proofs.Ytlicnppfgfjkgaa
