/-
  OpenCache of the reference. No conditions.
-/
import Derived.Test.YtlicnppfgfjkgaaZOpenI
namespace Go.Proofs.Ytlicnppfgfjkgaa
open Go.ChangeShapes Go.WideShapes Go.RowKit
set_option linter.unusedVariables false

theorem own_src_front {α : Type} {c : Cod α} {e : TypeId} {B : Nat} {w : World} {A : Option Addr} {n cp k : Nat} {xs : List α} {Fi : List Nat} (h : Own c e B w (.slice A n cp) xs Fi) (hk : k ≤ xs.length) :
    ∃ F1 F2, Fi = F1 ++ F2 ∧ AppSrc c w (.slice A k cp) (xs.take k) F1 ∧ (cp = k → AppSrc c w (.slice A 0 0) (xs.drop k) F2) ∧ (cp ≠ k → ∃ g, A = some ⟨g, 0, none⟩ ∧ AppSrc c w (.slice (some ⟨g, k * c.wd, none⟩) (n - k) (cp - k)) (xs.drop k) F2) := by
  by_cases hn : 0 < xs.length
  · obtain ⟨g, cur, u1, u2, F1, F2, rfl, hnx, hnc, hcm, hblk, hcz, htk, hu1, hu2, hBg, hgo, rfl, r1, r2⟩ := h.parts (i := k) hk hn
    have hc1 : ∀ j v, u1[j]? = some v → w.cell? ⟨g, j, none⟩ = some v := fun j v hj => by
      have hjl := (List.getElem?_eq_some_iff.1 hj).1
      rw [hblk.cell, ← Array.getElem?_toList]
      have h1 := congrArg (fun l => l[j]?) htk
      rw [List.getElem?_take_of_lt (by rw [hu1] at hjl; have : k * c.wd ≤ n * c.wd := Nat.mul_le_mul_right _ (by omega); omega), List.getElem?_append_left (by omega), hj] at h1
      exact h1
    have hc2 : ∀ j v, u2[j]? = some v → w.cell? ⟨g, k * c.wd + j, none⟩ = some v := fun j v hj => by
      have hjl := (List.getElem?_eq_some_iff.1 hj).1
      rw [hblk.cell, ← Array.getElem?_toList]
      have h1 := congrArg (fun l => l[k * c.wd + j]?) htk
      have hnk : n * c.wd = k * c.wd + (n - k) * c.wd := by rw [← Nat.add_mul]; congr 1; omega
      rw [List.getElem?_take_of_lt (by rw [hu2] at hjl; omega), List.getElem?_append_right (by omega), hu1, Nat.add_sub_cancel_left, hj] at h1
      exact h1
    refine ⟨F1, F2, rfl, ⟨_, cp, u1, by rw [List.length_take, Nat.min_eq_left hk], r1, fun _ => ⟨_, rfl, fun j v hj => by rw [Addr.add_lit, Nat.zero_add]; exact hc1 j v hj⟩⟩, fun he => ?_, fun hne => ⟨g, rfl, _, cp - k, u2, by rw [List.length_drop, hnx], r2, fun _ => ⟨_, rfl, fun j v hj => by rw [Addr.add_lit]; exact hc2 j v hj⟩⟩⟩
    have hd : xs.drop k = [] := List.drop_of_length_le (by omega)
    rw [hd] at r2 ⊢
    exact ⟨_, 0, [], rfl, ⟨rfl, r2.2⟩, fun h => by simp at h⟩
  · have hx : xs = [] := List.eq_nil_of_length_eq_zero (by omega)
    subst hx
    obtain rfl : k = 0 := by simpa using hk
    rcases h.form with ⟨-, rfl, A', hv⟩ | ⟨g, cap, cur, us, hv, hB, hh, hnc, hcm, hsz, ht, ho, hr⟩
    · simp only [Value.slice.injEq] at hv
      obtain ⟨rfl, rfl, rfl⟩ := hv
      exact ⟨[], [], rfl, ⟨_, 0, [], rfl, ⟨rfl, rfl⟩, fun h => by simp at h⟩, fun _ => ⟨_, 0, [], rfl, ⟨rfl, rfl⟩, fun h => by simp at h⟩, fun h => absurd rfl h⟩
    · simp only [Value.slice.injEq] at hv
      obtain ⟨rfl, rfl, rfl⟩ := hv
      obtain rfl : Fi = [] := hr.2
      exact ⟨[], [], rfl, ⟨_, cap + 1, [], rfl, ⟨rfl, rfl⟩, fun h => by simp at h⟩, fun h => by omega, fun _ => ⟨g, rfl, _, _, [], rfl, ⟨rfl, rfl⟩, fun h => by simp at h⟩⟩
set_option maxRecDepth 100000 in
set_option maxHeartbeats 8000000 in
theorem specOpenCacheO_any (vs : Array Value) (x : TCSet) (F : List Nat) (v : Int) (w : World) (h : cCSet.rep w vs.toList x F) (hn : cCSet.sz x ≤ 1048576) (hv : -9223372036854775808 ≤ v ∧ v ≤ 9223372036854775807) :
    Calls Try.prog 46 #[.agg vs, .int .i64 v] w (GivesR2 cCSetO w (openCache x v).1 (.bool (openCache x v).2)) := by
  obtain ⟨i0, hi0, hz0, hz1, hz2'⟩ := info_parts infoCache
  have hr := h
  obtain ⟨v0, F0, rfl, -, -, m0⟩ := TCSet.outA h
  obtain ⟨A, cp, rfl⟩ := cL_form m0
  clear h
  have hnl := cset_len hn
  have HE := Lib.hid (show openCache x v = bif isCacheSet x && isCacheSet (openOut x v) then (openOut x v, true) else (x, false) from rfl)
  rw [HE.out]
  clear HE
  go_enter Try.func46, Try.ntmps46
  go_wp2_with fail
  refine (specCopySet_any _ x _ _ (by exact Cod.bel hr (by repeat (first | with_reducible exact Below.refl _ _ | with_reducible assumption | with_reducible refine bel_alloc ?_ _ | with_reducible refine bel_drew ?_ | with_reducible refine bel_drewN ?_ _ | (with_reducible refine bel_set ?_ ?_ _; rotate_left; ((try simp); (try omega)))))) hn).mono ?_
  rintro e w1 ⟨vs1, G1, rfl, hb1, hrep1, hf1⟩
  obtain ⟨B1, d1, rfl, n1⟩ := TCSet.outO hrep1
  have hz_w1 := hb1.size
  (try simp at hz_w1)
  have ha0_w1 : w.heap.size < w1.heap.size := by omega
  have ha1_w1 : w.heap.size + 1 < w1.heap.size := by omega
  obtain ⟨hc_w1, hf_w1, -⟩ := bcell hb1
  have hb_w1 : Below w.heap.size w w1 := bel_then (by repeat (first | with_reducible exact Below.refl _ _ | with_reducible assumption | with_reducible refine bel_alloc ?_ _ | with_reducible refine bel_drew ?_ | with_reducible refine bel_drewN ?_ _ | (with_reducible refine bel_set ?_ ?_ _; rotate_left; ((try simp); (try omega))))) hb1
  have hg1 : Fresh (w.heap.size + 1 + 1) G1 := hf1.mono (by (try simp); (try omega))
  have hlt1 : ∀ b, b ∈ G1 → b < w1.heap.size := Cod.lt _ n1
  clear hb1 hf1 hrep1
  go_wp2_with fail
  generalize hW : World.alloc w1 _ = w2
  have hb12 : Below w1.heap.size w1 w2 := by rw [← hW]; exact bel_alloc (Below.refl _ _) _
  have hz2 : w1.heap.size + 1 ≤ w2.heap.size := by rw [← hW]; clear hW; simp
  have j0 : w2.cell? ⟨w1.heap.size, 0, none⟩ = some (.slice B1 x.caches.length d1) := by rw [← hW]; clear hW; go_simp
  have z6 : w2.frozen? ⟨w1.heap.size, 0, none⟩ = false := by rw [← hW]; clear hW; go_simp
  have b0 : w2.cell? ⟨w.heap.size, 0, none⟩ = some (.slice A x.caches.length cp) := by rw [← hW]; clear hW; go_simp
  have l0 : w2.cell? ⟨w.heap.size + 1, 0, none⟩ = some (.slice none 0 0) := by rw [← hW]; clear hW; go_simp
  have z4 : w2.frozen? ⟨w.heap.size + 1, 0, none⟩ = false := by rw [← hW]; clear hW; go_simp
  have n2 := Cod.bel n1 hb12
  have hbw2 : Below w.heap.size w w2 := bel_then hb_w1 hb12
  clear hW n1 hc_w1 hf_w1
  have HN2 := Lib.hid (And.intro n2 (Cod.bel m0 hbw2))
  clear n2
  obtain ⟨n, hxn⟩ : ∃ n, x.caches.length = n := ⟨_, rfl⟩
  have HX := Lib.hid hxn
  have hat := atVer_le v x.caches
  rw [hxn] at hr j0 b0 hnl hat HN2 ⊢
  clear hxn m0
  go_loopw [7] (fun i wr => ∃ k : Nat, k ≤ n ∧ i = .int .i64 k ∧ k ≤ atVer v x.caches ∧ wr = w2) (fun i _ => n - (intOf i).toNat)
  case atStart => exact ⟨0, Nat.zero_le _, rfl, Nat.zero_le _, rfl⟩
  case round =>
    obtain ⟨k, hk, rfl, hka, rfl⟩ := hrel
    by_cases hgo : ∃ hlt : k < x.caches.length, x.caches[k].ver < v
    · obtain ⟨hkx, hver⟩ := hgo
      have hkn : k < n := by rw [← HX.out]; exact hkx
      have hst := atVer_step hkx hka hver
      obtain ⟨g, o, rfl, q0⟩ := caches_ver HN2.out.2 hkx
      have hki : (k : Int) < (n : Int) := by omega
      have hk0 : (0 : Int) ≤ (k : Int) := by omega
      generalize x.caches[k].ver = vk at *
      go_wp2_with fail
      go_roundw
      case rel => exact ⟨k + 1, by omega, by go_num, hst, by first | rfl | trivial⟩
      case measure => simp [intOf]; omega
    · have hend : k = atVer v x.caches := by
        by_cases hkx : k < x.caches.length
        · exact atVer_stop hkx hka (fun hv9 => hgo ⟨hkx, hv9⟩)
        · have := HX.out; omega
      obtain ⟨Fi, hGF, hown, hFi, hneF, hgB⟩ := cO_own HN2.out.1 hg1
      replace hown : Own cCacheO 125 (w.heap.size + 1 + 1) wr (.slice B1 n d1) x.caches Fi := hown
      have hFG : ∀ b, b ∈ Fi → b ∈ G1 := fun b hb => by rw [hGF]; exact List.mem_append_right _ hb
      have hnd : n ≤ d1 ∧ d1 ≤ maxLen := by
        rcases hown.form with ⟨h9, -, A', hv'⟩ | ⟨g, cap, cur, us, hv', hB', hh, hnc, hcm, -⟩
        · simp only [Value.slice.injEq] at hv'; unfold maxLen; omega
        · simp only [Value.slice.injEq] at hv'; omega
      obtain ⟨hnd, hdm⟩ := hnd
      unfold maxLen at hdm
      obtain ⟨F1, F2, hF12, hsA, hsE, hsN⟩ := own_src_front hown (k := k) (by have := HX.out; omega)
      have HO := Lib.hid (And.intro hFi (And.intro hsA (And.intro hsE hsN)))
      clear hown hFi hneF hGF hgB hsA hsE hsN
      have hw1r : w1.heap.size < wr.heap.size := by omega
      have hw0r : w.heap.size + 1 < wr.heap.size := by omega
      have hcond : (¬ (k : Int) < (n : Int)) ∨ ∃ g o vk, (k : Int) < (n : Int) ∧ A = some ⟨g, o, none⟩ ∧ wr.cell? ⟨g, o + k * 2, none⟩ = some (.int .i64 vk) ∧ ¬ vk < v := by
        by_cases hkx : k < x.caches.length
        · obtain ⟨g, o, hB, q0⟩ := caches_ver HN2.out.2 hkx
          exact .inr ⟨g, o, _, by have := HX.out; omega, hB, q0, fun hv9 => hgo ⟨hkx, hv9⟩⟩
        · exact .inl (by have := HX.out; omega)
      clear hgo
      have HEND := Lib.hid hend
      clear hend
      have hkd : k ≤ d1 := by omega
      have hlk : (x.caches.take k).length = k := by rw [List.length_take, HX.out]; omega
      have hld : (x.caches.drop k).length = n - k := by rw [List.length_drop, HX.out]
      have HL := Lib.hid (And.intro hlk hld)
      clear hlk hld
      have hF1G : ∀ b, b ∈ F1 → b < w1.heap.size := fun b hb => hlt1 b (hFG b (by rw [hF12]; simp [hb]))
      have hF2G : ∀ b, b ∈ F2 → b < w1.heap.size := fun b hb => hlt1 b (hFG b (by rw [hF12]; simp [hb]))
      rcases hcond with hc | ⟨g9, o9, vk, hc1, rfl, hc2, hc3⟩
      · by_cases hdk : d1 = k
        · have hsA := HO.out.2.1
          have hsB := HO.out.2.2.1 hdk
          have hnk : n = k := by omega
          rw [hdk] at hsA j0
          rw [hnk] at hr j0 b0 HL HX ⊢
          have HS := Lib.hid (And.intro hsA hsB)
          clear hsA hsB
          have hdn9 : k ≤ 1048576 := by omega
          go_upto_region 5 with (fail)
          go_wp2_with (at_builtin; refine wpList_app (c := cCacheO) (B := w.heap.size + 1 + 1) (xs := []) (ys := x.caches.take k) (Fi := []) (Fy := F1) _ rfl _ _ _ rfl i0 _ _ Try.underlying70 hi0 hz0 hz1 hz2' rfl (by decide) (v := .slice (some _) 0 0) rfl (Own.empty _) _ rfl (HS.out.1.bel (by repeat (first | with_reducible exact Below.refl _ _ | with_reducible assumption | with_reducible refine bel_alloc ?_ _ | with_reducible refine bel_drew ?_ | with_reducible refine bel_drewN ?_ _ | (with_reducible refine bel_set ?_ ?_ _; rotate_left; ((try simp); (try omega)))))) (by rw [HL.out.1]; unfold maxLen; simp; omega) (by rw [HL.out.1]; simp; omega) (by (try simp); omega) (by simp [ownB]) ?_)
          intro v4 w4 ho4 hg4 hat4
          replace ho4 : Own cCacheO 125 (w.heap.size + 1 + 1) w4 v4 (x.caches.take k) F1 := by simpa using ho4
          obtain ⟨A4, c4, e4⟩ := ho4.slice
          rw [HL.out.1] at e4
          subst e4
          have hz4 := hg4.size
          (try simp at hz4)
          have hB4 : Below wr.heap.size wr w4 := Below.grown (show Below wr.heap.size wr _ from (by repeat (first | with_reducible exact Below.refl _ _ | with_reducible assumption | with_reducible refine bel_alloc ?_ _ | with_reducible refine bel_drew ?_ | with_reducible refine bel_drewN ?_ _ | (with_reducible refine bel_set ?_ ?_ _; rotate_left; ((try simp); (try omega)))))) hg4 (by (try simp); (try omega)) (fun b hb => by simp [ownB] at hb)
          have hat4' : ∀ g, ownB (.slice A4 k c4) = some g → wr.heap.size ≤ g := fun g hg => by
            rcases hat4 g hg with h9 | h9
            · simp [ownB] at h9
            · (try simp at h9); omega
          have H4 := Lib.hid (And.intro ho4 hat4')
          clear ho4 hg4 hat4 hat4'
          go_wp2_with (at_builtin; refine wpList_app (c := cCacheO) (B := w.heap.size + 1 + 1) (xs := x.caches.take k) (ys := [⟨v, []⟩]) (Fi := F1) (Fy := []) _ rfl _ _ _ rfl i0 _ _ Try.underlying70 hi0 hz0 hz1 hz2' rfl (by decide) rfl (H4.out.1.bel (by repeat (first | with_reducible exact Below.refl _ _ | with_reducible assumption | with_reducible refine bel_alloc ?_ _ | with_reducible refine bel_drew ?_ | with_reducible refine bel_drewN ?_ _ | (with_reducible refine bel_set ?_ ?_ _; rotate_left; ((try simp); (try omega)))))) (.slice (some ⟨w4.heap.size, 0, none⟩) 1 1) rfl (AppSrc.bel (src_new (w := w4) (vs := #[.int .i64 v, .slice none 0 0]) 125 _ rfl (TCache.mkO (x := ⟨v, []⟩) ⟨hv⟩ ⟨_, [], rfl, Own.empty none, by simp [ownL, ownB]⟩)) (by repeat (first | with_reducible exact Below.refl _ _ | with_reducible assumption | with_reducible refine bel_alloc ?_ _ | with_reducible refine bel_drew ?_ | with_reducible refine bel_drewN ?_ _ | (with_reducible refine bel_set ?_ ?_ _; rotate_left; ((try simp); (try omega)))))) (by rw [HL.out.1]; unfold maxLen; simp; omega) (by rw [HL.out.1]; simp; omega) (by have := hB4.size; (try simp); omega) (fun g hg => by have h9 := H4.out.2 g hg; exact ⟨fun hm => by have := hF1G g (hm); omega, by simp⟩) ?_)
          intro v5 w5 ho5 hg5 hat5
          replace ho5 : Own cCacheO 125 (w.heap.size + 1 + 1) w5 v5 (x.caches.take k ++ [⟨v, []⟩]) F1 := by simpa using ho5
          obtain ⟨A5, c5, e5⟩ := ho5.slice
          rw [List.length_append, HL.out.1, List.length_singleton] at e5
          subst e5
          have hz5 := hg5.size
          (try simp at hz5)
          have hB5 : Below wr.heap.size wr w5 := Below.grown (show Below wr.heap.size wr _ from (by have := hB4.size; exact bel_alloc hB4 _)) hg5 (by have := hB4.size; (try simp); omega) (fun b hb => H4.out.2 b hb)
          have hat5' : ∀ g, ownB (.slice A5 (k + 1) c5) = some g → wr.heap.size ≤ g := fun g hg => by
            rcases hat5 g hg with h9 | h9
            · exact H4.out.2 g h9
            · have := hB4.size; (try simp at h9); omega
          have q6 := (hB5.cell (p := ⟨w1.heap.size, 0, none⟩) hw1r).trans j0
          have y6 := (hB5.frozen (p := ⟨w1.heap.size, 0, none⟩) hw1r).trans z6
          have H5 := Lib.hid (And.intro ho5 hat5')
          clear ho5 hg5 hat5 hat5'
          have hx9 := fun ops rest (o : Oper) a Q hgd s9 x9 ho hs9 hx9 h9 => wpList_app w5 (P := Try.prog) (ops := ops) (rest := rest) (o := o) (a := a) (Q := Q) (c := cCacheO) (B := w.heap.size + 1 + 1) (xs := x.caches.take k ++ [⟨v, []⟩]) (ys := x.caches.drop k) (Fi := F1) (Fy := F2) hgd s9 x9 70 ho i0 _ _ Try.underlying70 hi0 hz0 hz1 hz2' rfl (by decide) hs9 H5.out.1 _ hx9 (HS.out.2.bel hB5) (by rw [List.length_append, HL.out.1, HL.out.2]; unfold maxLen; simp; omega) (by rw [List.length_append, HL.out.1, HL.out.2]; simp; omega) (by have := hB5.size; (try simp); omega) (fun g hg => by have h9 := H5.out.2 g hg; exact ⟨fun hm => by have := hF1G g (hm); omega, fun hm => by have := hF2G g hm; omega⟩) h9
          have HX9 := Lib.hid hx9
          clear hx9
          go_wp2_with (at_builtin; refine HX9.out _ _ _ _ _ rfl _ _ rfl rfl rfl ?_)
          clear HX9
          intro v3 w3 ho3 hg3 hat3
          replace ho3 : Own cCacheO 125 (w.heap.size + 1 + 1) w3 v3 (x.caches.take k ++ ⟨v, []⟩ :: x.caches.drop k) (F1 ++ F2) := by simpa using ho3
          obtain ⟨A2, c2, e3⟩ := ho3.slice
          have hlen : (x.caches.take k ++ ⟨v, []⟩ :: x.caches.drop k).length = x.caches.length + 1 := by rw [List.length_append, List.length_cons, HL.out.1, HL.out.2]; have := HX.out; omega
          rw [hlen] at e3
          subst e3
          have hz3 := hg3.size
          have hB3 : Below wr.heap.size wr w3 := Below.grown hB5 hg3 (by have := hB5.size; (try simp); omega) (fun b hb => H5.out.2 b hb)
          have hown2 : ∀ g, ownB (.slice A2 (x.caches.length + 1) c2) = some g → wr.heap.size ≤ g := fun g hg => by
            rcases hat3 g hg with h9 | h9
            · exact H5.out.2 g h9
            · have := hB5.size; omega
          replace q6 := (hB3.cell (p := ⟨w1.heap.size, 0, none⟩) hw1r).trans j0
          replace y6 := (hB3.frozen (p := ⟨w1.heap.size, 0, none⟩) hw1r).trans z6
          have q4 := (hB3.cell (p := ⟨w.heap.size + 1, 0, none⟩) hw0r).trans l0
          have y4 := (hB3.frozen (p := ⟨w.heap.size + 1, 0, none⟩) hw0r).trans z4
          have q0 := (hB3.cell (p := ⟨w.heap.size, 0, none⟩) (by simp; omega)).trans b0
          have hb3 : Below w.heap.size w w3 := bel_then hbw2 hB3
          have hfr2 : Fresh (w.heap.size + 1 + 1) (F1 ++ F2) := by have h9 := HO.out.1; rw [hF12] at h9; simpa using h9
          have hn2 : ∀ b, b ∈ F1 ++ F2 → b < w1.heap.size := fun b hb => by
            rcases List.mem_append.1 hb with hb | hb
            · exact hF1G b (hb)
            · exact hF2G b hb
          obtain ⟨hrp, hfp⟩ := ho3.toO (hw2 := by decide) hfr2 (fun g hg hm => by have := hown2 g hg; have := hn2 g hm; omega)
          have hnp : ∀ b, b ∈ ownL (.slice A2 (x.caches.length + 1) c2) ++ (F1 ++ F2) → b ≠ w1.heap.size := fun b hb => by
            rcases List.mem_append.1 hb with hb | hb
            · have := hown2 b (mem_ownL.1 hb); omega
            · have := hn2 b hb; omega
          have hxe : x.caches.take k ++ ⟨v, []⟩ :: x.caches.drop k = (openOut x v).caches := by rw [HEND.out]; simp [openOut]
          rw [hxe] at hrp
          have HRP := Lib.hid (And.intro hrp (And.intro hfp hnp))
          clear hrp hfp hnp hown2 hfr2 ho3 hg3 hat3 H4 H5 HO HS HN2 hF12 hF1G hF2G hn2 hxe
          go_upto_region 8 with (fail)
          generalize hWq : World.setCell w3 _ _ = wc
          have hbq : Below w.heap.size w wc := by rw [← hWq]; exact (by repeat (first | with_reducible exact Below.refl _ _ | with_reducible assumption | with_reducible refine bel_alloc ?_ _ | with_reducible refine bel_drew ?_ | with_reducible refine bel_drewN ?_ _ | (with_reducible refine bel_set ?_ ?_ _; rotate_left; ((try simp); (try omega)))))
          have hsq : w1.heap.size < wc.heap.size := by have := hB3.size; rw [← hWq]; clear hWq; simp; omega
          have a0 := setNeC (i := 0) (v := .slice A2 (x.caches.length + 1) c2) (show w1.heap.size ≠ w.heap.size by omega) q0
          rw [hWq] at a0
          have u0 : wc.cell? ⟨w.heap.size + 1, 0, none⟩ = some (.slice none 0 0) := by rw [← hWq]; exact setNeC (by omega) q4
          have zq : wc.frozen? ⟨w.heap.size + 1, 0, none⟩ = false := by rw [← hWq, frozen?_set]; exact y4
          have v0 : wc.cell? ⟨w1.heap.size, 0, none⟩ = some (.slice A2 (x.caches.length + 1) c2) := by rw [← hWq]; exact cell?_set_same q6
          obtain ⟨F', hrq, hfq, hnq⟩ : ∃ F', cCachesO.rep wc [.slice A2 (x.caches.length + 1) c2] (openOut x v).caches F' ∧ Fresh (w.heap.size + 1 + 1) F' ∧ ∀ b, b ∈ F' → b ≠ w1.heap.size :=
            ⟨_, by rw [← hWq]; exact Cod.keep _ HRP.out.1 (fun b hb => Below.heap_setCell _ _ _ _ (HRP.out.2.2 b hb)), HRP.out.2.1, HRP.out.2.2⟩
          clear hWq q6 y6 q4 y4 q0 j0 z6 b0 l0 z4 HRP
          have hq0 : w.heap.size < wc.heap.size := by omega
          have hq2 : w.heap.size + 1 < wc.heap.size := by omega
          have hnq2 : ¬ w1.heap.size = w.heap.size + 1 := by omega
          have hnq3 : ¬ w.heap.size + 1 = w1.heap.size := by omega
          cases hs : isCacheSet x with
          | false =>
            go_wp2_with fail
            refine (specIsCacheSetN_any _ x _ _ (by exact Cod.bel hr (bel_then hbq (by repeat (first | with_reducible exact Below.refl _ _ | with_reducible assumption | with_reducible refine bel_alloc ?_ _ | with_reducible refine bel_drew ?_ | with_reducible refine bel_drewN ?_ _ | (with_reducible refine bel_set ?_ ?_ _; rotate_left; ((try simp); (try omega)))))))).mono ?_
            rw [hs]
            rintro e w6 ⟨rfl, hb6⟩
            have hbq6 : Below w.heap.size w w6 := bel_then hbq hb6
            obtain ⟨hc_w6, hf_w6, hz_w6⟩ := bcell hb6
            have hq06 : w.heap.size < w6.heap.size := by omega
            have hq26 : w.heap.size + 1 < w6.heap.size := by omega
            clear hb6
            go_wp2_with fail
            refine (specCopySet_any _ x _ _ (by exact Cod.bel hr (bel_then hbq6 (by repeat (first | with_reducible exact Below.refl _ _ | with_reducible assumption | with_reducible refine bel_alloc ?_ _ | with_reducible refine bel_drew ?_ | with_reducible refine bel_drewN ?_ _ | (with_reducible refine bel_set ?_ ?_ _; rotate_left; ((try simp); (try omega))))))) hn).mono ?_
            rintro e w7 ⟨vs7, G7, rfl, hb7, hrep7, hf7⟩
            obtain ⟨B7, d7, rfl, n7⟩ := TCSet.outO hrep7
            have hbq7 : Below w.heap.size w w7 := bel_then hbq6 hb7
            obtain ⟨hc_w7, hf_w7, hz_w7⟩ := bcell hb7
            have hq27 : w.heap.size + 1 < w7.heap.size := by omega
            have hf7' : Fresh (w.heap.size + 1 + 1) G7 := hf7.mono (by omega)
            clear hb7 hrep7 hf7
            go_wp2_with fail
            refine bodyPost_ret (v := .tuple #[.agg #[.slice B7 x.caches.length d7], .bool false]) (by simp [results, Try.results46, go_sem, *]) rfl ?_
            rw [hs]
            show GivesR2 cCSetO w x (.bool false) _ _
            have hfin : cCachesO.rep w7 [.slice B7 x.caches.length d7] x.caches G7 := n7
            have hlow := hf7'.1
            exact ⟨_, G7, rfl, (by repeat (first | with_reducible exact Below.refl _ _ | with_reducible assumption | with_reducible refine bel_alloc ?_ _ | with_reducible refine bel_drew ?_ | with_reducible refine bel_drewN ?_ _ | (with_reducible refine bel_set ?_ ?_ _; rotate_left; ((try simp); (try omega))))), TCSet.mkO (by repeat (first | with_reducible exact hfin | with_reducible refine Cod.allocA ?_ _ | with_reducible refine Cod.drewA ?_ | with_reducible refine Cod.drewNA ?_ _ | ((with_reducible refine Cod.setA ?_ ?_ _); rotate_left; ((intro hm9; have hm8 := hlow _ hm9; (try simp at hm8); (try omega)))))), hf7'.mono (by omega)⟩
          | true =>
            cases ho : isCacheSet (openOut x v) with
            | false =>
              go_wp2_with fail
              refine (specIsCacheSetN_any _ x _ _ (by exact Cod.bel hr (bel_then hbq (by repeat (first | with_reducible exact Below.refl _ _ | with_reducible assumption | with_reducible refine bel_alloc ?_ _ | with_reducible refine bel_drew ?_ | with_reducible refine bel_drewN ?_ _ | (with_reducible refine bel_set ?_ ?_ _; rotate_left; ((try simp); (try omega)))))))).mono ?_
              rw [hs]
              rintro e w6 ⟨rfl, hb6⟩
              have hbq6 : Below w.heap.size w w6 := bel_then hbq hb6
              obtain ⟨hc_w6, hf_w6, hz_w6⟩ := bcell hb6
              have hq06 : w.heap.size < w6.heap.size := by omega
              have hq26 : w.heap.size + 1 < w6.heap.size := by omega
              have hrq6 := Cod.bel hrq hb6
              clear hb6 hrq
              go_wp2_with fail
              obtain ⟨Fw, hrw, -⟩ := weak_cset.2 (TCSet.mkO (x := openOut x v) hrq6)
              refine (specIsCacheSetN_any _ (openOut x v) _ _ (by exact Cod.bel hrw (by repeat (first | with_reducible exact Below.refl _ _ | with_reducible assumption | with_reducible refine bel_alloc ?_ _ | with_reducible refine bel_drew ?_ | with_reducible refine bel_drewN ?_ _ | (with_reducible refine bel_set ?_ ?_ _; rotate_left; ((try simp); (try omega))))))).mono ?_
              rw [ho]
              rintro e w8 ⟨rfl, hb8⟩
              have hbq8 : Below w.heap.size w w8 := bel_then hbq6 (bel_then (by repeat (first | with_reducible exact Below.refl _ _ | with_reducible assumption | with_reducible refine bel_alloc ?_ _ | with_reducible refine bel_drew ?_ | with_reducible refine bel_drewN ?_ _ | (with_reducible refine bel_set ?_ ?_ _; rotate_left; ((try simp); (try omega))))) hb8)
              obtain ⟨hc_w8, hf_w8, hz_w8⟩ := bcell hb8
              have hq08 : w.heap.size < w8.heap.size := by omega
              have hq28 : w.heap.size + 1 < w8.heap.size := by omega
              clear hb8
              go_wp2_with fail
              refine (specCopySet_any _ x _ _ (by exact Cod.bel hr (bel_then hbq8 (by repeat (first | with_reducible exact Below.refl _ _ | with_reducible assumption | with_reducible refine bel_alloc ?_ _ | with_reducible refine bel_drew ?_ | with_reducible refine bel_drewN ?_ _ | (with_reducible refine bel_set ?_ ?_ _; rotate_left; ((try simp); (try omega))))))) hn).mono ?_
              rintro e w7 ⟨vs7, G7, rfl, hb7, hrep7, hf7⟩
              obtain ⟨B7, d7, rfl, n7⟩ := TCSet.outO hrep7
              have hbq7 : Below w.heap.size w w7 := bel_then hbq8 hb7
              obtain ⟨hc_w7, hf_w7, hz_w7⟩ := bcell hb7
              have hq27 : w.heap.size + 1 < w7.heap.size := by omega
              have hf7' : Fresh (w.heap.size + 1 + 1) G7 := hf7.mono (by omega)
              clear hb7 hrep7 hf7
              go_wp2_with fail
              refine bodyPost_ret (v := .tuple #[.agg #[.slice B7 x.caches.length d7], .bool false]) (by simp [results, Try.results46, go_sem, *]) rfl ?_
              rw [hs, ho]
              show GivesR2 cCSetO w x (.bool false) _ _
              have hfin : cCachesO.rep w7 [.slice B7 x.caches.length d7] x.caches G7 := n7
              have hlow := hf7'.1
              exact ⟨_, G7, rfl, (by repeat (first | with_reducible exact Below.refl _ _ | with_reducible assumption | with_reducible refine bel_alloc ?_ _ | with_reducible refine bel_drew ?_ | with_reducible refine bel_drewN ?_ _ | (with_reducible refine bel_set ?_ ?_ _; rotate_left; ((try simp); (try omega))))), TCSet.mkO (by repeat (first | with_reducible exact hfin | with_reducible refine Cod.allocA ?_ _ | with_reducible refine Cod.drewA ?_ | with_reducible refine Cod.drewNA ?_ _ | ((with_reducible refine Cod.setA ?_ ?_ _); rotate_left; ((intro hm9; have hm8 := hlow _ hm9; (try simp at hm8); (try omega)))))), hf7'.mono (by omega)⟩
            | true =>
              go_wp2_with fail
              refine (specIsCacheSetN_any _ x _ _ (by exact Cod.bel hr (bel_then hbq (by repeat (first | with_reducible exact Below.refl _ _ | with_reducible assumption | with_reducible refine bel_alloc ?_ _ | with_reducible refine bel_drew ?_ | with_reducible refine bel_drewN ?_ _ | (with_reducible refine bel_set ?_ ?_ _; rotate_left; ((try simp); (try omega)))))))).mono ?_
              rw [hs]
              rintro e w6 ⟨rfl, hb6⟩
              have hbq6 : Below w.heap.size w w6 := bel_then hbq hb6
              obtain ⟨hc_w6, hf_w6, hz_w6⟩ := bcell hb6
              have hq06 : w.heap.size < w6.heap.size := by omega
              have hq26 : w.heap.size + 1 < w6.heap.size := by omega
              have hrq6 := Cod.bel hrq hb6
              clear hb6 hrq
              go_wp2_with fail
              obtain ⟨Fw, hrw, -⟩ := weak_cset.2 (TCSet.mkO (x := openOut x v) hrq6)
              refine (specIsCacheSetN_any _ (openOut x v) _ _ (by exact Cod.bel hrw (by repeat (first | with_reducible exact Below.refl _ _ | with_reducible assumption | with_reducible refine bel_alloc ?_ _ | with_reducible refine bel_drew ?_ | with_reducible refine bel_drewN ?_ _ | (with_reducible refine bel_set ?_ ?_ _; rotate_left; ((try simp); (try omega))))))).mono ?_
              rw [ho]
              rintro e w8 ⟨rfl, hb8⟩
              have hq16 : w1.heap.size < w6.heap.size := by omega
              have hb68 : Below w6.heap.size w6 w8 := bel_then (by repeat (first | with_reducible exact Below.refl _ _ | with_reducible assumption | with_reducible refine bel_alloc ?_ _ | with_reducible refine bel_drew ?_ | with_reducible refine bel_drewN ?_ _ | (with_reducible refine bel_set ?_ ?_ _; rotate_left; ((try simp); (try omega))))) hb8
              have hbq8 : Below w.heap.size w w8 := bel_then hbq6 hb68
              obtain ⟨hc_w8, hf_w8, hz_w8⟩ := bcell hb8
              have hq08 : w.heap.size < w8.heap.size := by omega
              have hq28 : w.heap.size + 1 < w8.heap.size := by omega
              have hq18 : w1.heap.size < w8.heap.size := by omega
              have hfin := Cod.bel hrq6 hb68
              have hlow := hfq.1
              clear hb8 hrq6 hb68
              have HF9 := Lib.hid (And.intro hfin hlow)
              clear hfin hlow
              go_wp2_with fail
              refine bodyPost_ret (v := .tuple #[.agg #[.slice A2 (x.caches.length + 1) c2], .bool true]) (by simp [results, Try.results46, go_sem, *]) rfl ?_
              rw [hs, ho]
              show GivesR2 cCSetO w (openOut x v) (.bool true) _ _
              obtain ⟨hfin, hlow⟩ := HF9.out
              exact ⟨_, F', rfl, (by repeat (first | with_reducible exact Below.refl _ _ | with_reducible assumption | with_reducible refine bel_alloc ?_ _ | with_reducible refine bel_drew ?_ | with_reducible refine bel_drewN ?_ _ | (with_reducible refine bel_set ?_ ?_ _; rotate_left; ((try simp); (try omega))))), TCSet.mkO (x := openOut x v) (by repeat (first | with_reducible exact hfin | with_reducible refine Cod.allocA ?_ _ | with_reducible refine Cod.drewA ?_ | with_reducible refine Cod.drewNA ?_ _ | ((with_reducible refine Cod.setA ?_ ?_ _); rotate_left; ((intro hm9; have hm8 := hlow _ hm9; (try simp at hm8); (try omega)))))), hfq.mono (by omega)⟩
        · obtain ⟨gb, rfl, hsB⟩ := HO.out.2.2.2 hdk
          have HS := Lib.hid (And.intro HO.out.2.1 hsB)
          clear hsB
          go_upto_region 5 with (fail)
          go_wp2_with (at_builtin; refine wpList_app (c := cCacheO) (B := w.heap.size + 1 + 1) (xs := []) (ys := x.caches.take k) (Fi := []) (Fy := F1) _ rfl _ _ _ rfl i0 _ _ Try.underlying70 hi0 hz0 hz1 hz2' rfl (by decide) (v := .slice (some _) 0 0) rfl (Own.empty _) _ rfl (HS.out.1.bel (by repeat (first | with_reducible exact Below.refl _ _ | with_reducible assumption | with_reducible refine bel_alloc ?_ _ | with_reducible refine bel_drew ?_ | with_reducible refine bel_drewN ?_ _ | (with_reducible refine bel_set ?_ ?_ _; rotate_left; ((try simp); (try omega)))))) (by rw [HL.out.1]; unfold maxLen; simp; omega) (by rw [HL.out.1]; simp; omega) (by (try simp); omega) (by simp [ownB]) ?_)
          intro v4 w4 ho4 hg4 hat4
          replace ho4 : Own cCacheO 125 (w.heap.size + 1 + 1) w4 v4 (x.caches.take k) F1 := by simpa using ho4
          obtain ⟨A4, c4, e4⟩ := ho4.slice
          rw [HL.out.1] at e4
          subst e4
          have hz4 := hg4.size
          (try simp at hz4)
          have hB4 : Below wr.heap.size wr w4 := Below.grown (show Below wr.heap.size wr _ from (by repeat (first | with_reducible exact Below.refl _ _ | with_reducible assumption | with_reducible refine bel_alloc ?_ _ | with_reducible refine bel_drew ?_ | with_reducible refine bel_drewN ?_ _ | (with_reducible refine bel_set ?_ ?_ _; rotate_left; ((try simp); (try omega)))))) hg4 (by (try simp); (try omega)) (fun b hb => by simp [ownB] at hb)
          have hat4' : ∀ g, ownB (.slice A4 k c4) = some g → wr.heap.size ≤ g := fun g hg => by
            rcases hat4 g hg with h9 | h9
            · simp [ownB] at h9
            · (try simp at h9); omega
          have H4 := Lib.hid (And.intro ho4 hat4')
          clear ho4 hg4 hat4 hat4'
          go_wp2_with (at_builtin; refine wpList_app (c := cCacheO) (B := w.heap.size + 1 + 1) (xs := x.caches.take k) (ys := [⟨v, []⟩]) (Fi := F1) (Fy := []) _ rfl _ _ _ rfl i0 _ _ Try.underlying70 hi0 hz0 hz1 hz2' rfl (by decide) rfl (H4.out.1.bel (by repeat (first | with_reducible exact Below.refl _ _ | with_reducible assumption | with_reducible refine bel_alloc ?_ _ | with_reducible refine bel_drew ?_ | with_reducible refine bel_drewN ?_ _ | (with_reducible refine bel_set ?_ ?_ _; rotate_left; ((try simp); (try omega)))))) (.slice (some ⟨w4.heap.size, 0, none⟩) 1 1) rfl (AppSrc.bel (src_new (w := w4) (vs := #[.int .i64 v, .slice none 0 0]) 125 _ rfl (TCache.mkO (x := ⟨v, []⟩) ⟨hv⟩ ⟨_, [], rfl, Own.empty none, by simp [ownL, ownB]⟩)) (by repeat (first | with_reducible exact Below.refl _ _ | with_reducible assumption | with_reducible refine bel_alloc ?_ _ | with_reducible refine bel_drew ?_ | with_reducible refine bel_drewN ?_ _ | (with_reducible refine bel_set ?_ ?_ _; rotate_left; ((try simp); (try omega)))))) (by rw [HL.out.1]; unfold maxLen; simp; omega) (by rw [HL.out.1]; simp; omega) (by have := hB4.size; (try simp); omega) (fun g hg => by have h9 := H4.out.2 g hg; exact ⟨fun hm => by have := hF1G g (hm); omega, by simp⟩) ?_)
          intro v5 w5 ho5 hg5 hat5
          replace ho5 : Own cCacheO 125 (w.heap.size + 1 + 1) w5 v5 (x.caches.take k ++ [⟨v, []⟩]) F1 := by simpa using ho5
          obtain ⟨A5, c5, e5⟩ := ho5.slice
          rw [List.length_append, HL.out.1, List.length_singleton] at e5
          subst e5
          have hz5 := hg5.size
          (try simp at hz5)
          have hB5 : Below wr.heap.size wr w5 := Below.grown (show Below wr.heap.size wr _ from (by have := hB4.size; exact bel_alloc hB4 _)) hg5 (by have := hB4.size; (try simp); omega) (fun b hb => H4.out.2 b hb)
          have hat5' : ∀ g, ownB (.slice A5 (k + 1) c5) = some g → wr.heap.size ≤ g := fun g hg => by
            rcases hat5 g hg with h9 | h9
            · exact H4.out.2 g h9
            · have := hB4.size; (try simp at h9); omega
          have q6 := (hB5.cell (p := ⟨w1.heap.size, 0, none⟩) hw1r).trans j0
          have y6 := (hB5.frozen (p := ⟨w1.heap.size, 0, none⟩) hw1r).trans z6
          have H5 := Lib.hid (And.intro ho5 hat5')
          clear ho5 hg5 hat5 hat5'
          have hx9 := fun ops rest (o : Oper) a Q hgd s9 x9 ho hs9 hx9 h9 => wpList_app w5 (P := Try.prog) (ops := ops) (rest := rest) (o := o) (a := a) (Q := Q) (c := cCacheO) (B := w.heap.size + 1 + 1) (xs := x.caches.take k ++ [⟨v, []⟩]) (ys := x.caches.drop k) (Fi := F1) (Fy := F2) hgd s9 x9 70 ho i0 _ _ Try.underlying70 hi0 hz0 hz1 hz2' rfl (by decide) hs9 H5.out.1 _ hx9 (HS.out.2.bel hB5) (by rw [List.length_append, HL.out.1, HL.out.2]; unfold maxLen; simp; omega) (by rw [List.length_append, HL.out.1, HL.out.2]; simp; omega) (by have := hB5.size; (try simp); omega) (fun g hg => by have h9 := H5.out.2 g hg; exact ⟨fun hm => by have := hF1G g (hm); omega, fun hm => by have := hF2G g hm; omega⟩) h9
          have HX9 := Lib.hid hx9
          clear hx9
          go_wp2_with (at_builtin; refine HX9.out _ _ _ _ _ rfl _ _ rfl rfl rfl ?_)
          clear HX9
          intro v3 w3 ho3 hg3 hat3
          replace ho3 : Own cCacheO 125 (w.heap.size + 1 + 1) w3 v3 (x.caches.take k ++ ⟨v, []⟩ :: x.caches.drop k) (F1 ++ F2) := by simpa using ho3
          obtain ⟨A2, c2, e3⟩ := ho3.slice
          have hlen : (x.caches.take k ++ ⟨v, []⟩ :: x.caches.drop k).length = x.caches.length + 1 := by rw [List.length_append, List.length_cons, HL.out.1, HL.out.2]; have := HX.out; omega
          rw [hlen] at e3
          subst e3
          have hz3 := hg3.size
          have hB3 : Below wr.heap.size wr w3 := Below.grown hB5 hg3 (by have := hB5.size; (try simp); omega) (fun b hb => H5.out.2 b hb)
          have hown2 : ∀ g, ownB (.slice A2 (x.caches.length + 1) c2) = some g → wr.heap.size ≤ g := fun g hg => by
            rcases hat3 g hg with h9 | h9
            · exact H5.out.2 g h9
            · have := hB5.size; omega
          replace q6 := (hB3.cell (p := ⟨w1.heap.size, 0, none⟩) hw1r).trans j0
          replace y6 := (hB3.frozen (p := ⟨w1.heap.size, 0, none⟩) hw1r).trans z6
          have q4 := (hB3.cell (p := ⟨w.heap.size + 1, 0, none⟩) hw0r).trans l0
          have y4 := (hB3.frozen (p := ⟨w.heap.size + 1, 0, none⟩) hw0r).trans z4
          have q0 := (hB3.cell (p := ⟨w.heap.size, 0, none⟩) (by simp; omega)).trans b0
          have hb3 : Below w.heap.size w w3 := bel_then hbw2 hB3
          have hfr2 : Fresh (w.heap.size + 1 + 1) (F1 ++ F2) := by have h9 := HO.out.1; rw [hF12] at h9; simpa using h9
          have hn2 : ∀ b, b ∈ F1 ++ F2 → b < w1.heap.size := fun b hb => by
            rcases List.mem_append.1 hb with hb | hb
            · exact hF1G b (hb)
            · exact hF2G b hb
          obtain ⟨hrp, hfp⟩ := ho3.toO (hw2 := by decide) hfr2 (fun g hg hm => by have := hown2 g hg; have := hn2 g hm; omega)
          have hnp : ∀ b, b ∈ ownL (.slice A2 (x.caches.length + 1) c2) ++ (F1 ++ F2) → b ≠ w1.heap.size := fun b hb => by
            rcases List.mem_append.1 hb with hb | hb
            · have := hown2 b (mem_ownL.1 hb); omega
            · have := hn2 b hb; omega
          have hxe : x.caches.take k ++ ⟨v, []⟩ :: x.caches.drop k = (openOut x v).caches := by rw [HEND.out]; simp [openOut]
          rw [hxe] at hrp
          have HRP := Lib.hid (And.intro hrp (And.intro hfp hnp))
          clear hrp hfp hnp hown2 hfr2 ho3 hg3 hat3 H4 H5 HO HS HN2 hF12 hF1G hF2G hn2 hxe
          go_upto_region 8 with (fail)
          generalize hWq : World.setCell w3 _ _ = wc
          have hbq : Below w.heap.size w wc := by rw [← hWq]; exact (by repeat (first | with_reducible exact Below.refl _ _ | with_reducible assumption | with_reducible refine bel_alloc ?_ _ | with_reducible refine bel_drew ?_ | with_reducible refine bel_drewN ?_ _ | (with_reducible refine bel_set ?_ ?_ _; rotate_left; ((try simp); (try omega)))))
          have hsq : w1.heap.size < wc.heap.size := by have := hB3.size; rw [← hWq]; clear hWq; simp; omega
          have a0 := setNeC (i := 0) (v := .slice A2 (x.caches.length + 1) c2) (show w1.heap.size ≠ w.heap.size by omega) q0
          rw [hWq] at a0
          have u0 : wc.cell? ⟨w.heap.size + 1, 0, none⟩ = some (.slice none 0 0) := by rw [← hWq]; exact setNeC (by omega) q4
          have zq : wc.frozen? ⟨w.heap.size + 1, 0, none⟩ = false := by rw [← hWq, frozen?_set]; exact y4
          have v0 : wc.cell? ⟨w1.heap.size, 0, none⟩ = some (.slice A2 (x.caches.length + 1) c2) := by rw [← hWq]; exact cell?_set_same q6
          obtain ⟨F', hrq, hfq, hnq⟩ : ∃ F', cCachesO.rep wc [.slice A2 (x.caches.length + 1) c2] (openOut x v).caches F' ∧ Fresh (w.heap.size + 1 + 1) F' ∧ ∀ b, b ∈ F' → b ≠ w1.heap.size :=
            ⟨_, by rw [← hWq]; exact Cod.keep _ HRP.out.1 (fun b hb => Below.heap_setCell _ _ _ _ (HRP.out.2.2 b hb)), HRP.out.2.1, HRP.out.2.2⟩
          clear hWq q6 y6 q4 y4 q0 j0 z6 b0 l0 z4 HRP
          have hq0 : w.heap.size < wc.heap.size := by omega
          have hq2 : w.heap.size + 1 < wc.heap.size := by omega
          have hnq2 : ¬ w1.heap.size = w.heap.size + 1 := by omega
          have hnq3 : ¬ w.heap.size + 1 = w1.heap.size := by omega
          cases hs : isCacheSet x with
          | false =>
            go_wp2_with fail
            refine (specIsCacheSetN_any _ x _ _ (by exact Cod.bel hr (bel_then hbq (by repeat (first | with_reducible exact Below.refl _ _ | with_reducible assumption | with_reducible refine bel_alloc ?_ _ | with_reducible refine bel_drew ?_ | with_reducible refine bel_drewN ?_ _ | (with_reducible refine bel_set ?_ ?_ _; rotate_left; ((try simp); (try omega)))))))).mono ?_
            rw [hs]
            rintro e w6 ⟨rfl, hb6⟩
            have hbq6 : Below w.heap.size w w6 := bel_then hbq hb6
            obtain ⟨hc_w6, hf_w6, hz_w6⟩ := bcell hb6
            have hq06 : w.heap.size < w6.heap.size := by omega
            have hq26 : w.heap.size + 1 < w6.heap.size := by omega
            clear hb6
            go_wp2_with fail
            refine (specCopySet_any _ x _ _ (by exact Cod.bel hr (bel_then hbq6 (by repeat (first | with_reducible exact Below.refl _ _ | with_reducible assumption | with_reducible refine bel_alloc ?_ _ | with_reducible refine bel_drew ?_ | with_reducible refine bel_drewN ?_ _ | (with_reducible refine bel_set ?_ ?_ _; rotate_left; ((try simp); (try omega))))))) hn).mono ?_
            rintro e w7 ⟨vs7, G7, rfl, hb7, hrep7, hf7⟩
            obtain ⟨B7, d7, rfl, n7⟩ := TCSet.outO hrep7
            have hbq7 : Below w.heap.size w w7 := bel_then hbq6 hb7
            obtain ⟨hc_w7, hf_w7, hz_w7⟩ := bcell hb7
            have hq27 : w.heap.size + 1 < w7.heap.size := by omega
            have hf7' : Fresh (w.heap.size + 1 + 1) G7 := hf7.mono (by omega)
            clear hb7 hrep7 hf7
            go_wp2_with fail
            refine bodyPost_ret (v := .tuple #[.agg #[.slice B7 x.caches.length d7], .bool false]) (by simp [results, Try.results46, go_sem, *]) rfl ?_
            rw [hs]
            show GivesR2 cCSetO w x (.bool false) _ _
            have hfin : cCachesO.rep w7 [.slice B7 x.caches.length d7] x.caches G7 := n7
            have hlow := hf7'.1
            exact ⟨_, G7, rfl, (by repeat (first | with_reducible exact Below.refl _ _ | with_reducible assumption | with_reducible refine bel_alloc ?_ _ | with_reducible refine bel_drew ?_ | with_reducible refine bel_drewN ?_ _ | (with_reducible refine bel_set ?_ ?_ _; rotate_left; ((try simp); (try omega))))), TCSet.mkO (by repeat (first | with_reducible exact hfin | with_reducible refine Cod.allocA ?_ _ | with_reducible refine Cod.drewA ?_ | with_reducible refine Cod.drewNA ?_ _ | ((with_reducible refine Cod.setA ?_ ?_ _); rotate_left; ((intro hm9; have hm8 := hlow _ hm9; (try simp at hm8); (try omega)))))), hf7'.mono (by omega)⟩
          | true =>
            cases ho : isCacheSet (openOut x v) with
            | false =>
              go_wp2_with fail
              refine (specIsCacheSetN_any _ x _ _ (by exact Cod.bel hr (bel_then hbq (by repeat (first | with_reducible exact Below.refl _ _ | with_reducible assumption | with_reducible refine bel_alloc ?_ _ | with_reducible refine bel_drew ?_ | with_reducible refine bel_drewN ?_ _ | (with_reducible refine bel_set ?_ ?_ _; rotate_left; ((try simp); (try omega)))))))).mono ?_
              rw [hs]
              rintro e w6 ⟨rfl, hb6⟩
              have hbq6 : Below w.heap.size w w6 := bel_then hbq hb6
              obtain ⟨hc_w6, hf_w6, hz_w6⟩ := bcell hb6
              have hq06 : w.heap.size < w6.heap.size := by omega
              have hq26 : w.heap.size + 1 < w6.heap.size := by omega
              have hrq6 := Cod.bel hrq hb6
              clear hb6 hrq
              go_wp2_with fail
              obtain ⟨Fw, hrw, -⟩ := weak_cset.2 (TCSet.mkO (x := openOut x v) hrq6)
              refine (specIsCacheSetN_any _ (openOut x v) _ _ (by exact Cod.bel hrw (by repeat (first | with_reducible exact Below.refl _ _ | with_reducible assumption | with_reducible refine bel_alloc ?_ _ | with_reducible refine bel_drew ?_ | with_reducible refine bel_drewN ?_ _ | (with_reducible refine bel_set ?_ ?_ _; rotate_left; ((try simp); (try omega))))))).mono ?_
              rw [ho]
              rintro e w8 ⟨rfl, hb8⟩
              have hbq8 : Below w.heap.size w w8 := bel_then hbq6 (bel_then (by repeat (first | with_reducible exact Below.refl _ _ | with_reducible assumption | with_reducible refine bel_alloc ?_ _ | with_reducible refine bel_drew ?_ | with_reducible refine bel_drewN ?_ _ | (with_reducible refine bel_set ?_ ?_ _; rotate_left; ((try simp); (try omega))))) hb8)
              obtain ⟨hc_w8, hf_w8, hz_w8⟩ := bcell hb8
              have hq08 : w.heap.size < w8.heap.size := by omega
              have hq28 : w.heap.size + 1 < w8.heap.size := by omega
              clear hb8
              go_wp2_with fail
              refine (specCopySet_any _ x _ _ (by exact Cod.bel hr (bel_then hbq8 (by repeat (first | with_reducible exact Below.refl _ _ | with_reducible assumption | with_reducible refine bel_alloc ?_ _ | with_reducible refine bel_drew ?_ | with_reducible refine bel_drewN ?_ _ | (with_reducible refine bel_set ?_ ?_ _; rotate_left; ((try simp); (try omega))))))) hn).mono ?_
              rintro e w7 ⟨vs7, G7, rfl, hb7, hrep7, hf7⟩
              obtain ⟨B7, d7, rfl, n7⟩ := TCSet.outO hrep7
              have hbq7 : Below w.heap.size w w7 := bel_then hbq8 hb7
              obtain ⟨hc_w7, hf_w7, hz_w7⟩ := bcell hb7
              have hq27 : w.heap.size + 1 < w7.heap.size := by omega
              have hf7' : Fresh (w.heap.size + 1 + 1) G7 := hf7.mono (by omega)
              clear hb7 hrep7 hf7
              go_wp2_with fail
              refine bodyPost_ret (v := .tuple #[.agg #[.slice B7 x.caches.length d7], .bool false]) (by simp [results, Try.results46, go_sem, *]) rfl ?_
              rw [hs, ho]
              show GivesR2 cCSetO w x (.bool false) _ _
              have hfin : cCachesO.rep w7 [.slice B7 x.caches.length d7] x.caches G7 := n7
              have hlow := hf7'.1
              exact ⟨_, G7, rfl, (by repeat (first | with_reducible exact Below.refl _ _ | with_reducible assumption | with_reducible refine bel_alloc ?_ _ | with_reducible refine bel_drew ?_ | with_reducible refine bel_drewN ?_ _ | (with_reducible refine bel_set ?_ ?_ _; rotate_left; ((try simp); (try omega))))), TCSet.mkO (by repeat (first | with_reducible exact hfin | with_reducible refine Cod.allocA ?_ _ | with_reducible refine Cod.drewA ?_ | with_reducible refine Cod.drewNA ?_ _ | ((with_reducible refine Cod.setA ?_ ?_ _); rotate_left; ((intro hm9; have hm8 := hlow _ hm9; (try simp at hm8); (try omega)))))), hf7'.mono (by omega)⟩
            | true =>
              go_wp2_with fail
              refine (specIsCacheSetN_any _ x _ _ (by exact Cod.bel hr (bel_then hbq (by repeat (first | with_reducible exact Below.refl _ _ | with_reducible assumption | with_reducible refine bel_alloc ?_ _ | with_reducible refine bel_drew ?_ | with_reducible refine bel_drewN ?_ _ | (with_reducible refine bel_set ?_ ?_ _; rotate_left; ((try simp); (try omega)))))))).mono ?_
              rw [hs]
              rintro e w6 ⟨rfl, hb6⟩
              have hbq6 : Below w.heap.size w w6 := bel_then hbq hb6
              obtain ⟨hc_w6, hf_w6, hz_w6⟩ := bcell hb6
              have hq06 : w.heap.size < w6.heap.size := by omega
              have hq26 : w.heap.size + 1 < w6.heap.size := by omega
              have hrq6 := Cod.bel hrq hb6
              clear hb6 hrq
              go_wp2_with fail
              obtain ⟨Fw, hrw, -⟩ := weak_cset.2 (TCSet.mkO (x := openOut x v) hrq6)
              refine (specIsCacheSetN_any _ (openOut x v) _ _ (by exact Cod.bel hrw (by repeat (first | with_reducible exact Below.refl _ _ | with_reducible assumption | with_reducible refine bel_alloc ?_ _ | with_reducible refine bel_drew ?_ | with_reducible refine bel_drewN ?_ _ | (with_reducible refine bel_set ?_ ?_ _; rotate_left; ((try simp); (try omega))))))).mono ?_
              rw [ho]
              rintro e w8 ⟨rfl, hb8⟩
              have hq16 : w1.heap.size < w6.heap.size := by omega
              have hb68 : Below w6.heap.size w6 w8 := bel_then (by repeat (first | with_reducible exact Below.refl _ _ | with_reducible assumption | with_reducible refine bel_alloc ?_ _ | with_reducible refine bel_drew ?_ | with_reducible refine bel_drewN ?_ _ | (with_reducible refine bel_set ?_ ?_ _; rotate_left; ((try simp); (try omega))))) hb8
              have hbq8 : Below w.heap.size w w8 := bel_then hbq6 hb68
              obtain ⟨hc_w8, hf_w8, hz_w8⟩ := bcell hb8
              have hq08 : w.heap.size < w8.heap.size := by omega
              have hq28 : w.heap.size + 1 < w8.heap.size := by omega
              have hq18 : w1.heap.size < w8.heap.size := by omega
              have hfin := Cod.bel hrq6 hb68
              have hlow := hfq.1
              clear hb8 hrq6 hb68
              have HF9 := Lib.hid (And.intro hfin hlow)
              clear hfin hlow
              go_wp2_with fail
              refine bodyPost_ret (v := .tuple #[.agg #[.slice A2 (x.caches.length + 1) c2], .bool true]) (by simp [results, Try.results46, go_sem, *]) rfl ?_
              rw [hs, ho]
              show GivesR2 cCSetO w (openOut x v) (.bool true) _ _
              obtain ⟨hfin, hlow⟩ := HF9.out
              exact ⟨_, F', rfl, (by repeat (first | with_reducible exact Below.refl _ _ | with_reducible assumption | with_reducible refine bel_alloc ?_ _ | with_reducible refine bel_drew ?_ | with_reducible refine bel_drewN ?_ _ | (with_reducible refine bel_set ?_ ?_ _; rotate_left; ((try simp); (try omega))))), TCSet.mkO (x := openOut x v) (by repeat (first | with_reducible exact hfin | with_reducible refine Cod.allocA ?_ _ | with_reducible refine Cod.drewA ?_ | with_reducible refine Cod.drewNA ?_ _ | ((with_reducible refine Cod.setA ?_ ?_ _); rotate_left; ((intro hm9; have hm8 := hlow _ hm9; (try simp at hm8); (try omega)))))), hfq.mono (by omega)⟩
      · have hk0 : (0 : Int) ≤ (k : Int) := by omega
        have hdk : ¬ d1 = k := by omega
        obtain ⟨gb, rfl, hsB⟩ := HO.out.2.2.2 hdk
        have HS := Lib.hid (And.intro HO.out.2.1 hsB)
        clear hsB
        go_upto_region 5 with (fail)
        go_wp2_with (at_builtin; refine wpList_app (c := cCacheO) (B := w.heap.size + 1 + 1) (xs := []) (ys := x.caches.take k) (Fi := []) (Fy := F1) _ rfl _ _ _ rfl i0 _ _ Try.underlying70 hi0 hz0 hz1 hz2' rfl (by decide) (v := .slice (some _) 0 0) rfl (Own.empty _) _ rfl (HS.out.1.bel (by repeat (first | with_reducible exact Below.refl _ _ | with_reducible assumption | with_reducible refine bel_alloc ?_ _ | with_reducible refine bel_drew ?_ | with_reducible refine bel_drewN ?_ _ | (with_reducible refine bel_set ?_ ?_ _; rotate_left; ((try simp); (try omega)))))) (by rw [HL.out.1]; unfold maxLen; simp; omega) (by rw [HL.out.1]; simp; omega) (by (try simp); omega) (by simp [ownB]) ?_)
        intro v4 w4 ho4 hg4 hat4
        replace ho4 : Own cCacheO 125 (w.heap.size + 1 + 1) w4 v4 (x.caches.take k) F1 := by simpa using ho4
        obtain ⟨A4, c4, e4⟩ := ho4.slice
        rw [HL.out.1] at e4
        subst e4
        have hz4 := hg4.size
        (try simp at hz4)
        have hB4 : Below wr.heap.size wr w4 := Below.grown (show Below wr.heap.size wr _ from (by repeat (first | with_reducible exact Below.refl _ _ | with_reducible assumption | with_reducible refine bel_alloc ?_ _ | with_reducible refine bel_drew ?_ | with_reducible refine bel_drewN ?_ _ | (with_reducible refine bel_set ?_ ?_ _; rotate_left; ((try simp); (try omega)))))) hg4 (by (try simp); (try omega)) (fun b hb => by simp [ownB] at hb)
        have hat4' : ∀ g, ownB (.slice A4 k c4) = some g → wr.heap.size ≤ g := fun g hg => by
          rcases hat4 g hg with h9 | h9
          · simp [ownB] at h9
          · (try simp at h9); omega
        have H4 := Lib.hid (And.intro ho4 hat4')
        clear ho4 hg4 hat4 hat4'
        go_wp2_with (at_builtin; refine wpList_app (c := cCacheO) (B := w.heap.size + 1 + 1) (xs := x.caches.take k) (ys := [⟨v, []⟩]) (Fi := F1) (Fy := []) _ rfl _ _ _ rfl i0 _ _ Try.underlying70 hi0 hz0 hz1 hz2' rfl (by decide) rfl (H4.out.1.bel (by repeat (first | with_reducible exact Below.refl _ _ | with_reducible assumption | with_reducible refine bel_alloc ?_ _ | with_reducible refine bel_drew ?_ | with_reducible refine bel_drewN ?_ _ | (with_reducible refine bel_set ?_ ?_ _; rotate_left; ((try simp); (try omega)))))) (.slice (some ⟨w4.heap.size, 0, none⟩) 1 1) rfl (AppSrc.bel (src_new (w := w4) (vs := #[.int .i64 v, .slice none 0 0]) 125 _ rfl (TCache.mkO (x := ⟨v, []⟩) ⟨hv⟩ ⟨_, [], rfl, Own.empty none, by simp [ownL, ownB]⟩)) (by repeat (first | with_reducible exact Below.refl _ _ | with_reducible assumption | with_reducible refine bel_alloc ?_ _ | with_reducible refine bel_drew ?_ | with_reducible refine bel_drewN ?_ _ | (with_reducible refine bel_set ?_ ?_ _; rotate_left; ((try simp); (try omega)))))) (by rw [HL.out.1]; unfold maxLen; simp; omega) (by rw [HL.out.1]; simp; omega) (by have := hB4.size; (try simp); omega) (fun g hg => by have h9 := H4.out.2 g hg; exact ⟨fun hm => by have := hF1G g (hm); omega, by simp⟩) ?_)
        intro v5 w5 ho5 hg5 hat5
        replace ho5 : Own cCacheO 125 (w.heap.size + 1 + 1) w5 v5 (x.caches.take k ++ [⟨v, []⟩]) F1 := by simpa using ho5
        obtain ⟨A5, c5, e5⟩ := ho5.slice
        rw [List.length_append, HL.out.1, List.length_singleton] at e5
        subst e5
        have hz5 := hg5.size
        (try simp at hz5)
        have hB5 : Below wr.heap.size wr w5 := Below.grown (show Below wr.heap.size wr _ from (by have := hB4.size; exact bel_alloc hB4 _)) hg5 (by have := hB4.size; (try simp); omega) (fun b hb => H4.out.2 b hb)
        have hat5' : ∀ g, ownB (.slice A5 (k + 1) c5) = some g → wr.heap.size ≤ g := fun g hg => by
          rcases hat5 g hg with h9 | h9
          · exact H4.out.2 g h9
          · have := hB4.size; (try simp at h9); omega
        have q6 := (hB5.cell (p := ⟨w1.heap.size, 0, none⟩) hw1r).trans j0
        have y6 := (hB5.frozen (p := ⟨w1.heap.size, 0, none⟩) hw1r).trans z6
        have H5 := Lib.hid (And.intro ho5 hat5')
        clear ho5 hg5 hat5 hat5'
        have hx9 := fun ops rest (o : Oper) a Q hgd s9 x9 ho hs9 hx9 h9 => wpList_app w5 (P := Try.prog) (ops := ops) (rest := rest) (o := o) (a := a) (Q := Q) (c := cCacheO) (B := w.heap.size + 1 + 1) (xs := x.caches.take k ++ [⟨v, []⟩]) (ys := x.caches.drop k) (Fi := F1) (Fy := F2) hgd s9 x9 70 ho i0 _ _ Try.underlying70 hi0 hz0 hz1 hz2' rfl (by decide) hs9 H5.out.1 _ hx9 (HS.out.2.bel hB5) (by rw [List.length_append, HL.out.1, HL.out.2]; unfold maxLen; simp; omega) (by rw [List.length_append, HL.out.1, HL.out.2]; simp; omega) (by have := hB5.size; (try simp); omega) (fun g hg => by have h9 := H5.out.2 g hg; exact ⟨fun hm => by have := hF1G g (hm); omega, fun hm => by have := hF2G g hm; omega⟩) h9
        have HX9 := Lib.hid hx9
        clear hx9
        go_wp2_with (at_builtin; refine HX9.out _ _ _ _ _ rfl _ _ rfl rfl rfl ?_)
        clear HX9
        intro v3 w3 ho3 hg3 hat3
        replace ho3 : Own cCacheO 125 (w.heap.size + 1 + 1) w3 v3 (x.caches.take k ++ ⟨v, []⟩ :: x.caches.drop k) (F1 ++ F2) := by simpa using ho3
        obtain ⟨A2, c2, e3⟩ := ho3.slice
        have hlen : (x.caches.take k ++ ⟨v, []⟩ :: x.caches.drop k).length = x.caches.length + 1 := by rw [List.length_append, List.length_cons, HL.out.1, HL.out.2]; have := HX.out; omega
        rw [hlen] at e3
        subst e3
        have hz3 := hg3.size
        have hB3 : Below wr.heap.size wr w3 := Below.grown hB5 hg3 (by have := hB5.size; (try simp); omega) (fun b hb => H5.out.2 b hb)
        have hown2 : ∀ g, ownB (.slice A2 (x.caches.length + 1) c2) = some g → wr.heap.size ≤ g := fun g hg => by
          rcases hat3 g hg with h9 | h9
          · exact H5.out.2 g h9
          · have := hB5.size; omega
        replace q6 := (hB3.cell (p := ⟨w1.heap.size, 0, none⟩) hw1r).trans j0
        replace y6 := (hB3.frozen (p := ⟨w1.heap.size, 0, none⟩) hw1r).trans z6
        have q4 := (hB3.cell (p := ⟨w.heap.size + 1, 0, none⟩) hw0r).trans l0
        have y4 := (hB3.frozen (p := ⟨w.heap.size + 1, 0, none⟩) hw0r).trans z4
        have q0 := (hB3.cell (p := ⟨w.heap.size, 0, none⟩) (by simp; omega)).trans b0
        have hb3 : Below w.heap.size w w3 := bel_then hbw2 hB3
        have hfr2 : Fresh (w.heap.size + 1 + 1) (F1 ++ F2) := by have h9 := HO.out.1; rw [hF12] at h9; simpa using h9
        have hn2 : ∀ b, b ∈ F1 ++ F2 → b < w1.heap.size := fun b hb => by
          rcases List.mem_append.1 hb with hb | hb
          · exact hF1G b (hb)
          · exact hF2G b hb
        obtain ⟨hrp, hfp⟩ := ho3.toO (hw2 := by decide) hfr2 (fun g hg hm => by have := hown2 g hg; have := hn2 g hm; omega)
        have hnp : ∀ b, b ∈ ownL (.slice A2 (x.caches.length + 1) c2) ++ (F1 ++ F2) → b ≠ w1.heap.size := fun b hb => by
          rcases List.mem_append.1 hb with hb | hb
          · have := hown2 b (mem_ownL.1 hb); omega
          · have := hn2 b hb; omega
        have hxe : x.caches.take k ++ ⟨v, []⟩ :: x.caches.drop k = (openOut x v).caches := by rw [HEND.out]; simp [openOut]
        rw [hxe] at hrp
        have HRP := Lib.hid (And.intro hrp (And.intro hfp hnp))
        clear hrp hfp hnp hown2 hfr2 ho3 hg3 hat3 H4 H5 HO HS HN2 hF12 hF1G hF2G hn2 hxe
        go_upto_region 8 with (fail)
        generalize hWq : World.setCell w3 _ _ = wc
        have hbq : Below w.heap.size w wc := by rw [← hWq]; exact (by repeat (first | with_reducible exact Below.refl _ _ | with_reducible assumption | with_reducible refine bel_alloc ?_ _ | with_reducible refine bel_drew ?_ | with_reducible refine bel_drewN ?_ _ | (with_reducible refine bel_set ?_ ?_ _; rotate_left; ((try simp); (try omega)))))
        have hsq : w1.heap.size < wc.heap.size := by have := hB3.size; rw [← hWq]; clear hWq; simp; omega
        have a0 := setNeC (i := 0) (v := .slice A2 (x.caches.length + 1) c2) (show w1.heap.size ≠ w.heap.size by omega) q0
        rw [hWq] at a0
        have u0 : wc.cell? ⟨w.heap.size + 1, 0, none⟩ = some (.slice none 0 0) := by rw [← hWq]; exact setNeC (by omega) q4
        have zq : wc.frozen? ⟨w.heap.size + 1, 0, none⟩ = false := by rw [← hWq, frozen?_set]; exact y4
        have v0 : wc.cell? ⟨w1.heap.size, 0, none⟩ = some (.slice A2 (x.caches.length + 1) c2) := by rw [← hWq]; exact cell?_set_same q6
        obtain ⟨F', hrq, hfq, hnq⟩ : ∃ F', cCachesO.rep wc [.slice A2 (x.caches.length + 1) c2] (openOut x v).caches F' ∧ Fresh (w.heap.size + 1 + 1) F' ∧ ∀ b, b ∈ F' → b ≠ w1.heap.size :=
          ⟨_, by rw [← hWq]; exact Cod.keep _ HRP.out.1 (fun b hb => Below.heap_setCell _ _ _ _ (HRP.out.2.2 b hb)), HRP.out.2.1, HRP.out.2.2⟩
        clear hWq q6 y6 q4 y4 q0 j0 z6 b0 l0 z4 HRP
        have hq0 : w.heap.size < wc.heap.size := by omega
        have hq2 : w.heap.size + 1 < wc.heap.size := by omega
        have hnq2 : ¬ w1.heap.size = w.heap.size + 1 := by omega
        have hnq3 : ¬ w.heap.size + 1 = w1.heap.size := by omega
        cases hs : isCacheSet x with
        | false =>
          go_wp2_with fail
          refine (specIsCacheSetN_any _ x _ _ (by exact Cod.bel hr (bel_then hbq (by repeat (first | with_reducible exact Below.refl _ _ | with_reducible assumption | with_reducible refine bel_alloc ?_ _ | with_reducible refine bel_drew ?_ | with_reducible refine bel_drewN ?_ _ | (with_reducible refine bel_set ?_ ?_ _; rotate_left; ((try simp); (try omega)))))))).mono ?_
          rw [hs]
          rintro e w6 ⟨rfl, hb6⟩
          have hbq6 : Below w.heap.size w w6 := bel_then hbq hb6
          obtain ⟨hc_w6, hf_w6, hz_w6⟩ := bcell hb6
          have hq06 : w.heap.size < w6.heap.size := by omega
          have hq26 : w.heap.size + 1 < w6.heap.size := by omega
          clear hb6
          go_wp2_with fail
          refine (specCopySet_any _ x _ _ (by exact Cod.bel hr (bel_then hbq6 (by repeat (first | with_reducible exact Below.refl _ _ | with_reducible assumption | with_reducible refine bel_alloc ?_ _ | with_reducible refine bel_drew ?_ | with_reducible refine bel_drewN ?_ _ | (with_reducible refine bel_set ?_ ?_ _; rotate_left; ((try simp); (try omega))))))) hn).mono ?_
          rintro e w7 ⟨vs7, G7, rfl, hb7, hrep7, hf7⟩
          obtain ⟨B7, d7, rfl, n7⟩ := TCSet.outO hrep7
          have hbq7 : Below w.heap.size w w7 := bel_then hbq6 hb7
          obtain ⟨hc_w7, hf_w7, hz_w7⟩ := bcell hb7
          have hq27 : w.heap.size + 1 < w7.heap.size := by omega
          have hf7' : Fresh (w.heap.size + 1 + 1) G7 := hf7.mono (by omega)
          clear hb7 hrep7 hf7
          go_wp2_with fail
          refine bodyPost_ret (v := .tuple #[.agg #[.slice B7 x.caches.length d7], .bool false]) (by simp [results, Try.results46, go_sem, *]) rfl ?_
          rw [hs]
          show GivesR2 cCSetO w x (.bool false) _ _
          have hfin : cCachesO.rep w7 [.slice B7 x.caches.length d7] x.caches G7 := n7
          have hlow := hf7'.1
          exact ⟨_, G7, rfl, (by repeat (first | with_reducible exact Below.refl _ _ | with_reducible assumption | with_reducible refine bel_alloc ?_ _ | with_reducible refine bel_drew ?_ | with_reducible refine bel_drewN ?_ _ | (with_reducible refine bel_set ?_ ?_ _; rotate_left; ((try simp); (try omega))))), TCSet.mkO (by repeat (first | with_reducible exact hfin | with_reducible refine Cod.allocA ?_ _ | with_reducible refine Cod.drewA ?_ | with_reducible refine Cod.drewNA ?_ _ | ((with_reducible refine Cod.setA ?_ ?_ _); rotate_left; ((intro hm9; have hm8 := hlow _ hm9; (try simp at hm8); (try omega)))))), hf7'.mono (by omega)⟩
        | true =>
          cases ho : isCacheSet (openOut x v) with
          | false =>
            go_wp2_with fail
            refine (specIsCacheSetN_any _ x _ _ (by exact Cod.bel hr (bel_then hbq (by repeat (first | with_reducible exact Below.refl _ _ | with_reducible assumption | with_reducible refine bel_alloc ?_ _ | with_reducible refine bel_drew ?_ | with_reducible refine bel_drewN ?_ _ | (with_reducible refine bel_set ?_ ?_ _; rotate_left; ((try simp); (try omega)))))))).mono ?_
            rw [hs]
            rintro e w6 ⟨rfl, hb6⟩
            have hbq6 : Below w.heap.size w w6 := bel_then hbq hb6
            obtain ⟨hc_w6, hf_w6, hz_w6⟩ := bcell hb6
            have hq06 : w.heap.size < w6.heap.size := by omega
            have hq26 : w.heap.size + 1 < w6.heap.size := by omega
            have hrq6 := Cod.bel hrq hb6
            clear hb6 hrq
            go_wp2_with fail
            obtain ⟨Fw, hrw, -⟩ := weak_cset.2 (TCSet.mkO (x := openOut x v) hrq6)
            refine (specIsCacheSetN_any _ (openOut x v) _ _ (by exact Cod.bel hrw (by repeat (first | with_reducible exact Below.refl _ _ | with_reducible assumption | with_reducible refine bel_alloc ?_ _ | with_reducible refine bel_drew ?_ | with_reducible refine bel_drewN ?_ _ | (with_reducible refine bel_set ?_ ?_ _; rotate_left; ((try simp); (try omega))))))).mono ?_
            rw [ho]
            rintro e w8 ⟨rfl, hb8⟩
            have hbq8 : Below w.heap.size w w8 := bel_then hbq6 (bel_then (by repeat (first | with_reducible exact Below.refl _ _ | with_reducible assumption | with_reducible refine bel_alloc ?_ _ | with_reducible refine bel_drew ?_ | with_reducible refine bel_drewN ?_ _ | (with_reducible refine bel_set ?_ ?_ _; rotate_left; ((try simp); (try omega))))) hb8)
            obtain ⟨hc_w8, hf_w8, hz_w8⟩ := bcell hb8
            have hq08 : w.heap.size < w8.heap.size := by omega
            have hq28 : w.heap.size + 1 < w8.heap.size := by omega
            clear hb8
            go_wp2_with fail
            refine (specCopySet_any _ x _ _ (by exact Cod.bel hr (bel_then hbq8 (by repeat (first | with_reducible exact Below.refl _ _ | with_reducible assumption | with_reducible refine bel_alloc ?_ _ | with_reducible refine bel_drew ?_ | with_reducible refine bel_drewN ?_ _ | (with_reducible refine bel_set ?_ ?_ _; rotate_left; ((try simp); (try omega))))))) hn).mono ?_
            rintro e w7 ⟨vs7, G7, rfl, hb7, hrep7, hf7⟩
            obtain ⟨B7, d7, rfl, n7⟩ := TCSet.outO hrep7
            have hbq7 : Below w.heap.size w w7 := bel_then hbq8 hb7
            obtain ⟨hc_w7, hf_w7, hz_w7⟩ := bcell hb7
            have hq27 : w.heap.size + 1 < w7.heap.size := by omega
            have hf7' : Fresh (w.heap.size + 1 + 1) G7 := hf7.mono (by omega)
            clear hb7 hrep7 hf7
            go_wp2_with fail
            refine bodyPost_ret (v := .tuple #[.agg #[.slice B7 x.caches.length d7], .bool false]) (by simp [results, Try.results46, go_sem, *]) rfl ?_
            rw [hs, ho]
            show GivesR2 cCSetO w x (.bool false) _ _
            have hfin : cCachesO.rep w7 [.slice B7 x.caches.length d7] x.caches G7 := n7
            have hlow := hf7'.1
            exact ⟨_, G7, rfl, (by repeat (first | with_reducible exact Below.refl _ _ | with_reducible assumption | with_reducible refine bel_alloc ?_ _ | with_reducible refine bel_drew ?_ | with_reducible refine bel_drewN ?_ _ | (with_reducible refine bel_set ?_ ?_ _; rotate_left; ((try simp); (try omega))))), TCSet.mkO (by repeat (first | with_reducible exact hfin | with_reducible refine Cod.allocA ?_ _ | with_reducible refine Cod.drewA ?_ | with_reducible refine Cod.drewNA ?_ _ | ((with_reducible refine Cod.setA ?_ ?_ _); rotate_left; ((intro hm9; have hm8 := hlow _ hm9; (try simp at hm8); (try omega)))))), hf7'.mono (by omega)⟩
          | true =>
            go_wp2_with fail
            refine (specIsCacheSetN_any _ x _ _ (by exact Cod.bel hr (bel_then hbq (by repeat (first | with_reducible exact Below.refl _ _ | with_reducible assumption | with_reducible refine bel_alloc ?_ _ | with_reducible refine bel_drew ?_ | with_reducible refine bel_drewN ?_ _ | (with_reducible refine bel_set ?_ ?_ _; rotate_left; ((try simp); (try omega)))))))).mono ?_
            rw [hs]
            rintro e w6 ⟨rfl, hb6⟩
            have hbq6 : Below w.heap.size w w6 := bel_then hbq hb6
            obtain ⟨hc_w6, hf_w6, hz_w6⟩ := bcell hb6
            have hq06 : w.heap.size < w6.heap.size := by omega
            have hq26 : w.heap.size + 1 < w6.heap.size := by omega
            have hrq6 := Cod.bel hrq hb6
            clear hb6 hrq
            go_wp2_with fail
            obtain ⟨Fw, hrw, -⟩ := weak_cset.2 (TCSet.mkO (x := openOut x v) hrq6)
            refine (specIsCacheSetN_any _ (openOut x v) _ _ (by exact Cod.bel hrw (by repeat (first | with_reducible exact Below.refl _ _ | with_reducible assumption | with_reducible refine bel_alloc ?_ _ | with_reducible refine bel_drew ?_ | with_reducible refine bel_drewN ?_ _ | (with_reducible refine bel_set ?_ ?_ _; rotate_left; ((try simp); (try omega))))))).mono ?_
            rw [ho]
            rintro e w8 ⟨rfl, hb8⟩
            have hq16 : w1.heap.size < w6.heap.size := by omega
            have hb68 : Below w6.heap.size w6 w8 := bel_then (by repeat (first | with_reducible exact Below.refl _ _ | with_reducible assumption | with_reducible refine bel_alloc ?_ _ | with_reducible refine bel_drew ?_ | with_reducible refine bel_drewN ?_ _ | (with_reducible refine bel_set ?_ ?_ _; rotate_left; ((try simp); (try omega))))) hb8
            have hbq8 : Below w.heap.size w w8 := bel_then hbq6 hb68
            obtain ⟨hc_w8, hf_w8, hz_w8⟩ := bcell hb8
            have hq08 : w.heap.size < w8.heap.size := by omega
            have hq28 : w.heap.size + 1 < w8.heap.size := by omega
            have hq18 : w1.heap.size < w8.heap.size := by omega
            have hfin := Cod.bel hrq6 hb68
            have hlow := hfq.1
            clear hb8 hrq6 hb68
            have HF9 := Lib.hid (And.intro hfin hlow)
            clear hfin hlow
            go_wp2_with fail
            refine bodyPost_ret (v := .tuple #[.agg #[.slice A2 (x.caches.length + 1) c2], .bool true]) (by simp [results, Try.results46, go_sem, *]) rfl ?_
            rw [hs, ho]
            show GivesR2 cCSetO w (openOut x v) (.bool true) _ _
            obtain ⟨hfin, hlow⟩ := HF9.out
            exact ⟨_, F', rfl, (by repeat (first | with_reducible exact Below.refl _ _ | with_reducible assumption | with_reducible refine bel_alloc ?_ _ | with_reducible refine bel_drew ?_ | with_reducible refine bel_drewN ?_ _ | (with_reducible refine bel_set ?_ ?_ _; rotate_left; ((try simp); (try omega))))), TCSet.mkO (x := openOut x v) (by repeat (first | with_reducible exact hfin | with_reducible refine Cod.allocA ?_ _ | with_reducible refine Cod.drewA ?_ | with_reducible refine Cod.drewNA ?_ _ | ((with_reducible refine Cod.setA ?_ ?_ _); rotate_left; ((intro hm9; have hm8 := hlow _ hm9; (try simp at hm8); (try omega)))))), hfq.mono (by omega)⟩
theorem implOpenCache_any (vs : Array Value) (x : TCSet) (F : List Nat) (v : Int) (w : World) (h : cCSet.rep w vs.toList x F) (hn : cCSet.sz x ≤ 1048576) (hv : -9223372036854775808 ≤ v ∧ v ≤ 9223372036854775807) :
    Calls Try.prog 48 #[.agg vs, .int .i64 v] w (GivesR2 cCSet w (openCache x v).1 (.bool (openCache x v).2)) :=
  (implOpenCacheO_any vs x F v w h hn hv).mono fun e w' h => h.weak weak_cset
theorem specOpenCache_any (vs : Array Value) (x : TCSet) (F : List Nat) (v : Int) (w : World) (h : cCSet.rep w vs.toList x F) (hn : cCSet.sz x ≤ 1048576) (hv : -9223372036854775808 ≤ v ∧ v ≤ 9223372036854775807) :
    Calls Try.prog 46 #[.agg vs, .int .i64 v] w (GivesR2 cCSet w (openCache x v).1 (.bool (openCache x v).2)) :=
  (specOpenCacheO_any vs x F v w h hn hv).mono fun e w' h => h.weak weak_cset
end Go.Proofs.Ytlicnppfgfjkgaa
