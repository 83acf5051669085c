/-
  DropCache of the program and of the reference. No conditions.
-/
import Derived.Test.YtlicnppfgfjkgaaZDelete
namespace Go.Proofs.Ytlicnppfgfjkgaa
open Go.ChangeShapes Go.WideShapes Go.RowKit
set_option linter.unusedVariables false

def dropAt (s : TCSet) (k : Int) : TCSet × Bool := if k < 0 then (s, false) else (⟨s.caches.take k.toNat ++ s.caches.drop (k.toNat + 1)⟩, true)
def dropCache (s : TCSet) (v : Int) : TCSet × Bool := dropAt s (findCache s v)

theorem GivesR2.weak {α : Type} {c d : Cod α} (k : Weak c d) {w w' : World} {x : α} {r : Value} {e : Ending} (h : GivesR2 c w x r e w') : GivesR2 d w x r e w' := by
  obtain ⟨vs, F, he, hb, hr, hf⟩ := h
  obtain ⟨G, h1, h2, -⟩ := k.fresh hr hf
  exact ⟨vs, G, he, hb, h1, h2⟩
theorem szs_app {α : Type} (c : Cod α) : ∀ xs ys : List α, c.szs (xs ++ ys) = c.szs xs + c.szs ys
  | [], ys => by simp [Cod.szs]
  | x :: xs, ys => by simp only [List.cons_append, Cod.szs, szs_app c xs ys]; omega
theorem szs_cut {α : Type} (c : Cod α) (xs : List α) (k : Nat) : c.szs (xs.take k) + c.szs (xs.drop k) = c.szs xs := by rw [← szs_app, List.take_append_drop]
theorem szs_drop {α : Type} (c : Cod α) (xs : List α) (k : Nat) : c.szs (xs.drop (k + 1)) ≤ c.szs (xs.drop k) := by
  have h := szs_cut c (xs.drop k) 1
  rw [List.drop_drop] at h
  omega
theorem dropCache_sz (s : TCSet) (v : Int) : cCSet.sz (dropCache s v).1 ≤ cCSet.sz s := by
  unfold dropCache dropAt
  split
  · exact Nat.le_refl _
  · show cCache.szs _ ≤ cCache.szs s.caches
    rw [szs_app]
    have h1 := szs_cut cCache s.caches (findCache s v).toNat
    have h2 := szs_drop cCache s.caches (findCache s v).toNat
    omega

set_option maxRecDepth 100000 in
set_option maxHeartbeats 4000000 in
theorem implDropCacheO_any (vs : Array Value) (x : TCSet) (F : List Nat) (v : Int) (w : World) (h : cCSet.rep w vs.toList x F) (hn : cCSet.sz x ≤ 1048576) (hv : -9223372036854775808 ≤ v ∧ v ≤ 9223372036854775807) :
    Calls Try.prog 41 #[.agg vs, .int .i64 v] w (GivesR2 cCSetO w (dropCache x v).1 (.bool (dropCache x v).2)) := by
  obtain ⟨i0, hi0, hz0, hz1, hz2⟩ := info_parts infoCache
  have hr := h
  obtain ⟨v0, F0, rfl, -, -, m0⟩ := TCSet.outA h
  obtain ⟨A, cp, rfl⟩ := cL_form m0
  clear h
  have HT := Lib.hid (fun k (e : findCache x v = k) => show dropCache x v = dropAt x k by unfold dropCache; rw [e])
  have hnl := cset_len hn
  rcases idxP_cases (fun c : TCache => c.ver == v) x.caches with hk | ⟨k, hkl, hk⟩
  · replace hk : findCache x v = -1 := hk
    have HE := Lib.hid (show dropCache x v = (x, false) by rw [HT.out _ hk]; rfl)
    rw [HE.out]
    go_enter Try.func41, Try.ntmps41
    go_wp2_with fail
    refine (implCopySet_any _ x _ _ (by exact Cod.bel hr (by repeat (first | with_reducible exact Below.refl _ _ | with_reducible assumption | with_reducible refine bel_alloc ?_ _ | with_reducible refine bel_drew ?_ | with_reducible refine bel_drewN ?_ _ | (with_reducible refine bel_set ?_ ?_ _; rotate_left; ((try simp); (try omega)))))) hn).mono ?_
    rintro e w1 ⟨vs1, G1, rfl, hb1, hrep1, hf1⟩
    obtain ⟨B1, d1, rfl, n1⟩ := TCSet.outO hrep1
    have hz_w1 := hb1.size
    (try simp at hz_w1)
    have ha0_w1 : w.heap.size < w1.heap.size := by omega
    have ha1_w1 : w.heap.size + 1 < w1.heap.size := by omega
    obtain ⟨hc_w1, hf_w1, -⟩ := bcell hb1
    have hb_w1 : Below w.heap.size w w1 := bel_then (by repeat (first | with_reducible exact Below.refl _ _ | with_reducible assumption | with_reducible refine bel_alloc ?_ _ | with_reducible refine bel_drew ?_ | with_reducible refine bel_drewN ?_ _ | (with_reducible refine bel_set ?_ ?_ _; rotate_left; ((try simp); (try omega))))) hb1
    have hg1 : Fresh (w.heap.size + 1 + 1) G1 := hf1.mono (by (try simp); (try omega))
    clear hb1 hf1 hrep1
    go_wp2_with fail
    refine (implFindCache_any _ x _ v _ (by exact Cod.bel hr (by repeat (first | with_reducible exact Below.refl _ _ | with_reducible assumption | with_reducible refine bel_alloc ?_ _ | with_reducible refine bel_drew ?_ | with_reducible refine bel_drewN ?_ _ | (with_reducible refine bel_set ?_ ?_ _; rotate_left; ((try simp); (try omega)))))) hn hv).mono ?_
    rw [hk]
    rintro e w2 ⟨rfl, hb2⟩
    have hb12 : Below w1.heap.size w1 w2 := bel_then (by repeat (first | with_reducible exact Below.refl _ _ | with_reducible assumption | with_reducible refine bel_alloc ?_ _ | with_reducible refine bel_drew ?_ | with_reducible refine bel_drewN ?_ _ | (with_reducible refine bel_set ?_ ?_ _; rotate_left; ((try simp); (try omega))))) hb2
    have hz_w2 := hb2.size
    (try simp at hz_w2)
    have ha0_w2 : w.heap.size < w2.heap.size := by omega
    have ha1_w2 : w.heap.size + 1 < w2.heap.size := by omega
    have ha2_w2 : w1.heap.size < w2.heap.size := by omega
    obtain ⟨hc_w2, hf_w2, -⟩ := bcell hb2
    have hb_w2 : Below w.heap.size w w2 := bel_then (by repeat (first | with_reducible exact Below.refl _ _ | with_reducible assumption | with_reducible refine bel_alloc ?_ _ | with_reducible refine bel_drew ?_ | with_reducible refine bel_drewN ?_ _ | (with_reducible refine bel_set ?_ ?_ _; rotate_left; ((try simp); (try omega))))) hb2
    have n2 := Cod.bel n1 hb12
    have hlt2 : ∀ b, b ∈ G1 → b < w1.heap.size := Cod.lt _ n1
    clear hb2 hb12 n1
    go_wp2_with fail
    refine bodyPost_ret (v := .tuple #[.agg #[.slice B1 x.caches.length d1], .bool false]) (by simp [results, Try.results41, go_sem, *]) rfl ?_
    exact ⟨_, G1, rfl, (by repeat (first | with_reducible exact Below.refl _ _ | with_reducible assumption | with_reducible refine bel_alloc ?_ _ | with_reducible refine bel_drew ?_ | with_reducible refine bel_drewN ?_ _ | (with_reducible refine bel_set ?_ ?_ _; rotate_left; ((try simp); (try omega))))), TCSet.mkO (Cod.keep2 n2 hg1 (by repeat (first | with_reducible exact Keep.refl _ _ | with_reducible assumption | with_reducible refine Keep.alloc ?_ _ | with_reducible refine Keep.drew ?_ | with_reducible refine Keep.drewN ?_ _ | (with_reducible refine Keep.set_ ?_ ?_ _; rotate_left; ((try simp); (try omega)))))), hg1.mono (by (try simp); (try omega))⟩
  · replace hk : findCache x v = k := hk
    have HE := Lib.hid (show dropCache x v = (⟨x.caches.take k ++ x.caches.drop (k + 1)⟩, true) by rw [HT.out _ hk]; unfold dropAt; rw [if_neg (by omega), Int.toNat_natCast])
    rw [HE.out]
    obtain ⟨m, hxm⟩ : ∃ m, x.caches.length = m + 1 := ⟨x.caches.length - 1, by omega⟩
    have hl1 : (x.caches.take k).length = k := by rw [List.length_take]; omega
    have hl2 : (x.caches.drop (k + 1)).length = m - k := by rw [List.length_drop]; omega
    have HL := Lib.hid (And.intro hl1 (And.intro hl2 hxm))
    clear hl1 hl2
    have hkm : k ≤ m := by omega
    have hmm : m ≤ 1048576 := by omega
    have hm9 : m + 1 ≤ 1048576 := by omega
    clear hxm
    go_enter Try.func41, Try.ntmps41
    go_wp2_with fail
    refine (implCopySet_any _ x _ _ (by exact Cod.bel hr (by repeat (first | with_reducible exact Below.refl _ _ | with_reducible assumption | with_reducible refine bel_alloc ?_ _ | with_reducible refine bel_drew ?_ | with_reducible refine bel_drewN ?_ _ | (with_reducible refine bel_set ?_ ?_ _; rotate_left; ((try simp); (try omega)))))) hn).mono ?_
    rintro e w1 ⟨vs1, G1, rfl, hb1, hrep1, hf1⟩
    obtain ⟨B1, d1, rfl, n1⟩ := TCSet.outO hrep1
    have hz_w1 := hb1.size
    (try simp at hz_w1)
    have ha0_w1 : w.heap.size < w1.heap.size := by omega
    have ha1_w1 : w.heap.size + 1 < w1.heap.size := by omega
    obtain ⟨hc_w1, hf_w1, -⟩ := bcell hb1
    have hb_w1 : Below w.heap.size w w1 := bel_then (by repeat (first | with_reducible exact Below.refl _ _ | with_reducible assumption | with_reducible refine bel_alloc ?_ _ | with_reducible refine bel_drew ?_ | with_reducible refine bel_drewN ?_ _ | (with_reducible refine bel_set ?_ ?_ _; rotate_left; ((try simp); (try omega))))) hb1
    have hg1 : Fresh (w.heap.size + 1 + 1) G1 := hf1.mono (by (try simp); (try omega))
    have hlt1 : ∀ b, b ∈ G1 → b < w1.heap.size := Cod.lt _ n1
    clear hb1 hf1 hrep1
    rw [HL.out.2.2] at n1 ⊢
    obtain ⟨Fi, hGF, hown1, hFi1, hne1, hBg1⟩ := cO_own n1 hg1
    have hne9 : ∀ b, b ∈ Fi → b ∈ G1 := fun b hb => by rw [hGF]; exact List.mem_append_right _ hb
    have hne8 : ∀ b, ownB (.slice B1 (m + 1) d1) = some b → b ∈ G1 := fun b hb => by rw [hGF]; exact List.mem_append_left _ (mem_ownL.2 hb)
    have hHO := Lib.hid hown1
    clear hown1 n1 hGF
    go_wp2_with fail
    refine (implFindCache_any _ x _ v _ (by exact Cod.bel hr (by repeat (first | with_reducible exact Below.refl _ _ | with_reducible assumption | with_reducible refine bel_alloc ?_ _ | with_reducible refine bel_drew ?_ | with_reducible refine bel_drewN ?_ _ | (with_reducible refine bel_set ?_ ?_ _; rotate_left; ((try simp); (try omega)))))) hn hv).mono ?_
    rw [hk]
    rintro e w2 ⟨rfl, hb2⟩
    have hb12 : Below w1.heap.size w1 w2 := bel_then (by repeat (first | with_reducible exact Below.refl _ _ | with_reducible assumption | with_reducible refine bel_alloc ?_ _ | with_reducible refine bel_drew ?_ | with_reducible refine bel_drewN ?_ _ | (with_reducible refine bel_set ?_ ?_ _; rotate_left; ((try simp); (try omega))))) hb2
    have hz_w2 := hb2.size
    (try simp at hz_w2)
    have ha0_w2 : w.heap.size < w2.heap.size := by omega
    have ha1_w2 : w.heap.size + 1 < w2.heap.size := by omega
    have ha2_w2 : w1.heap.size < w2.heap.size := by omega
    obtain ⟨hc_w2, hf_w2, -⟩ := bcell hb2
    have hb_w2 : Below w.heap.size w w2 := bel_then (by repeat (first | with_reducible exact Below.refl _ _ | with_reducible assumption | with_reducible refine bel_alloc ?_ _ | with_reducible refine bel_drew ?_ | with_reducible refine bel_drewN ?_ _ | (with_reducible refine bel_set ?_ ?_ _; rotate_left; ((try simp); (try omega))))) hb2
    have j0 : w2.cell? ⟨w1.heap.size, 0, none⟩ = some (.slice B1 (m + 1) d1) := by go_simp
    have l0 : w2.cell? ⟨w.heap.size + 1, 0, none⟩ = some (.slice none 0 0) := by go_simp
    have z6 : w2.frozen? ⟨w1.heap.size, 0, none⟩ = false := by go_simp
    have z4 : w2.frozen? ⟨w.heap.size + 1, 0, none⟩ = false := by go_simp
    have hs12 : w1.heap.size < w2.heap.size := by omega
    clear hb2 hc_w1 hf_w1 hc_w2 hf_w2
    have hki : ((k : Int) + 1 ≤ (m : Int) + 1) := by omega
    have hk0 : (0 : Int) ≤ (k : Int) + 1 := by omega
    go_wp2_with fail
    refine (deleteCache_any B1 m d1 k x.caches Fi (w.heap.size + 1 + 1) _ (hHO.out.bel hb12) hne1 HL.out.2.2 hkm hmm (by (try simp); (try omega))).mono ?_
    rintro e w3 ⟨F3, rfl, ho3, hsub3, hbl3, hblk3⟩
    have hz3 := hbl3.size
    (try simp at hz3)
    have hr6 : ownB (.slice B1 (m + 1) d1) ≠ some w1.heap.size := fun e9 => by have := hlt1 _ (hne8 _ e9); omega
    have hr4 : ownB (.slice B1 (m + 1) d1) ≠ some (w.heap.size + 1) := fun e9 => by have := hg1.1 _ (hne8 _ e9); omega
    have q6 : w3.cell? ⟨w1.heap.size, 0, none⟩ = some (.slice B1 (m + 1) d1) := (World.cell?_of_block (hblk3 _ hs12 hr6)).trans j0
    have q4 : w3.cell? ⟨w.heap.size + 1, 0, none⟩ = some (.slice none 0 0) := (World.cell?_of_block (hblk3 _ ha1_w2 hr4)).trans l0
    have y6 : w3.frozen? ⟨w1.heap.size, 0, none⟩ = false := (World.frozen?_of_block (hblk3 _ hs12 hr6)).trans z6
    have y4 : w3.frozen? ⟨w.heap.size + 1, 0, none⟩ = false := (World.frozen?_of_block (hblk3 _ ha1_w2 hr4)).trans z4
    have hb3 : Below w.heap.size w w3 := hb_w2.trans (hbl3.mono (by omega))
    have hown3 : ∀ b, ownB (.slice B1 m d1) = some b → b ∈ G1 := fun b hb => hne8 b (by
      cases B1 with
      | none => simp [ownB] at hb
      | some a => cases d1 with
        | zero => simp [ownB] at hb
        | succ d => exact hb)
    have hnb : ∀ b, b ∈ ownL (.slice B1 m d1) ++ F3 → w.heap.size + 1 + 1 ≤ b ∧ b < w1.heap.size := fun b hb => by
      have hb9 : b ∈ G1 := by
        rcases List.mem_append.1 hb with hb | hb
        · exact hown3 b (mem_ownL.1 hb)
        · exact hne9 b (hsub3.subset hb)
      exact ⟨hg1.1 b hb9, hlt1 b hb9⟩
    have hndF : F3.Nodup := hsub3.nodup hFi1.2
    have HO3 := Lib.hid ho3
    clear ho3 hblk3 hr6 hr4 hbl3
    have hs13 : w1.heap.size < w3.heap.size := by omega
    have hs03 : w.heap.size + 1 < w3.heap.size := by omega
    have hn19 : ¬ w1.heap.size = w.heap.size + 1 := by omega
    have hn91 : ¬ w.heap.size + 1 = w1.heap.size := by omega
    go_wp2_with fail
    refine bodyPost_ret (v := .tuple #[.agg #[.slice B1 m d1], .bool true]) (by simp [results, Try.results41, go_sem, *]) rfl ?_
    obtain ⟨hrep, hff⟩ := HO3.out.toO (hw2 := by decide) ⟨fun b hb => (hnb b (List.mem_append_right _ hb)).1, hndF⟩ (fun g' hg' hm => hne1 g' (by
      cases B1 with
      | none => simp [ownB] at hg'
      | some a => cases d1 with
        | zero => simp [ownB] at hg'
        | succ d => exact hg') (hsub3.subset hm))
    have hfin : cCachesO.rep w3 [.slice B1 m d1] (x.caches.take k ++ x.caches.drop (k + 1)) _ := hrep
    exact ⟨_, _, rfl, (by repeat (first | with_reducible exact Below.refl _ _ | with_reducible assumption | with_reducible refine bel_alloc ?_ _ | with_reducible refine bel_drew ?_ | with_reducible refine bel_drewN ?_ _ | (with_reducible refine bel_set ?_ ?_ _; rotate_left; ((try simp); (try omega))))), TCSet.mkO (x := ⟨x.caches.take k ++ x.caches.drop (k + 1)⟩) (by repeat (first | with_reducible exact hfin | with_reducible refine Cod.allocA ?_ _ | with_reducible refine Cod.drewA ?_ | with_reducible refine Cod.drewNA ?_ _ | ((with_reducible refine Cod.setA ?_ ?_ _); rotate_left; ((intro hm9; have hm8 := hnb _ hm9; (try simp at hm8); (try omega)))))), hff.mono (by omega)⟩
theorem implDropCache_any (vs : Array Value) (x : TCSet) (F : List Nat) (v : Int) (w : World) (h : cCSet.rep w vs.toList x F) (hn : cCSet.sz x ≤ 1048576) (hv : -9223372036854775808 ≤ v ∧ v ≤ 9223372036854775807) :
    Calls Try.prog 41 #[.agg vs, .int .i64 v] w (GivesR2 cCSet w (dropCache x v).1 (.bool (dropCache x v).2)) :=
  (implDropCacheO_any vs x F v w h hn hv).mono fun e w' h => h.weak weak_cset
end Go.Proofs.Ytlicnppfgfjkgaa
