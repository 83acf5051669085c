/-
  Words, codecs and types of this seat in one text. No conditions.
-/
import Derived.Test.YtlicnppfgfjkgaaZA
import Derived.Test.YtlicnppfgfjkgaaRows
import Derived.StillTailTactics
import Derived.Deep.RegionHeld3
import Derived.Laws.CopyRow
import Derived.Lib.AppendZerosOnto
import Derived.Lib.Overlaps
import Derived.Laws.Externs
import Derived.Deep.CutRange
namespace Go.Proofs.Ytlicnppfgfjkgaa
open Go.ChangeShapes Go.WideShapes Go.RowKit
set_option linter.unusedVariables false

def dropAt (s : TCSet) (k : Int) : TCSet × Bool := if k < 0 then (s, false) else (⟨s.caches.take k.toNat ++ s.caches.drop (k.toNat + 1)⟩, true)
def dropCache (s : TCSet) (v : Int) : TCSet × Bool := dropAt s (findCache s v)

theorem GivesR2.weak {α : Type} {c d : Cod α} (k : Weak c d) {w w' : World} {x : α} {r : Value} {e : Ending} (h : GivesR2 c w x r e w') : GivesR2 d w x r e w' := by
  obtain ⟨vs, F, he, hb, hr, hf⟩ := h
  obtain ⟨G, h1, h2, -⟩ := k.fresh hr hf
  exact ⟨vs, G, he, hb, h1, h2⟩
theorem szs_app {α : Type} (c : Cod α) : ∀ xs ys : List α, c.szs (xs ++ ys) = c.szs xs + c.szs ys
  | [], ys => by simp [Cod.szs]
  | x :: xs, ys => by simp only [List.cons_append, Cod.szs, szs_app c xs ys]; omega
theorem szs_cut {α : Type} (c : Cod α) (xs : List α) (k : Nat) : c.szs (xs.take k) + c.szs (xs.drop k) = c.szs xs := by rw [← szs_app, List.take_append_drop]
theorem szs_drop {α : Type} (c : Cod α) (xs : List α) (k : Nat) : c.szs (xs.drop (k + 1)) ≤ c.szs (xs.drop k) := by
  have h := szs_cut c (xs.drop k) 1
  rw [List.drop_drop] at h
  omega
theorem dropCache_sz (s : TCSet) (v : Int) : cCSet.sz (dropCache s v).1 ≤ cCSet.sz s := by
  unfold dropCache dropAt
  split
  · exact Nat.le_refl _
  · show cCache.szs _ ≤ cCache.szs s.caches
    rw [szs_app]
    have h1 := szs_cut cCache s.caches (findCache s v).toNat
    have h2 := szs_drop cCache s.caches (findCache s v).toNat
    omega

set_option maxRecDepth 100000 in
set_option maxHeartbeats 4000000 in
theorem implDropCacheO_any (vs : Array Value) (x : TCSet) (F : List Nat) (v : Int) (w : World) (h : cCSet.rep w vs.toList x F) (hn : cCSet.sz x ≤ 1048576) (hv : -9223372036854775808 ≤ v ∧ v ≤ 9223372036854775807) :
    Calls Try.prog 41 #[.agg vs, .int .i64 v] w (GivesR2 cCSetO w (dropCache x v).1 (.bool (dropCache x v).2)) := by
  obtain ⟨i0, hi0, hz0, hz1, hz2⟩ := info_parts infoCache
  have hr := h
  obtain ⟨v0, F0, rfl, -, -, m0⟩ := TCSet.outA h
  obtain ⟨A, cp, rfl⟩ := cL_form m0
  clear h
  have HT := Lib.hid (fun k (e : findCache x v = k) => show dropCache x v = dropAt x k by unfold dropCache; rw [e])
  have hnl := cset_len hn
  rcases idxP_cases (fun c : TCache => c.ver == v) x.caches with hk | ⟨k, hkl, hk⟩
  · replace hk : findCache x v = -1 := hk
    have HE := Lib.hid (show dropCache x v = (x, false) by rw [HT.out _ hk]; rfl)
    rw [HE.out]
    go_enter Try.func41, Try.ntmps41
    go_wp2_with fail
    refine (implCopySet_any _ x _ _ (by exact Cod.bel hr (by repeat (first | with_reducible exact Below.refl _ _ | with_reducible assumption | with_reducible refine bel_alloc ?_ _ | with_reducible refine bel_drew ?_ | with_reducible refine bel_drewN ?_ _ | (with_reducible refine bel_set ?_ ?_ _; rotate_left; ((try simp); (try omega)))))) hn).mono ?_
    rintro e w1 ⟨vs1, G1, rfl, hb1, hrep1, hf1⟩
    obtain ⟨B1, d1, rfl, n1⟩ := TCSet.outO hrep1
    have hz_w1 := hb1.size
    (try simp at hz_w1)
    have ha0_w1 : w.heap.size < w1.heap.size := by omega
    have ha1_w1 : w.heap.size + 1 < w1.heap.size := by omega
    obtain ⟨hc_w1, hf_w1, -⟩ := bcell hb1
    have hb_w1 : Below w.heap.size w w1 := bel_then (by repeat (first | with_reducible exact Below.refl _ _ | with_reducible assumption | with_reducible refine bel_alloc ?_ _ | with_reducible refine bel_drew ?_ | with_reducible refine bel_drewN ?_ _ | (with_reducible refine bel_set ?_ ?_ _; rotate_left; ((try simp); (try omega))))) hb1
    have hg1 : Fresh (w.heap.size + 1 + 1) G1 := hf1.mono (by (try simp); (try omega))
    clear hb1 hf1 hrep1
    go_wp2_with fail
    refine (implFindCache_any _ x _ v _ (by exact Cod.bel hr (by repeat (first | with_reducible exact Below.refl _ _ | with_reducible assumption | with_reducible refine bel_alloc ?_ _ | with_reducible refine bel_drew ?_ | with_reducible refine bel_drewN ?_ _ | (with_reducible refine bel_set ?_ ?_ _; rotate_left; ((try simp); (try omega)))))) hn hv).mono ?_
    rw [hk]
    rintro e w2 ⟨rfl, hb2⟩
    have hb12 : Below w1.heap.size w1 w2 := bel_then (by repeat (first | with_reducible exact Below.refl _ _ | with_reducible assumption | with_reducible refine bel_alloc ?_ _ | with_reducible refine bel_drew ?_ | with_reducible refine bel_drewN ?_ _ | (with_reducible refine bel_set ?_ ?_ _; rotate_left; ((try simp); (try omega))))) hb2
    have hz_w2 := hb2.size
    (try simp at hz_w2)
    have ha0_w2 : w.heap.size < w2.heap.size := by omega
    have ha1_w2 : w.heap.size + 1 < w2.heap.size := by omega
    have ha2_w2 : w1.heap.size < w2.heap.size := by omega
    obtain ⟨hc_w2, hf_w2, -⟩ := bcell hb2
    have hb_w2 : Below w.heap.size w w2 := bel_then (by repeat (first | with_reducible exact Below.refl _ _ | with_reducible assumption | with_reducible refine bel_alloc ?_ _ | with_reducible refine bel_drew ?_ | with_reducible refine bel_drewN ?_ _ | (with_reducible refine bel_set ?_ ?_ _; rotate_left; ((try simp); (try omega))))) hb2
    have n2 := Cod.bel n1 hb12
    have hlt2 : ∀ b, b ∈ G1 → b < w1.heap.size := Cod.lt _ n1
    clear hb2 hb12 n1
    go_wp2_with fail
    refine bodyPost_ret (v := .tuple #[.agg #[.slice B1 x.caches.length d1], .bool false]) (by simp [results, Try.results41, go_sem, *]) rfl ?_
    exact ⟨_, G1, rfl, (by repeat (first | with_reducible exact Below.refl _ _ | with_reducible assumption | with_reducible refine bel_alloc ?_ _ | with_reducible refine bel_drew ?_ | with_reducible refine bel_drewN ?_ _ | (with_reducible refine bel_set ?_ ?_ _; rotate_left; ((try simp); (try omega))))), TCSet.mkO (Cod.keep2 n2 hg1 (by repeat (first | with_reducible exact Keep.refl _ _ | with_reducible assumption | with_reducible refine Keep.alloc ?_ _ | with_reducible refine Keep.drew ?_ | with_reducible refine Keep.drewN ?_ _ | (with_reducible refine Keep.set_ ?_ ?_ _; rotate_left; ((try simp); (try omega)))))), hg1.mono (by (try simp); (try omega))⟩
  · replace hk : findCache x v = k := hk
    have HE := Lib.hid (show dropCache x v = (⟨x.caches.take k ++ x.caches.drop (k + 1)⟩, true) by rw [HT.out _ hk]; unfold dropAt; rw [if_neg (by omega), Int.toNat_natCast])
    rw [HE.out]
    obtain ⟨m, hxm⟩ : ∃ m, x.caches.length = m + 1 := ⟨x.caches.length - 1, by omega⟩
    have hl1 : (x.caches.take k).length = k := by rw [List.length_take]; omega
    have hl2 : (x.caches.drop (k + 1)).length = m - k := by rw [List.length_drop]; omega
    have HL := Lib.hid (And.intro hl1 (And.intro hl2 hxm))
    clear hl1 hl2
    have hkm : k ≤ m := by omega
    have hmm : m ≤ 1048576 := by omega
    have hm9 : m + 1 ≤ 1048576 := by omega
    clear hxm
    go_enter Try.func41, Try.ntmps41
    go_wp2_with fail
    refine (implCopySet_any _ x _ _ (by exact Cod.bel hr (by repeat (first | with_reducible exact Below.refl _ _ | with_reducible assumption | with_reducible refine bel_alloc ?_ _ | with_reducible refine bel_drew ?_ | with_reducible refine bel_drewN ?_ _ | (with_reducible refine bel_set ?_ ?_ _; rotate_left; ((try simp); (try omega)))))) hn).mono ?_
    rintro e w1 ⟨vs1, G1, rfl, hb1, hrep1, hf1⟩
    obtain ⟨B1, d1, rfl, n1⟩ := TCSet.outO hrep1
    have hz_w1 := hb1.size
    (try simp at hz_w1)
    have ha0_w1 : w.heap.size < w1.heap.size := by omega
    have ha1_w1 : w.heap.size + 1 < w1.heap.size := by omega
    obtain ⟨hc_w1, hf_w1, -⟩ := bcell hb1
    have hb_w1 : Below w.heap.size w w1 := bel_then (by repeat (first | with_reducible exact Below.refl _ _ | with_reducible assumption | with_reducible refine bel_alloc ?_ _ | with_reducible refine bel_drew ?_ | with_reducible refine bel_drewN ?_ _ | (with_reducible refine bel_set ?_ ?_ _; rotate_left; ((try simp); (try omega))))) hb1
    have hg1 : Fresh (w.heap.size + 1 + 1) G1 := hf1.mono (by (try simp); (try omega))
    have hlt1 : ∀ b, b ∈ G1 → b < w1.heap.size := Cod.lt _ n1
    clear hb1 hf1 hrep1
    rw [HL.out.2.2] at n1 ⊢
    obtain ⟨Fi, hGF, hown1, hFi1, hne1, hBg1⟩ := cO_own n1 hg1
    have hne9 : ∀ b, b ∈ Fi → b ∈ G1 := fun b hb => by rw [hGF]; exact List.mem_append_right _ hb
    have hne8 : ∀ b, ownB (.slice B1 (m + 1) d1) = some b → b ∈ G1 := fun b hb => by rw [hGF]; exact List.mem_append_left _ (mem_ownL.2 hb)
    have hHO := Lib.hid hown1
    clear hown1 n1 hGF
    go_wp2_with fail
    refine (implFindCache_any _ x _ v _ (by exact Cod.bel hr (by repeat (first | with_reducible exact Below.refl _ _ | with_reducible assumption | with_reducible refine bel_alloc ?_ _ | with_reducible refine bel_drew ?_ | with_reducible refine bel_drewN ?_ _ | (with_reducible refine bel_set ?_ ?_ _; rotate_left; ((try simp); (try omega)))))) hn hv).mono ?_
    rw [hk]
    rintro e w2 ⟨rfl, hb2⟩
    have hb12 : Below w1.heap.size w1 w2 := bel_then (by repeat (first | with_reducible exact Below.refl _ _ | with_reducible assumption | with_reducible refine bel_alloc ?_ _ | with_reducible refine bel_drew ?_ | with_reducible refine bel_drewN ?_ _ | (with_reducible refine bel_set ?_ ?_ _; rotate_left; ((try simp); (try omega))))) hb2
    have hz_w2 := hb2.size
    (try simp at hz_w2)
    have ha0_w2 : w.heap.size < w2.heap.size := by omega
    have ha1_w2 : w.heap.size + 1 < w2.heap.size := by omega
    have ha2_w2 : w1.heap.size < w2.heap.size := by omega
    obtain ⟨hc_w2, hf_w2, -⟩ := bcell hb2
    have hb_w2 : Below w.heap.size w w2 := bel_then (by repeat (first | with_reducible exact Below.refl _ _ | with_reducible assumption | with_reducible refine bel_alloc ?_ _ | with_reducible refine bel_drew ?_ | with_reducible refine bel_drewN ?_ _ | (with_reducible refine bel_set ?_ ?_ _; rotate_left; ((try simp); (try omega))))) hb2
    have j0 : w2.cell? ⟨w1.heap.size, 0, none⟩ = some (.slice B1 (m + 1) d1) := by go_simp
    have l0 : w2.cell? ⟨w.heap.size + 1, 0, none⟩ = some (.slice none 0 0) := by go_simp
    have z6 : w2.frozen? ⟨w1.heap.size, 0, none⟩ = false := by go_simp
    have z4 : w2.frozen? ⟨w.heap.size + 1, 0, none⟩ = false := by go_simp
    have hs12 : w1.heap.size < w2.heap.size := by omega
    clear hb2 hc_w1 hf_w1 hc_w2 hf_w2
    have hki : ((k : Int) + 1 ≤ (m : Int) + 1) := by omega
    have hk0 : (0 : Int) ≤ (k : Int) + 1 := by omega
    go_wp2_with fail
    refine (deleteCache_any B1 m d1 k x.caches Fi (w.heap.size + 1 + 1) _ (hHO.out.bel hb12) hne1 HL.out.2.2 hkm hmm (by (try simp); (try omega))).mono ?_
    rintro e w3 ⟨F3, rfl, ho3, hsub3, hbl3, hblk3⟩
    have hz3 := hbl3.size
    (try simp at hz3)
    have hr6 : ownB (.slice B1 (m + 1) d1) ≠ some w1.heap.size := fun e9 => by have := hlt1 _ (hne8 _ e9); omega
    have hr4 : ownB (.slice B1 (m + 1) d1) ≠ some (w.heap.size + 1) := fun e9 => by have := hg1.1 _ (hne8 _ e9); omega
    have q6 : w3.cell? ⟨w1.heap.size, 0, none⟩ = some (.slice B1 (m + 1) d1) := (World.cell?_of_block (hblk3 _ hs12 hr6)).trans j0
    have q4 : w3.cell? ⟨w.heap.size + 1, 0, none⟩ = some (.slice none 0 0) := (World.cell?_of_block (hblk3 _ ha1_w2 hr4)).trans l0
    have y6 : w3.frozen? ⟨w1.heap.size, 0, none⟩ = false := (World.frozen?_of_block (hblk3 _ hs12 hr6)).trans z6
    have y4 : w3.frozen? ⟨w.heap.size + 1, 0, none⟩ = false := (World.frozen?_of_block (hblk3 _ ha1_w2 hr4)).trans z4
    have hb3 : Below w.heap.size w w3 := hb_w2.trans (hbl3.mono (by omega))
    have hown3 : ∀ b, ownB (.slice B1 m d1) = some b → b ∈ G1 := fun b hb => hne8 b (by
      cases B1 with
      | none => simp [ownB] at hb
      | some a => cases d1 with
        | zero => simp [ownB] at hb
        | succ d => exact hb)
    have hnb : ∀ b, b ∈ ownL (.slice B1 m d1) ++ F3 → w.heap.size + 1 + 1 ≤ b ∧ b < w1.heap.size := fun b hb => by
      have hb9 : b ∈ G1 := by
        rcases List.mem_append.1 hb with hb | hb
        · exact hown3 b (mem_ownL.1 hb)
        · exact hne9 b (hsub3.subset hb)
      exact ⟨hg1.1 b hb9, hlt1 b hb9⟩
    have hndF : F3.Nodup := hsub3.nodup hFi1.2
    have HO3 := Lib.hid ho3
    clear ho3 hblk3 hr6 hr4 hbl3
    have hs13 : w1.heap.size < w3.heap.size := by omega
    have hs03 : w.heap.size + 1 < w3.heap.size := by omega
    have hn19 : ¬ w1.heap.size = w.heap.size + 1 := by omega
    have hn91 : ¬ w.heap.size + 1 = w1.heap.size := by omega
    go_wp2_with fail
    refine bodyPost_ret (v := .tuple #[.agg #[.slice B1 m d1], .bool true]) (by simp [results, Try.results41, go_sem, *]) rfl ?_
    obtain ⟨hrep, hff⟩ := HO3.out.toO (hw2 := by decide) ⟨fun b hb => (hnb b (List.mem_append_right _ hb)).1, hndF⟩ (fun g' hg' hm => hne1 g' (by
      cases B1 with
      | none => simp [ownB] at hg'
      | some a => cases d1 with
        | zero => simp [ownB] at hg'
        | succ d => exact hg') (hsub3.subset hm))
    have hfin : cCachesO.rep w3 [.slice B1 m d1] (x.caches.take k ++ x.caches.drop (k + 1)) _ := hrep
    exact ⟨_, _, rfl, (by repeat (first | with_reducible exact Below.refl _ _ | with_reducible assumption | with_reducible refine bel_alloc ?_ _ | with_reducible refine bel_drew ?_ | with_reducible refine bel_drewN ?_ _ | (with_reducible refine bel_set ?_ ?_ _; rotate_left; ((try simp); (try omega))))), TCSet.mkO (x := ⟨x.caches.take k ++ x.caches.drop (k + 1)⟩) (by repeat (first | with_reducible exact hfin | with_reducible refine Cod.allocA ?_ _ | with_reducible refine Cod.drewA ?_ | with_reducible refine Cod.drewNA ?_ _ | ((with_reducible refine Cod.setA ?_ ?_ _); rotate_left; ((intro hm9; have hm8 := hnb _ hm9; (try simp at hm8); (try omega)))))), hff.mono (by omega)⟩
theorem implDropCache_any (vs : Array Value) (x : TCSet) (F : List Nat) (v : Int) (w : World) (h : cCSet.rep w vs.toList x F) (hn : cCSet.sz x ≤ 1048576) (hv : -9223372036854775808 ≤ v ∧ v ≤ 9223372036854775807) :
    Calls Try.prog 41 #[.agg vs, .int .i64 v] w (GivesR2 cCSet w (dropCache x v).1 (.bool (dropCache x v).2)) :=
  (implDropCacheO_any vs x F v w h hn hv).mono fun e w' h => h.weak weak_cset
end Go.Proofs.Ytlicnppfgfjkgaa
namespace Go.Proofs.Ytlicnppfgfjkgaa

/-- n lies from lo to hi -/
def inR (n lo hi : Int) : Bool := decide (lo ≤ n) && decide (n ≤ hi)
theorem inR_true {n lo hi : Int} (h : inR n lo hi = true) : lo ≤ n ∧ n ≤ hi := by simpa [inR] using h
theorem inR_false {n lo hi : Int} (h : inR n lo hi = false) : n < lo ∨ hi < n := by
  simp [inR] at h; omega
theorem inR_mk {n lo hi : Int} (h1 : lo ≤ n) (h2 : n ≤ hi) : inR n lo hi = true := by simp [inR, h1, h2]
theorem inR_low {n lo hi : Int} (h : n < lo) : inR n lo hi = false := by simp [inR]; omega
theorem inR_high {n lo hi : Int} (h : hi < n) : inR n lo hi = false := by simp [inR]; omega

/-- a letter from a to z -/
def isLow (c : UInt8) : Bool := decide (97 ≤ (c.toNat : Int)) && decide ((c.toNat : Int) ≤ 122)
/-- the first k bytes are letters -/
def lowTo (s : ByteArray) (k : Nat) : Bool := (s.data.toList.take k).all isLow
theorem lowTo_zero (s : ByteArray) : lowTo s 0 = true := by simp [lowTo]
theorem lowTo_succ (s : ByteArray) (k : Nat) (h : k < s.size) : lowTo s (k + 1) = (lowTo s k && isLow s[k]) := by
  have e : s.data.toList.take (k + 1) = s.data.toList.take k ++ [s[k]] := by
    rw [List.take_succ_eq_append_getElem (by simpa using h)]; rfl
  unfold lowTo
  rw [e, List.all_append]; simp
theorem lowTo_le (s : ByteArray) {j k : Nat} (hjk : j ≤ k) (h : lowTo s j = false) : lowTo s k = false := by
  unfold lowTo at h ⊢
  cases hk : (s.data.toList.take k).all isLow with
  | false => rfl
  | true =>
    have : (s.data.toList.take j).all isLow = true := by
      rw [List.all_eq_true] at hk ⊢
      intro x hx
      refine hk x ?_
      have : s.data.toList.take j = (s.data.toList.take k).take j := by rw [List.take_take, Nat.min_eq_left hjk]
      rw [this] at hx
      exact List.mem_of_mem_take hx
    rw [this] at h; cases h

/-- up to most letters, at least one -/
def isWord (s : ByteArray) (most : Int) : Bool := lowTo s s.size && inR s.size 1 most
def isName (s : ByteArray) : Bool := isWord s 8
theorem isWord_bad {s : ByteArray} {most : Int} {k : Nat} (h : k < s.size) (hb : isLow s[k] = false) : isWord s most = false := by
  have : lowTo s (k + 1) = false := by rw [lowTo_succ s k h, hb]; simp
  unfold isWord
  rw [lowTo_le s (by omega) this]; rfl
theorem isWord_end {s : ByteArray} {most : Int} (h : lowTo s s.size = true) : isWord s most = inR s.size 1 most := by
  unfold isWord; rw [h]; rfl
theorem isLow_lt {c : UInt8} (h : (c.toNat : Int) < 97) : isLow c = false := by simp [isLow]; omega
theorem isLow_gt {c : UInt8} (h : (122 : Int) < c.toNat) : isLow c = false := by simp [isLow]; omega
theorem isLow_mk {c : UInt8} (h1 : (97 : Int) ≤ c.toNat) (h2 : (c.toNat : Int) ≤ 122) : isLow c = true := by simp [isLow]; omega
theorem isName_size {s : ByteArray} (h : isName s = true) : 1 ≤ s.size ∧ s.size ≤ 8 := by
  unfold isName isWord at h
  rw [Bool.and_eq_true] at h
  have := inR_true h.2
  omega
end Go.Proofs.Ytlicnppfgfjkgaa
namespace Go.Proofs.Ytlicnppfgfjkgaa
open Go.RowKit

theorem inRange_any (n lo hi : Int) (w : World) : Calls Try.prog 66 #[.int .i64 n, .int .i64 lo, .int .i64 hi] w fun e w' => e = .returned (.bool (inR n lo hi)) ∧ w = w' := by
  go_enter Try.func66, Try.ntmps66
  go_wp2
  all_goals go_ret
  all_goals refine ⟨ret_bool ?_, rfl⟩
  all_goals (rw [Bool.eq_iff_iff]; simp [inR]; try omega)
theorem l1In_any (n lo hi : Int) (w : World) : Calls Try.prog 83 #[.int .i64 n, .int .i64 lo, .int .i64 hi] w fun e w' => e = .returned (.bool (inR n lo hi)) ∧ w = w' := by
  go_enter Try.func83, Try.ntmps83
  go_wp2
  all_goals go_ret
  all_goals refine ⟨ret_bool ?_, rfl⟩
  all_goals (rw [Bool.eq_iff_iff]; simp [inR]; try omega)

set_option maxHeartbeats 400000 in
theorem isWord_any (s : ByteArray) (most : Int) (w : World) (hs : s.size ≤ maxLen) :
    Calls Try.prog 129 #[.string s, .int .i64 most, .bool false] w fun e w' => e = .returned (.bool (isWord s most)) ∧ w = w' := by
  unfold maxLen at hs
  go_enter Try.func129, Try.ntmps129
  go_wp2
  go_loop [7] (fun i => ∃ k : Nat, k ≤ s.size ∧ i = .int .i64 k ∧ lowTo s k = true) (fun i => s.size - (intOf i).toNat)
  case atStart => exact ⟨0, Nat.zero_le _, rfl, lowTo_zero s⟩
  case round =>
    obtain ⟨k, hk, rfl, hl⟩ := hrel
    have HL := Lib.hid hl
    clear hl
    by_cases hlt : k < s.size
    · have HS := Lib.hid (lowTo_succ s k hlt)
      by_cases c1 : (s[k].toNat : Int) < 97
      · go_wp2_with (first | (go_at_call 66; refine (inRange_any _ _ _ _).mono ?_; rintro e w1 ⟨rfl, rfl⟩))
        go_ret
        exact ⟨ret_bool (isWord_bad hlt (isLow_lt c1)).symm, rfl⟩
      · by_cases c2 : (122 : Int) < s[k].toNat
        · have c3 : (97 : Int) ≤ s[k].toNat := by omega
          have c5 : decide ((s[k].toNat : Int) ≤ 122) = false := by simp; omega
          go_wp2_with (first | (go_at_call 66; refine (inRange_any _ _ _ _).mono ?_; rintro e w1 ⟨rfl, rfl⟩))
          go_ret
          exact ⟨ret_bool (isWord_bad hlt (isLow_gt c2)).symm, rfl⟩
        · have c3 : (97 : Int) ≤ s[k].toNat := by omega
          have c4 : (s[k].toNat : Int) ≤ 122 := by omega
          go_wp2_with (first | (go_at_call 66; refine (inRange_any _ _ _ _).mono ?_; rintro e w1 ⟨rfl, rfl⟩))
          go_round
          case rel => exact ⟨k + 1, by omega, by go_num, by rw [HS.out, HL.out, isLow_mk c3 c4]; rfl⟩
          case measure => simp [intOf]; omega
    · obtain rfl : k = s.size := by omega
      go_wp2_with (first | (go_at_call 66; refine (inRange_any _ _ _ _).mono ?_; rintro e w1 ⟨rfl, rfl⟩))
      go_ret
      exact ⟨ret_bool (isWord_end HL.out).symm, rfl⟩
theorem implName_any (s : ByteArray) (w : World) (hs : s.size ≤ maxLen) : Calls Try.prog 74 #[.string s] w fun e w' => e = .returned (.bool (isName s)) ∧ w = w' := by
  go_enter Try.func74, Try.ntmps74
  go_wp2_with (first | (go_at_call 129; refine (isWord_any _ _ _ hs).mono ?_; rintro e w1 ⟨rfl, rfl⟩))
  go_ret
  exact ⟨rfl, rfl⟩
set_option maxHeartbeats 400000 in
theorem specName_any (s : ByteArray) (w : World) (hs : s.size ≤ maxLen) : Calls Try.prog 126 #[.string s] w fun e w' => e = .returned (.bool (isName s)) ∧ w = w' := by
  unfold maxLen at hs
  go_enter Try.func126, Try.ntmps126
  go_wp2
  go_loop [3] (fun i => ∃ k : Nat, k ≤ s.size ∧ i = .int .i64 k ∧ lowTo s k = true) (fun i => s.size - (intOf i).toNat)
  case atStart => exact ⟨0, Nat.zero_le _, rfl, lowTo_zero s⟩
  case round =>
    obtain ⟨k, hk, rfl, hl⟩ := hrel
    have HL := Lib.hid hl
    clear hl
    by_cases hlt : k < s.size
    · have HS := Lib.hid (lowTo_succ s k hlt)
      by_cases c1 : (s[k].toNat : Int) < 97
      · go_wp2
        go_ret
        exact ⟨ret_bool (isWord_bad hlt (isLow_lt c1)).symm, rfl⟩
      · by_cases c2 : (122 : Int) < s[k].toNat
        · have c3 : (97 : Int) ≤ s[k].toNat := by omega
          go_wp2
          go_ret
          exact ⟨ret_bool (isWord_bad hlt (isLow_gt c2)).symm, rfl⟩
        · have c3 : (97 : Int) ≤ s[k].toNat := by omega
          have c4 : (s[k].toNat : Int) ≤ 122 := by omega
          go_wp2
          go_round
          case rel => exact ⟨k + 1, by omega, by go_num, by rw [HS.out, HL.out, isLow_mk c3 c4]; rfl⟩
          case measure => simp [intOf]; omega
    · obtain rfl : k = s.size := by omega
      go_wp2_with (first | (go_at_call 83; refine (l1In_any _ _ _ _).mono ?_; rintro e w1 ⟨rfl, rfl⟩))
      go_ret
      exact ⟨ret_bool (isWord_end HL.out).symm, rfl⟩
end Go.Proofs.Ytlicnppfgfjkgaa
namespace Go.Proofs.Ytlicnppfgfjkgaa
open Go.ChangeShapes Go.WideShapes Go.RowKit
set_option linter.unusedVariables false

def isResponse (x : TResp) : Bool := inR x.type 1 4 && inR x.status 0 999 && inR x.ver 0 1000000000000 && decide ((x.body.length : Int) ≤ 60)
set_option maxHeartbeats 1000000 in
theorem implIsResponseN_any (vs : Array Value) (x : TResp) (F : List Nat) (w : World) (h : cResp.rep w vs.toList x F) : Calls Try.prog 103 #[.agg vs] w (Gives w (.bool (isResponse x))) := by
  obtain ⟨v3, F3, rfl, -, -, m3⟩ := TResp.outA h
  obtain ⟨A3, c3, rfl⟩ := cL_form m3
  clear m3 h
  go_enter Try.func103, Try.ntmps103
  go_wp2_with (first | (go_at_call 66; refine (inRange_any _ _ _ _).mono ?_; rintro e w1 ⟨rfl, rfl⟩))
  all_goals go_ret
  all_goals exact ⟨ret_bool (by simp [isResponse, *]), (by repeat (first | with_reducible exact Below.refl _ _ | with_reducible assumption | with_reducible refine bel_alloc ?_ _ | with_reducible refine bel_drew ?_ | with_reducible refine bel_drewN ?_ _ | (with_reducible refine bel_set ?_ ?_ _; rotate_left; ((try simp); (try omega)))))⟩
theorem implIsResponse_any (vs : Array Value) (x : TResp) (F : List Nat) (w : World) (h : cResp.rep w vs.toList x F) (hn : cResp.sz x ≤ 1048576) : Calls Try.prog 103 #[.agg vs] w (Gives w (.bool (isResponse x))) := implIsResponseN_any vs x F w h
set_option maxHeartbeats 1000000 in
theorem specIsResponseN_any (vs : Array Value) (x : TResp) (F : List Nat) (w : World) (h : cResp.rep w vs.toList x F) : Calls Try.prog 163 #[.agg vs] w (Gives w (.bool (isResponse x))) := by
  obtain ⟨v3, F3, rfl, -, -, m3⟩ := TResp.outA h
  obtain ⟨A3, c3, rfl⟩ := cL_form m3
  clear m3 h
  go_enter Try.func163, Try.ntmps163
  go_wp2_with (first | (go_at_call 83; refine (l1In_any _ _ _ _).mono ?_; rintro e w1 ⟨rfl, rfl⟩))
  all_goals go_ret
  all_goals exact ⟨ret_bool (by simp [isResponse, *]), (by repeat (first | with_reducible exact Below.refl _ _ | with_reducible assumption | with_reducible refine bel_alloc ?_ _ | with_reducible refine bel_drew ?_ | with_reducible refine bel_drewN ?_ _ | (with_reducible refine bel_set ?_ ?_ _; rotate_left; ((try simp); (try omega)))))⟩
theorem specIsResponse_any (vs : Array Value) (x : TResp) (F : List Nat) (w : World) (h : cResp.rep w vs.toList x F) (hn : cResp.sz x ≤ 1048576) : Calls Try.prog 163 #[.agg vs] w (Gives w (.bool (isResponse x))) := specIsResponseN_any vs x F w h

def storedSize (x : TResp) (hidden : Bool) : Int := bif hidden then 76 else 16 + x.body.length
set_option maxHeartbeats 1000000 in
theorem implStoredSize_any (vs : Array Value) (x : TResp) (F : List Nat) (hidden : Bool) (w : World) (h : cResp.rep w vs.toList x F) (hn : cResp.sz x ≤ 1048576) : Calls Try.prog 104 #[.agg vs, .bool hidden] w (Gives w (.int .i64 (storedSize x hidden))) := by
  have hl : x.body.length ≤ 1048576 := Nat.le_trans (Cod.len_le cU x.body) (by have : cResp.sz x = 0 + (0 + (0 + (cU.szs x.body + 0))) := rfl; omega)
  obtain ⟨v3, F3, rfl, -, -, m3⟩ := TResp.outA h
  obtain ⟨A3, c3, rfl⟩ := cL_form m3
  clear m3 h
  cases hidden
  all_goals
    go_enter Try.func104, Try.ntmps104
    go_wp2
    go_ret
    exact ⟨ret_int (by simp [storedSize]), (by repeat (first | with_reducible exact Below.refl _ _ | with_reducible assumption | with_reducible refine bel_alloc ?_ _ | with_reducible refine bel_drew ?_ | with_reducible refine bel_drewN ?_ _ | (with_reducible refine bel_set ?_ ?_ _; rotate_left; ((try simp); (try omega)))))⟩
end Go.Proofs.Ytlicnppfgfjkgaa
namespace Go.Proofs.Ytlicnppfgfjkgaa

def allTo (p : Nat → Bool) (k : Nat) : Bool := (List.range k).all p
theorem allTo_zero (p : Nat → Bool) : allTo p 0 = true := rfl
theorem allTo_succ (p : Nat → Bool) (k : Nat) : allTo p (k + 1) = (allTo p k && p k) := by simp [allTo, List.range_succ]
theorem allTo_bad {p : Nat → Bool} {k n : Nat} (h : k < n) (hp : p k = false) : allTo p n = false := by
  cases hn : allTo p n with
  | false => rfl
  | true =>
    unfold allTo at hn
    rw [List.all_eq_true] at hn
    have := hn k (by simpa using h)
    rw [hp] at this; cases this
theorem allTo_get {p : Nat → Bool} {k n : Nat} (h : allTo p n = true) (hk : k < n) : p k = true := by
  unfold allTo at h
  rw [List.all_eq_true] at h
  exact h k (by simpa using hk)
theorem allTo_congr {p q : Nat → Bool} {n : Nat} (h : ∀ k, k < n → p k = q k) : allTo p n = allTo q n := by
  unfold allTo
  rw [Bool.eq_iff_iff, List.all_eq_true, List.all_eq_true]
  constructor
  · intro a x hx; rw [← h x (by simpa using hx)]; exact a x hx
  · intro a x hx; rw [h x (by simpa using hx)]; exact a x hx
theorem allTo_intro {p : Nat → Bool} {n : Nat} (h : ∀ k, k < n → p k = true) : allTo p n = true := by
  unfold allTo
  rw [List.all_eq_true]
  intro x hx; exact h x (by simpa using hx)

/-- texts in the order of their bytes -/
def strLess (a b : ByteArray) : Bool := Op.bytesLess a.toList b.toList
theorem bytesLess_turn : ∀ x y : List UInt8, (Op.bytesLess x y || x == y) = !Op.bytesLess y x
  | [], [] => by simp [Op.bytesLess]
  | [], y :: ys => by simp [Op.bytesLess]
  | x :: xs, [] => by simp [Op.bytesLess]
  | x :: xs, y :: ys => by
    have ih := bytesLess_turn xs ys
    simp only [Op.bytesLess]
    rcases Nat.lt_trichotomy x.toNat y.toNat with h | h | h
    · have h1 : x < y := UInt8.lt_iff_toNat_lt.2 h
      have h2 : ¬ y < x := fun e => by have := UInt8.lt_iff_toNat_lt.1 e; omega
      have h3 : (y == x) = false := by simp; intro e; subst e; omega
      simp [h1, h2, h3]
    · obtain rfl : x = y := UInt8.toNat_inj.1 h
      have h1 : ¬ x < x := fun e => by have := UInt8.lt_iff_toNat_lt.1 e; omega
      simp [h1, ih]
    · have h1 : y < x := UInt8.lt_iff_toNat_lt.2 h
      have h2 : ¬ x < y := fun e => by have := UInt8.lt_iff_toNat_lt.1 e; omega
      have h3 : (x == y) = false := by simp; intro e; subst e; omega
      simp [h1, h2, h3]
theorem strLess_turn (a b : ByteArray) : (Op.bytesLess a.toList b.toList || a.toList == b.toList) = !strLess b a := bytesLess_turn _ _
end Go.Proofs.Ytlicnppfgfjkgaa
namespace Go.Proofs.Ytlicnppfgfjkgaa
open Go.ChangeShapes Go.WideShapes Go.RowKit
set_option linter.unusedVariables false

theorem idxP_none {α : Type} (p : α → Bool) : ∀ (xs : List α) (k : Nat), idxP p xs = k → noneTo p xs k = true
  | [], k, h => by (have h9 : (-1 : Int) = k := h); omega
  | x :: xs, 0, _ => noneTo_zero _ _
  | x :: xs, k + 1, h => by
    cases hp : p x
    · have e : idxP p (x :: xs) = if idxP p xs < 0 then -1 else idxP p xs + 1 := by simp [idxP, hp]
      rw [e] at h
      split at h
      · omega
      · have := idxP_none p xs k (by omega)
        unfold noneTo at this ⊢
        simp [hp, this]
    · have e : idxP p (x :: xs) = 0 := by simp [idxP, hp]
      rw [e] at h; omega
theorem idxP_is {α : Type} (p : α → Bool) (xs : List α) (k : Nat) (h : k < xs.length) (hp : p xs[k] = true) : (idxP p xs != k) = !noneTo p xs k := by
  cases hn : noneTo p xs k
  · have : idxP p xs ≠ k := fun e => by rw [idxP_none p xs k e] at hn; cases hn
    simpa using this
  · simp [idxP_hit p xs k h hn hp]
theorem sameEntry_refl (e : TCached) : sameEntry e e.site e.path = true := by simp [sameEntry, strEq]
def entryOk (es : List TCached) (k : Nat) : Bool :=
  match es[k]? with
  | some e => isName e.site && isName e.path && noneTo (fun y => sameEntry y e.site e.path) es k && isResponse e.resp
  | none => false
theorem entryOk_at {es : List TCached} {k : Nat} (h : k < es.length) : entryOk es k = (isName es[k].site && isName es[k].path && noneTo (fun y => sameEntry y es[k].site es[k].path) es k && isResponse es[k].resp) := by
  unfold entryOk; rw [List.getElem?_eq_getElem h]
def entriesOk (es : List TCached) : Bool := decide ((es.length : Int) ≤ 12) && allTo (entryOk es) es.length
def cacheOk (cs : List TCache) (k : Nat) : Bool :=
  match cs[k]? with
  | some c => inR c.ver 1 1000000000000 && (k == 0 || match cs[k - 1]? with | some d => decide (d.ver < c.ver) | none => false) && entriesOk c.entries
  | none => false
theorem cacheOk_zero {cs : List TCache} (h : 0 < cs.length) : cacheOk cs 0 = (inR cs[0].ver 1 1000000000000 && entriesOk cs[0].entries) := by
  unfold cacheOk; rw [List.getElem?_eq_getElem h]; simp
theorem cacheOk_succ {cs : List TCache} {k : Nat} (h : k + 1 < cs.length) (h1 : k < cs.length) : cacheOk cs (k + 1) = (inR cs[k + 1].ver 1 1000000000000 && decide (cs[k].ver < cs[k + 1].ver) && entriesOk cs[k + 1].entries) := by
  unfold cacheOk; rw [List.getElem?_eq_getElem h]; simp [List.getElem?_eq_getElem h1]
theorem cacheOk_range {cs : List TCache} {k : Nat} (h : k < cs.length) (hr : inR cs[k].ver 1 1000000000000 = false) : cacheOk cs k = false := by
  unfold cacheOk; rw [List.getElem?_eq_getElem h]; simp [hr]
theorem cacheOk_entries {cs : List TCache} {k : Nat} (h : k < cs.length) (hr : entriesOk cs[k].entries = false) : cacheOk cs k = false := by
  unfold cacheOk; rw [List.getElem?_eq_getElem h]; simp [hr]
def isCacheSet (s : TCSet) : Bool := allTo (cacheOk s.caches) s.caches.length && decide ((s.caches.length : Int) ≤ 4)
end Go.Proofs.Ytlicnppfgfjkgaa
namespace Go.Proofs.Ytlicnppfgfjkgaa
section
variable {P : Program} {ops : Array Oper} {Q : Exit → Act → World → Prop} {md : Region.Mode} {S : World → Prop}

theorem take_skip {i : Nat} (d : Tmp) {oi : Oper} {fuel : Nat} {listed : Array Bool} {a : Act} {w : World} (hi : ops[i]? = some oi) (hd : oi.dst = some d)
    (hs : Region.noSelect ops = true) (hf : Region.free md ops listed i = true) (hr : (Region.ready md ops listed).contains i = true)
    (hQ : ∀ c a w, Q (.panic c) (a.put (some d) undef) w → Q (.panic c) a w) (hw : Region.wanted oi (yielded ops a.tmps) = false) (hS : S w)
    (h : wpAnyH P md ops Q S fuel (listed.setIfInBounds i true) (a.put (some d) undef) w) : wpAnyH P md ops Q S (fuel + 1) listed a w :=
  wpAnyH_take hi hs hf hr (by rw [hd]; exact hQ) (Or.inr ⟨hw, rfl⟩) hS (by rw [hd]; exact h)
theorem take_read {i : Nat} (d : Tmp) {oi : Oper} {v : Value} {fuel : Nat} {listed : Array Bool} {a : Act} {w : World} (hi : ops[i]? = some oi) (hd : oi.dst = some d)
    (hs : Region.noSelect ops = true) (hf : Region.free md ops listed i = true) (hr : (Region.ready md ops listed).contains i = true)
    (hQ : ∀ c a w, Q (.panic c) (a.put (some d) v) w → Q (.panic c) a w) (hw : Region.wanted oi (yielded ops a.tmps) = true)
    (hy : ∀ w, S w → (execOp a.eval oi).run P w = .ok (.value v) w) (hS : S w)
    (h : wpAnyH P md ops Q S fuel (listed.setIfInBounds i true) (a.put (some d) v) w) : wpAnyH P md ops Q S (fuel + 1) listed a w :=
  wpAnyH_take hi hs hf hr (by rw [hd]; exact hQ) (Or.inl ⟨hw, hy⟩) hS (by rw [hd]; exact h)
end
end Go.Proofs.Ytlicnppfgfjkgaa
namespace Go.Proofs.Ytlicnppfgfjkgaa
open Go.ChangeShapes Go.WideShapes Go.RowKit
set_option linter.unusedVariables false

set_option maxRecDepth 100000 in
set_option maxHeartbeats 4000000 in
theorem specEntries_any (v : Value) (es : List TCached) (F : List Nat) (w : World) (h : cCachedS.rep w [v] es F) :
    Calls Try.prog 142 #[v] w (Gives w (.bool (entriesOk es))) := by
  obtain ⟨A, cp, rfl⟩ := cL_form h
  obtain ⟨-, hcp, hm⟩ := cL_len h
  have HE := Lib.hid (show entriesOk es = (decide ((es.length : Int) ≤ 12) && allTo (entryOk es) es.length) from rfl)
  obtain ⟨n, hxn⟩ : ∃ n, es.length = n := ⟨_, rfl⟩
  have HN := Lib.hid hxn
  rw [hxn] at hcp ⊢
  clear hxn
  unfold maxLen at hm
  go_enter Try.func142, Try.ntmps142
  go_wp2
  go_loopw [3] (fun i wr => ∃ k : Nat, k ≤ n ∧ i = .int .i64 k ∧ allTo (entryOk es) k = true ∧ Below w.heap.size w wr) (fun i _ => n - (intOf i).toNat)
  case atStart => exact ⟨0, Nat.zero_le _, rfl, allTo_zero _, Below.refl _ _⟩
  case round =>
    obtain ⟨k, hk, rfl, hno, hB⟩ := hrel
    have HO := Lib.hid hno
    clear hno
    by_cases hlt : k < n
    · have hkx : k < es.length := by rw [HN.out]; exact hlt
      obtain ⟨g, o, vs, F1, rfl, hgF, hx, -, hc⟩ := cL_get (hw := by decide) (hw2 := by decide) h hkx
      obtain ⟨v5, F4, rfl, -, hok5, m5⟩ := TCached.out hx
      obtain ⟨A5, c5, e5'⟩ := cL_form m5
      subst e5'
      have hgw : g < w.heap.size := Cod.lt _ h g hgF
      have q0 := (hB.cell (p := ⟨g, o + k * 7, none⟩) hgw).trans ((hc 0 _ rfl).1)
      have q1 := (hB.cell (p := ⟨g, o + k * 7 + 1, none⟩) hgw).trans ((hc 1 _ rfl).1)
      have q2 := (hB.cell (p := ⟨g, o + k * 7 + 2, none⟩) hgw).trans ((hc 2 _ rfl).1)
      have q3 := (hB.cell (p := ⟨g, o + k * 7 + 3, none⟩) hgw).trans ((hc 3 _ rfl).1)
      have q4 := (hB.cell (p := ⟨g, o + k * 7 + 4, none⟩) hgw).trans ((hc 4 _ rfl).1)
      have q5 := (hB.cell (p := ⟨g, o + k * 7 + 5, none⟩) hgw).trans ((hc 5 _ rfl).1)
      have q6 := (hB.cell (p := ⟨g, o + k * 7 + 6, none⟩) hgw).trans ((hc 6 _ rfl).1)
      have hs1 := hok5.h0
      have hs2 := hok5.h1
      have hokr : es[k].resp.Ok := ⟨hok5.h2, hok5.h3, hok5.h4⟩
      have hgr : g < wr.heap.size := Nat.lt_of_lt_of_le hgw hB.size
      have hki : ((k : Int) < (n : Int)) := by omega
      have HK := Lib.hid (entryOk_at hkx)
      clear hx
      obtain ⟨wo, rfl⟩ : ∃ wo : World, wo = wr := ⟨_, rfl⟩
      cases e1 : (isName es[k].site)
      · have HB := Lib.hid (show entriesOk es = false by rw [HE.out, allTo_bad hkx (by rw [HK.out]; simp [*])]; simp)
        go_wp2_with (first | (go_at_call 126; refine (specName_any _ _ (by assumption)).mono ?_; rintro e w1 ⟨rfl, rfl⟩) | (go_at_call 163; refine (specIsResponseN_any _ es[k].resp _ _ (by exact TResp.mk_ hokr (Cod.bel m5 (by repeat (first | with_reducible exact Below.refl _ _ | with_reducible assumption | with_reducible refine bel_alloc ?_ _ | with_reducible refine bel_drew ?_ | with_reducible refine bel_drewN ?_ _ | (with_reducible refine bel_set ?_ ?_ _; rotate_left; ((try simp); (try omega)))))))).mono ?_; rintro e w1 ⟨rfl, hb1⟩; have hB1 : Below w.heap.size w w1 := bel_then (by repeat (first | with_reducible exact Below.refl _ _ | with_reducible assumption | with_reducible refine bel_alloc ?_ _ | with_reducible refine bel_drew ?_ | with_reducible refine bel_drewN ?_ _ | (with_reducible refine bel_set ?_ ?_ _; rotate_left; ((try simp); (try omega))))) hb1; clear hb1))
        go_ret
        exact ⟨ret_bool HB.out.symm, (by repeat (first | with_reducible exact Below.refl _ _ | with_reducible assumption | with_reducible refine bel_alloc ?_ _ | with_reducible refine bel_drew ?_ | with_reducible refine bel_drewN ?_ _ | (with_reducible refine bel_set ?_ ?_ _; rotate_left; ((try simp); (try omega)))))⟩
      ·
        cases e2 : (isName es[k].path)
        · have HB := Lib.hid (show entriesOk es = false by rw [HE.out, allTo_bad hkx (by rw [HK.out]; simp [*])]; simp)
          go_wp2_with (first | (go_at_call 126; refine (specName_any _ _ (by assumption)).mono ?_; rintro e w1 ⟨rfl, rfl⟩) | (go_at_call 163; refine (specIsResponseN_any _ es[k].resp _ _ (by exact TResp.mk_ hokr (Cod.bel m5 (by repeat (first | with_reducible exact Below.refl _ _ | with_reducible assumption | with_reducible refine bel_alloc ?_ _ | with_reducible refine bel_drew ?_ | with_reducible refine bel_drewN ?_ _ | (with_reducible refine bel_set ?_ ?_ _; rotate_left; ((try simp); (try omega)))))))).mono ?_; rintro e w1 ⟨rfl, hb1⟩; have hB1 : Below w.heap.size w w1 := bel_then (by repeat (first | with_reducible exact Below.refl _ _ | with_reducible assumption | with_reducible refine bel_alloc ?_ _ | with_reducible refine bel_drew ?_ | with_reducible refine bel_drewN ?_ _ | (with_reducible refine bel_set ?_ ?_ _; rotate_left; ((try simp); (try omega))))) hb1; clear hb1))
          go_ret
          exact ⟨ret_bool HB.out.symm, (by repeat (first | with_reducible exact Below.refl _ _ | with_reducible assumption | with_reducible refine bel_alloc ?_ _ | with_reducible refine bel_drew ?_ | with_reducible refine bel_drewN ?_ _ | (with_reducible refine bel_set ?_ ?_ _; rotate_left; ((try simp); (try omega)))))⟩
        ·
          cases e3 : (isResponse es[k].resp)
          · have HB := Lib.hid (show entriesOk es = false by rw [HE.out, allTo_bad hkx (by rw [HK.out]; simp [*])]; simp)
            go_wp2_with (first | (go_at_call 126; refine (specName_any _ _ (by assumption)).mono ?_; rintro e w1 ⟨rfl, rfl⟩) | (go_at_call 163; refine (specIsResponseN_any _ es[k].resp _ _ (by exact TResp.mk_ hokr (Cod.bel m5 (by repeat (first | with_reducible exact Below.refl _ _ | with_reducible assumption | with_reducible refine bel_alloc ?_ _ | with_reducible refine bel_drew ?_ | with_reducible refine bel_drewN ?_ _ | (with_reducible refine bel_set ?_ ?_ _; rotate_left; ((try simp); (try omega)))))))).mono ?_; rintro e w1 ⟨rfl, hb1⟩; have hB1 : Below w.heap.size w w1 := bel_then (by repeat (first | with_reducible exact Below.refl _ _ | with_reducible assumption | with_reducible refine bel_alloc ?_ _ | with_reducible refine bel_drew ?_ | with_reducible refine bel_drewN ?_ _ | (with_reducible refine bel_set ?_ ?_ _; rotate_left; ((try simp); (try omega))))) hb1; clear hb1))
            go_ret
            exact ⟨ret_bool HB.out.symm, (by repeat (first | with_reducible exact Below.refl _ _ | with_reducible assumption | with_reducible refine bel_alloc ?_ _ | with_reducible refine bel_drew ?_ | with_reducible refine bel_drewN ?_ _ | (with_reducible refine bel_set ?_ ?_ _; rotate_left; ((try simp); (try omega)))))⟩
          ·
            go_wp2_with (first | (go_at_call 126; refine (specName_any _ _ (by assumption)).mono ?_; rintro e w1 ⟨rfl, rfl⟩) | (go_at_call 163; refine (specIsResponseN_any _ es[k].resp _ _ (by exact TResp.mk_ hokr (Cod.bel m5 (by repeat (first | with_reducible exact Below.refl _ _ | with_reducible assumption | with_reducible refine bel_alloc ?_ _ | with_reducible refine bel_drew ?_ | with_reducible refine bel_drewN ?_ _ | (with_reducible refine bel_set ?_ ?_ _; rotate_left; ((try simp); (try omega)))))))).mono ?_; rintro e w1 ⟨rfl, hb1⟩; have hB1 : Below w.heap.size w w1 := bel_then (by repeat (first | with_reducible exact Below.refl _ _ | with_reducible assumption | with_reducible refine bel_alloc ?_ _ | with_reducible refine bel_drew ?_ | with_reducible refine bel_drewN ?_ _ | (with_reducible refine bel_set ?_ ?_ _; rotate_left; ((try simp); (try omega))))) hb1; clear hb1))
            go_loopw [4] (fun i wr => ∃ j : Nat, j ≤ k ∧ i = .int .i64 j ∧ noneTo (fun y => sameEntry y es[k].site es[k].path) es j = true ∧ Below w.heap.size w wr) (fun i _ => k - (intOf i).toNat)
            case atStart => exact ⟨0, Nat.zero_le _, rfl, noneTo_zero _ _, (by repeat (first | with_reducible exact Below.refl _ _ | with_reducible assumption | with_reducible refine bel_alloc ?_ _ | with_reducible refine bel_drew ?_ | with_reducible refine bel_drewN ?_ _ | (with_reducible refine bel_set ?_ ?_ _; rotate_left; ((try simp); (try omega)))))⟩
            case round =>
              obtain ⟨j, hj, rfl, hno2, hB2⟩ := hrel
              have HO2 := Lib.hid hno2
              clear hno2
              by_cases hltj : j < k
              · have hjx : j < es.length := by omega
                obtain ⟨g2, o2, vs2, F3, eA, hgF2, hx2, -, hc2⟩ := cL_get (hw := by decide) (hw2 := by decide) h hjx
                injection eA with eA
                injection eA with e1' e2'
                subst e1'
                subst e2'
                obtain ⟨v6, F6, rfl, -, hok6, m6⟩ := TCached.out hx2
                clear q0 q1 q2 q3 q4 q5 q6
                have q0 := (hB2.cell (p := ⟨g, o + k * 7, none⟩) hgw).trans ((hc 0 _ rfl).1)
                have q1 := (hB2.cell (p := ⟨g, o + k * 7 + 1, none⟩) hgw).trans ((hc 1 _ rfl).1)
                have r0 := (hB2.cell (p := ⟨g, o + j * 7, none⟩) hgw).trans ((hc2 0 _ rfl).1)
                have r1 := (hB2.cell (p := ⟨g, o + j * 7 + 1, none⟩) hgw).trans ((hc2 1 _ rfl).1)
                clear hc2 hx2
                have hji : ((j : Int) < (k : Int)) := by omega
                have hjn : ((j : Int) < (n : Int)) := by omega
                have HP := Lib.hid (show sameEntry es[j] es[k].site es[k].path = (es[j].site.toList == es[k].site.toList && es[j].path.toList == es[k].path.toList) from rfl)
                have HQ := Lib.hid (show sameEntry es[j] es[k].site es[k].path = true → entriesOk es = false from fun hs => by
                  have h1 : noneTo (fun y => sameEntry y es[k].site es[k].path) es k = false := by
                    cases hnn : noneTo (fun y => sameEntry y es[k].site es[k].path) es k with
                    | false => rfl
                    | true =>
                      have h2 := idxP_hit (fun y => sameEntry y es[k].site es[k].path) es k hkx hnn (sameEntry_refl _)
                      have h3 := idxP_hit (fun y => sameEntry y es[k].site es[k].path) es j hjx HO2.out hs
                      omega
                  rw [HE.out, allTo_bad hkx (by rw [HK.out, h1]; simp)]; simp)
                clear hc
                cases f1 : (es[j].site.toList == es[k].site.toList)
                · have HI := Lib.hid (show sameEntry es[j] es[k].site es[k].path = false by rw [HP.out]; simp [*])
                  clear HQ
                  go_wp2
                  go_quiet (fail)
                  go_wp2
                  go_roundw
                  case rel => exact ⟨j + 1, by omega, by go_num, noneTo_succ _ es j hjx HO2.out HI.out, bel_drewN hB2 _⟩
                  case measure => simp [intOf]; omega
                ·
                  cases f2 : (es[j].path.toList == es[k].path.toList)
                  · have HI := Lib.hid (show sameEntry es[j] es[k].site es[k].path = false by rw [HP.out]; simp [*])
                    clear HQ
                    go_wp2
                    go_quiet (fail)
                    go_wp2
                    go_roundw
                    case rel => exact ⟨j + 1, by omega, by go_num, noneTo_succ _ es j hjx HO2.out HI.out, bel_drewN hB2 _⟩
                    case measure => simp [intOf]; omega
                  ·
                    have HI := Lib.hid (HQ.out (by rw [HP.out, f1, f2]; rfl))
                    clear HQ
                    go_wp2
                    go_quiet (fail)
                    go_wp2
                    go_ret
                    exact ⟨ret_bool HI.out.symm, (by repeat (first | with_reducible exact Below.refl _ _ | with_reducible assumption | with_reducible refine bel_alloc ?_ _ | with_reducible refine bel_drew ?_ | with_reducible refine bel_drewN ?_ _ | (with_reducible refine bel_set ?_ ?_ _; rotate_left; ((try simp); (try omega)))))⟩
              · obtain rfl : j = k := by omega
                have HI := Lib.hid (show entryOk es j = true by rw [HK.out, e1, e2, e3, HO2.out]; rfl)
                go_wp2
                go_roundw
                case rel => exact ⟨j + 1, by omega, by go_num, by rw [allTo_succ, HO.out, HI.out]; rfl, hB2⟩
                case measure => simp [intOf]; omega
    · obtain rfl : k = n := by omega
      have HF := Lib.hid (show entriesOk es = decide ((k : Int) ≤ 12) by rw [HE.out, HN.out, HO.out]; simp)
      go_wp2
      all_goals go_ret
      all_goals exact ⟨ret_bool (by rw [HF.out]), hB⟩
end Go.Proofs.Ytlicnppfgfjkgaa
namespace Go.Proofs.Ytlicnppfgfjkgaa
open Go.RowKit
set_option linter.unusedVariables false
section
variable {α : Type} {c : Cod α} {e : TypeId} {B : Nat} {w : World} {A : Option Addr} {n cp : Nat} {xs : List α} {Fi : List Nat}
theorem Own.upd (hw : 0 < c.wd) (h : Own c e B w (.slice A n cp) xs Fi) {i : Nat} (hi : i < xs.length) :
    ∃ g cur vs F1 Fm F2, A = some ⟨g, 0, none⟩ ∧ 0 < cp ∧ n ≤ cp ∧ cp ≤ maxLen ∧ ownB (.slice A n cp) = some g ∧ B ≤ g ∧ Blk w g e cur ∧ Fi = F1 ++ (Fm ++ F2) ∧ c.rep w vs xs[i] Fm ∧ i * c.wd + c.wd ≤ cur.size ∧ (∀ j, j < c.wd → cur[i * c.wd + j]? = vs[j]?) ∧
      ∀ (w' : World) (cur' : Array Value) (vs' : List Value) (y' : α) (G' : List Nat), Blk w' g e cur' → cur'.size = cur.size → (∀ o, o < i * c.wd ∨ i * c.wd + c.wd ≤ o → cur'[o]? = cur[o]?) → (∀ j, j < c.wd → cur'[i * c.wd + j]? = vs'[j]?) → c.rep w' vs' y' G' →
        (∀ b, b ∈ F1 ∨ b ∈ F2 → w'.heap[b]? = w.heap[b]?) → Own c e B w' (.slice A n cp) (xs.set i y') (F1 ++ (G' ++ F2)) := by
  rcases h.form with ⟨rfl, -⟩ | ⟨g, cap, cur, us, hv, hB, hh, hnc, hcm, hsz, ht, ho, hr⟩
  · simp at hi
  · simp only [Value.slice.injEq] at hv
    obtain ⟨rfl, rfl, rfl⟩ := hv
    have hsp : xs = xs.take i ++ xs[i] :: xs.drop (i + 1) := by rw [← List.drop_eq_getElem_cons hi, List.take_append_drop]
    have hr' : c.reps w us (xs.take i ++ xs[i] :: xs.drop (i + 1)) Fi := by rw [← hsp]; exact hr
    obtain ⟨u1, u2, G1, G2, rfl, rfl, r1, v1, v2, H1, H2, rfl, rfl, hx, r2⟩ := Cod.reps_cut hr'
    have hu1 := Cod.reps_len r1
    rw [List.length_take, Nat.min_eq_left (by omega)] at hu1
    have hv1 := c.len hx
    have hul := Cod.reps_len hr
    have hile : i * c.wd + c.wd ≤ xs.length * c.wd := by
      have : (i + 1) * c.wd ≤ xs.length * c.wd := Nat.mul_le_mul_right _ hi
      rwa [Nat.add_mul, Nat.one_mul] at this
    have hcl : xs.length * c.wd ≤ cur.size := by rw [hsz]; exact Nat.mul_le_mul_right _ hnc
    have hcu : ∀ o, o < xs.length * c.wd → cur[o]? = (u1 ++ (v1 ++ v2))[o]? := fun o ho' => by
      rw [← ht, List.getElem?_take_of_lt ho', Array.getElem?_toList]
    refine ⟨g, cur, v1, G1, H1, H2, rfl, Nat.succ_pos _, hnc, hcm, rfl, hB, hh, rfl, hx, by omega, fun j hj => ?_, ?_⟩
    · rw [hcu _ (by omega), List.getElem?_append_right (by omega), hu1, Nat.add_sub_cancel_left, List.getElem?_append_left (by omega)]
    · intro w' cur' vs' y' G' hb' hs' hout hin hy hkeep
      have hvl := c.len hy
      have hlen : (xs.set i y').length = xs.length := List.length_set
      have hset : xs.set i y' = xs.take i ++ y' :: xs.drop (i + 1) := List.set_eq_take_append_cons_drop.trans (by rw [if_pos hi])
      have hul' : (u1 ++ (vs' ++ v2)).length = xs.length * c.wd := by
        rw [List.length_append, List.length_append] at hul ⊢; omega
      have htk : cur'.toList.take (xs.length * c.wd) = u1 ++ (vs' ++ v2) := by
        apply List.ext_getElem?
        intro o
        by_cases ho' : o < xs.length * c.wd
        · rw [List.getElem?_take_of_lt ho', Array.getElem?_toList]
          by_cases h1 : o < i * c.wd
          · rw [hout o (.inl h1), hcu o ho', List.getElem?_append_left (by omega), List.getElem?_append_left (by omega)]
          · by_cases h2 : i * c.wd + c.wd ≤ o
            · rw [hout o (.inr h2), hcu o ho', List.getElem?_append_right (by omega), List.getElem?_append_right (by omega), List.getElem?_append_right (by omega), List.getElem?_append_right (by omega), hvl, hv1]
            · have h3 := hin (o - i * c.wd) (by omega)
              rw [Nat.add_sub_cancel' (by omega)] at h3
              rw [h3, List.getElem?_append_right (by omega), hu1, List.getElem?_append_left (by omega)]
        · rw [List.getElem?_eq_none (by rw [List.length_take]; omega), List.getElem?_eq_none (by omega)]
      refine .inr ⟨u1 ++ (vs' ++ v2), ⟨by rw [hlen]; exact hul', .inr ⟨g, cap + 1, cur', by rw [hlen], hB, hb', by rw [hlen]; exact hnc, hcm, by rw [hs', hsz], by rw [hlen]; exact htk⟩⟩, ?_⟩
      rw [hset]
      exact Cod.reps_app (Cod.reps_keep r1 fun b hb => hkeep b (.inl hb)) ⟨vs', v2, G', H2, rfl, rfl, hy, Cod.reps_keep r2 fun b hb => hkeep b (.inr hb)⟩
end
end Go.Proofs.Ytlicnppfgfjkgaa
namespace Go.Proofs.Ytlicnppfgfjkgaa
open Go.RowKit
set_option linter.unusedVariables false

theorem putRow_out : ∀ (cs : Array Value) (i : Nat) (vs : List Value) (o : Nat), o < i ∨ i + vs.length ≤ o → (putRow cs i vs)[o]? = cs[o]?
  | cs, i, [], o, _ => rfl
  | cs, i, v :: vs, o, h => by
    simp only [List.length_cons] at h
    unfold putRow
    rw [putRow_out _ (i + 1) vs o (by omega), Array.getElem?_setIfInBounds_ne (by omega)]
theorem putRow_in : ∀ (cs : Array Value) (i : Nat) (vs : List Value) (j : Nat), j < vs.length → i + vs.length ≤ cs.size → (putRow cs i vs)[i + j]? = vs[j]?
  | cs, i, v :: vs, 0, _, hs => by
    simp only [List.length_cons] at hs
    unfold putRow
    rw [putRow_out _ (i + 1) vs _ (.inl (by omega)), Array.getElem?_setIfInBounds, if_pos (by omega), if_pos (by omega)]
    rfl
  | cs, i, v :: vs, j + 1, hj, hs => by
    simp only [List.length_cons] at hs hj
    unfold putRow
    rw [show i + (j + 1) = i + 1 + j by omega, putRow_in _ (i + 1) vs j (by omega) (by simp; omega)]
    simp
theorem upd_put {cur : Array Value} {vs us : List Value} {i wd d : Nat} (hsz : i * wd + wd ≤ cur.size) (hcur : ∀ j, j < wd → cur[i * wd + j]? = vs[j]?) (hvl : vs.length = wd) (hd : d + us.length ≤ wd) :
    (putRow cur (i * wd + d) us).size = cur.size ∧ (∀ o, o < i * wd ∨ i * wd + wd ≤ o → (putRow cur (i * wd + d) us)[o]? = cur[o]?) ∧
    ∀ j, j < wd → (putRow cur (i * wd + d) us)[i * wd + j]? = (vs.take d ++ (us ++ vs.drop (d + us.length)))[j]? := by
  refine ⟨putRow_size _ _ _, fun o ho => putRow_out _ _ _ _ (by omega), fun j hj => ?_⟩
  by_cases h1 : j < d
  · rw [putRow_out _ _ _ _ (.inl (by omega)), hcur j hj, List.getElem?_append_left (by rw [List.length_take]; omega), List.getElem?_take_of_lt h1]
  · by_cases h2 : j < d + us.length
    · rw [show i * wd + j = i * wd + d + (j - d) by omega, putRow_in _ _ _ _ (by omega) (by omega), List.getElem?_append_right (by rw [List.length_take]; omega), List.length_take, Nat.min_eq_left (by omega), List.getElem?_append_left (by omega)]
    · rw [putRow_out _ _ _ _ (.inr (by omega)), hcur j hj, List.getElem?_append_right (by rw [List.length_take]; omega), List.length_take, Nat.min_eq_left (by omega), List.getElem?_append_right (by omega), List.getElem?_drop]
      congr 1; omega
theorem nodup_swap {P M S G : List Nat} {L : Nat} (h : (P ++ (M ++ S)).Nodup) (hl : ∀ b, b ∈ P ++ (M ++ S) → b < L) (hG : G.Nodup) (hGL : ∀ b, b ∈ G → L ≤ b) : (P ++ (G ++ S)).Nodup := by
  have h1 := List.nodup_append.1 h
  have h2 := List.nodup_append.1 h1.2.1
  refine List.nodup_append.2 ⟨h1.1, List.nodup_append.2 ⟨hG, h2.2.1, fun a ha b hb e => ?_⟩, fun a ha b hb e => ?_⟩
  · have := hGL a ha; have := hl b (by simp [hb]); omega
  · rcases List.mem_append.1 hb with hb | hb
    · have := hGL b hb; have := hl a (by simp [ha]); omega
    · exact h1.2.2 a ha b (by simp [hb]) e
theorem putCells_blk {g : Nat} : ∀ {w : World} (i : Nat) (vs : List Value) (b : Nat), b ≠ g → (putCells w g i vs).heap[b]? = w.heap[b]?
  | _, _, [], _, _ => rfl
  | w, i, v :: vs, b, h => (putCells_blk (i + 1) vs b h).trans (Below.heap_setCell _ _ _ _ h)
end Go.Proofs.Ytlicnppfgfjkgaa
namespace Go.Proofs.Ytlicnppfgfjkgaa
open Go.RowKit
set_option linter.unusedVariables false

/-- Only block g has turned: it holds these cells. -/
structure RowSet (w w' : World) (g : Nat) (e : TypeId) (cs : Array Value) : Prop where
  blk : Blk w' g e cs
  size : w'.heap.size = w.heap.size
  os : w'.os = w.os
  tape : w'.tape = w.tape
  output : w'.output = w.output
  other : ∀ b, b ≠ g → w'.heap[b]? = w.heap[b]?
theorem RowSet.mk_ {w : World} {g : Nat} {e : TypeId} {old : Array Value} (h : Blk w g e old) (cs : Array Value) : RowSet w (w.setRow g cs) g e cs :=
  ⟨setRow_heap w g old cs e (0, 0) h, setRow_size _ _ _, rfl, rfl, rfl, fun b hb => setRow_other w g b cs hb⟩
theorem RowSet.grown {w w' : World} {g : Nat} {e : TypeId} {cs : Array Value} (h : RowSet w w' g e cs) : w.grownBy w' (some g) :=
  ⟨h.os, h.tape, h.output, by rw [h.size]; exact Nat.le_refl _, fun b _ hne => h.other b (fun e => hne (by rw [e]))⟩

section
variable {P : Program} (w : World)
theorem run_copy_rowK (dT sT ty elem : TypeId) (g o dLen dCap : Nat) (a : Addr) (sLen sCap : Nat) (cur : Array Value) (t : TypeId) (cs : List Value) (k sz : Nat)
    (hu : P.underlying dT = some (.slice elem)) (i : TypeInfo) (hq : P.info? elem = some i) (hi : i.size = sz)
    (hg : Blk w g t cur) (hk : Nat.min sLen dLen = k) (hn : cs.length = k * sz)
    (hsrc : ∀ j v, cs[j]? = some v → w.cell? (a.add j) = some v) (hfit : o + cs.length ≤ cur.size) (h1 : ∀ v ∈ cs, v.oneCell' = true) :
    (Builtin.copy_ #[dT, sT] ty #[.slice (some ⟨g, o, none⟩) dLen dCap, .slice (some a) sLen sCap]).run P w =
      .ok (goInt k) (w.setRow g (cur.toList.take o ++ cs ++ cur.toList.drop (o + cs.length)).toArray) := by
  have hl := run_loadCells_list (P := P) w a cs hsrc
  have hst := run_storeCells_at P g o t cs 0 cur w hg (by simpa using hfit) h1
  rw [hn] at hl
  simp only [Nat.add_zero] at hst
  simp [Builtin.copy_, run_underlying hu, Builtin.lenOf, Builtin.firstCells, sizeOf, typeInfo, hq, hi, hk, hl, hst]
theorem wp_copyK {o : Oper} {a : Act} {K : Act → World → Prop} {Q : Exit → Act → World → Prop} (d s : Operand) (t t' elem : TypeId)
    (ho : o.op = .call { callee := .builtin .copy, args := #[d, s], argTypes := #[t, t'] }) (g od dLen dCap : Nat) (ad : Addr) (sLen sCap : Nat) (hd : a.eval d = .slice (some ⟨g, od, none⟩) dLen dCap) (hs : a.eval s = .slice (some ad) sLen sCap)
    (cur : Array Value) (e : TypeId) (cs : List Value) (k sz : Nat) (hu : P.underlying t = some (.slice elem)) (i : TypeInfo) (hq : P.info? elem = some i) (hi : i.size = sz)
    (hg : Blk w g e cur) (hk : Nat.min sLen dLen = k) (hn : cs.length = k * sz)
    (hsrc : ∀ j v, cs[j]? = some v → w.cell? (ad.add j) = some v) (hfit : od + cs.length ≤ cur.size) (h1 : ∀ v ∈ cs, v.oneCell' = true)
    (h : ∀ w', RowSet w w' g e (cur.toList.take od ++ cs ++ cur.toList.drop (od + cs.length)).toArray → K (a.put o.dst (goInt k)) w') : o.wp P a w K Q := by
  have hr := run_copy_rowK (P := P) w t t' o.type elem g od dLen dCap ad sLen sCap cur e cs k sz hu i hq hi hg hk hn hsrc hfit h1
  unfold Oper.wp execOp
  simp only [ho, resolve, invoke, builtin, Sem.run_bind, Sem.run_pure, Result.andThen_ok, List.map_toArray, List.map_cons, List.map_nil, hd, hs, hr]
  exact h _ (RowSet.mk_ hg _)
theorem wpList_copyK {ops : Array Oper} {rest : List Oper} {o : Oper} {a : Act} {Q : Exit → Act → World → Prop} (hgd : o.guard = none) (d s : Operand) (t t' elem : TypeId)
    (ho : o.op = .call { callee := .builtin .copy, args := #[d, s], argTypes := #[t, t'] }) (g od dLen dCap : Nat) (ad : Addr) (sLen sCap : Nat) (hd : a.eval d = .slice (some ⟨g, od, none⟩) dLen dCap) (hs : a.eval s = .slice (some ad) sLen sCap)
    (cur : Array Value) (e : TypeId) (cs : List Value) (k sz : Nat) (hu : P.underlying t = some (.slice elem)) (i : TypeInfo) (hq : P.info? elem = some i) (hi : i.size = sz)
    (hg : Blk w g e cur) (hk : Nat.min sLen dLen = k) (hn : cs.length = k * sz)
    (hsrc : ∀ j v, cs[j]? = some v → w.cell? (ad.add j) = some v) (hfit : od + cs.length ≤ cur.size) (h1 : ∀ v ∈ cs, v.oneCell' = true)
    (h : ∀ w', RowSet w w' g e (cur.toList.take od ++ cs ++ cur.toList.drop (od + cs.length)).toArray → wpList P ops Q rest (a.put o.dst (goInt k)) w') : wpList P ops Q (o :: rest) a w :=
  wpList_plain hgd fun _ hK => wp_copyK w d s t t' elem ho g od dLen dCap ad sLen sCap hd hs cur e cs k sz hu i hq hi hg hk hn hsrc hfit h1 fun w' h2 => hK _ _ (h w' h2)
theorem step_copyK {ops : Array Oper} {o : Oper} {a : Act} {K : Act → World → Prop} {Q : Exit → Act → World → Prop} {E : Prop} (hgd : o.guard = none) (d s : Operand) (t t' elem : TypeId)
    (ho : o.op = .call { callee := .builtin .copy, args := #[d, s], argTypes := #[t, t'] }) (g od dLen dCap : Nat) (ad : Addr) (sLen sCap : Nat) (hd : a.eval d = .slice (some ⟨g, od, none⟩) dLen dCap) (hs : a.eval s = .slice (some ad) sLen sCap)
    (cur : Array Value) (e : TypeId) (cs : List Value) (k sz : Nat) (hu : P.underlying t = some (.slice elem)) (i : TypeInfo) (hq : P.info? elem = some i) (hi : i.size = sz)
    (hg : Blk w g e cur) (hk : Nat.min sLen dLen = k) (hn : cs.length = k * sz)
    (hsrc : ∀ j v, cs[j]? = some v → w.cell? (ad.add j) = some v) (hfit : od + cs.length ≤ cur.size) (h1 : ∀ v ∈ cs, v.oneCell' = true)
    (h : ∀ w', RowSet w w' g e (cur.toList.take od ++ cs ++ cur.toList.drop (od + cs.length)).toArray → K (a.put o.dst (goInt k)) w') :
    if Region.wanted o (yielded ops a.tmps) = true then Oper.wp P o a w K Q else E := by
  have hw' : Region.wanted o (yielded ops a.tmps) = true := by simp [Region.wanted, hgd]
  rw [if_pos hw']
  exact wp_copyK w d s t t' elem ho g od dLen dCap ad sLen sCap hd hs cur e cs k sz hu i hq hi hg hk hn hsrc hfit h1 h
/-- append(s, make([]T, k)...) where there is no room -/
theorem wpList_zeros {ops : Array Oper} {rest : List Oper} {o : Oper} {a : Act} {Q : Exit → Act → World → Prop} (hgd : o.guard = none) (s x : Operand) (t tn e : TypeId)
    (ho : o.op = .call { callee := .builtin .append, args := #[s, x], argTypes := #[t, tn] }) (i : TypeInfo) (z : Value) (ht : P.underlying t = some (.slice e)) (htn : P.underlying tn = some (.int .i64)) (hi : P.info? e = some i) (hz : i.zero = some z)
    (ad : Addr) (sLen sCap k : Nat) (hs : a.eval s = .slice (some ad) sLen sCap) (hx : a.eval x = .int .i64 k) (olds : List Value) (hl : olds.length = sLen * i.size) (hold : ∀ j v, olds[j]? = some v → w.cell? (ad.add j) = some v)
    (h0 : 0 < k) (hs0 : 0 < i.size) (hg : sCap < sLen + k) (h63 : sLen + k ≤ maxLen) (hb : (sLen + k) * i.bytes ≤ 140737488355328)
    (h : ∀ G w', sLen + k ≤ G → G ≤ maxLen → Blk w' w.heap.size e (olds.toArray ++ Builtin.zeroCells z.cells k ++ Builtin.zeroCells z.cells (G - (sLen + k))) → w.grownBy w' none → w'.heap.size = w.heap.size + 1 → wpList P ops Q rest (a.put o.dst (.slice (some ⟨w.heap.size, 0, none⟩) (sLen + k) G)) w') : wpList P ops Q (o :: rest) a w := by
  have hfc : (Builtin.firstCells i.size sLen (.slice (some ad) sLen sCap)).run P w.drew = .ok olds.toArray w.drew := run_firstCells_some w.drew i.size sLen ad sLen sCap olds hl (fun j v hj => hold j v hj)
  unfold maxLen at h63
  have hr := Lib.run_append_grow_zeros w t tn o.type e i z .i64 .i64 ht htn hi hz (some ad) sLen sCap olds hfc k h0 hs0 hg (by omega) (by
    have : k * i.bytes ≤ (sLen + k) * i.bytes := Nat.mul_le_mul_right _ (by omega)
    omega) (growslice_fits hg hb)
  have hK := h (grownCap w (sLen + k) sCap e) _ (grownCap_ge _ _ _ _) (grownCap_le_maxLen _ _ _ _ (by unfold maxLen; omega)) (Blk.new w.drew e _)
    ⟨rfl, rfl, rfl, by simp, fun b hb _ => by
      have := (bel_alloc (bel_drew (Below.refl w.heap.size w)) (.cells (olds.toArray ++ Builtin.zeroCells z.cells k ++ Builtin.zeroCells z.cells (grownCap w (sLen + k) sCap e - (sLen + k))) e)).block b hb
      exact this⟩ (by simp)
  refine wpList_plain hgd fun _ hK2 => ?_
  unfold Oper.wp execOp
  simp only [ho, resolve, invoke, builtin, Sem.run_bind, Sem.run_pure, Result.andThen_ok, List.map_toArray, List.map_cons, List.map_nil, hs, hx, hr]
  exact hK2 _ _ hK
end

section
variable {α : Type} {c : Cod α} {e : TypeId} {B : Nat} {w w' : World} {A : Option Addr} {n cp i : Nat} {xs : List α} {Fi : List Nat}
/-- A row of the call's own, parted at i. -/
theorem Own.parts (h : Own c e B w (.slice A n cp) xs Fi) (hi : i ≤ xs.length) (hn : 0 < xs.length) :
    ∃ g cur u1 u2 F1 F2, A = some ⟨g, 0, none⟩ ∧ n = xs.length ∧ n ≤ cp ∧ cp ≤ maxLen ∧ Blk w g e cur ∧ cur.size = cp * c.wd ∧ cur.toList.take (n * c.wd) = u1 ++ u2 ∧ u1.length = i * c.wd ∧ u2.length = (n - i) * c.wd ∧ B ≤ g ∧ ownB (.slice A n cp) = some g ∧
      Fi = F1 ++ F2 ∧ c.reps w u1 (xs.take i) F1 ∧ c.reps w u2 (xs.drop i) F2 := by
  rcases h.form with ⟨rfl, -⟩ | ⟨g, cap, cur, us, hv, hB, hh, hnc, hcm, hsz, ht, ho, hr⟩
  · simp at hn
  · simp only [Value.slice.injEq] at hv
    obtain ⟨rfl, rfl, rfl⟩ := hv
    rw [← List.take_append_drop i xs] at hr
    obtain ⟨u1, u2, G1, G2, rfl, rfl, r1, r2⟩ := Cod.reps_cut hr
    have hl1 := Cod.reps_len r1
    have hl2 := Cod.reps_len r2
    rw [List.length_take, Nat.min_eq_left hi] at hl1
    rw [List.length_drop] at hl2
    exact ⟨g, cur, u1, u2, G1, G2, rfl, rfl, hnc, hcm, hh, hsz, ht, hl1, hl2, hB, rfl, rfl, r1, r2⟩
theorem Own.of_parts {g' cp' : Nat} {cur' : Array Value} {u1 vs u2 : List Value} {xs1 xs2 : List α} {y : α} {F1 Fy F2 : List Nat} {m : Nat} (hB : B ≤ g') (hb : Blk w' g' e cur') (hs : cur'.size = cp' * c.wd) (hm : m = xs1.length + 1 + xs2.length) (ht : cur'.toList.take (m * c.wd) = u1 ++ (vs ++ u2)) (hmc : m ≤ cp') (hcm : cp' ≤ maxLen)
    (r1 : c.reps w' u1 xs1 F1) (ry : c.rep w' vs y Fy) (r2 : c.reps w' u2 xs2 F2) : Own c e B w' (.slice (some ⟨g', 0, none⟩) m cp') (xs1 ++ y :: xs2) (F1 ++ (Fy ++ F2)) := by
  have hr : c.reps w' (u1 ++ (vs ++ u2)) (xs1 ++ y :: xs2) (F1 ++ (Fy ++ F2)) := Cod.reps_app r1 ⟨vs, u2, Fy, F2, rfl, rfl, ry, r2⟩
  have hl : (xs1 ++ y :: xs2).length = m := by rw [hm, List.length_append, List.length_cons]; omega
  have hul := Cod.reps_len hr
  rw [hl] at hul
  exact .inr ⟨_, ⟨by rw [hl]; exact hul, .inr ⟨g', cp', cur', by rw [hl], hB, hb, by rw [hl]; exact hmc, hcm, hs, by rw [hl]; exact ht⟩⟩, hr⟩
end
/-! ### Lists of cells -/
theorem take_shift {L0 u1 u2 vs : List Value} {a b : Nat} (h0 : L0.take (a + u2.length) = u1 ++ u2) (h1 : u1.length = a) (hv : vs.length = b) (hl : a + b + u2.length ≤ L0.length) :
    ((((L0.take (a + b) ++ u2 ++ L0.drop (a + b + u2.length)).take a ++ vs ++ (L0.take (a + b) ++ u2 ++ L0.drop (a + b + u2.length)).drop (a + vs.length))).take (a + b + u2.length)) = u1 ++ (vs ++ u2) := by
  have hta : L0.take a = u1 := by
    have := congrArg (List.take a) h0
    rw [List.take_take, Nat.min_eq_left (by omega), ← h1, List.take_left'] at this
    · rw [← h1]; exact this
    · rfl
  have e1 : (L0.take (a + b) ++ u2 ++ L0.drop (a + b + u2.length)).take a = u1 := by
    rw [List.append_assoc, List.take_append_of_le_length (by rw [List.length_take]; omega), List.take_take, Nat.min_eq_left (by omega), hta]
  have e2 : (L0.take (a + b) ++ u2 ++ L0.drop (a + b + u2.length)).drop (a + vs.length) = u2 ++ L0.drop (a + b + u2.length) := by
    rw [hv, List.append_assoc, List.drop_left' (by rw [List.length_take]; omega)]
  rw [e1, e2, List.append_assoc, ← List.append_assoc vs, ← List.append_assoc u1]
  rw [List.take_left' (by simp only [List.length_append]; omega)]
theorem take_fill {u1 u2 vs R : List Value} {a b : Nat} (h0 : R.take a = u1) (h1 : u1.length = a) (hv : vs.length = b) (hl : a + b + u2.length ≤ R.length) :
    ((((R.take a ++ vs ++ R.drop (a + vs.length)).take (a + b) ++ u2 ++ (R.take a ++ vs ++ R.drop (a + vs.length)).drop (a + b + u2.length))).take (a + b + u2.length)) = u1 ++ (vs ++ u2) := by
  have e1 : (R.take a ++ vs ++ R.drop (a + vs.length)).take (a + b) = u1 ++ vs := by
    rw [h0, List.take_left' (by simp only [List.length_append]; omega)]
  rw [e1, List.take_left' (by simp only [List.length_append]; omega), List.append_assoc]
theorem splice_length {L cs : List Value} {o : Nat} (h : o + cs.length ≤ L.length) : (L.take o ++ cs ++ L.drop (o + cs.length)).length = L.length := by
  simp only [List.length_append, List.length_take, List.length_drop]; omega
end Go.Proofs.Ytlicnppfgfjkgaa
namespace Go.Proofs.Ytlicnppfgfjkgaa
open Go.ChangeShapes Go.WideShapes Go.RowKit
set_option linter.unusedVariables false

/-- what an insertion hands back -/
def Inserts {α : Type} (c : Cod α) (e : TypeId) (B : Nat) (w : World) (v : Value) (xs : List α) (Fi : List Nat) (i : Nat) (y : α) (Fy : List Nat) (er : Ending) (w' : World) : Prop :=
  ∃ A' cp' F1 F2, er = .returned (.slice A' (xs.length + 1) cp') ∧ Fi = F1 ++ F2 ∧ Own c e B w' (.slice A' (xs.length + 1) cp') (xs.take i ++ y :: xs.drop i) (F1 ++ (Fy ++ F2)) ∧ w.grownBy w' (ownB v) ∧ (∀ g, ownB (.slice A' (xs.length + 1) cp') = some g → ownB v = some g ∨ w.heap.size ≤ g)
set_option maxRecDepth 100000 in
set_option maxHeartbeats 8000000 in
theorem insertCache_any (A : Option Addr) (n cp i : Nat) (xs : List TCache) (y : TCache) (vs : Array Value) (Fi Fy : List Nat) (vb B : Nat) (w : World) (h : Own cCacheO 125 B w (.slice A n cp) xs Fi) (hd : ∀ g, ownB (.slice A n cp) = some g → g ∉ Fi ∧ g ∉ Fy ∧ g ≠ vb) (hxn : xs.length = n) (hi : i ≤ n) (hn : n ≤ 1048576)
    (hv : Blk w vb 125 vs) (hy : cCacheO.rep w vs.toList y Fy) (hB : B ≤ w.heap.size) :
    Calls Try.prog 109 #[.slice A n cp, .int .i64 i, .slice (some ⟨vb, 0, none⟩) 1 1] w (Inserts cCacheO 125 B w (.slice A n cp) xs Fi i y Fy) := by
  obtain ⟨i0, hi0, hz0, hz1, hz2⟩ := info_parts infoCache
  have hvl := cCacheO.len hy
  have hvo := cCacheO.ones hy
  have hsrc0 : AppSrc cCacheO w (.slice (some ⟨vb, 0, none⟩) 1 1) [y] Fy := src_cells hy (fun j u hu => by rw [hv.cell]; simpa using hu)
  have hncp : n ≤ cp ∧ cp ≤ maxLen := by
    rcases h.form with ⟨rfl, -, A', hv'⟩ | ⟨g, cap, cur, us, hv', hB', hh, hnc, hcm, -⟩
    · simp only [Value.slice.injEq] at hv'; unfold maxLen; simp at hxn; omega
    · simp only [Value.slice.injEq] at hv'; omega
  obtain ⟨hnc, hcm⟩ := hncp
  have HX := Lib.hid hxn
  by_cases hin : i = n
  · subst hin
    have HO := Lib.hid (And.intro h (And.intro hsrc0 hd))
    clear h hsrc0 hd hv hy hvo
    unfold maxLen at hcm
    have hcpi : i = cp ∨ ¬ cp = i := by omega
    rcases hcpi with rfl | hcpi
    all_goals
      go_enter Try.func109, Try.ntmps109
      go_wp2_with (at_builtin; refine wpList_app (c := cCacheO) (B := B) (xs := xs) (ys := [y]) (Fi := Fi) (Fy := Fy) _ rfl _ _ _ rfl i0 _ _ Try.underlying70 hi0 hz0 hz1 hz2 rfl (by decide) rfl HO.out.1 (.slice (some ⟨vb, 0, none⟩) 1 1) rfl HO.out.2.1 (by have := HX.out; unfold maxLen; simp; omega) (by have := HX.out; simp; omega) hB (fun g hg => ⟨(HO.out.2.2 g hg).1, (HO.out.2.2 g hg).2.1⟩) ?_)
      intro v' w' ho' hg' hat'
      obtain ⟨A', cp', e'⟩ := ho'.slice
      rw [List.length_append, List.length_singleton] at e'
      subst e'
      have HE := Lib.hid (And.intro ho' (And.intro hg' hat'))
      clear ho' hg' hat'
      go_wp2_with fail
      go_ret
      have htk : xs.take i = xs := List.take_of_length_le (by have := HX.out; omega)
      have hdp : xs.drop i = [] := List.drop_of_length_le (by have := HX.out; omega)
      exact ⟨A', cp', Fi, [], rfl, by simp, by rw [htk, hdp, List.append_nil]; exact HE.out.1, HE.out.2.1, HE.out.2.2⟩
  · have hil : i < n := by omega
    obtain ⟨g, cur, u1, u2, F1, F2, rfl, -, -, -, hblk, hcz, htk, hu1, hu2, hBg, hgo, rfl, r1, r2⟩ := h.parts (i := i) (by omega) (by omega)
    have hgd := hd g hgo
    have hgw : g < w.heap.size := hblk.lt
    have hvw : vb < w.heap.size := hv.lt
    have hone1 := Cod.reps_ones r1
    have hone2 := Cod.reps_ones r2
    rw [show (cCacheO).wd = 2 from rfl] at *
    have hw1 : IntKind.i64.wrap ((i : Int) + 1) = (i : Int) + 1 := IntWalk.i64_in _ (by omega)
    have hw2 : IntKind.i64.wrap ((n : Int) + 1) = (n : Int) + 1 := IntWalk.i64_in _ (by omega)
    have hci : ¬ cp = i := by omega
    have hni : ¬ (i : Int) = (n : Int) := by omega
    unfold maxLen at hcm
    have HM := Lib.hid (And.intro h (And.intro hblk (And.intro hcz (And.intro htk (And.intro r1 (And.intro r2 (And.intro hv hy)))))))
    clear h hblk hcz htk r1 r2 hv hy hd hsrc0
    by_cases hroom : n + 1 ≤ cp
    · have hnr : ¬ ((cp : Int) < (n : Int) + 1) := by omega
      have hci1 : ¬ cp = i + 1 := by omega
      have hov : ∀ lb cb, (callFunc 147 #[.slice (some ⟨vb, 0, none⟩) 1 1, .slice (some ⟨g, (i + 1) * 2, none⟩) lb cb]).run Try.prog w = .ok (.value (.bool false)) w := fun lb cb => by
        rw [run_callFunc_extern Try.func147 (by kernel_rfl) (by kernel_rfl) (by kernel_rfl) (e := Extern.SlicesOverlaps.overlaps #[70, 70] #[4]) (by kernel_rfl),
          Lib.run_overlaps_apart w 70 4 125 Try.underlying70 2 (fun w => by simp [sizeOf, typeInfo, hi0, hz1]) ⟨vb, 0, none⟩ ⟨g, (i + 1) * 2, none⟩ 1 1 lb cb (Ne.symm hgd.2.2) 125 125 vs.size cur.size (by have := HM.out.2.2.2.2.2.2.1; unfold Blk at this; simp [World.shape?, this]) (by have := HM.out.2.1; unfold Blk at this; simp [World.shape?, this]) (by rw [HM.out.2.2.1]; omega) (HM.out.2.2.2.2.2.2.1.frozen 0) (HM.out.2.2.2.2.2.2.1.frozen _)]
        rfl
      go_enter Try.func109, Try.ntmps109
      go_wp2_with (simp only [hov])
      have hi01 : (0 : Int) ≤ (i : Int) + 1 := by omega
      have hi02 : (i : Int) ≤ (n : Int) + 1 := by omega
      have hmin1 : Nat.min (n + 1 - i) (n - i) = n - i := by simp only [Nat.min_def]; split <;> omega
      have hmin2 : Nat.min 1 (n + 1 - i) = 1 := by simp only [Nat.min_def]; split <;> omega
      have hu2f : (i + 1) * 2 + u2.length ≤ cur.size := by rw [hu2, HM.out.2.2.1]; omega
      have hcell2 : ∀ j v, u2[j]? = some v → w.cell? ⟨g, i * 2 + j, none⟩ = some v := fun j v hj => by
        have hjl := (List.getElem?_eq_some_iff.1 hj).1
        rw [HM.out.2.1.cell, ← Array.getElem?_toList]
        have h1 := congrArg (fun l => l[i * 2 + j]?) HM.out.2.2.2.1
        rw [List.getElem?_take_of_lt (by omega), List.getElem?_append_right (by omega), hu1, Nat.add_sub_cancel_left, hj] at h1
        exact h1
      have hcl : cur.toList.length = cp * 2 := by rw [Array.length_toList]; exact HM.out.2.2.1
      have hspl : (cur.toList.take ((i + 1) * 2) ++ u2 ++ cur.toList.drop ((i + 1) * 2 + u2.length)).length = cp * 2 := by rw [splice_length (by rw [hcl]; rw [HM.out.2.2.1] at hu2f; exact hu2f)]; exact hcl
      refine wp_regionT (S := (fun _ => True)) [8] (by kernel_rfl) (by (try dsimp only); (first | done | trivial)) (fun hHeld => ?_)
      refine takeT_read (i := 0) 9 69 (v := ?v0) rfl rfl (by kernel_rfl) (by kernel_rfl) (by kernel_rfl) (by kernel_rfl) (by kernel_rfl) (by kernel_rfl) (fun _ _ _ h => h) (by rfl) ?hy0 (by assumption) ?rest0
      case hy0 => (intro w hSw; (try dsimp only at hSw); go_simp; (try with_reducible rfl))
      try simp only [Act.put, List.setIfInBounds_toArray, List.set_cons_zero, List.set_cons_succ]
      refine takeT_read (i := 1) 9 70 (v := ?v1) rfl rfl (by kernel_rfl) (by kernel_rfl) (by kernel_rfl) (by kernel_rfl) (by kernel_rfl) (by kernel_rfl) (fun _ _ _ h => h) (by rfl) ?hy1 (by assumption) ?rest1
      case hy1 => (intro w hSw; (try dsimp only at hSw); go_simp; (try with_reducible rfl))
      try simp only [Act.put, List.setIfInBounds_toArray, List.set_cons_zero, List.set_cons_succ]
      refine takeT_read (i := 2) 9 71 (v := ?v2) rfl rfl (by kernel_rfl) (by kernel_rfl) (by kernel_rfl) (by kernel_rfl) (by kernel_rfl) (by kernel_rfl) (fun _ _ _ h => h) (by rfl) ?hy2 (by assumption) ?rest2
      case hy2 => (intro w hSw; (try dsimp only at hSw); go_simp; (try with_reducible rfl))
      try simp only [Act.put, List.setIfInBounds_toArray, List.set_cons_zero, List.set_cons_succ]
      refine takeT_read (i := 3) 9 72 (v := ?v3) rfl rfl (by kernel_rfl) (by kernel_rfl) (by kernel_rfl) (by kernel_rfl) (by kernel_rfl) (by kernel_rfl) (fun _ _ _ h => h) (by rfl) ?hy3 (by assumption) ?rest3
      case hy3 => (intro w hSw; (try dsimp only at hSw); go_simp; (try with_reducible rfl))
      try simp only [Act.put, List.setIfInBounds_toArray, List.set_cons_zero, List.set_cons_succ]
      refine takeT_read (i := 4) 9 73 (v := ?v4) rfl rfl (by kernel_rfl) (by kernel_rfl) (by kernel_rfl) (by kernel_rfl) (by kernel_rfl) (by kernel_rfl) (fun _ _ _ h => h) (by rfl) ?hy4 (by assumption) ?rest4
      case hy4 => (intro w hSw; (try dsimp only at hSw); go_simp; (try with_reducible rfl))
      try simp only [Act.put, List.setIfInBounds_toArray, List.set_cons_zero, List.set_cons_succ]
      refine takeT_read (i := 5) 9 74 (v := ?v5) rfl rfl (by kernel_rfl) (by kernel_rfl) (by kernel_rfl) (by kernel_rfl) (by kernel_rfl) (by kernel_rfl) (fun _ _ _ h => h) (by rfl) ?hy5 (by assumption) ?rest5
      case hy5 => (intro w hSw; (try dsimp only at hSw); go_simp; (try with_reducible rfl))
      try simp only [Act.put, List.setIfInBounds_toArray, List.set_cons_zero, List.set_cons_succ]
      refine takeT_read (i := 6) 9 75 (v := ?v6) rfl rfl (by kernel_rfl) (by kernel_rfl) (by kernel_rfl) (by kernel_rfl) (by kernel_rfl) (by kernel_rfl) (fun _ _ _ h => h) (by rfl) ?hy6 (by assumption) ?rest6
      case hy6 => (intro w hSw; (try dsimp only at hSw); go_simp; (try with_reducible rfl))
      try simp only [Act.put, List.setIfInBounds_toArray, List.set_cons_zero, List.set_cons_succ]
      refine takeT_read (i := 7) 9 76 (v := ?v7) rfl rfl (by kernel_rfl) (by kernel_rfl) (by kernel_rfl) (by kernel_rfl) (by kernel_rfl) (by kernel_rfl) (fun _ _ _ h => h) (by rfl) ?hy7 (by assumption) ?rest7
      case hy7 => (intro w hSw; (try dsimp only at hSw); go_simp; (try with_reducible rfl))
      try simp only [Act.put, List.setIfInBounds_toArray, List.set_cons_zero, List.set_cons_succ]
      refine stepT_end 8 (by kernel_rfl) rfl (by kernel_rfl) (fun K hK => ?_)
      (refine step_copyK _ rfl _ _ _ _ 125 rfl g ((i + 1) * 2) (n - i) (cp - (i + 1)) ⟨g, i * 2, none⟩ (n + 1 - i) (cp - i) rfl rfl cur 125 u2 (n - i) 2 Try.underlying70 i0 hi0 hz1 (by exact HM.out.2.1) hmin1 hu2 (fun j v hj => by rw [Addr.add_lit]; exact hcell2 j v hj) hu2f hone2 ?_; intro w2 hr2)
      refine hK.out _ _ ?_
      clear hK K
      refine doneT (by kernel_rfl) ?_ _
      have HR2 := Lib.hid hr2
      clear hr2 hcell2
      obtain ⟨w3, hcp3, hr3⟩ : ∃ w3, (∀ ty, (Builtin.copy_ #[70, 70] ty #[.slice (some ⟨g, i * 2, none⟩) (n + 1 - i) (cp - i), .slice (some ⟨vb, 0, none⟩) 1 1]).run Try.prog w2 = .ok (goInt 1) w3) ∧ RowSet w2 w3 g 125 _ :=
        ⟨_, fun ty => run_copy_rowK w2 _ _ ty 125 g (i * 2) (n + 1 - i) (cp - i) ⟨vb, 0, none⟩ 1 1 _ 125 vs.toList 1 2 Try.underlying70 i0 hi0 hz1 HR2.out.blk hmin2 (by rw [hvl]) (fun j v hj => by rw [Addr.add_lit, Nat.zero_add, World.cell?_of_block (a := ⟨vb, j, none⟩) (HR2.out.other vb (Ne.symm hgd.2.2)), show w.drew.cell? ⟨vb, j, none⟩ = w.cell? ⟨vb, j, none⟩ from rfl, HM.out.2.2.2.2.2.2.1.cell]; simpa using hj) (by rw [List.size_toArray, hspl, hvl]; omega) hvo, RowSet.mk_ HR2.out.blk _⟩
      have HR3 := Lib.hid hr3
      clear hr3
      go_wp2_with fail
      go_ret
      have e1 : (i + 1) * 2 = i * 2 + 2 := by omega
      have e2 : (n + 1) * 2 = i * 2 + 2 + u2.length := by rw [hu2]; omega
      have ht := take_shift (L0 := cur.toList) (u1 := u1) (u2 := u2) (vs := vs.toList) (a := i * 2) (b := 2) (by rw [show i * 2 + u2.length = n * 2 by rw [hu2]; omega]; exact HM.out.2.2.2.1) hu1 hvl (by rw [hcl, hu2]; omega)
      have hblk3 := HR3.out.blk
      rw [List.toList_toArray, e1] at hblk3
      have hk3 : ∀ b, b ≠ g → w3.heap[b]? = w.heap[b]? := fun b hb => (HR3.out.other b hb).trans ((HR2.out.other b hb).trans rfl)
      have hgr : w.grownBy w3 (some g) := ⟨HR3.out.os.trans HR2.out.os, HR3.out.tape.trans HR2.out.tape, HR3.out.output.trans HR2.out.output, by rw [HR3.out.size, HR2.out.size]; exact Nat.le_refl _, fun b _ hne => hk3 b (fun e => hne (by rw [e]))⟩
      simp only [Inserts, HX.out]
      refine ⟨some ⟨g, 0, none⟩, cp, F1, F2, rfl, rfl, ?_, by rw [hgo]; exact hgr, fun g' hg' => .inl (by cases cp with | zero => omega | succ m => exact hg')⟩
      exact Own.of_parts (c := cCacheO) hBg hblk3 (by rw [List.size_toArray, splice_length (by rw [splice_length (by rw [hcl, hu2]; show i * 2 + 2 + (n - i) * 2 ≤ _; omega), hcl, hvl]; show i * 2 + 2 ≤ _; omega), splice_length (by rw [hcl, hu2]; show i * 2 + 2 + (n - i) * 2 ≤ _; omega)]; exact hcl) (by rw [List.length_take, List.length_drop, HX.out]; omega) (by show List.take ((n + 1) * 2) _ = _; rw [List.toList_toArray, e2]; exact ht) hroom (by unfold maxLen; exact hcm)
        (Cod.reps_keep HM.out.2.2.2.2.1 fun b hb => hk3 b (fun e => hgd.1 (by rw [← e]; simp [hb]))) (Cod.keep _ HM.out.2.2.2.2.2.2.2 fun b hb => hk3 b (fun e => hgd.2.1 (by rw [← e]; exact hb))) (Cod.reps_keep HM.out.2.2.2.2.2.1 fun b hb => hk3 b (fun e => hgd.1 (by rw [← e]; simp [hb])))
    · have hnr : (cp : Int) < (n : Int) + 1 := by omega
      obtain ⟨k, hk⟩ : ∃ k, n + 1 - i = k := ⟨_, rfl⟩
      have hk0 : 0 < k := by omega
      have hik : i + k = n + 1 := by omega
      have hwk : IntKind.i64.wrap ((n : Int) + 1 - (i : Int)) = (k : Int) := by rw [IntWalk.i64_in _ (by omega)]; omega
      have hwk2 : (n : Int) + 1 - (i : Int) = (k : Int) := by omega
      have hcell1 : ∀ j v, u1[j]? = some v → w.cell? ⟨g, j, none⟩ = some v := fun j v hj => by
        have hjl := (List.getElem?_eq_some_iff.1 hj).1
        rw [HM.out.2.1.cell, ← Array.getElem?_toList]
        have h1 := congrArg (fun l => l[j]?) HM.out.2.2.2.1
        rw [List.getElem?_take_of_lt (by omega), List.getElem?_append_left (by omega), hj] at h1
        exact h1
      go_enter Try.func109, Try.ntmps109
      go_wp2_with (at_builtin; refine wpList_zeros _ rfl _ _ _ 3 125 rfl i0 _ Try.underlying70 Try.underlying3 hi0 hz0 ⟨g, 0, none⟩ i cp k rfl rfl u1 (by rw [hu1, hz1]) (fun j v hj => by rw [Addr.add_lit, Nat.zero_add]; exact hcell1 j v hj) hk0 (by rw [hz1]; decide) (by omega) (by unfold maxLen; omega) (by rw [hz2]; omega) ?_)
      intro G w1 hG hGm hblk1 hgr1 hsz1
      have hR0 : ∃ R0 : Array Value, Blk w1 w.heap.size 125 R0 ∧ R0.size = G * 2 ∧ R0.toList.take (i * 2) = u1 := by
        refine ⟨_, hblk1, ?_, ?_⟩
        · simp only [Array.size_append, List.size_toArray, hu1]; simp [Builtin.zeroCells]; omega
        · rw [Array.toList_append, List.toList_toArray, List.take_left' hu1]
      obtain ⟨R0, hb1, hs0, ht0⟩ := hR0
      have hRl : R0.toList.length = G * 2 := by rw [Array.length_toList]; exact hs0
      unfold maxLen at hGm
      have hGi : ¬ G = i := by omega
      have hGi1 : ¬ G = i + 1 := by omega
      have hi01 : (0 : Int) ≤ (i : Int) + 1 := by omega
      have hi02 : (i : Int) ≤ (n : Int) + 1 := by omega
      have hmin2 : Nat.min 1 (n + 1 - i) = 1 := by simp only [Nat.min_def]; split <;> omega
      have hmin1 : Nat.min (n - i) (n - i) = n - i := by simp only [Nat.min_def]; split <;> omega
      have hvN : vb ≠ w.heap.size := by omega
      have hgN : g ≠ w.heap.size := by omega
      have H1 := Lib.hid (And.intro hb1 hgr1)
      clear hblk1 hb1 hgr1 hk hwk hwk2 hcell1
      obtain ⟨w2, hcp2, hr2⟩ : ∃ w2, (∀ ty, (Builtin.copy_ #[70, 70] ty #[.slice (some ⟨w.heap.size, i * 2, none⟩) (n + 1 - i) (G - i), .slice (some ⟨vb, 0, none⟩) 1 1]).run Try.prog w1 = .ok (goInt 1) w2) ∧ RowSet w1 w2 w.heap.size 125 _ :=
        ⟨_, fun ty => run_copy_rowK w1 _ _ ty 125 w.heap.size (i * 2) (n + 1 - i) (G - i) ⟨vb, 0, none⟩ 1 1 _ 125 vs.toList 1 2 Try.underlying70 i0 hi0 hz1 H1.out.1 hmin2 (by rw [hvl]) (fun j v hj => by rw [Addr.add_lit, Nat.zero_add, World.cell?_of_block (a := ⟨vb, j, none⟩) (H1.out.2.block vb hvw (by simp)), HM.out.2.2.2.2.2.2.1.cell]; simpa using hj) (by rw [hs0, hvl]; omega) hvo, RowSet.mk_ H1.out.1 _⟩
      have HR2 := Lib.hid hr2
      clear hr2
      have hspl : (R0.toList.take (i * 2) ++ vs.toList ++ R0.toList.drop (i * 2 + vs.toList.length)).length = G * 2 := by rw [splice_length (by rw [hRl, hvl]; omega)]; exact hRl
      have hcell2 : ∀ j v, u2[j]? = some v → w2.cell? ⟨g, i * 2 + j, none⟩ = some v := fun j v hj => by
        have hjl := (List.getElem?_eq_some_iff.1 hj).1
        rw [World.cell?_of_block (a := ⟨g, i * 2 + j, none⟩) ((HR2.out.other g hgN).trans (H1.out.2.block g hgw (by simp))), HM.out.2.1.cell, ← Array.getElem?_toList]
        have h1 := congrArg (fun l => l[i * 2 + j]?) HM.out.2.2.2.1
        rw [List.getElem?_take_of_lt (by omega), List.getElem?_append_right (by omega), hu1, Nat.add_sub_cancel_left, hj] at h1
        exact h1
      have hfit2 : (i + 1) * 2 + u2.length ≤ G * 2 := by rw [hu2]; omega
      go_upto_region 11 with (fail)
      refine wp_regionT (S := (fun _ => True)) [8] (by kernel_rfl) (by (try dsimp only); (first | done | trivial)) (fun hHeld => ?_)
      refine takeT_read (i := 0) 9 46 (v := ?x2_v0) rfl rfl (by kernel_rfl) (by kernel_rfl) (by kernel_rfl) (by kernel_rfl) (by kernel_rfl) (by kernel_rfl) (fun _ _ _ h => h) (by rfl) ?x2_hy0 (by assumption) ?x2_rest0
      case x2_hy0 => (intro w hSw; (try dsimp only at hSw); go_simp; (try with_reducible rfl))
      try simp only [Act.put, List.setIfInBounds_toArray, List.set_cons_zero, List.set_cons_succ]
      refine takeT_read (i := 1) 9 47 (v := ?x2_v1) rfl rfl (by kernel_rfl) (by kernel_rfl) (by kernel_rfl) (by kernel_rfl) (by kernel_rfl) (by kernel_rfl) (fun _ _ _ h => h) (by rfl) ?x2_hy1 (by assumption) ?x2_rest1
      case x2_hy1 => (intro w hSw; (try dsimp only at hSw); go_simp; (try with_reducible rfl))
      try simp only [Act.put, List.setIfInBounds_toArray, List.set_cons_zero, List.set_cons_succ]
      refine takeT_read (i := 2) 9 48 (v := ?x2_v2) rfl rfl (by kernel_rfl) (by kernel_rfl) (by kernel_rfl) (by kernel_rfl) (by kernel_rfl) (by kernel_rfl) (fun _ _ _ h => h) (by rfl) ?x2_hy2 (by assumption) ?x2_rest2
      case x2_hy2 => (intro w hSw; (try dsimp only at hSw); go_simp; (try with_reducible rfl))
      try simp only [Act.put, List.setIfInBounds_toArray, List.set_cons_zero, List.set_cons_succ]
      refine takeT_read (i := 3) 9 49 (v := ?x2_v3) rfl rfl (by kernel_rfl) (by kernel_rfl) (by kernel_rfl) (by kernel_rfl) (by kernel_rfl) (by kernel_rfl) (fun _ _ _ h => h) (by rfl) ?x2_hy3 (by assumption) ?x2_rest3
      case x2_hy3 => (intro w hSw; (try dsimp only at hSw); go_simp; (try with_reducible rfl))
      try simp only [Act.put, List.setIfInBounds_toArray, List.set_cons_zero, List.set_cons_succ]
      refine takeT_read (i := 4) 9 50 (v := ?x2_v4) rfl rfl (by kernel_rfl) (by kernel_rfl) (by kernel_rfl) (by kernel_rfl) (by kernel_rfl) (by kernel_rfl) (fun _ _ _ h => h) (by rfl) ?x2_hy4 (by assumption) ?x2_rest4
      case x2_hy4 => (intro w hSw; (try dsimp only at hSw); go_simp; (try with_reducible rfl))
      try simp only [Act.put, List.setIfInBounds_toArray, List.set_cons_zero, List.set_cons_succ]
      refine takeT_read (i := 5) 9 51 (v := ?x2_v5) rfl rfl (by kernel_rfl) (by kernel_rfl) (by kernel_rfl) (by kernel_rfl) (by kernel_rfl) (by kernel_rfl) (fun _ _ _ h => h) (by rfl) ?x2_hy5 (by assumption) ?x2_rest5
      case x2_hy5 => (intro w hSw; (try dsimp only at hSw); go_simp; (try with_reducible rfl))
      try simp only [Act.put, List.setIfInBounds_toArray, List.set_cons_zero, List.set_cons_succ]
      refine takeT_read (i := 6) 9 52 (v := ?x2_v6) rfl rfl (by kernel_rfl) (by kernel_rfl) (by kernel_rfl) (by kernel_rfl) (by kernel_rfl) (by kernel_rfl) (fun _ _ _ h => h) (by rfl) ?x2_hy6 (by assumption) ?x2_rest6
      case x2_hy6 => (intro w hSw; (try dsimp only at hSw); go_simp; (try with_reducible rfl))
      try simp only [Act.put, List.setIfInBounds_toArray, List.set_cons_zero, List.set_cons_succ]
      refine takeT_read (i := 7) 9 53 (v := ?x2_v7) rfl rfl (by kernel_rfl) (by kernel_rfl) (by kernel_rfl) (by kernel_rfl) (by kernel_rfl) (by kernel_rfl) (fun _ _ _ h => h) (by rfl) ?x2_hy7 (by assumption) ?x2_rest7
      case x2_hy7 => (intro w hSw; (try dsimp only at hSw); go_simp; (try with_reducible rfl))
      try simp only [Act.put, List.setIfInBounds_toArray, List.set_cons_zero, List.set_cons_succ]
      refine stepT_end 8 (by kernel_rfl) rfl (by kernel_rfl) (fun K hK => ?_)
      (refine step_copyK _ rfl _ _ _ _ 125 rfl w.heap.size ((i + 1) * 2) (n - i) (G - (i + 1)) ⟨g, i * 2, none⟩ (n - i) (cp - i) rfl rfl _ 125 u2 (n - i) 2 Try.underlying70 i0 hi0 hz1 (by exact HR2.out.blk) hmin1 hu2 (fun j v hj => by rw [Addr.add_lit]; exact hcell2 j v hj) (by rw [List.size_toArray, hspl]; exact hfit2) hone2 ?_; intro w3 hr3)
      refine hK.out _ _ ?_
      clear hK K
      refine doneT (by kernel_rfl) ?_ _
      have HR3 := Lib.hid hr3
      clear hr3 hcell2
      go_wp2_with fail
      go_ret
      have e1 : (i + 1) * 2 = i * 2 + 2 := by omega
      have e2 : (n + 1) * 2 = i * 2 + 2 + u2.length := by rw [hu2]; omega
      have ht := take_fill (u1 := u1) (u2 := u2) (vs := vs.toList) (R := R0.toList) (a := i * 2) (b := 2) ht0 hu1 hvl (by rw [hRl, hu2]; omega)
      have hblk3 := HR3.out.blk
      rw [List.toList_toArray, e1] at hblk3
      have hk3 : ∀ b, b < w.heap.size → w3.heap[b]? = w.heap[b]? := fun b hb => (HR3.out.other b (by omega)).trans ((HR2.out.other b (by omega)).trans (H1.out.2.block b hb (by simp)))
      have hgr : w.grownBy w3 (some g) := ⟨HR3.out.os.trans (HR2.out.os.trans H1.out.2.os), HR3.out.tape.trans (HR2.out.tape.trans H1.out.2.tape), HR3.out.output.trans (HR2.out.output.trans H1.out.2.output), by have h9 := HR3.out.size; have h8 := HR2.out.size; (try simp at h9); omega, fun b hb _ => hk3 b hb⟩
      simp only [Inserts, HX.out]
      refine ⟨some ⟨w.heap.size, 0, none⟩, G, F1, F2, rfl, rfl, ?_, by rw [hgo]; exact hgr, fun g' hg' => .inr (by cases G with | zero => omega | succ m => simp only [ownB, Option.some.injEq] at hg'; omega)⟩
      exact Own.of_parts (c := cCacheO) hB hblk3 (by rw [List.size_toArray, splice_length (by rw [hspl, hu2]; show i * 2 + 2 + (n - i) * 2 ≤ _; omega)]; exact hspl) (by rw [List.length_take, List.length_drop, HX.out]; omega) (by show List.take ((n + 1) * 2) _ = _; rw [List.toList_toArray, e2]; exact ht) hG (by unfold maxLen; exact hGm)
        (Cod.reps_keep HM.out.2.2.2.2.1 fun b hb => hk3 b (Cod.reps_lt HM.out.2.2.2.2.1 b hb)) (Cod.keep _ HM.out.2.2.2.2.2.2.2 fun b hb => hk3 b (Cod.lt _ HM.out.2.2.2.2.2.2.2 b hb)) (Cod.reps_keep HM.out.2.2.2.2.2.1 fun b hb => hk3 b (Cod.reps_lt HM.out.2.2.2.2.2.1 b hb))
end Go.Proofs.Ytlicnppfgfjkgaa
