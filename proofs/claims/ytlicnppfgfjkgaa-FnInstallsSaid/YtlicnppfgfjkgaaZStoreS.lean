/-
  StoreResponse of the reference. No conditions.
-/
import Derived.Test.YtlicnppfgfjkgaaZNest
import Derived.Test.YtlicnppfgfjkgaaZRegT
import Derived.Deep.CutRange
namespace Go.Proofs.Ytlicnppfgfjkgaa
open Go.ChangeShapes Go.WideShapes Go.RowKit
set_option linter.unusedVariables false

theorem drew_set (w : World) (a : Addr) (v : Value) : w.drew.setCell a v = (w.setCell a v).drew := rfl
set_option maxRecDepth 100000 in
set_option maxHeartbeats 4000000 in
theorem specStoreResponseO_any (vs : Array Value) (x : TCSet) (F : List Nat) (v : Int) (st pa : ByteArray) (ys : Array Value) (y : TResp) (F5 : List Nat) (w : World) (h : cCSet.rep w vs.toList x F) (hn : cCSet.sz x ≤ 1048576) (hv : -9223372036854775808 ≤ v ∧ v ≤ 9223372036854775807) (hst : st.size ≤ maxLen) (hpa : pa.size ≤ maxLen) (hy : cResp.rep w ys.toList y F5) (hny : cResp.sz y ≤ 1048576) :
    Calls Try.prog 38 #[.agg vs, .int .i64 v, .string st, .string pa, .agg ys] w (GivesR2 cCSetO w (storeResponse x v st pa y).1 (.bool (storeResponse x v st pa y).2)) := by
  obtain ⟨i0, hi0, hz0, hz1, hz2⟩ := info_parts infoCached
  have hr := h
  have hry := hy
  obtain ⟨v0, F0, rfl, -, -, m0⟩ := TCSet.outA h
  obtain ⟨A, cp, rfl⟩ := cL_form m0
  obtain ⟨vy, Fy, rfl, -, hoky, my⟩ := TResp.outA hy
  obtain ⟨Ay, cy, rfl⟩ := cL_form my
  clear h hy my
  have HT := Lib.hid (fun k (e : findCache x v = k) => show storeResponse x v st pa y = storeAt x k ⟨st, pa, y⟩ by unfold storeResponse; rw [e])
  have hnl := cset_len hn
  rcases idxP_cases (fun c : TCache => c.ver == v) x.caches with hk | ⟨k, hkl, hk⟩
  · replace hk : findCache x v = -1 := hk
    have HE := Lib.hid (show storeResponse x v st pa y = (x, false) by rw [HT.out _ hk]; rfl)
    rw [HE.out]
    go_enter Try.func38, Try.ntmps38
    go_wp2_with fail
    refine (specCopySet_any _ x _ _ (by exact Cod.bel hr (by repeat (first | with_reducible exact Below.refl _ _ | with_reducible assumption | with_reducible refine bel_alloc ?_ _ | with_reducible refine bel_drew ?_ | with_reducible refine bel_drewN ?_ _ | (with_reducible refine bel_set ?_ ?_ _; rotate_left; ((try simp); (try omega)))))) hn).mono ?_
    rintro e w1 ⟨vs1, G1, rfl, hb1, hrep1, hf1⟩
    obtain ⟨B1, d1, rfl, n1⟩ := TCSet.outO hrep1
    have hz_w1 := hb1.size
    (try simp at hz_w1)
    have ha0_w1 : w.heap.size < w1.heap.size := by omega
    have ha1_w1 : w.heap.size + 1 < w1.heap.size := by omega
    have ha2_w1 : w.heap.size + 1 + 1 < w1.heap.size := by omega
    obtain ⟨hc_w1, hf_w1, -⟩ := bcell hb1
    have hb_w1 : Below w.heap.size w w1 := bel_then (by repeat (first | with_reducible exact Below.refl _ _ | with_reducible assumption | with_reducible refine bel_alloc ?_ _ | with_reducible refine bel_drew ?_ | with_reducible refine bel_drewN ?_ _ | (with_reducible refine bel_set ?_ ?_ _; rotate_left; ((try simp); (try omega))))) hb1
    have hg1 : Fresh (w.heap.size + 1 + 1 + 1) G1 := hf1.mono (by (try simp); (try omega))
    clear hb1 hf1 hrep1
    go_wp2_with fail
    refine (specFindCache_any _ x _ v _ (by exact Cod.bel hr (by repeat (first | with_reducible exact Below.refl _ _ | with_reducible assumption | with_reducible refine bel_alloc ?_ _ | with_reducible refine bel_drew ?_ | with_reducible refine bel_drewN ?_ _ | (with_reducible refine bel_set ?_ ?_ _; rotate_left; ((try simp); (try omega)))))) hn hv).mono ?_
    rw [hk]
    rintro e w2 ⟨rfl, hb2⟩
    have hb12 : Below w1.heap.size w1 w2 := bel_then (by repeat (first | with_reducible exact Below.refl _ _ | with_reducible assumption | with_reducible refine bel_alloc ?_ _ | with_reducible refine bel_drew ?_ | with_reducible refine bel_drewN ?_ _ | (with_reducible refine bel_set ?_ ?_ _; rotate_left; ((try simp); (try omega))))) hb2
    have hz_w2 := hb2.size
    (try simp at hz_w2)
    have ha0_w2 : w.heap.size < w2.heap.size := by omega
    have ha1_w2 : w.heap.size + 1 < w2.heap.size := by omega
    have ha2_w2 : w.heap.size + 1 + 1 < w2.heap.size := by omega
    have ha3_w2 : w1.heap.size < w2.heap.size := by omega
    obtain ⟨hc_w2, hf_w2, -⟩ := bcell hb2
    have hb_w2 : Below w.heap.size w w2 := bel_then (by repeat (first | with_reducible exact Below.refl _ _ | with_reducible assumption | with_reducible refine bel_alloc ?_ _ | with_reducible refine bel_drew ?_ | with_reducible refine bel_drewN ?_ _ | (with_reducible refine bel_set ?_ ?_ _; rotate_left; ((try simp); (try omega))))) hb2
    have n2 := Cod.bel n1 hb12
    have hlt2 : ∀ b, b ∈ G1 → b < w1.heap.size := Cod.lt _ n1
    clear hb2 hb12 n1
    go_wp2_with fail
    refine bodyPost_ret (v := .tuple #[.agg #[.slice B1 x.caches.length d1], .bool false]) (by simp [results, Try.results38, go_sem, *]) rfl ?_
    exact ⟨_, G1, rfl, (by repeat (first | with_reducible exact Below.refl _ _ | with_reducible assumption | with_reducible refine bel_alloc ?_ _ | with_reducible refine bel_drew ?_ | with_reducible refine bel_drewN ?_ _ | (with_reducible refine bel_set ?_ ?_ _; rotate_left; ((try simp); (try omega))))), TCSet.mkO (Cod.keep2 n2 hg1 (by repeat (first | with_reducible exact Keep.refl _ _ | with_reducible assumption | with_reducible refine Keep.alloc ?_ _ | with_reducible refine Keep.drew ?_ | with_reducible refine Keep.drewN ?_ _ | (with_reducible refine Keep.set_ ?_ ?_ _; rotate_left; ((try simp); (try omega)))))), hg1.mono (by (try simp); (try omega))⟩
  · replace hk : findCache x v = k := hk
    have HE := Lib.hid (show storeResponse x v st pa y = bif isCacheSet x && isCacheSet (storeOut x k ⟨st, pa, y⟩) then (storeOut x k ⟨st, pa, y⟩, true) else (x, false) by rw [HT.out _ hk]; unfold storeAt; rw [if_neg (by omega), Int.toNat_natCast])
    rw [HE.out]
    clear HE HT
    have HSO := Lib.hid (storeOut_at ⟨st, pa, y⟩ hkl)
    have hki : ((k : Int) < (x.caches.length : Int)) := by omega
    go_enter Try.func38, Try.ntmps38
    go_wp2_with fail
    refine (specCopySet_any _ x _ _ (by exact Cod.bel hr (by repeat (first | with_reducible exact Below.refl _ _ | with_reducible assumption | with_reducible refine bel_alloc ?_ _ | with_reducible refine bel_drew ?_ | with_reducible refine bel_drewN ?_ _ | (with_reducible refine bel_set ?_ ?_ _; rotate_left; ((try simp); (try omega)))))) hn).mono ?_
    rintro e w1 ⟨vs1, G1, rfl, hb1, hrep1, hf1⟩
    obtain ⟨B1, d1, rfl, n1⟩ := TCSet.outO hrep1
    have hz_w1 := hb1.size
    (try simp at hz_w1)
    have ha0_w1 : w.heap.size < w1.heap.size := by omega
    have ha1_w1 : w.heap.size + 1 < w1.heap.size := by omega
    have ha2_w1 : w.heap.size + 1 + 1 < w1.heap.size := by omega
    obtain ⟨hc_w1, hf_w1, -⟩ := bcell hb1
    have hb_w1 : Below w.heap.size w w1 := bel_then (by repeat (first | with_reducible exact Below.refl _ _ | with_reducible assumption | with_reducible refine bel_alloc ?_ _ | with_reducible refine bel_drew ?_ | with_reducible refine bel_drewN ?_ _ | (with_reducible refine bel_set ?_ ?_ _; rotate_left; ((try simp); (try omega))))) hb1
    have hg1 : Fresh (w.heap.size + 1 + 1 + 1) G1 := hf1.mono (by (try simp); (try omega))
    have hlt1 : ∀ b, b ∈ G1 → b < w1.heap.size := Cod.lt _ n1
    clear hb1 hf1 hrep1
    obtain ⟨g, cur, E5, e5, FiE, rfl, HN⟩ := nest_upd n1 hg1 hkl
    have hgw1 : g < w1.heap.size := HN.glt
    obtain ⟨FC, hCrep⟩ : ∃ FC, cCachedS.rep w1 [.slice E5 x.caches[k].entries.length e5] x.caches[k].entries FC := by
      obtain ⟨hr9, -⟩ := HN.own.toO (hw2 := by decide) HN.fresh (fun g' hg' => (HN.ne g' hg').1)
      obtain ⟨FC, h9, -⟩ := weak_caches_e.2 hr9
      exact ⟨FC, h9⟩
    have p0 : w1.cell? ⟨g, k * 2, none⟩ = some (.int .i64 x.caches[k].ver) := (HN.blk.cell (k * 2)).trans HN.c0
    have p1 : w1.cell? ⟨g, k * 2 + 1, none⟩ = some (.slice E5 x.caches[k].entries.length e5) := (HN.blk.cell (k * 2 + 1)).trans HN.c1
    have HH := Lib.hid HN
    have hgG := HN.gG
    clear HN n1
    go_wp2_with fail
    refine (specFindCache_any _ x _ v _ (by exact Cod.bel hr (by repeat (first | with_reducible exact Below.refl _ _ | with_reducible assumption | with_reducible refine bel_alloc ?_ _ | with_reducible refine bel_drew ?_ | with_reducible refine bel_drewN ?_ _ | (with_reducible refine bel_set ?_ ?_ _; rotate_left; ((try simp); (try omega)))))) hn hv).mono ?_
    rw [hk]
    rintro e w2 ⟨rfl, hb2⟩
    have hb12 : Below w1.heap.size w1 w2 := bel_then (by repeat (first | with_reducible exact Below.refl _ _ | with_reducible assumption | with_reducible refine bel_alloc ?_ _ | with_reducible refine bel_drew ?_ | with_reducible refine bel_drewN ?_ _ | (with_reducible refine bel_set ?_ ?_ _; rotate_left; ((try simp); (try omega))))) hb2
    have hz_w2 := hb2.size
    (try simp at hz_w2)
    have ha0_w2 : w.heap.size < w2.heap.size := by omega
    have ha1_w2 : w.heap.size + 1 < w2.heap.size := by omega
    have ha2_w2 : w.heap.size + 1 + 1 < w2.heap.size := by omega
    have ha3_w2 : w1.heap.size < w2.heap.size := by omega
    obtain ⟨hc_w2, hf_w2, -⟩ := bcell hb2
    have hb_w2 : Below w.heap.size w w2 := bel_then (by repeat (first | with_reducible exact Below.refl _ _ | with_reducible assumption | with_reducible refine bel_alloc ?_ _ | with_reducible refine bel_drew ?_ | with_reducible refine bel_drewN ?_ _ | (with_reducible refine bel_set ?_ ?_ _; rotate_left; ((try simp); (try omega))))) hb2
    clear hb2
    go_wp2_with fail
    refine (specCopyResp_any _ y _ _ (by exact Cod.bel hry (by repeat (first | with_reducible exact Below.refl _ _ | with_reducible assumption | with_reducible refine bel_alloc ?_ _ | with_reducible refine bel_drew ?_ | with_reducible refine bel_drewN ?_ _ | (with_reducible refine bel_set ?_ ?_ _; rotate_left; ((try simp); (try omega)))))) hny).mono ?_
    rintro e w3 ⟨vs3, G3, rfl, hb3, hrep3, hf3⟩
    obtain ⟨v6, _, rfl, rfl, hok6, n6⟩ := TResp.outA hrep3
    obtain ⟨B6, d6, rfl⟩ := cL_form n6
    have hb13 : Below w1.heap.size w1 w3 := bel_then hb12 hb3
    have hlt3 : ∀ b, b ∈ G3 → b < w3.heap.size := Cod.lt _ n6
    have hz_w3 := hb3.size
    (try simp at hz_w3)
    have ha0_w3 : w.heap.size < w3.heap.size := by omega
    have ha1_w3 : w.heap.size + 1 < w3.heap.size := by omega
    have ha2_w3 : w.heap.size + 1 + 1 < w3.heap.size := by omega
    have ha3_w3 : w1.heap.size < w3.heap.size := by omega
    obtain ⟨hc_w3, hf_w3, -⟩ := bcell hb3
    have hb_w3 : Below w.heap.size w w3 := bel_then (by repeat (first | with_reducible exact Below.refl _ _ | with_reducible assumption | with_reducible refine bel_alloc ?_ _ | with_reducible refine bel_drew ?_ | with_reducible refine bel_drewN ?_ _ | (with_reducible refine bel_set ?_ ?_ _; rotate_left; ((try simp); (try omega))))) hb3
    have hf3' : Fresh w1.heap.size G3 := hf3.mono hb12.size
    have hf3L : Fresh (w1.heap.size + 1) G3 := hf3.mono (by omega)
    clear hb3 hrep3 hf3
    have p0' : w3.cell? ⟨g, k * 2, none⟩ = some (.int .i64 x.caches[k].ver) := (hb13.cell (p := ⟨g, k * 2, none⟩) hgw1).trans p0
    have p1' : w3.cell? ⟨g, k * 2 + 1, none⟩ = some (.slice E5 x.caches[k].entries.length e5) := (hb13.cell (p := ⟨g, k * 2 + 1, none⟩) hgw1).trans p1
    have hgw3 : g < w3.heap.size := Nat.lt_of_lt_of_le hgw1 hb13.size
    have hgn3 : ¬ g = w3.heap.size := by omega
    go_wp2_with fail
    refine (specEntry_any _ _ _ _ x.caches[k].entries st pa _ _ (by exact Cod.bel hCrep (bel_then hb13 (by repeat (first | with_reducible exact Below.refl _ _ | with_reducible assumption | with_reducible refine bel_alloc ?_ _ | with_reducible refine bel_drew ?_ | with_reducible refine bel_drewN ?_ _ | (with_reducible refine bel_set ?_ ?_ _; rotate_left; ((try simp); (try omega)))))))).mono ?_
    rintro e w4 ⟨rfl, hb4⟩
    have hb34 : Below w3.heap.size w3 w4 := bel_then (by repeat (first | with_reducible exact Below.refl _ _ | with_reducible assumption | with_reducible refine bel_alloc ?_ _ | with_reducible refine bel_drew ?_ | with_reducible refine bel_drewN ?_ _ | (with_reducible refine bel_set ?_ ?_ _; rotate_left; ((try simp); (try omega))))) hb4
    have hb14 : Below w1.heap.size w1 w4 := bel_then hb13 hb34
    have hz_w4 := hb4.size
    (try simp at hz_w4)
    have ha0_w4 : w.heap.size < w4.heap.size := by omega
    have ha1_w4 : w.heap.size + 1 < w4.heap.size := by omega
    have ha2_w4 : w.heap.size + 1 + 1 < w4.heap.size := by omega
    have ha3_w4 : w1.heap.size < w4.heap.size := by omega
    have ha4_w4 : w3.heap.size < w4.heap.size := by omega
    obtain ⟨hc_w4, hf_w4, -⟩ := bcell hb4
    have hb_w4 : Below w.heap.size w w4 := bel_then (by repeat (first | with_reducible exact Below.refl _ _ | with_reducible assumption | with_reducible refine bel_alloc ?_ _ | with_reducible refine bel_drew ?_ | with_reducible refine bel_drewN ?_ _ | (with_reducible refine bel_set ?_ ?_ _; rotate_left; ((try simp); (try omega))))) hb4
    clear hb4
    have b0 : w4.cell? ⟨w.heap.size, 0, none⟩ = some (.slice A x.caches.length cp) := by go_simp
    have l0 : w4.cell? ⟨w.heap.size + 1 + 1, 0, none⟩ = some (.slice none 0 0) := by go_simp
    have j0 : w4.cell? ⟨w1.heap.size, 0, none⟩ = some (.slice (some ⟨g, 0, none⟩) x.caches.length d1) := by go_simp
    have q0 : w4.cell? ⟨w3.heap.size, 0, none⟩ = some (.string st) := by go_simp
    have q1 : w4.cell? ⟨w3.heap.size, 1, none⟩ = some (.string pa) := by go_simp
    have q2 : w4.cell? ⟨w3.heap.size, 2, none⟩ = some (.int .i64 y.type) := by go_simp
    have q3 : w4.cell? ⟨w3.heap.size, 3, none⟩ = some (.int .i64 y.status) := by go_simp
    have q4 : w4.cell? ⟨w3.heap.size, 4, none⟩ = some (.int .i64 y.ver) := by go_simp
    have q5 : w4.cell? ⟨w3.heap.size, 5, none⟩ = some (.slice B6 y.body.length d6) := by go_simp
    have q6 : w4.cell? ⟨w3.heap.size, 6, none⟩ = some (.bool y.shares) := by go_simp
    have z4 : w4.frozen? ⟨w.heap.size + 1 + 1, 0, none⟩ = false := by go_simp
    have p14 : w4.cell? ⟨g, k * 2 + 1, none⟩ = some (.slice E5 x.caches[k].entries.length e5) := (hb14.cell (p := ⟨g, k * 2 + 1, none⟩) hgw1).trans p1
    have n64 := Cod.bel n6 hb34
    have hgw4 : g < w4.heap.size := Nat.lt_of_lt_of_le hgw1 hb14.size
    have hbw14 : Below w.heap.size w w4 := hb_w4
    clear hc_w1 hf_w1 hc_w2 hf_w2 hc_w3 hf_w3 hc_w4 hf_w4 p0 p1 p0' p1' hCrep n6
    have hokE : (⟨st, pa, y⟩ : TCached).Ok := ⟨hst, hpa, hoky.h0, hoky.h1, hoky.h2⟩
    go_upto_if 38 with fail
    go_cut [] from 15 to 61 (fun wq => ∃ F', Below w.heap.size w wq ∧ w1.heap.size < wq.heap.size ∧ wq.cell? ⟨w.heap.size, 0, none⟩ = some (.slice A x.caches.length cp) ∧ wq.cell? ⟨w.heap.size + 1 + 1, 0, none⟩ = some (.slice none 0 0) ∧ wq.frozen? ⟨w.heap.size + 1 + 1, 0, none⟩ = false ∧ wq.cell? ⟨w1.heap.size, 0, none⟩ = some (.slice (some ⟨g, 0, none⟩) x.caches.length d1) ∧ cCachesO.rep wq [.slice (some ⟨g, 0, none⟩) x.caches.length d1] (storeOut x k ⟨st, pa, y⟩).caches F' ∧ Fresh (w.heap.size + 1 + 1 + 1) F' ∧ ∀ b, b ∈ F' → b ≠ w1.heap.size)
    case first =>
      have hS : ∀ w9, Below w4.heap.size w4 w9 → w9.cell? ⟨w1.heap.size, 0, none⟩ = some (.slice (some ⟨g, 0, none⟩) x.caches.length d1) ∧ w9.cell? ⟨g, k * 2 + 1, none⟩ = some (.slice E5 x.caches[k].entries.length e5) ∧ w9.cell? ⟨w3.heap.size, 0, none⟩ = some (.string st) ∧ w9.cell? ⟨w3.heap.size, 1, none⟩ = some (.string pa) ∧ w9.cell? ⟨w3.heap.size, 2, none⟩ = some (.int .i64 y.type) ∧ w9.cell? ⟨w3.heap.size, 3, none⟩ = some (.int .i64 y.status) ∧ w9.cell? ⟨w3.heap.size, 4, none⟩ = some (.int .i64 y.ver) ∧ w9.cell? ⟨w3.heap.size, 5, none⟩ = some (.slice B6 y.body.length d6) ∧ w9.cell? ⟨w3.heap.size, 6, none⟩ = some (.bool y.shares) :=
        fun w9 hb => ⟨(hb.cell (p := ⟨w1.heap.size, 0, none⟩) (by omega)).trans j0, (hb.cell (p := ⟨g, k * 2 + 1, none⟩) hgw4).trans p14, (hb.cell (p := ⟨w3.heap.size, 0, none⟩) (by omega)).trans q0, (hb.cell (p := ⟨w3.heap.size, 1, none⟩) (by omega)).trans q1, (hb.cell (p := ⟨w3.heap.size, 2, none⟩) (by omega)).trans q2, (hb.cell (p := ⟨w3.heap.size, 3, none⟩) (by omega)).trans q3, (hb.cell (p := ⟨w3.heap.size, 4, none⟩) (by omega)).trans q4, (hb.cell (p := ⟨w3.heap.size, 5, none⟩) (by omega)).trans q5, (hb.cell (p := ⟨w3.heap.size, 6, none⟩) (by omega)).trans q6⟩
      have hne31 : ¬ w3.heap.size = g := by omega
      rcases idxP_cases (fun e : TCached => sameEntry e st pa) x.caches[k].entries with hi | ⟨i, hil, hi⟩
      · replace hi : entryIx x.caches[k].entries st pa = -1 := hi
        have HE : storeOut x k ⟨st, pa, y⟩ = ⟨x.caches.set k ⟨x.caches[k].ver, x.caches[k].entries ++ [⟨st, pa, y⟩]⟩⟩ := by rw [HSO.out]; unfold putEntry; rw [show entryIx x.caches[k].entries (⟨st, pa, y⟩ : TCached).site (⟨st, pa, y⟩ : TCached).path = -1 from hi]; rfl
        rw [hi]
        have HE9 := Lib.hid HE
        clear HE
        have hnE := entries_len hn hkl
        have hr1 : ownB (.slice E5 x.caches[k].entries.length e5) ≠ some w1.heap.size := fun e => by have h9 := HH.out.lt _ (HH.out.ne _ e).2.2; omega
        have hr3 : ownB (.slice E5 x.caches[k].entries.length e5) ≠ some w3.heap.size := fun e => by have h9 := HH.out.lt _ (HH.out.ne _ e).2.2; have h8 := hb13.size; omega
        go_wp2_with fail
        refine wp_regionT (S := (fun w9 => w9.cell? ⟨w1.heap.size, 0, none⟩ = some (.slice (some ⟨g, 0, none⟩) x.caches.length d1) ∧ w9.cell? ⟨g, k * 2 + 1, none⟩ = some (.slice E5 x.caches[k].entries.length e5) ∧ w9.cell? ⟨w3.heap.size, 0, none⟩ = some (.string st) ∧ w9.cell? ⟨w3.heap.size, 1, none⟩ = some (.string pa) ∧ w9.cell? ⟨w3.heap.size, 2, none⟩ = some (.int .i64 y.type) ∧ w9.cell? ⟨w3.heap.size, 3, none⟩ = some (.int .i64 y.status) ∧ w9.cell? ⟨w3.heap.size, 4, none⟩ = some (.int .i64 y.ver) ∧ w9.cell? ⟨w3.heap.size, 5, none⟩ = some (.slice B6 y.body.length d6) ∧ w9.cell? ⟨w3.heap.size, 6, none⟩ = some (.bool y.shares))) [14] (by kernel_rfl) (by (try dsimp only); (first | exact hS5 | exact hS _ (by repeat (first | with_reducible exact Below.refl _ _ | with_reducible assumption | with_reducible refine bel_alloc ?_ _ | with_reducible refine bel_drew ?_ | with_reducible refine bel_drewN ?_ _ | (with_reducible refine bel_set ?_ ?_ _; rotate_left; ((try simp); (try omega))))))) (fun hHeld => ?_)
        refine takeT_read (i := 0) 15 48 (v := ?v0) rfl rfl (by kernel_rfl) (by kernel_rfl) (by kernel_rfl) (by kernel_rfl) (by kernel_rfl) (by kernel_rfl) (fun _ _ _ h => h) (by rfl) ?hy0 (by assumption) ?rest0
        case hy0 => (intro w hSw; (try dsimp only at hSw); go_simp; (try with_reducible rfl))
        try simp only [Act.put, List.setIfInBounds_toArray, List.set_cons_zero, List.set_cons_succ]
        refine takeT_read (i := 1) 15 49 (v := ?v1) rfl rfl (by kernel_rfl) (by kernel_rfl) (by kernel_rfl) (by kernel_rfl) (by kernel_rfl) (by kernel_rfl) (fun _ _ _ h => h) (by rfl) ?hy1 (by assumption) ?rest1
        case hy1 => (intro w hSw; (try dsimp only at hSw); go_simp; (try with_reducible rfl))
        try simp only [Act.put, List.setIfInBounds_toArray, List.set_cons_zero, List.set_cons_succ]
        refine takeT_read (i := 2) 15 50 (v := ?v2) rfl rfl (by kernel_rfl) (by kernel_rfl) (by kernel_rfl) (by kernel_rfl) (by kernel_rfl) (by kernel_rfl) (fun _ _ _ h => h) (by rfl) ?hy2 (by assumption) ?rest2
        case hy2 => (intro w hSw; (try dsimp only at hSw); go_simp; (try with_reducible rfl))
        try simp only [Act.put, List.setIfInBounds_toArray, List.set_cons_zero, List.set_cons_succ]
        refine takeT_read (i := 3) 15 51 (v := ?v3) rfl rfl (by kernel_rfl) (by kernel_rfl) (by kernel_rfl) (by kernel_rfl) (by kernel_rfl) (by kernel_rfl) (fun _ _ _ h => h) (by rfl) ?hy3 (by assumption) ?rest3
        case hy3 => (intro w hSw; (try dsimp only at hSw); go_simp; (try with_reducible rfl))
        try simp only [Act.put, List.setIfInBounds_toArray, List.set_cons_zero, List.set_cons_succ]
        refine takeT_read (i := 4) 15 52 (v := ?v4) rfl rfl (by kernel_rfl) (by kernel_rfl) (by kernel_rfl) (by kernel_rfl) (by kernel_rfl) (by kernel_rfl) (fun _ _ _ h => h) (by rfl) ?hy4 (by assumption) ?rest4
        case hy4 => (intro w hSw; (try dsimp only at hSw); go_simp; (try with_reducible rfl))
        try simp only [Act.put, List.setIfInBounds_toArray, List.set_cons_zero, List.set_cons_succ]
        refine takeT_read (i := 5) 15 53 (v := ?v5) rfl rfl (by kernel_rfl) (by kernel_rfl) (by kernel_rfl) (by kernel_rfl) (by kernel_rfl) (by kernel_rfl) (fun _ _ _ h => h) (by rfl) ?hy5 (by assumption) ?rest5
        case hy5 => (intro w hSw; (try dsimp only at hSw); go_simp; (try with_reducible rfl))
        try simp only [Act.put, List.setIfInBounds_toArray, List.set_cons_zero, List.set_cons_succ]
        refine takeT_read (i := 6) 15 54 (v := ?v6) rfl rfl (by kernel_rfl) (by kernel_rfl) (by kernel_rfl) (by kernel_rfl) (by kernel_rfl) (by kernel_rfl) (fun _ _ _ h => h) (by rfl) ?hy6 (by assumption) ?rest6
        case hy6 => (intro w hSw; (try dsimp only at hSw); go_simp; (try with_reducible rfl))
        try simp only [Act.put, List.setIfInBounds_toArray, List.set_cons_zero, List.set_cons_succ]
        refine takeT_read (i := 7) 15 55 (v := ?v7) rfl rfl (by kernel_rfl) (by kernel_rfl) (by kernel_rfl) (by kernel_rfl) (by kernel_rfl) (by kernel_rfl) (fun _ _ _ h => h) (by rfl) ?hy7 (by assumption) ?rest7
        case hy7 => (intro w hSw; (try dsimp only at hSw); go_simp; (try with_reducible rfl))
        try simp only [Act.put, List.setIfInBounds_toArray, List.set_cons_zero, List.set_cons_succ]
        refine takeT_read (i := 8) 15 56 (v := ?v8) rfl rfl (by kernel_rfl) (by kernel_rfl) (by kernel_rfl) (by kernel_rfl) (by kernel_rfl) (by kernel_rfl) (fun _ _ _ h => h) (by rfl) ?hy8 (by assumption) ?rest8
        case hy8 => (intro w hSw; (try dsimp only at hSw); go_simp; (try with_reducible rfl))
        try simp only [Act.put, List.setIfInBounds_toArray, List.set_cons_zero, List.set_cons_succ]
        refine takeT_read (i := 9) 15 57 (v := ?v9) rfl rfl (by kernel_rfl) (by kernel_rfl) (by kernel_rfl) (by kernel_rfl) (by kernel_rfl) (by kernel_rfl) (fun _ _ _ h => h) (by rfl) ?hy9 (by assumption) ?rest9
        case hy9 => (intro w hSw; (try dsimp only at hSw); go_simp; (try with_reducible rfl))
        try simp only [Act.put, List.setIfInBounds_toArray, List.set_cons_zero, List.set_cons_succ]
        refine stepT 10 (by kernel_rfl) rfl (fun K hK => ?_)
        first | fail | go_simp
        refine hK.out _ _ ?_ (fun hHeld => ?_)
        · (try dsimp only)
          (first | exact hS5 | exact hS _ (by repeat (first | with_reducible exact Below.refl _ _ | with_reducible assumption | with_reducible refine bel_alloc ?_ _ | with_reducible refine bel_drew ?_ | with_reducible refine bel_drewN ?_ _ | (with_reducible refine bel_set ?_ ?_ _; rotate_left; ((try simp); (try omega))))))
        clear hK K
        refine stepT 11 (by kernel_rfl) rfl (fun K hK => ?_)
        (refine step_app (c := cCached) (B := w.heap.size + 1 + 1 + 1) (xs := x.caches[k].entries) (ys := [⟨st, pa, y⟩]) (Fi := FiE) (Fy := G3) _ rfl _ _ _ rfl i0 _ _ Try.underlying123 hi0 hz0 hz1 hz2 rfl (by decide) rfl (HH.out.own.bel (bel_then hb14 (by repeat (first | with_reducible exact Below.refl _ _ | with_reducible assumption | with_reducible refine bel_alloc ?_ _ | with_reducible refine bel_drew ?_ | with_reducible refine bel_drewN ?_ _ | (with_reducible refine bel_set ?_ ?_ _; rotate_left; ((try simp); (try omega))))))) (.slice (some ⟨w4.heap.size, 0, none⟩) 1 1) rfl (AppSrc.bel (src_new (w := w4) (vs := #[.string st, .string pa, .int .i64 y.type, .int .i64 y.status, .int .i64 y.ver, .slice B6 y.body.length d6, .bool y.shares]) 129 _ rfl (TCached.mk_ (x := ⟨st, pa, y⟩) hokE n64)) (by repeat (first | with_reducible exact Below.refl _ _ | with_reducible assumption | with_reducible refine bel_alloc ?_ _ | with_reducible refine bel_drew ?_ | with_reducible refine bel_drewN ?_ _ | (with_reducible refine bel_set ?_ ?_ _; rotate_left; ((try simp); (try omega)))))) (by ((try simp only [List.length_singleton]); unfold maxLen; omega)) (by ((try simp only [List.length_singleton]); omega)) (by (try simp); (try omega)) (fun g' hg' => ⟨(HH.out.ne g' hg').1, fun hm => by have h1 := HH.out.lt g' (HH.out.ne g' hg').2.2; have h2 := hf3'.1 g' hm; omega⟩) ?_; intro v2 w5 ho2 hg2 hat2; obtain ⟨A2, c2, e2⟩ := ho2.slice; rw [List.length_append, List.length_singleton] at e2; subst e2; have HW := Lib.hid (nest_app HH.out (w1.heap.size + 1) (Nat.le_succ _) (by (try simp); (try omega)) (bel_then hb14 (by repeat (first | with_reducible exact Below.refl _ _ | with_reducible assumption | with_reducible refine bel_alloc ?_ _ | with_reducible refine bel_drew ?_ | with_reducible refine bel_drewN ?_ _ | (with_reducible refine bel_set ?_ ?_ _; rotate_left; ((try simp); (try omega)))))) hf3L (fun b hb => by have := hlt3 b hb; (try simp); omega) ho2 hg2 hat2); have hz5 := hg2.size; (try simp at hz5); have hbl5 : ∀ b, b < w4.heap.size → ownB (.slice E5 x.caches[k].entries.length e5) ≠ some b → w5.heap[b]? = w4.heap[b]? := (fun b hb hne => (hg2.block b (by (try simp); omega) (fun e => hne e.symm)).trans ((show Below w4.heap.size w4 _ from (by repeat (first | with_reducible exact Below.refl _ _ | with_reducible assumption | with_reducible refine bel_alloc ?_ _ | with_reducible refine bel_drew ?_ | with_reducible refine bel_drewN ?_ _ | (with_reducible refine bel_set ?_ ?_ _; rotate_left; ((try simp); (try omega)))))).block b hb)); have hbg5 : Below w.heap.size w w5 := Below.grown (show Below w.heap.size w _ from bel_then hbw14 (by repeat (first | with_reducible exact Below.refl _ _ | with_reducible assumption | with_reducible refine bel_alloc ?_ _ | with_reducible refine bel_drew ?_ | with_reducible refine bel_drewN ?_ _ | (with_reducible refine bel_set ?_ ?_ _; rotate_left; ((try simp); (try omega)))))) hg2 (by (try simp); (try omega)) (fun b hb => by have h9 := hg1.1 b (HH.out.ne b hb).2.2; omega); have hne9 : ownB (.slice E5 x.caches[k].entries.length e5) ≠ some g := (fun e => (HH.out.ne g e).2.1 rfl); have g5 : w5.cell? ⟨g, k * 2 + 1, none⟩ = some (.slice E5 x.caches[k].entries.length e5) := (World.cell?_of_block (hbl5 g hgw4 hne9)).trans p14; have f5 : w5.frozen? ⟨g, k * 2 + 1, none⟩ = false := ((World.frozen?_of_block (hbl5 g hgw4 hne9)).trans (hb14.frozen (p := ⟨g, k * 2 + 1, none⟩) hgw1)).trans (HH.out.blk.frozen _); clear ho2 hg2 hat2; have hS5 : w5.cell? ⟨w1.heap.size, 0, none⟩ = some (.slice (some ⟨g, 0, none⟩) x.caches.length d1) ∧ w5.cell? ⟨g, k * 2 + 1, none⟩ = some (.slice E5 x.caches[k].entries.length e5) ∧ w5.cell? ⟨w3.heap.size, 0, none⟩ = some (.string st) ∧ w5.cell? ⟨w3.heap.size, 1, none⟩ = some (.string pa) ∧ w5.cell? ⟨w3.heap.size, 2, none⟩ = some (.int .i64 y.type) ∧ w5.cell? ⟨w3.heap.size, 3, none⟩ = some (.int .i64 y.status) ∧ w5.cell? ⟨w3.heap.size, 4, none⟩ = some (.int .i64 y.ver) ∧ w5.cell? ⟨w3.heap.size, 5, none⟩ = some (.slice B6 y.body.length d6) ∧ w5.cell? ⟨w3.heap.size, 6, none⟩ = some (.bool y.shares) := ⟨(World.cell?_of_block (hbl5 _ ha3_w4 hr1)).trans j0, g5, (World.cell?_of_block (hbl5 _ ha4_w4 hr3)).trans q0, (World.cell?_of_block (hbl5 _ ha4_w4 hr3)).trans q1, (World.cell?_of_block (hbl5 _ ha4_w4 hr3)).trans q2, (World.cell?_of_block (hbl5 _ ha4_w4 hr3)).trans q3, (World.cell?_of_block (hbl5 _ ha4_w4 hr3)).trans q4, (World.cell?_of_block (hbl5 _ ha4_w4 hr3)).trans q5, (World.cell?_of_block (hbl5 _ ha4_w4 hr3)).trans q6⟩)
        refine hK.out _ _ ?_ (fun hHeld => ?_)
        · (try dsimp only)
          (first | exact hS5 | exact hS _ (by repeat (first | with_reducible exact Below.refl _ _ | with_reducible assumption | with_reducible refine bel_alloc ?_ _ | with_reducible refine bel_drew ?_ | with_reducible refine bel_drewN ?_ _ | (with_reducible refine bel_set ?_ ?_ _; rotate_left; ((try simp); (try omega))))))
        clear hK K
        refine takeT_read (i := 12) 15 60 (v := ?v12) rfl rfl (by kernel_rfl) (by kernel_rfl) (by kernel_rfl) (by kernel_rfl) (by kernel_rfl) (by kernel_rfl) (fun _ _ _ h => h) (by rfl) ?hy12 (by assumption) ?rest12
        case hy12 => (intro w hSw; (try dsimp only at hSw); go_simp; (try with_reducible rfl))
        refine takeT_read (i := 13) 15 61 (v := ?v13) rfl rfl (by kernel_rfl) (by kernel_rfl) (by kernel_rfl) (by kernel_rfl) (by kernel_rfl) (by kernel_rfl) (fun _ _ _ h => h) (by rfl) ?hy13 (by assumption) ?rest13
        case hy13 => (intro w hSw; (try dsimp only at hSw); go_simp; (try with_reducible rfl))
        refine stepT_end 14 (by kernel_rfl) rfl (by kernel_rfl) (fun K hK => ?_)
        go_simp
        refine hK.out _ _ ?_
        clear hK K
        refine doneT (by kernel_rfl) ?_ _
        go_wp2_with fail
        go_meet
        obtain ⟨G', hrp, hfp, hinp⟩ := HW.out
        have hbk : ∀ b, b < w4.heap.size → b ∉ G1 → (w5.setCell ⟨g, k * 2 + 1, none⟩ (.slice A2 (x.caches[k].entries.length + 1) c2)).heap[b]? = w4.heap[b]? := fun b hb hn9 => (Below.heap_setCell _ _ _ _ (fun e => hn9 (by have e9 : b = g := e; rw [e9]; exact HH.out.gG))).trans (hbl5 b hb (fun e => hn9 (HH.out.ne b e).2.2))
        have hnG : ∀ b, b ∈ G1 → w.heap.size + 1 + 1 + 1 ≤ b ∧ b < w1.heap.size := fun b hb => ⟨hg1.1 b hb, hlt1 b hb⟩
        have hy0 : w.heap.size ∉ G1 := fun hm => by have := hnG _ hm; omega
        have hy2 : w.heap.size + 1 + 1 ∉ G1 := fun hm => by have := hnG _ hm; omega
        have hy3 : w1.heap.size ∉ G1 := fun hm => by have := hnG _ hm; omega
        exact ⟨G', belB_set (by have h9 := HH.out.gB; (show w.heap.size ≤ g); omega) hbg5 _, by simp; omega, (World.cell?_of_block (hbk _ ha0_w4 hy0)).trans b0, (World.cell?_of_block (hbk _ ha2_w4 hy2)).trans l0, (World.frozen?_of_block (hbk _ ha2_w4 hy2)).trans z4, (World.cell?_of_block (hbk _ ha3_w4 hy3)).trans j0, by rw [HE9.out]; exact hrp, hfp, fun b hb e => by
          rcases hinp b hb with h9 | h9
          · have := hnG b h9; omega
          · omega⟩
      · replace hi : entryIx x.caches[k].entries st pa = i := hi
        have HE : storeOut x k ⟨st, pa, y⟩ = ⟨x.caches.set k ⟨x.caches[k].ver, x.caches[k].entries.set i ⟨st, pa, y⟩⟩⟩ := by rw [HSO.out]; unfold putEntry; rw [show entryIx x.caches[k].entries (⟨st, pa, y⟩ : TCached).site (⟨st, pa, y⟩ : TCached).path = i from hi, if_neg (by omega), Int.toNat_natCast]
        rw [hi]
        have HE9 := Lib.hid HE
        clear HE
        have hii : (i : Int) < (x.caches[k].entries.length : Int) := by omega
        have hi0' : (0 : Int) ≤ (i : Int) := by omega
        obtain ⟨gE, v5, rfl, hgE1, hBgE, hgEG, hgEn, hfzE, -, hcE, hput⟩ := nest_put HH.out hil
        have c0 : w4.cell? ⟨gE, i * 7, none⟩ = some _ := (hb14.cell (p := ⟨gE, i * 7, none⟩) hgE1).trans (hcE 0 _ rfl)
        have f0 : w4.frozen? ⟨gE, i * 7, none⟩ = false := (hb14.frozen (p := ⟨gE, i * 7, none⟩) hgE1).trans (hfzE _)
        have c1 : w4.cell? ⟨gE, i * 7 + 1, none⟩ = some _ := (hb14.cell (p := ⟨gE, i * 7 + 1, none⟩) hgE1).trans (hcE 1 _ rfl)
        have f1 : w4.frozen? ⟨gE, i * 7 + 1, none⟩ = false := (hb14.frozen (p := ⟨gE, i * 7 + 1, none⟩) hgE1).trans (hfzE _)
        have c2 : w4.cell? ⟨gE, i * 7 + 2, none⟩ = some _ := (hb14.cell (p := ⟨gE, i * 7 + 2, none⟩) hgE1).trans (hcE 2 _ rfl)
        have f2 : w4.frozen? ⟨gE, i * 7 + 2, none⟩ = false := (hb14.frozen (p := ⟨gE, i * 7 + 2, none⟩) hgE1).trans (hfzE _)
        have c3 : w4.cell? ⟨gE, i * 7 + 3, none⟩ = some _ := (hb14.cell (p := ⟨gE, i * 7 + 3, none⟩) hgE1).trans (hcE 3 _ rfl)
        have f3 : w4.frozen? ⟨gE, i * 7 + 3, none⟩ = false := (hb14.frozen (p := ⟨gE, i * 7 + 3, none⟩) hgE1).trans (hfzE _)
        have c4 : w4.cell? ⟨gE, i * 7 + 4, none⟩ = some _ := (hb14.cell (p := ⟨gE, i * 7 + 4, none⟩) hgE1).trans (hcE 4 _ rfl)
        have f4 : w4.frozen? ⟨gE, i * 7 + 4, none⟩ = false := (hb14.frozen (p := ⟨gE, i * 7 + 4, none⟩) hgE1).trans (hfzE _)
        have c5 : w4.cell? ⟨gE, i * 7 + 5, none⟩ = some _ := (hb14.cell (p := ⟨gE, i * 7 + 5, none⟩) hgE1).trans (hcE 5 _ rfl)
        have f5 : w4.frozen? ⟨gE, i * 7 + 5, none⟩ = false := (hb14.frozen (p := ⟨gE, i * 7 + 5, none⟩) hgE1).trans (hfzE _)
        have c6 : w4.cell? ⟨gE, i * 7 + 6, none⟩ = some _ := (hb14.cell (p := ⟨gE, i * 7 + 6, none⟩) hgE1).trans (hcE 6 _ rfl)
        have f6 : w4.frozen? ⟨gE, i * 7 + 6, none⟩ = false := (hb14.frozen (p := ⟨gE, i * 7 + 6, none⟩) hgE1).trans (hfzE _)
        have hP := Lib.hid (hput (w1.heap.size + 1) (Nat.le_succ _) w4.drew 0 [.string st, .string pa, .int .i64 y.type, .int .i64 y.status, .int .i64 y.ver, .slice B6 y.body.length d6, .bool y.shares] [.string st, .string pa, .int .i64 y.type, .int .i64 y.status, .int .i64 y.ver, .slice B6 y.body.length d6, .bool y.shares] ⟨st, pa, y⟩ G3 (bel_then hb14 (by repeat (first | with_reducible exact Below.refl _ _ | with_reducible assumption | with_reducible refine bel_alloc ?_ _ | with_reducible refine bel_drew ?_ | with_reducible refine bel_drewN ?_ _ | (with_reducible refine bel_set ?_ ?_ _; rotate_left; ((try simp); (try omega)))))) (Nat.le_refl 7) rfl (TCached.mk_ (x := ⟨st, pa, y⟩) hokE (Cod.keep _ n64 fun b hb => putCells_blk _ _ b (fun e => by have h8 := hf3'.1 b hb; omega))) hf3L)
        clear hput hcE hfzE hS
        go_wp2_with fail
        refine wp_regionT (S := (fun w9 => w9.cell? ⟨w1.heap.size, 0, none⟩ = some (.slice (some ⟨g, 0, none⟩) x.caches.length d1) ∧ w9.cell? ⟨g, k * 2 + 1, none⟩ = some (.slice (some ⟨gE, 0, none⟩) x.caches[k].entries.length e5) ∧ w9.cell? ⟨w3.heap.size, 0, none⟩ = some (.string st) ∧ w9.cell? ⟨w3.heap.size, 1, none⟩ = some (.string pa) ∧ w9.cell? ⟨w3.heap.size, 2, none⟩ = some (.int .i64 y.type) ∧ w9.cell? ⟨w3.heap.size, 3, none⟩ = some (.int .i64 y.status) ∧ w9.cell? ⟨w3.heap.size, 4, none⟩ = some (.int .i64 y.ver) ∧ w9.cell? ⟨w3.heap.size, 5, none⟩ = some (.slice B6 y.body.length d6) ∧ w9.cell? ⟨w3.heap.size, 6, none⟩ = some (.bool y.shares))) [9] (by kernel_rfl) (by (try dsimp only); exact ⟨j0, p14, q0, q1, q2, q3, q4, q5, q6⟩) (fun hHeld => ?_)
        refine takeT_read (i := 0) 10 39 (v := ?x2_v0) rfl rfl (by kernel_rfl) (by kernel_rfl) (by kernel_rfl) (by kernel_rfl) (by kernel_rfl) (by kernel_rfl) (fun _ _ _ h => h) (by rfl) ?x2_hy0 (by assumption) ?x2_rest0
        case x2_hy0 => (intro w hSw; (try dsimp only at hSw); go_simp; (try with_reducible rfl))
        try simp only [Act.put, List.setIfInBounds_toArray, List.set_cons_zero, List.set_cons_succ]
        refine takeT_read (i := 1) 10 40 (v := ?x2_v1) rfl rfl (by kernel_rfl) (by kernel_rfl) (by kernel_rfl) (by kernel_rfl) (by kernel_rfl) (by kernel_rfl) (fun _ _ _ h => h) (by rfl) ?x2_hy1 (by assumption) ?x2_rest1
        case x2_hy1 => (intro w hSw; (try dsimp only at hSw); go_simp; (try with_reducible rfl))
        try simp only [Act.put, List.setIfInBounds_toArray, List.set_cons_zero, List.set_cons_succ]
        refine takeT_read (i := 2) 10 41 (v := ?x2_v2) rfl rfl (by kernel_rfl) (by kernel_rfl) (by kernel_rfl) (by kernel_rfl) (by kernel_rfl) (by kernel_rfl) (fun _ _ _ h => h) (by rfl) ?x2_hy2 (by assumption) ?x2_rest2
        case x2_hy2 => (intro w hSw; (try dsimp only at hSw); go_simp; (try with_reducible rfl))
        try simp only [Act.put, List.setIfInBounds_toArray, List.set_cons_zero, List.set_cons_succ]
        refine takeT_read (i := 3) 10 42 (v := ?x2_v3) rfl rfl (by kernel_rfl) (by kernel_rfl) (by kernel_rfl) (by kernel_rfl) (by kernel_rfl) (by kernel_rfl) (fun _ _ _ h => h) (by rfl) ?x2_hy3 (by assumption) ?x2_rest3
        case x2_hy3 => (intro w hSw; (try dsimp only at hSw); go_simp; (try with_reducible rfl))
        try simp only [Act.put, List.setIfInBounds_toArray, List.set_cons_zero, List.set_cons_succ]
        refine takeT_read (i := 4) 10 43 (v := ?x2_v4) rfl rfl (by kernel_rfl) (by kernel_rfl) (by kernel_rfl) (by kernel_rfl) (by kernel_rfl) (by kernel_rfl) (fun _ _ _ h => h) (by rfl) ?x2_hy4 (by assumption) ?x2_rest4
        case x2_hy4 => (intro w hSw; (try dsimp only at hSw); go_simp; (try with_reducible rfl))
        try simp only [Act.put, List.setIfInBounds_toArray, List.set_cons_zero, List.set_cons_succ]
        refine takeT_read (i := 5) 10 44 (v := ?x2_v5) rfl rfl (by kernel_rfl) (by kernel_rfl) (by kernel_rfl) (by kernel_rfl) (by kernel_rfl) (by kernel_rfl) (fun _ _ _ h => h) (by rfl) ?x2_hy5 (by assumption) ?x2_rest5
        case x2_hy5 => (intro w hSw; (try dsimp only at hSw); go_simp; (try with_reducible rfl))
        try simp only [Act.put, List.setIfInBounds_toArray, List.set_cons_zero, List.set_cons_succ]
        refine takeT_read (i := 6) 10 45 (v := ?x2_v6) rfl rfl (by kernel_rfl) (by kernel_rfl) (by kernel_rfl) (by kernel_rfl) (by kernel_rfl) (by kernel_rfl) (fun _ _ _ h => h) (by rfl) ?x2_hy6 (by assumption) ?x2_rest6
        case x2_hy6 => (intro w hSw; (try dsimp only at hSw); go_simp; (try with_reducible rfl))
        try simp only [Act.put, List.setIfInBounds_toArray, List.set_cons_zero, List.set_cons_succ]
        refine takeT_read (i := 7) 10 46 (v := ?x2_v7) rfl rfl (by kernel_rfl) (by kernel_rfl) (by kernel_rfl) (by kernel_rfl) (by kernel_rfl) (by kernel_rfl) (fun _ _ _ h => h) (by rfl) ?x2_hy7 (by assumption) ?x2_rest7
        case x2_hy7 => (intro w hSw; (try dsimp only at hSw); go_simp; (try with_reducible rfl))
        try simp only [Act.put, List.setIfInBounds_toArray, List.set_cons_zero, List.set_cons_succ]
        refine takeT_read (i := 8) 10 47 (v := ?x2_v8) rfl rfl (by kernel_rfl) (by kernel_rfl) (by kernel_rfl) (by kernel_rfl) (by kernel_rfl) (by kernel_rfl) (fun _ _ _ h => h) (by rfl) ?x2_hy8 (by assumption) ?x2_rest8
        case x2_hy8 => (intro w hSw; (try dsimp only at hSw); go_simp; (try with_reducible rfl))
        try simp only [Act.put, List.setIfInBounds_toArray, List.set_cons_zero, List.set_cons_succ]
        refine stepT_end 9 (by kernel_rfl) rfl (by kernel_rfl) (fun K hK => ?_)
        go_simp
        refine hK.out _ _ ?_
        clear hK K
        refine doneT (by kernel_rfl) ?_ _
        go_wp2_with fail
        go_meet
        have e9 : (((((((w4.setCell ⟨gE, i * 7, none⟩ (.string st)).setCell ⟨gE, i * 7 + 1, none⟩ (.string pa)).setCell ⟨gE, i * 7 + 2, none⟩ (.int .i64 y.type)).setCell ⟨gE, i * 7 + 3, none⟩ (.int .i64 y.status)).setCell ⟨gE, i * 7 + 4, none⟩ (.int .i64 y.ver)).setCell ⟨gE, i * 7 + 5, none⟩ (.slice B6 y.body.length d6)).setCell ⟨gE, i * 7 + 6, none⟩ (.bool y.shares)).drew = putCells w4.drew gE (i * 7 + 0) [.string st, .string pa, .int .i64 y.type, .int .i64 y.status, .int .i64 y.ver, .slice B6 y.body.length d6, .bool y.shares] := by simp only [putCells, drew_set, Nat.add_zero, Nat.add_assoc, Nat.reduceAdd]
        rw [e9]
        clear e9
        obtain ⟨G', hrp, hfp, hinp⟩ := hP.out
        have hnG : ∀ b, b ∈ G1 → w.heap.size + 1 + 1 + 1 ≤ b ∧ b < w1.heap.size := fun b hb => ⟨hg1.1 b hb, hlt1 b hb⟩
        have hbE := hnG gE hgEG
        have hx0 : w.heap.size ≠ gE := by omega
        have hx2 : w.heap.size + 1 + 1 ≠ gE := by omega
        have hx3 : w1.heap.size ≠ gE := by omega
        have hbk : ∀ b, b ≠ gE → (putCells w4.drew gE (i * 7 + 0) [.string st, .string pa, .int .i64 y.type, .int .i64 y.status, .int .i64 y.ver, .slice B6 y.body.length d6, .bool y.shares]).heap[b]? = w4.heap[b]? := fun b hb => putCells_blk _ _ b hb
        have hon : Only [gE] w4.drew (putCells w4.drew gE (i * 7 + 0) [.string st, .string pa, .int .i64 y.type, .int .i64 y.status, .int .i64 y.ver, .slice B6 y.body.length d6, .bool y.shares]) := putCells_only (by simp) _ _ (Only.refl _ _)
        have hbd : Below w.heap.size w w4.drew := hbw14.drew
        have hzd : w.heap.size ≤ w4.drew.heap.size := hbd.size
        have hz9 := hon.size
        have hzq : w1.heap.size < w4.drew.heap.size := ha3_w4
        generalize putCells w4.drew gE (i * 7 + 0) [.string st, .string pa, .int .i64 y.type, .int .i64 y.status, .int .i64 y.ver, .slice B6 y.body.length d6, .bool y.shares] = wq at *
        exact ⟨G', hbd.trans (hon.bel w.heap.size hzd (fun y hy => by simp at hy; omega)), by omega, (World.cell?_of_block (hbk _ hx0)).trans b0, (World.cell?_of_block (hbk _ hx2)).trans l0, (World.frozen?_of_block (hbk _ hx2)).trans z4, (World.cell?_of_block (hbk _ hx3)).trans j0, by rw [HE9.out]; exact hrp, hfp, fun b hb e => by
          rcases hinp b hb with h9 | h9
          · have := hnG b h9; omega
          · omega⟩
    case rest =>
      obtain ⟨F', hbq, hsq, a0, u0, zq, v0, hrq, hfq, hnq⟩ := hcut
      have hq0 : w.heap.size < wc.heap.size := by omega
      have hq2 : w.heap.size + 1 + 1 < wc.heap.size := by omega
      have hnq2 : ¬ w1.heap.size = w.heap.size + 1 + 1 := by omega
      have hnq3 : ¬ w.heap.size + 1 + 1 = w1.heap.size := by omega
      clear b0 l0 j0 q0 q1 q2 q3 q4 q5 q6 z4 p14 n64
      cases hs : isCacheSet x with
      | false =>
        go_wp2_with fail
        refine (specIsCacheSetN_any _ x _ _ (by exact Cod.bel hr (bel_then hbq (by repeat (first | with_reducible exact Below.refl _ _ | with_reducible assumption | with_reducible refine bel_alloc ?_ _ | with_reducible refine bel_drew ?_ | with_reducible refine bel_drewN ?_ _ | (with_reducible refine bel_set ?_ ?_ _; rotate_left; ((try simp); (try omega)))))))).mono ?_
        rw [hs]
        rintro e w6 ⟨rfl, hb6⟩
        have hbq6 : Below w.heap.size w w6 := bel_then hbq hb6
        obtain ⟨hc_w6, hf_w6, hz_w6⟩ := bcell hb6
        have hq06 : w.heap.size < w6.heap.size := by omega
        have hq26 : w.heap.size + 1 + 1 < w6.heap.size := by omega
        clear hb6
        go_wp2_with fail
        refine (specCopySet_any _ x _ _ (by exact Cod.bel hr (bel_then hbq6 (by repeat (first | with_reducible exact Below.refl _ _ | with_reducible assumption | with_reducible refine bel_alloc ?_ _ | with_reducible refine bel_drew ?_ | with_reducible refine bel_drewN ?_ _ | (with_reducible refine bel_set ?_ ?_ _; rotate_left; ((try simp); (try omega))))))) hn).mono ?_
        rintro e w7 ⟨vs7, G7, rfl, hb7, hrep7, hf7⟩
        obtain ⟨B7, d7, rfl, n7⟩ := TCSet.outO hrep7
        have hbq7 : Below w.heap.size w w7 := bel_then hbq6 hb7
        obtain ⟨hc_w7, hf_w7, hz_w7⟩ := bcell hb7
        have hq27 : w.heap.size + 1 + 1 < w7.heap.size := by omega
        have hf7' : Fresh (w.heap.size + 1 + 1 + 1) G7 := hf7.mono (by omega)
        clear hb7 hrep7 hf7
        go_wp2_with fail
        refine bodyPost_ret (v := .tuple #[.agg #[.slice B7 x.caches.length d7], .bool false]) (by simp [results, Try.results38, go_sem, *]) rfl ?_
        rw [hs]
        show GivesR2 cCSetO w x (.bool false) _ _
        have hfin : cCachesO.rep w7 [.slice B7 x.caches.length d7] x.caches G7 := n7
        have hlow := hf7'.1
        exact ⟨_, G7, rfl, (by repeat (first | with_reducible exact Below.refl _ _ | with_reducible assumption | with_reducible refine bel_alloc ?_ _ | with_reducible refine bel_drew ?_ | with_reducible refine bel_drewN ?_ _ | (with_reducible refine bel_set ?_ ?_ _; rotate_left; ((try simp); (try omega))))), TCSet.mkO (by repeat (first | with_reducible exact hfin | with_reducible refine Cod.allocA ?_ _ | with_reducible refine Cod.drewA ?_ | with_reducible refine Cod.drewNA ?_ _ | ((with_reducible refine Cod.setA ?_ ?_ _); rotate_left; ((intro hm9; have hm8 := hlow _ hm9; (try simp at hm8); (try omega)))))), hf7'.mono (by omega)⟩
      | true =>
        cases ho : isCacheSet (storeOut x k ⟨st, pa, y⟩) with
        | false =>
          go_wp2_with fail
          refine (specIsCacheSetN_any _ x _ _ (by exact Cod.bel hr (bel_then hbq (by repeat (first | with_reducible exact Below.refl _ _ | with_reducible assumption | with_reducible refine bel_alloc ?_ _ | with_reducible refine bel_drew ?_ | with_reducible refine bel_drewN ?_ _ | (with_reducible refine bel_set ?_ ?_ _; rotate_left; ((try simp); (try omega)))))))).mono ?_
          rw [hs]
          rintro e w6 ⟨rfl, hb6⟩
          have hbq6 : Below w.heap.size w w6 := bel_then hbq hb6
          obtain ⟨hc_w6, hf_w6, hz_w6⟩ := bcell hb6
          have hq06 : w.heap.size < w6.heap.size := by omega
          have hq26 : w.heap.size + 1 + 1 < w6.heap.size := by omega
          have hrq6 := Cod.bel hrq hb6
          clear hb6 hrq
          go_wp2_with fail
          obtain ⟨Fw, hrw, -⟩ := weak_cset.2 (TCSet.mkO (x := storeOut x k ⟨st, pa, y⟩) hrq6)
          refine (specIsCacheSetN_any _ (storeOut x k ⟨st, pa, y⟩) _ _ (by exact Cod.bel hrw (by repeat (first | with_reducible exact Below.refl _ _ | with_reducible assumption | with_reducible refine bel_alloc ?_ _ | with_reducible refine bel_drew ?_ | with_reducible refine bel_drewN ?_ _ | (with_reducible refine bel_set ?_ ?_ _; rotate_left; ((try simp); (try omega))))))).mono ?_
          rw [ho]
          rintro e w8 ⟨rfl, hb8⟩
          have hbq8 : Below w.heap.size w w8 := bel_then hbq6 (bel_then (by repeat (first | with_reducible exact Below.refl _ _ | with_reducible assumption | with_reducible refine bel_alloc ?_ _ | with_reducible refine bel_drew ?_ | with_reducible refine bel_drewN ?_ _ | (with_reducible refine bel_set ?_ ?_ _; rotate_left; ((try simp); (try omega))))) hb8)
          obtain ⟨hc_w8, hf_w8, hz_w8⟩ := bcell hb8
          have hq08 : w.heap.size < w8.heap.size := by omega
          have hq28 : w.heap.size + 1 + 1 < w8.heap.size := by omega
          clear hb8
          go_wp2_with fail
          refine (specCopySet_any _ x _ _ (by exact Cod.bel hr (bel_then hbq8 (by repeat (first | with_reducible exact Below.refl _ _ | with_reducible assumption | with_reducible refine bel_alloc ?_ _ | with_reducible refine bel_drew ?_ | with_reducible refine bel_drewN ?_ _ | (with_reducible refine bel_set ?_ ?_ _; rotate_left; ((try simp); (try omega))))))) hn).mono ?_
          rintro e w7 ⟨vs7, G7, rfl, hb7, hrep7, hf7⟩
          obtain ⟨B7, d7, rfl, n7⟩ := TCSet.outO hrep7
          have hbq7 : Below w.heap.size w w7 := bel_then hbq8 hb7
          obtain ⟨hc_w7, hf_w7, hz_w7⟩ := bcell hb7
          have hq27 : w.heap.size + 1 + 1 < w7.heap.size := by omega
          have hf7' : Fresh (w.heap.size + 1 + 1 + 1) G7 := hf7.mono (by omega)
          clear hb7 hrep7 hf7
          go_wp2_with fail
          refine bodyPost_ret (v := .tuple #[.agg #[.slice B7 x.caches.length d7], .bool false]) (by simp [results, Try.results38, go_sem, *]) rfl ?_
          rw [hs, ho]
          show GivesR2 cCSetO w x (.bool false) _ _
          have hfin : cCachesO.rep w7 [.slice B7 x.caches.length d7] x.caches G7 := n7
          have hlow := hf7'.1
          exact ⟨_, G7, rfl, (by repeat (first | with_reducible exact Below.refl _ _ | with_reducible assumption | with_reducible refine bel_alloc ?_ _ | with_reducible refine bel_drew ?_ | with_reducible refine bel_drewN ?_ _ | (with_reducible refine bel_set ?_ ?_ _; rotate_left; ((try simp); (try omega))))), TCSet.mkO (by repeat (first | with_reducible exact hfin | with_reducible refine Cod.allocA ?_ _ | with_reducible refine Cod.drewA ?_ | with_reducible refine Cod.drewNA ?_ _ | ((with_reducible refine Cod.setA ?_ ?_ _); rotate_left; ((intro hm9; have hm8 := hlow _ hm9; (try simp at hm8); (try omega)))))), hf7'.mono (by omega)⟩
        | true =>
          go_wp2_with fail
          refine (specIsCacheSetN_any _ x _ _ (by exact Cod.bel hr (bel_then hbq (by repeat (first | with_reducible exact Below.refl _ _ | with_reducible assumption | with_reducible refine bel_alloc ?_ _ | with_reducible refine bel_drew ?_ | with_reducible refine bel_drewN ?_ _ | (with_reducible refine bel_set ?_ ?_ _; rotate_left; ((try simp); (try omega)))))))).mono ?_
          rw [hs]
          rintro e w6 ⟨rfl, hb6⟩
          have hbq6 : Below w.heap.size w w6 := bel_then hbq hb6
          obtain ⟨hc_w6, hf_w6, hz_w6⟩ := bcell hb6
          have hq06 : w.heap.size < w6.heap.size := by omega
          have hq26 : w.heap.size + 1 + 1 < w6.heap.size := by omega
          have hrq6 := Cod.bel hrq hb6
          clear hb6 hrq
          go_wp2_with fail
          obtain ⟨Fw, hrw, -⟩ := weak_cset.2 (TCSet.mkO (x := storeOut x k ⟨st, pa, y⟩) hrq6)
          refine (specIsCacheSetN_any _ (storeOut x k ⟨st, pa, y⟩) _ _ (by exact Cod.bel hrw (by repeat (first | with_reducible exact Below.refl _ _ | with_reducible assumption | with_reducible refine bel_alloc ?_ _ | with_reducible refine bel_drew ?_ | with_reducible refine bel_drewN ?_ _ | (with_reducible refine bel_set ?_ ?_ _; rotate_left; ((try simp); (try omega))))))).mono ?_
          rw [ho]
          rintro e w8 ⟨rfl, hb8⟩
          have hq16 : w1.heap.size < w6.heap.size := by omega
          have hb68 : Below w6.heap.size w6 w8 := bel_then (by repeat (first | with_reducible exact Below.refl _ _ | with_reducible assumption | with_reducible refine bel_alloc ?_ _ | with_reducible refine bel_drew ?_ | with_reducible refine bel_drewN ?_ _ | (with_reducible refine bel_set ?_ ?_ _; rotate_left; ((try simp); (try omega))))) hb8
          have hbq8 : Below w.heap.size w w8 := bel_then hbq6 hb68
          obtain ⟨hc_w8, hf_w8, hz_w8⟩ := bcell hb8
          have hq08 : w.heap.size < w8.heap.size := by omega
          have hq28 : w.heap.size + 1 + 1 < w8.heap.size := by omega
          have hq18 : w1.heap.size < w8.heap.size := by omega
          have hfin := Cod.bel hrq6 hb68
          have hlow := hfq.1
          clear hb8 hrq6 hb68
          have HF9 := Lib.hid (And.intro hfin hlow)
          clear hfin hlow
          go_wp2_with fail
          refine bodyPost_ret (v := .tuple #[.agg #[.slice (some ⟨g, 0, none⟩) x.caches.length d1], .bool true]) (by simp [results, Try.results38, go_sem, *]) rfl ?_
          rw [hs, ho]
          show GivesR2 cCSetO w (storeOut x k ⟨st, pa, y⟩) (.bool true) _ _
          obtain ⟨hfin, hlow⟩ := HF9.out
          exact ⟨_, F', rfl, (by repeat (first | with_reducible exact Below.refl _ _ | with_reducible assumption | with_reducible refine bel_alloc ?_ _ | with_reducible refine bel_drew ?_ | with_reducible refine bel_drewN ?_ _ | (with_reducible refine bel_set ?_ ?_ _; rotate_left; ((try simp); (try omega))))), TCSet.mkO (x := storeOut x k ⟨st, pa, y⟩) (by repeat (first | with_reducible exact hfin | with_reducible refine Cod.allocA ?_ _ | with_reducible refine Cod.drewA ?_ | with_reducible refine Cod.drewNA ?_ _ | ((with_reducible refine Cod.setA ?_ ?_ _); rotate_left; ((intro hm9; have hm8 := hlow _ hm9; (try simp at hm8); (try omega)))))), hfq.mono (by omega)⟩
end Go.Proofs.Ytlicnppfgfjkgaa
