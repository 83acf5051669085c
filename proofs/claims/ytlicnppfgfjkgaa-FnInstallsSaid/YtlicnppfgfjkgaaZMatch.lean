/-
  MatchCache of the program and of the reference. No conditions.
-/
import Derived.Test.YtlicnppfgfjkgaaZB
import Derived.Test.YtlicnppfgfjkgaaZEntry
import Derived.Test.YtlicnppfgfjkgaaZA
import Derived.Test.YtlicnppfgfjkgaaZRespEq
namespace Go.Proofs.Ytlicnppfgfjkgaa
open Go.ChangeShapes Go.WideShapes Go.RowKit
set_option linter.unusedVariables false

theorem idxP_cases {α : Type} (p : α → Bool) (xs : List α) : idxP p xs = -1 ∨ ∃ k : Nat, k < xs.length ∧ idxP p xs = k := by
  have h1 := idxP_ge p xs
  have h2 := idxP_lt p xs
  by_cases h : idxP p xs < 0
  · left; omega
  · right; exact ⟨(idxP p xs).toNat, by omega, by omega⟩
def matchIn (es : List TCached) (i : Int) : TResp × Bool := if i < 0 then (errorResponse, false) else match es[i.toNat]? with | some e => (e.resp, true) | none => (errorResponse, false)
def matchAt (cs : List TCache) (k : Int) (st pa : ByteArray) : TResp × Bool := if k < 0 then (errorResponse, false) else match cs[k.toNat]? with | some c => matchIn c.entries (entryIx c.entries st pa) | none => (errorResponse, false)
def matchCache (s : TCSet) (v : Int) (st pa : ByteArray) : TResp × Bool := matchAt s.caches (findCache s v) st pa
theorem TCached.sub {x : TCached} (h : x.Ok) : x.resp.Ok := ⟨h.h2, h.h3, h.h4⟩
theorem cached_sz {x : TCached} : cResp.sz x.resp ≤ cCached.sz x := by
  have h1 : cCached.sz x = x.site.size + (x.path.size + cResp.sz x.resp) := rfl
  omega
theorem entries_sz {s : TCSet} {c : TCache} (h : c ∈ s.caches) : cCachedS.sz c.entries ≤ cCSet.sz s := by
  have h1 := Cod.sz_mem cCache s.caches c h
  have h2 : cCache.sz c = 0 + cCachedS.sz c.entries := rfl
  have h3 : cCSet.sz s = Cod.szs cCache s.caches := rfl
  omega
theorem entry_sz {es : List TCached} {e : TCached} (h : e ∈ es) : cResp.sz e.resp ≤ cCachedS.sz es := by
  have h1 := Cod.sz_mem cCached es e h
  have h2 := cached_sz (x := e)
  have h3 : cCachedS.sz es = Cod.szs cCached es := rfl
  omega
theorem matchCache_sz (s : TCSet) (v : Int) (st pa : ByteArray) : cResp.sz (matchCache s v st pa).1 ≤ cCSet.sz s := by
  have h0 : cResp.sz errorResponse = 0 := rfl
  unfold matchCache matchAt
  split
  · show cResp.sz errorResponse ≤ _; omega
  · split
    · rename_i c hc
      have hm : c ∈ s.caches := List.mem_of_getElem? hc
      have h1 := entries_sz hm
      unfold matchIn
      split
      · show cResp.sz errorResponse ≤ _; omega
      · split
        · rename_i e he
          have h2 := entry_sz (List.mem_of_getElem? he)
          show cResp.sz e.resp ≤ _; omega
        · show cResp.sz errorResponse ≤ _; omega
    · show cResp.sz errorResponse ≤ _; omega

set_option maxRecDepth 100000 in
set_option maxHeartbeats 4000000 in
theorem implMatchCache_any (vs : Array Value) (x : TCSet) (F : List Nat) (v : Int) (st pa : ByteArray) (w : World) (h : cCSet.rep w vs.toList x F) (hn : cCSet.sz x ≤ 1048576) (hv : -9223372036854775808 ≤ v ∧ v ≤ 9223372036854775807) (_hst : st.size ≤ maxLen) (_hpa : pa.size ≤ maxLen) :
    Calls Try.prog 40 #[.agg vs, .int .i64 v, .string st, .string pa] w (GivesR2 cResp w (matchCache x v st pa).1 (.bool (matchCache x v st pa).2)) := by
  have hr := h
  obtain ⟨v0, F0, rfl, -, -, m0⟩ := TCSet.outA h
  obtain ⟨A, cp, rfl⟩ := cL_form m0
  clear h
  have HT := Lib.hid (fun k (e : findCache x v = k) => show matchCache x v st pa = matchAt x.caches k st pa by unfold matchCache; rw [e])
  rcases idxP_cases (fun c : TCache => c.ver == v) x.caches with hk | ⟨k, hkl, hk⟩
  · replace hk : findCache x v = -1 := hk
    have HE := Lib.hid (show matchCache x v st pa = (errorResponse, false) by rw [HT.out _ hk]; rfl)
    rw [HE.out]
    go_enter Try.func40, Try.ntmps40
    go_wp2_with fail
    refine (implFindCache_any _ x _ v _ (by exact Cod.bel hr (by repeat (first | with_reducible exact Below.refl _ _ | with_reducible assumption | with_reducible refine bel_alloc ?_ _ | with_reducible refine bel_drew ?_ | with_reducible refine bel_drewN ?_ _ | (with_reducible refine bel_set ?_ ?_ _; rotate_left; ((try simp); (try omega)))))) hn hv).mono ?_
    rw [hk]
    rintro e w1 ⟨rfl, hb1⟩
    have hz_w1 := hb1.size
    (try simp at hz_w1)
    have ha0_w1 : w.heap.size < w1.heap.size := by omega
    have ha1_w1 : w.heap.size + 1 < w1.heap.size := by omega
    obtain ⟨hc_w1, hf_w1, -⟩ := bcell hb1
    have hb_w1 : Below w.heap.size w w1 := bel_then (by repeat (first | with_reducible exact Below.refl _ _ | with_reducible assumption | with_reducible refine bel_alloc ?_ _ | with_reducible refine bel_drew ?_ | with_reducible refine bel_drewN ?_ _ | (with_reducible refine bel_set ?_ ?_ _; rotate_left; ((try simp); (try omega))))) hb1
    clear hb1
    go_wp2_with fail
    refine (implErrorResponse_any _).mono ?_
    rintro e w4 ⟨vs4, G4, rfl, hb4, hrep4, hf4⟩
    obtain ⟨v4, _, rfl, rfl, hok4, n4⟩ := TResp.outA hrep4
    obtain ⟨B4, d4, rfl⟩ := cL_form n4
    have hz_w4 := hb4.size
    (try simp at hz_w4)
    have ha0_w4 : w.heap.size < w4.heap.size := by omega
    have ha1_w4 : w.heap.size + 1 < w4.heap.size := by omega
    obtain ⟨hc_w4, hf_w4, -⟩ := bcell hb4
    have hb_w4 : Below w.heap.size w w4 := bel_then (by repeat (first | with_reducible exact Below.refl _ _ | with_reducible assumption | with_reducible refine bel_alloc ?_ _ | with_reducible refine bel_drew ?_ | with_reducible refine bel_drewN ?_ _ | (with_reducible refine bel_set ?_ ?_ _; rotate_left; ((try simp); (try omega))))) hb4
    have hg4 : Fresh (w.heap.size + 1 + 1) G4 := hf4.mono (by (try simp); (try omega))
    clear hb4 hf4 hrep4
    have j0 : w4.cell? ⟨w.heap.size + 1, 0, none⟩ = some (.int .i64 0) := by go_simp
    have j1 : w4.cell? ⟨w.heap.size + 1, 1, none⟩ = some (.int .i64 0) := by go_simp
    have j2 : w4.cell? ⟨w.heap.size + 1, 2, none⟩ = some (.int .i64 0) := by go_simp
    have j3 : w4.cell? ⟨w.heap.size + 1, 3, none⟩ = some (.slice none 0 0) := by go_simp
    have j4 : w4.cell? ⟨w.heap.size + 1, 4, none⟩ = some (.bool false) := by go_simp
    go_wp2_with fail
    refine bodyPost_ret (v := .tuple #[.agg #[.int .i64 errorResponse.type, .int .i64 errorResponse.status, .int .i64 errorResponse.ver, .slice B4 errorResponse.body.length d4, .bool errorResponse.shares], .bool false]) (by simp [results, Try.results40, go_sem, *]) rfl ?_
    exact ⟨_, G4, rfl, (by repeat (first | with_reducible exact Below.refl _ _ | with_reducible assumption | with_reducible refine bel_alloc ?_ _ | with_reducible refine bel_drew ?_ | with_reducible refine bel_drewN ?_ _ | (with_reducible refine bel_set ?_ ?_ _; rotate_left; ((try simp); (try omega))))), TResp.mk_ hok4 (Cod.keep2 n4 hg4 (by repeat (first | with_reducible exact Keep.refl _ _ | with_reducible assumption | with_reducible refine Keep.alloc ?_ _ | with_reducible refine Keep.drew ?_ | with_reducible refine Keep.drewN ?_ _ | (with_reducible refine Keep.set_ ?_ ?_ _; rotate_left; ((try simp); (try omega)))))), hg4.mono (by (try simp); (try omega))⟩
  · replace hk : findCache x v = k := hk
    obtain ⟨-, hcp, hm⟩ := cL_len m0
    unfold maxLen at hm
    obtain ⟨g, o, vs, F1, rfl, hgF, hx, -, hc⟩ := cL_get (hw := by decide) (hw2 := by decide) m0 hkl
    obtain ⟨v1, F2, rfl, -, -, m1⟩ := TCache.out hx
    obtain ⟨E5, e5, e5'⟩ := cL_form m1
    subst e5'
    have hgw : g < w.heap.size := Cod.lt _ m0 g hgF
    have p0 : w.cell? ⟨g, o + k * 2, none⟩ = some _ := (hc 0 _ rfl).1
    have p1 : w.cell? ⟨g, o + k * 2 + 1, none⟩ = some _ := (hc 1 _ rfl).1
    clear hc hx
    have HT2 := Lib.hid (show matchCache x v st pa = matchIn x.caches[k].entries (entryIx x.caches[k].entries st pa) by
      rw [HT.out _ hk]; unfold matchAt; rw [if_neg (by omega), Int.toNat_natCast, List.getElem?_eq_getElem hkl])
    have hki : (k : Int) < (x.caches.length : Int) := by omega
    have hze := entries_sz (s := x) (List.getElem_mem hkl)
    rcases idxP_cases (fun e : TCached => sameEntry e st pa) x.caches[k].entries with hi | ⟨i, hil, hi⟩
    · replace hi : entryIx x.caches[k].entries st pa = -1 := hi
      have HE := Lib.hid (show matchCache x v st pa = (errorResponse, false) by rw [HT2.out, hi]; rfl)
      rw [HE.out]
      go_enter Try.func40, Try.ntmps40
      go_wp2_with fail
      refine (implFindCache_any _ x _ v _ (by exact Cod.bel hr (by repeat (first | with_reducible exact Below.refl _ _ | with_reducible assumption | with_reducible refine bel_alloc ?_ _ | with_reducible refine bel_drew ?_ | with_reducible refine bel_drewN ?_ _ | (with_reducible refine bel_set ?_ ?_ _; rotate_left; ((try simp); (try omega)))))) hn hv).mono ?_
      rw [hk]
      rintro e w1 ⟨rfl, hb1⟩
      have hz_w1 := hb1.size
      (try simp at hz_w1)
      have ha0_w1 : w.heap.size < w1.heap.size := by omega
      have ha1_w1 : w.heap.size + 1 < w1.heap.size := by omega
      obtain ⟨hc_w1, hf_w1, -⟩ := bcell hb1
      have hb_w1 : Below w.heap.size w w1 := bel_then (by repeat (first | with_reducible exact Below.refl _ _ | with_reducible assumption | with_reducible refine bel_alloc ?_ _ | with_reducible refine bel_drew ?_ | with_reducible refine bel_drewN ?_ _ | (with_reducible refine bel_set ?_ ?_ _; rotate_left; ((try simp); (try omega))))) hb1
      clear hb1
      have k0 : w1.cell? ⟨w.heap.size, 0, none⟩ = some (.slice (some ⟨g, o, none⟩) x.caches.length cp) := by go_simp
      have q0 : w1.cell? ⟨g, o + k * 2, none⟩ = some (.int .i64 x.caches[k].ver) := (hb_w1.cell (p := ⟨g, o + k * 2, none⟩) hgw).trans p0
      have q1 : w1.cell? ⟨g, o + k * 2 + 1, none⟩ = some (.slice E5 x.caches[k].entries.length e5) := (hb_w1.cell (p := ⟨g, o + k * 2 + 1, none⟩) hgw).trans p1
      have hg1 : g < w1.heap.size := by omega
      go_wp2_with fail
      refine (implEntry_any _ _ _ _ x.caches[k].entries st pa _ _ (by exact Cod.bel m1 (by repeat (first | with_reducible exact Below.refl _ _ | with_reducible assumption | with_reducible refine bel_alloc ?_ _ | with_reducible refine bel_drew ?_ | with_reducible refine bel_drewN ?_ _ | (with_reducible refine bel_set ?_ ?_ _; rotate_left; ((try simp); (try omega))))))).mono ?_
      rw [hi]
      rintro e w2 ⟨rfl, hb2⟩
      have hz_w2 := hb2.size
      (try simp at hz_w2)
      have ha0_w2 : w.heap.size < w2.heap.size := by omega
      have ha1_w2 : w.heap.size + 1 < w2.heap.size := by omega
      obtain ⟨hc_w2, hf_w2, -⟩ := bcell hb2
      have hb_w2 : Below w.heap.size w w2 := bel_then (by repeat (first | with_reducible exact Below.refl _ _ | with_reducible assumption | with_reducible refine bel_alloc ?_ _ | with_reducible refine bel_drew ?_ | with_reducible refine bel_drewN ?_ _ | (with_reducible refine bel_set ?_ ?_ _; rotate_left; ((try simp); (try omega))))) hb2
      clear hb2
      go_wp2_with fail
      refine (implErrorResponse_any _).mono ?_
      rintro e w4 ⟨vs4, G4, rfl, hb4, hrep4, hf4⟩
      obtain ⟨v4, _, rfl, rfl, hok4, n4⟩ := TResp.outA hrep4
      obtain ⟨B4, d4, rfl⟩ := cL_form n4
      have hz_w4 := hb4.size
      (try simp at hz_w4)
      have ha0_w4 : w.heap.size < w4.heap.size := by omega
      have ha1_w4 : w.heap.size + 1 < w4.heap.size := by omega
      obtain ⟨hc_w4, hf_w4, -⟩ := bcell hb4
      have hb_w4 : Below w.heap.size w w4 := bel_then (by repeat (first | with_reducible exact Below.refl _ _ | with_reducible assumption | with_reducible refine bel_alloc ?_ _ | with_reducible refine bel_drew ?_ | with_reducible refine bel_drewN ?_ _ | (with_reducible refine bel_set ?_ ?_ _; rotate_left; ((try simp); (try omega))))) hb4
      have hg4 : Fresh (w.heap.size + 1 + 1) G4 := hf4.mono (by (try simp); (try omega))
      clear hb4 hf4 hrep4
      have j0 : w4.cell? ⟨w.heap.size + 1, 0, none⟩ = some (.int .i64 0) := by go_simp
      have j1 : w4.cell? ⟨w.heap.size + 1, 1, none⟩ = some (.int .i64 0) := by go_simp
      have j2 : w4.cell? ⟨w.heap.size + 1, 2, none⟩ = some (.int .i64 0) := by go_simp
      have j3 : w4.cell? ⟨w.heap.size + 1, 3, none⟩ = some (.slice none 0 0) := by go_simp
      have j4 : w4.cell? ⟨w.heap.size + 1, 4, none⟩ = some (.bool false) := by go_simp
      go_wp2_with fail
      refine bodyPost_ret (v := .tuple #[.agg #[.int .i64 errorResponse.type, .int .i64 errorResponse.status, .int .i64 errorResponse.ver, .slice B4 errorResponse.body.length d4, .bool errorResponse.shares], .bool false]) (by simp [results, Try.results40, go_sem, *]) rfl ?_
      exact ⟨_, G4, rfl, (by repeat (first | with_reducible exact Below.refl _ _ | with_reducible assumption | with_reducible refine bel_alloc ?_ _ | with_reducible refine bel_drew ?_ | with_reducible refine bel_drewN ?_ _ | (with_reducible refine bel_set ?_ ?_ _; rotate_left; ((try simp); (try omega))))), TResp.mk_ hok4 (Cod.keep2 n4 hg4 (by repeat (first | with_reducible exact Keep.refl _ _ | with_reducible assumption | with_reducible refine Keep.alloc ?_ _ | with_reducible refine Keep.drew ?_ | with_reducible refine Keep.drewN ?_ _ | (with_reducible refine Keep.set_ ?_ ?_ _; rotate_left; ((try simp); (try omega)))))), hg4.mono (by (try simp); (try omega))⟩
    · replace hi : entryIx x.caches[k].entries st pa = i := hi
      have HE := Lib.hid (show matchCache x v st pa = (x.caches[k].entries[i].resp, true) by
        rw [HT2.out, hi]; unfold matchIn; rw [if_neg (by omega), Int.toNat_natCast, List.getElem?_eq_getElem hil])
      rw [HE.out]
      obtain ⟨-, hcp5, hm5⟩ := cL_len m1
      unfold maxLen at hm5
      obtain ⟨g2, o2, vs2, F3, rfl, hgF2, hx2, -, hc2⟩ := cL_get (hw := by decide) (hw2 := by decide) m1 hil
      obtain ⟨v5, F4, rfl, -, hok5, m5⟩ := TCached.out hx2
      obtain ⟨A5, c5, e5'⟩ := cL_form m5
      subst e5'
      have hgw2 : g2 < w.heap.size := Cod.lt _ m1 g2 hgF2
      have r2 : w.cell? ⟨g2, o2 + i * 7 + 2, none⟩ = some _ := (hc2 2 _ rfl).1
      have r3 : w.cell? ⟨g2, o2 + i * 7 + 3, none⟩ = some _ := (hc2 3 _ rfl).1
      have r4 : w.cell? ⟨g2, o2 + i * 7 + 4, none⟩ = some _ := (hc2 4 _ rfl).1
      have r5 : w.cell? ⟨g2, o2 + i * 7 + 5, none⟩ = some _ := (hc2 5 _ rfl).1
      have r6 : w.cell? ⟨g2, o2 + i * 7 + 6, none⟩ = some _ := (hc2 6 _ rfl).1
      clear hc2 hx2
      have hii : (i : Int) < (x.caches[k].entries.length : Int) := by omega
      have hze2 := entry_sz (List.getElem_mem hil)
      have hokr := TCached.sub hok5
      go_enter Try.func40, Try.ntmps40
      go_wp2_with fail
      refine (implFindCache_any _ x _ v _ (by exact Cod.bel hr (by repeat (first | with_reducible exact Below.refl _ _ | with_reducible assumption | with_reducible refine bel_alloc ?_ _ | with_reducible refine bel_drew ?_ | with_reducible refine bel_drewN ?_ _ | (with_reducible refine bel_set ?_ ?_ _; rotate_left; ((try simp); (try omega)))))) hn hv).mono ?_
      rw [hk]
      rintro e w1 ⟨rfl, hb1⟩
      have hz_w1 := hb1.size
      (try simp at hz_w1)
      have ha0_w1 : w.heap.size < w1.heap.size := by omega
      have ha1_w1 : w.heap.size + 1 < w1.heap.size := by omega
      obtain ⟨hc_w1, hf_w1, -⟩ := bcell hb1
      have hb_w1 : Below w.heap.size w w1 := bel_then (by repeat (first | with_reducible exact Below.refl _ _ | with_reducible assumption | with_reducible refine bel_alloc ?_ _ | with_reducible refine bel_drew ?_ | with_reducible refine bel_drewN ?_ _ | (with_reducible refine bel_set ?_ ?_ _; rotate_left; ((try simp); (try omega))))) hb1
      clear hb1
      have k0 : w1.cell? ⟨w.heap.size, 0, none⟩ = some (.slice (some ⟨g, o, none⟩) x.caches.length cp) := by go_simp
      have q0 : w1.cell? ⟨g, o + k * 2, none⟩ = some (.int .i64 x.caches[k].ver) := (hb_w1.cell (p := ⟨g, o + k * 2, none⟩) hgw).trans p0
      have q1 : w1.cell? ⟨g, o + k * 2 + 1, none⟩ = some (.slice (some ⟨g2, o2, none⟩) x.caches[k].entries.length e5) := (hb_w1.cell (p := ⟨g, o + k * 2 + 1, none⟩) hgw).trans p1
      have hg1 : g < w1.heap.size := by omega
      go_wp2_with fail
      refine (implEntry_any _ _ _ _ x.caches[k].entries st pa _ _ (by exact Cod.bel m1 (by repeat (first | with_reducible exact Below.refl _ _ | with_reducible assumption | with_reducible refine bel_alloc ?_ _ | with_reducible refine bel_drew ?_ | with_reducible refine bel_drewN ?_ _ | (with_reducible refine bel_set ?_ ?_ _; rotate_left; ((try simp); (try omega))))))).mono ?_
      rw [hi]
      rintro e w2 ⟨rfl, hb2⟩
      have hz_w2 := hb2.size
      (try simp at hz_w2)
      have ha0_w2 : w.heap.size < w2.heap.size := by omega
      have ha1_w2 : w.heap.size + 1 < w2.heap.size := by omega
      obtain ⟨hc_w2, hf_w2, -⟩ := bcell hb2
      have hb_w2 : Below w.heap.size w w2 := bel_then (by repeat (first | with_reducible exact Below.refl _ _ | with_reducible assumption | with_reducible refine bel_alloc ?_ _ | with_reducible refine bel_drew ?_ | with_reducible refine bel_drewN ?_ _ | (with_reducible refine bel_set ?_ ?_ _; rotate_left; ((try simp); (try omega))))) hb2
      clear hb2
      have y0 : w2.cell? ⟨w.heap.size, 0, none⟩ = some (.slice (some ⟨g, o, none⟩) x.caches.length cp) := by go_simp
      have y1 : w2.cell? ⟨g, o + k * 2 + 1, none⟩ = some (.slice (some ⟨g2, o2, none⟩) x.caches[k].entries.length e5) := (hb_w2.cell (p := ⟨g, o + k * 2 + 1, none⟩) hgw).trans p1
      have t2 := (hb_w2.cell (p := ⟨g2, o2 + i * 7 + 2, none⟩) hgw2).trans r2
      have t3 := (hb_w2.cell (p := ⟨g2, o2 + i * 7 + 3, none⟩) hgw2).trans r3
      have t4 := (hb_w2.cell (p := ⟨g2, o2 + i * 7 + 4, none⟩) hgw2).trans r4
      have t5 := (hb_w2.cell (p := ⟨g2, o2 + i * 7 + 5, none⟩) hgw2).trans r5
      have t6 := (hb_w2.cell (p := ⟨g2, o2 + i * 7 + 6, none⟩) hgw2).trans r6
      go_wp2_with fail
      refine (implCopyResp_any _ x.caches[k].entries[i].resp _ _ (by exact TResp.mk_ hokr (Cod.bel m5 (by repeat (first | with_reducible exact Below.refl _ _ | with_reducible assumption | with_reducible refine bel_alloc ?_ _ | with_reducible refine bel_drew ?_ | with_reducible refine bel_drewN ?_ _ | (with_reducible refine bel_set ?_ ?_ _; rotate_left; ((try simp); (try omega))))))) (by omega)).mono ?_
      rintro e w4 ⟨vs4, G4, rfl, hb4, hrep4, hf4⟩
      obtain ⟨v4, _, rfl, rfl, hok4, n4⟩ := TResp.outA hrep4
      obtain ⟨B4, d4, rfl⟩ := cL_form n4
      have hz_w4 := hb4.size
      (try simp at hz_w4)
      have ha0_w4 : w.heap.size < w4.heap.size := by omega
      have ha1_w4 : w.heap.size + 1 < w4.heap.size := by omega
      obtain ⟨hc_w4, hf_w4, -⟩ := bcell hb4
      have hb_w4 : Below w.heap.size w w4 := bel_then (by repeat (first | with_reducible exact Below.refl _ _ | with_reducible assumption | with_reducible refine bel_alloc ?_ _ | with_reducible refine bel_drew ?_ | with_reducible refine bel_drewN ?_ _ | (with_reducible refine bel_set ?_ ?_ _; rotate_left; ((try simp); (try omega))))) hb4
      have hg4 : Fresh (w.heap.size + 1 + 1) G4 := hf4.mono (by (try simp); (try omega))
      clear hb4 hf4 hrep4
      have j0 : w4.cell? ⟨w.heap.size + 1, 0, none⟩ = some (.int .i64 0) := by go_simp
      have j1 : w4.cell? ⟨w.heap.size + 1, 1, none⟩ = some (.int .i64 0) := by go_simp
      have j2 : w4.cell? ⟨w.heap.size + 1, 2, none⟩ = some (.int .i64 0) := by go_simp
      have j3 : w4.cell? ⟨w.heap.size + 1, 3, none⟩ = some (.slice none 0 0) := by go_simp
      have j4 : w4.cell? ⟨w.heap.size + 1, 4, none⟩ = some (.bool false) := by go_simp
      go_wp2_with fail
      refine bodyPost_ret (v := .tuple #[.agg #[.int .i64 x.caches[k].entries[i].resp.type, .int .i64 x.caches[k].entries[i].resp.status, .int .i64 x.caches[k].entries[i].resp.ver, .slice B4 x.caches[k].entries[i].resp.body.length d4, .bool x.caches[k].entries[i].resp.shares], .bool true]) (by simp [results, Try.results40, go_sem, *]) rfl ?_
      exact ⟨_, G4, rfl, (by repeat (first | with_reducible exact Below.refl _ _ | with_reducible assumption | with_reducible refine bel_alloc ?_ _ | with_reducible refine bel_drew ?_ | with_reducible refine bel_drewN ?_ _ | (with_reducible refine bel_set ?_ ?_ _; rotate_left; ((try simp); (try omega))))), TResp.mk_ hok4 (Cod.keep2 n4 hg4 (by repeat (first | with_reducible exact Keep.refl _ _ | with_reducible assumption | with_reducible refine Keep.alloc ?_ _ | with_reducible refine Keep.drew ?_ | with_reducible refine Keep.drewN ?_ _ | (with_reducible refine Keep.set_ ?_ ?_ _; rotate_left; ((try simp); (try omega)))))), hg4.mono (by (try simp); (try omega))⟩
end Go.Proofs.Ytlicnppfgfjkgaa
