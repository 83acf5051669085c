/-
  EqualCacheSets of the program: entries, caches and sets compared; slices.EqualFunc at them. No conditions.
-/
import Derived.Test.YtlicnppfgfjkgaaZA
import Derived.Test.YtlicnppfgfjkgaaZRespEq
import Derived.LoopTactic
import Derived.StillTailTactics
namespace Go.Proofs.Ytlicnppfgfjkgaa
open Go.ChangeShapes Go.WideShapes Go.RowKit
set_option linter.unusedVariables false

def cachedEq (a b : TCached) : Bool := strEq a.site b.site && strEq a.path b.path && equalResponses a.resp b.resp
def cacheEq (a b : TCache) : Bool := a.ver == b.ver && eqBy cachedEq a.entries b.entries
def cachesEq (s t : TCSet) : Bool := eqBy cacheEq s.caches t.caches
set_option maxRecDepth 100000 in
set_option maxHeartbeats 4000000 in
theorem equalCached_any (vs : Array Value) (x : TCached) (F : List Nat) (vs2 : Array Value) (y : TCached) (F2 : List Nat) (w : World) (h : cCached.rep w vs.toList x F) (hn : cCached.sz x ≤ 1048576) (h2 : cCached.rep w vs2.toList y F2) (hn2 : cCached.sz y ≤ 1048576) :
    Calls Try.prog 144 #[.agg vs, .agg vs2] w (Gives w (.bool (cachedEq x y))) := by
  obtain ⟨u5, E5, rfl, -, hok, m5⟩ := TCached.outA h
  obtain ⟨A5, c5, rfl⟩ := cL_form m5
  obtain ⟨v5, G5, rfl, -, hok2, p5⟩ := TCached.outA h2
  obtain ⟨B5, d5, rfl⟩ := cL_form p5
  have hrx : cResp.rep w _ x.resp _ := TResp.mk_ ⟨hok.h2, hok.h3, hok.h4⟩ m5
  have hry : cResp.rep w _ y.resp _ := TResp.mk_ ⟨hok2.h2, hok2.h3, hok2.h4⟩ p5
  have hzx : cResp.sz x.resp ≤ 1048576 := by have h1 : cCached.sz x = x.site.size + (x.path.size + cResp.sz x.resp) := rfl; omega
  have hzy : cResp.sz y.resp ≤ 1048576 := by have h1 : cCached.sz y = y.site.size + (y.path.size + cResp.sz y.resp) := rfl; omega
  clear h h2 m5 p5
  have HE := Lib.hid (show cachedEq x y = (x.site.toList == y.site.toList && x.path.toList == y.path.toList && equalResponses x.resp y.resp) from rfl)
  cases e1 : (x.site.toList == y.site.toList)
  · go_enter Try.func144, Try.ntmps144
    go_wp2_with (first | (go_at_call 27; refine (implEqualResponses_any _ x.resp _ _ y.resp _ _ (by exact Cod.bel hrx (by repeat (first | with_reducible exact Below.refl _ _ | with_reducible assumption | with_reducible refine bel_alloc ?_ _ | with_reducible refine bel_drew ?_ | with_reducible refine bel_drewN ?_ _ | (with_reducible refine bel_set ?_ ?_ _; rotate_left; ((try simp); (try omega)))))) hzx (by exact Cod.bel hry (by repeat (first | with_reducible exact Below.refl _ _ | with_reducible assumption | with_reducible refine bel_alloc ?_ _ | with_reducible refine bel_drew ?_ | with_reducible refine bel_drewN ?_ _ | (with_reducible refine bel_set ?_ ?_ _; rotate_left; ((try simp); (try omega)))))) hzy).mono ?_; rintro e w1 ⟨rfl, hb1⟩; obtain ⟨hc1, hf1, hz1⟩ := bcell hb1; (try simp at hz1); have hs0 : w.heap.size < w1.heap.size := (by omega); have hs1 : w.heap.size + 1 < w1.heap.size := (by omega); have hB1 : Below w.heap.size w w1 := (bel_then (by repeat (first | with_reducible exact Below.refl _ _ | with_reducible assumption | with_reducible refine bel_alloc ?_ _ | with_reducible refine bel_drew ?_ | with_reducible refine bel_drewN ?_ _ | (with_reducible refine bel_set ?_ ?_ _; rotate_left; ((try simp); (try omega))))) hb1); clear hb1))
    go_ret
    exact ⟨ret_bool (by rw [HE.out]; simp [*]), (by repeat (first | with_reducible exact Below.refl _ _ | with_reducible assumption | with_reducible refine bel_alloc ?_ _ | with_reducible refine bel_drew ?_ | with_reducible refine bel_drewN ?_ _ | (with_reducible refine bel_set ?_ ?_ _; rotate_left; ((try simp); (try omega)))))⟩
  ·
    cases e2 : (x.path.toList == y.path.toList)
    · go_enter Try.func144, Try.ntmps144
      go_wp2_with (first | (go_at_call 27; refine (implEqualResponses_any _ x.resp _ _ y.resp _ _ (by exact Cod.bel hrx (by repeat (first | with_reducible exact Below.refl _ _ | with_reducible assumption | with_reducible refine bel_alloc ?_ _ | with_reducible refine bel_drew ?_ | with_reducible refine bel_drewN ?_ _ | (with_reducible refine bel_set ?_ ?_ _; rotate_left; ((try simp); (try omega)))))) hzx (by exact Cod.bel hry (by repeat (first | with_reducible exact Below.refl _ _ | with_reducible assumption | with_reducible refine bel_alloc ?_ _ | with_reducible refine bel_drew ?_ | with_reducible refine bel_drewN ?_ _ | (with_reducible refine bel_set ?_ ?_ _; rotate_left; ((try simp); (try omega)))))) hzy).mono ?_; rintro e w1 ⟨rfl, hb1⟩; obtain ⟨hc1, hf1, hz1⟩ := bcell hb1; (try simp at hz1); have hs0 : w.heap.size < w1.heap.size := (by omega); have hs1 : w.heap.size + 1 < w1.heap.size := (by omega); have hB1 : Below w.heap.size w w1 := (bel_then (by repeat (first | with_reducible exact Below.refl _ _ | with_reducible assumption | with_reducible refine bel_alloc ?_ _ | with_reducible refine bel_drew ?_ | with_reducible refine bel_drewN ?_ _ | (with_reducible refine bel_set ?_ ?_ _; rotate_left; ((try simp); (try omega))))) hb1); clear hb1))
      go_ret
      exact ⟨ret_bool (by rw [HE.out]; simp [*]), (by repeat (first | with_reducible exact Below.refl _ _ | with_reducible assumption | with_reducible refine bel_alloc ?_ _ | with_reducible refine bel_drew ?_ | with_reducible refine bel_drewN ?_ _ | (with_reducible refine bel_set ?_ ?_ _; rotate_left; ((try simp); (try omega)))))⟩
    ·
      cases e3 : (equalResponses x.resp y.resp)
      · go_enter Try.func144, Try.ntmps144
        go_wp2_with (first | (go_at_call 27; refine (implEqualResponses_any _ x.resp _ _ y.resp _ _ (by exact Cod.bel hrx (by repeat (first | with_reducible exact Below.refl _ _ | with_reducible assumption | with_reducible refine bel_alloc ?_ _ | with_reducible refine bel_drew ?_ | with_reducible refine bel_drewN ?_ _ | (with_reducible refine bel_set ?_ ?_ _; rotate_left; ((try simp); (try omega)))))) hzx (by exact Cod.bel hry (by repeat (first | with_reducible exact Below.refl _ _ | with_reducible assumption | with_reducible refine bel_alloc ?_ _ | with_reducible refine bel_drew ?_ | with_reducible refine bel_drewN ?_ _ | (with_reducible refine bel_set ?_ ?_ _; rotate_left; ((try simp); (try omega)))))) hzy).mono ?_; rintro e w1 ⟨rfl, hb1⟩; obtain ⟨hc1, hf1, hz1⟩ := bcell hb1; (try simp at hz1); have hs0 : w.heap.size < w1.heap.size := (by omega); have hs1 : w.heap.size + 1 < w1.heap.size := (by omega); have hB1 : Below w.heap.size w w1 := (bel_then (by repeat (first | with_reducible exact Below.refl _ _ | with_reducible assumption | with_reducible refine bel_alloc ?_ _ | with_reducible refine bel_drew ?_ | with_reducible refine bel_drewN ?_ _ | (with_reducible refine bel_set ?_ ?_ _; rotate_left; ((try simp); (try omega))))) hb1); clear hb1))
        go_ret
        exact ⟨ret_bool (by rw [HE.out]; simp [*]), (by repeat (first | with_reducible exact Below.refl _ _ | with_reducible assumption | with_reducible refine bel_alloc ?_ _ | with_reducible refine bel_drew ?_ | with_reducible refine bel_drewN ?_ _ | (with_reducible refine bel_set ?_ ?_ _; rotate_left; ((try simp); (try omega)))))⟩
      ·
        go_enter Try.func144, Try.ntmps144
        go_wp2_with (first | (go_at_call 27; refine (implEqualResponses_any _ x.resp _ _ y.resp _ _ (by exact Cod.bel hrx (by repeat (first | with_reducible exact Below.refl _ _ | with_reducible assumption | with_reducible refine bel_alloc ?_ _ | with_reducible refine bel_drew ?_ | with_reducible refine bel_drewN ?_ _ | (with_reducible refine bel_set ?_ ?_ _; rotate_left; ((try simp); (try omega)))))) hzx (by exact Cod.bel hry (by repeat (first | with_reducible exact Below.refl _ _ | with_reducible assumption | with_reducible refine bel_alloc ?_ _ | with_reducible refine bel_drew ?_ | with_reducible refine bel_drewN ?_ _ | (with_reducible refine bel_set ?_ ?_ _; rotate_left; ((try simp); (try omega)))))) hzy).mono ?_; rintro e w1 ⟨rfl, hb1⟩; obtain ⟨hc1, hf1, hz1⟩ := bcell hb1; (try simp at hz1); have hs0 : w.heap.size < w1.heap.size := (by omega); have hs1 : w.heap.size + 1 < w1.heap.size := (by omega); have hB1 : Below w.heap.size w w1 := (bel_then (by repeat (first | with_reducible exact Below.refl _ _ | with_reducible assumption | with_reducible refine bel_alloc ?_ _ | with_reducible refine bel_drew ?_ | with_reducible refine bel_drewN ?_ _ | (with_reducible refine bel_set ?_ ?_ _; rotate_left; ((try simp); (try omega))))) hb1); clear hb1))
        go_ret
        exact ⟨ret_bool (by rw [HE.out]; simp [*]), (by repeat (first | with_reducible exact Below.refl _ _ | with_reducible assumption | with_reducible refine bel_alloc ?_ _ | with_reducible refine bel_drew ?_ | with_reducible refine bel_drewN ?_ _ | (with_reducible refine bel_set ?_ ?_ _; rotate_left; ((try simp); (try omega)))))⟩
set_option maxRecDepth 100000 in
set_option maxHeartbeats 4000000 in
theorem equalFuncCached_any (v1 v2 : Value) (xs ys : List TCached) (F1 F2 : List Nat) (w : World) (h1 : cCachedS.rep w [v1] xs F1) (h2 : cCachedS.rep w [v2] ys F2) (hz1 : cCachedS.sz xs ≤ 1048576) (hz2 : cCachedS.sz ys ≤ 1048576) :
    Calls Try.prog 143 #[v1, v2, .func (.func 144) #[] #[]] w (Gives w (.bool (eqBy cachedEq xs ys))) := by
  obtain ⟨A, cp, rfl⟩ := cL_form h1
  obtain ⟨B, cq, rfl⟩ := cL_form h2
  obtain ⟨-, hcp, hm⟩ := cL_len h1
  obtain ⟨-, hcp2, hm2⟩ := cL_len h2
  obtain ⟨n, hxn⟩ : ∃ n, xs.length = n := ⟨_, rfl⟩
  obtain ⟨m, hxm⟩ : ∃ m, ys.length = m := ⟨_, rfl⟩
  have HN := Lib.hid hxn
  have HM := Lib.hid hxm
  rw [hxn] at hcp ⊢
  rw [hxm] at hcp2 ⊢
  clear hxn hxm
  unfold maxLen at hm hm2
  by_cases hnm : n = m
  · have HE := Lib.hid hnm
    subst hnm
    go_enter Try.func143, Try.ntmps143
    go_wp2
    go_loopw [17] (fun i wr => ∃ k : Nat, k ≤ n ∧ i = .int .i64 k ∧ sameTo cachedEq xs ys k ∧ Below w.heap.size w wr) (fun i _ => n - (intOf i).toNat)
    case atStart => exact ⟨0, Nat.zero_le _, rfl, sameTo_zero _ _ _, Below.refl _ _⟩
    case round =>
      obtain ⟨k, hk, rfl, hsm, hB⟩ := hrel
      have HS := Lib.hid hsm
      clear hsm
      by_cases hlt : k < n
      · have hkx : k < xs.length := by rw [HN.out]; exact hlt
        have hky : k < ys.length := by rw [HM.out]; exact hlt
        obtain ⟨g, o, vs, G1, rfl, hgF, hx, -, hc⟩ := cL_get (hw := by decide) (hw2 := by decide) (Cod.bel h1 hB) hkx
        obtain ⟨g2, o2, vs2, G2, rfl, hgF2, hx2, -, hc2⟩ := cL_get (hw := by decide) (hw2 := by decide) (Cod.bel h2 hB) hky
        have hgr : g < wr.heap.size := Cod.lt _ (Cod.bel h1 hB) g hgF
        have hgr2 : g2 < wr.heap.size := Cod.lt _ (Cod.bel h2 hB) g2 hgF2
        have hne1 : ¬ g = wr.heap.size := by omega
        have hne2 : ¬ g2 = wr.heap.size := by omega
        have hsx := hx
        have hsy := hx2
        obtain ⟨u5, N1, rfl, -, hok1, M1⟩ := TCached.out hx
        obtain ⟨X5, cc1, ee1⟩ := cL_form M1
        subst ee1
        obtain ⟨v5, N2, rfl, -, hok2, M2⟩ := TCached.out hx2
        obtain ⟨Y5, cc2, ee2⟩ := cL_form M2
        subst ee2
        have q0 : wr.cell? ⟨g, o + k * 7, none⟩ = some _ := (hc 0 _ rfl).1
        have q1 : wr.cell? ⟨g, o + k * 7 + 1, none⟩ = some _ := (hc 1 _ rfl).1
        have q2 : wr.cell? ⟨g, o + k * 7 + 2, none⟩ = some _ := (hc 2 _ rfl).1
        have q3 : wr.cell? ⟨g, o + k * 7 + 3, none⟩ = some _ := (hc 3 _ rfl).1
        have q4 : wr.cell? ⟨g, o + k * 7 + 4, none⟩ = some _ := (hc 4 _ rfl).1
        have q5 : wr.cell? ⟨g, o + k * 7 + 5, none⟩ = some _ := (hc 5 _ rfl).1
        have q6 : wr.cell? ⟨g, o + k * 7 + 6, none⟩ = some _ := (hc 6 _ rfl).1
        have r0 : wr.cell? ⟨g2, o2 + k * 7, none⟩ = some _ := (hc2 0 _ rfl).1
        have r1 : wr.cell? ⟨g2, o2 + k * 7 + 1, none⟩ = some _ := (hc2 1 _ rfl).1
        have r2 : wr.cell? ⟨g2, o2 + k * 7 + 2, none⟩ = some _ := (hc2 2 _ rfl).1
        have r3 : wr.cell? ⟨g2, o2 + k * 7 + 3, none⟩ = some _ := (hc2 3 _ rfl).1
        have r4 : wr.cell? ⟨g2, o2 + k * 7 + 4, none⟩ = some _ := (hc2 4 _ rfl).1
        have r5 : wr.cell? ⟨g2, o2 + k * 7 + 5, none⟩ = some _ := (hc2 5 _ rfl).1
        have r6 : wr.cell? ⟨g2, o2 + k * 7 + 6, none⟩ = some _ := (hc2 6 _ rfl).1
        clear hc hc2 hx hx2
        have hki : ((k : Int) < (n : Int)) := by omega
        have hzx := Cod.sz_mem cCached xs _ (List.getElem_mem hkx)
        have hzy := Cod.sz_mem cCached ys _ (List.getElem_mem hky)
        have hzx2 : cCached.sz xs[k] ≤ 1048576 := Nat.le_trans hzx hz1
        have hzy2 : cCached.sz ys[k] ≤ 1048576 := Nat.le_trans hzy hz2
        cases he : cachedEq xs[k] ys[k]
        · go_wp2_with fail
          refine (equalCached_any _ xs[k] _ _ ys[k] _ _ (by exact Cod.bel hsx (by repeat (first | with_reducible exact Below.refl _ _ | with_reducible assumption | with_reducible refine bel_alloc ?_ _ | with_reducible refine bel_drew ?_ | with_reducible refine bel_drewN ?_ _ | (with_reducible refine bel_set ?_ ?_ _; rotate_left; ((try simp); (try omega)))))) hzx2 (by exact Cod.bel hsy (by repeat (first | with_reducible exact Below.refl _ _ | with_reducible assumption | with_reducible refine bel_alloc ?_ _ | with_reducible refine bel_drew ?_ | with_reducible refine bel_drewN ?_ _ | (with_reducible refine bel_set ?_ ?_ _; rotate_left; ((try simp); (try omega)))))) hzy2).mono ?_
          rw [he]
          rintro e w1 ⟨rfl, hb1⟩
          have hB1 : Below w.heap.size w w1 := bel_then (by repeat (first | with_reducible exact Below.refl _ _ | with_reducible assumption | with_reducible refine bel_alloc ?_ _ | with_reducible refine bel_drew ?_ | with_reducible refine bel_drewN ?_ _ | (with_reducible refine bel_set ?_ ?_ _; rotate_left; ((try simp); (try omega))))) hb1
          clear hb1
          go_wp2_with fail
          go_ret
          exact ⟨ret_bool (eqBy_miss cachedEq xs ys k hkx hky he).symm, (by repeat (first | with_reducible exact Below.refl _ _ | with_reducible assumption | with_reducible refine bel_alloc ?_ _ | with_reducible refine bel_drew ?_ | with_reducible refine bel_drewN ?_ _ | (with_reducible refine bel_set ?_ ?_ _; rotate_left; ((try simp); (try omega)))))⟩
        · go_wp2_with fail
          refine (equalCached_any _ xs[k] _ _ ys[k] _ _ (by exact Cod.bel hsx (by repeat (first | with_reducible exact Below.refl _ _ | with_reducible assumption | with_reducible refine bel_alloc ?_ _ | with_reducible refine bel_drew ?_ | with_reducible refine bel_drewN ?_ _ | (with_reducible refine bel_set ?_ ?_ _; rotate_left; ((try simp); (try omega)))))) hzx2 (by exact Cod.bel hsy (by repeat (first | with_reducible exact Below.refl _ _ | with_reducible assumption | with_reducible refine bel_alloc ?_ _ | with_reducible refine bel_drew ?_ | with_reducible refine bel_drewN ?_ _ | (with_reducible refine bel_set ?_ ?_ _; rotate_left; ((try simp); (try omega)))))) hzy2).mono ?_
          rw [he]
          rintro e w1 ⟨rfl, hb1⟩
          have hB1 : Below w.heap.size w w1 := bel_then (by repeat (first | with_reducible exact Below.refl _ _ | with_reducible assumption | with_reducible refine bel_alloc ?_ _ | with_reducible refine bel_drew ?_ | with_reducible refine bel_drewN ?_ _ | (with_reducible refine bel_set ?_ ?_ _; rotate_left; ((try simp); (try omega))))) hb1
          clear hb1
          go_wp2_with fail
          go_roundw
          case rel => exact ⟨k + 1, by omega, by go_num, sameTo_succ _ _ _ _ hkx hky HS.out he, (by repeat (first | with_reducible exact Below.refl _ _ | with_reducible assumption | with_reducible refine bel_alloc ?_ _ | with_reducible refine bel_drew ?_ | with_reducible refine bel_drewN ?_ _ | (with_reducible refine bel_set ?_ ?_ _; rotate_left; ((try simp); (try omega)))))⟩
          case measure => simp [intOf]; omega
      · obtain rfl : k = n := by omega
        go_wp2
        go_ret
        exact ⟨ret_bool (eqBy_hit cachedEq xs ys (by rw [HN.out, HM.out]) (by rw [HN.out]; exact HS.out)).symm, hB⟩
  · have hne : ((n : Int) != (m : Int)) = true := by simp; omega
    go_enter Try.func143, Try.ntmps143
    go_wp2
    go_ret
    exact ⟨ret_bool (eqBy_len cachedEq xs ys (by rw [HN.out, HM.out]; exact hnm)).symm, (by repeat (first | with_reducible exact Below.refl _ _ | with_reducible assumption | with_reducible refine bel_alloc ?_ _ | with_reducible refine bel_drew ?_ | with_reducible refine bel_drewN ?_ _ | (with_reducible refine bel_set ?_ ?_ _; rotate_left; ((try simp); (try omega)))))⟩
set_option maxRecDepth 100000 in
set_option maxHeartbeats 4000000 in
theorem equalCaches_any (vs : Array Value) (x : TCache) (F : List Nat) (vs2 : Array Value) (y : TCache) (F2 : List Nat) (w : World) (h : cCache.rep w vs.toList x F) (hn : cCache.sz x ≤ 1048576) (h2 : cCache.rep w vs2.toList y F2) (hn2 : cCache.sz y ≤ 1048576) :
    Calls Try.prog 101 #[.agg vs, .agg vs2] w (Gives w (.bool (cacheEq x y))) := by
  obtain ⟨u1, E1, rfl, -, -, m1⟩ := TCache.outA h
  obtain ⟨A1, c1, rfl⟩ := cL_form m1
  obtain ⟨v1, G1, rfl, -, -, p1⟩ := TCache.outA h2
  obtain ⟨B1, d1, rfl⟩ := cL_form p1
  have hzx : cCachedS.sz x.entries ≤ 1048576 := by have h1 : cCache.sz x = 0 + cCachedS.sz x.entries := rfl; omega
  have hzy : cCachedS.sz y.entries ≤ 1048576 := by have h1 : cCache.sz y = 0 + cCachedS.sz y.entries := rfl; omega
  clear h h2
  have HE := Lib.hid (show cacheEq x y = (x.ver == y.ver && eqBy cachedEq x.entries y.entries) from rfl)
  cases e1 : (x.ver == y.ver)
  · go_enter Try.func101, Try.ntmps101
    go_wp2_with (first | (go_at_call 143; refine (equalFuncCached_any _ _ x.entries y.entries _ _ _ (by exact Cod.bel m1 (by repeat (first | with_reducible exact Below.refl _ _ | with_reducible assumption | with_reducible refine bel_alloc ?_ _ | with_reducible refine bel_drew ?_ | with_reducible refine bel_drewN ?_ _ | (with_reducible refine bel_set ?_ ?_ _; rotate_left; ((try simp); (try omega)))))) (by exact Cod.bel p1 (by repeat (first | with_reducible exact Below.refl _ _ | with_reducible assumption | with_reducible refine bel_alloc ?_ _ | with_reducible refine bel_drew ?_ | with_reducible refine bel_drewN ?_ _ | (with_reducible refine bel_set ?_ ?_ _; rotate_left; ((try simp); (try omega)))))) hzx hzy).mono ?_; rintro e w1 ⟨rfl, hb1⟩; obtain ⟨hc1, hf1, hz1⟩ := bcell hb1; (try simp at hz1); have hs0 : w.heap.size < w1.heap.size := (by omega); have hs1 : w.heap.size + 1 < w1.heap.size := (by omega); have hB1 : Below w.heap.size w w1 := (bel_then (by repeat (first | with_reducible exact Below.refl _ _ | with_reducible assumption | with_reducible refine bel_alloc ?_ _ | with_reducible refine bel_drew ?_ | with_reducible refine bel_drewN ?_ _ | (with_reducible refine bel_set ?_ ?_ _; rotate_left; ((try simp); (try omega))))) hb1); clear hb1))
    go_ret
    exact ⟨ret_bool (by rw [HE.out]; simp [*]), (by repeat (first | with_reducible exact Below.refl _ _ | with_reducible assumption | with_reducible refine bel_alloc ?_ _ | with_reducible refine bel_drew ?_ | with_reducible refine bel_drewN ?_ _ | (with_reducible refine bel_set ?_ ?_ _; rotate_left; ((try simp); (try omega)))))⟩
  ·
    cases e2 : (eqBy cachedEq x.entries y.entries)
    · go_enter Try.func101, Try.ntmps101
      go_wp2_with (first | (go_at_call 143; refine (equalFuncCached_any _ _ x.entries y.entries _ _ _ (by exact Cod.bel m1 (by repeat (first | with_reducible exact Below.refl _ _ | with_reducible assumption | with_reducible refine bel_alloc ?_ _ | with_reducible refine bel_drew ?_ | with_reducible refine bel_drewN ?_ _ | (with_reducible refine bel_set ?_ ?_ _; rotate_left; ((try simp); (try omega)))))) (by exact Cod.bel p1 (by repeat (first | with_reducible exact Below.refl _ _ | with_reducible assumption | with_reducible refine bel_alloc ?_ _ | with_reducible refine bel_drew ?_ | with_reducible refine bel_drewN ?_ _ | (with_reducible refine bel_set ?_ ?_ _; rotate_left; ((try simp); (try omega)))))) hzx hzy).mono ?_; rintro e w1 ⟨rfl, hb1⟩; obtain ⟨hc1, hf1, hz1⟩ := bcell hb1; (try simp at hz1); have hs0 : w.heap.size < w1.heap.size := (by omega); have hs1 : w.heap.size + 1 < w1.heap.size := (by omega); have hB1 : Below w.heap.size w w1 := (bel_then (by repeat (first | with_reducible exact Below.refl _ _ | with_reducible assumption | with_reducible refine bel_alloc ?_ _ | with_reducible refine bel_drew ?_ | with_reducible refine bel_drewN ?_ _ | (with_reducible refine bel_set ?_ ?_ _; rotate_left; ((try simp); (try omega))))) hb1); clear hb1))
      go_ret
      exact ⟨ret_bool (by rw [HE.out]; simp [*]), (by repeat (first | with_reducible exact Below.refl _ _ | with_reducible assumption | with_reducible refine bel_alloc ?_ _ | with_reducible refine bel_drew ?_ | with_reducible refine bel_drewN ?_ _ | (with_reducible refine bel_set ?_ ?_ _; rotate_left; ((try simp); (try omega)))))⟩
    ·
      go_enter Try.func101, Try.ntmps101
      go_wp2_with (first | (go_at_call 143; refine (equalFuncCached_any _ _ x.entries y.entries _ _ _ (by exact Cod.bel m1 (by repeat (first | with_reducible exact Below.refl _ _ | with_reducible assumption | with_reducible refine bel_alloc ?_ _ | with_reducible refine bel_drew ?_ | with_reducible refine bel_drewN ?_ _ | (with_reducible refine bel_set ?_ ?_ _; rotate_left; ((try simp); (try omega)))))) (by exact Cod.bel p1 (by repeat (first | with_reducible exact Below.refl _ _ | with_reducible assumption | with_reducible refine bel_alloc ?_ _ | with_reducible refine bel_drew ?_ | with_reducible refine bel_drewN ?_ _ | (with_reducible refine bel_set ?_ ?_ _; rotate_left; ((try simp); (try omega)))))) hzx hzy).mono ?_; rintro e w1 ⟨rfl, hb1⟩; obtain ⟨hc1, hf1, hz1⟩ := bcell hb1; (try simp at hz1); have hs0 : w.heap.size < w1.heap.size := (by omega); have hs1 : w.heap.size + 1 < w1.heap.size := (by omega); have hB1 : Below w.heap.size w w1 := (bel_then (by repeat (first | with_reducible exact Below.refl _ _ | with_reducible assumption | with_reducible refine bel_alloc ?_ _ | with_reducible refine bel_drew ?_ | with_reducible refine bel_drewN ?_ _ | (with_reducible refine bel_set ?_ ?_ _; rotate_left; ((try simp); (try omega))))) hb1); clear hb1))
      go_ret
      exact ⟨ret_bool (by rw [HE.out]; simp [*]), (by repeat (first | with_reducible exact Below.refl _ _ | with_reducible assumption | with_reducible refine bel_alloc ?_ _ | with_reducible refine bel_drew ?_ | with_reducible refine bel_drewN ?_ _ | (with_reducible refine bel_set ?_ ?_ _; rotate_left; ((try simp); (try omega)))))⟩
set_option maxRecDepth 100000 in
set_option maxHeartbeats 4000000 in
theorem equalFuncCache_any (v1 v2 : Value) (xs ys : List TCache) (F1 F2 : List Nat) (w : World) (h1 : cCacheS.rep w [v1] xs F1) (h2 : cCacheS.rep w [v2] ys F2) (hz1 : cCacheS.sz xs ≤ 1048576) (hz2 : cCacheS.sz ys ≤ 1048576) :
    Calls Try.prog 100 #[v1, v2, .func (.func 101) #[] #[]] w (Gives w (.bool (eqBy cacheEq xs ys))) := by
  obtain ⟨A, cp, rfl⟩ := cL_form h1
  obtain ⟨B, cq, rfl⟩ := cL_form h2
  obtain ⟨-, hcp, hm⟩ := cL_len h1
  obtain ⟨-, hcp2, hm2⟩ := cL_len h2
  obtain ⟨n, hxn⟩ : ∃ n, xs.length = n := ⟨_, rfl⟩
  obtain ⟨m, hxm⟩ : ∃ m, ys.length = m := ⟨_, rfl⟩
  have HN := Lib.hid hxn
  have HM := Lib.hid hxm
  rw [hxn] at hcp ⊢
  rw [hxm] at hcp2 ⊢
  clear hxn hxm
  unfold maxLen at hm hm2
  by_cases hnm : n = m
  · have HE := Lib.hid hnm
    subst hnm
    go_enter Try.func100, Try.ntmps100
    go_wp2
    go_loopw [17] (fun i wr => ∃ k : Nat, k ≤ n ∧ i = .int .i64 k ∧ sameTo cacheEq xs ys k ∧ Below w.heap.size w wr) (fun i _ => n - (intOf i).toNat)
    case atStart => exact ⟨0, Nat.zero_le _, rfl, sameTo_zero _ _ _, Below.refl _ _⟩
    case round =>
      obtain ⟨k, hk, rfl, hsm, hB⟩ := hrel
      have HS := Lib.hid hsm
      clear hsm
      by_cases hlt : k < n
      · have hkx : k < xs.length := by rw [HN.out]; exact hlt
        have hky : k < ys.length := by rw [HM.out]; exact hlt
        obtain ⟨g, o, vs, G1, rfl, hgF, hx, -, hc⟩ := cL_get (hw := by decide) (hw2 := by decide) (Cod.bel h1 hB) hkx
        obtain ⟨g2, o2, vs2, G2, rfl, hgF2, hx2, -, hc2⟩ := cL_get (hw := by decide) (hw2 := by decide) (Cod.bel h2 hB) hky
        have hgr : g < wr.heap.size := Cod.lt _ (Cod.bel h1 hB) g hgF
        have hgr2 : g2 < wr.heap.size := Cod.lt _ (Cod.bel h2 hB) g2 hgF2
        have hne1 : ¬ g = wr.heap.size := by omega
        have hne2 : ¬ g2 = wr.heap.size := by omega
        have hsx := hx
        have hsy := hx2
        obtain ⟨u1, N1, rfl, -, hok1, M1⟩ := TCache.out hx
        obtain ⟨X1, cc1, ee1⟩ := cL_form M1
        subst ee1
        obtain ⟨v1, N2, rfl, -, hok2, M2⟩ := TCache.out hx2
        obtain ⟨Y1, cc2, ee2⟩ := cL_form M2
        subst ee2
        have q0 : wr.cell? ⟨g, o + k * 2, none⟩ = some _ := (hc 0 _ rfl).1
        have q1 : wr.cell? ⟨g, o + k * 2 + 1, none⟩ = some _ := (hc 1 _ rfl).1
        have r0 : wr.cell? ⟨g2, o2 + k * 2, none⟩ = some _ := (hc2 0 _ rfl).1
        have r1 : wr.cell? ⟨g2, o2 + k * 2 + 1, none⟩ = some _ := (hc2 1 _ rfl).1
        clear hc hc2 hx hx2
        have hki : ((k : Int) < (n : Int)) := by omega
        have hzx := Cod.sz_mem cCache xs _ (List.getElem_mem hkx)
        have hzy := Cod.sz_mem cCache ys _ (List.getElem_mem hky)
        have hzx2 : cCache.sz xs[k] ≤ 1048576 := Nat.le_trans hzx hz1
        have hzy2 : cCache.sz ys[k] ≤ 1048576 := Nat.le_trans hzy hz2
        cases he : cacheEq xs[k] ys[k]
        · go_wp2_with fail
          refine (equalCaches_any _ xs[k] _ _ ys[k] _ _ (by exact Cod.bel hsx (by repeat (first | with_reducible exact Below.refl _ _ | with_reducible assumption | with_reducible refine bel_alloc ?_ _ | with_reducible refine bel_drew ?_ | with_reducible refine bel_drewN ?_ _ | (with_reducible refine bel_set ?_ ?_ _; rotate_left; ((try simp); (try omega)))))) hzx2 (by exact Cod.bel hsy (by repeat (first | with_reducible exact Below.refl _ _ | with_reducible assumption | with_reducible refine bel_alloc ?_ _ | with_reducible refine bel_drew ?_ | with_reducible refine bel_drewN ?_ _ | (with_reducible refine bel_set ?_ ?_ _; rotate_left; ((try simp); (try omega)))))) hzy2).mono ?_
          rw [he]
          rintro e w1 ⟨rfl, hb1⟩
          have hB1 : Below w.heap.size w w1 := bel_then (by repeat (first | with_reducible exact Below.refl _ _ | with_reducible assumption | with_reducible refine bel_alloc ?_ _ | with_reducible refine bel_drew ?_ | with_reducible refine bel_drewN ?_ _ | (with_reducible refine bel_set ?_ ?_ _; rotate_left; ((try simp); (try omega))))) hb1
          clear hb1
          go_wp2_with fail
          go_ret
          exact ⟨ret_bool (eqBy_miss cacheEq xs ys k hkx hky he).symm, (by repeat (first | with_reducible exact Below.refl _ _ | with_reducible assumption | with_reducible refine bel_alloc ?_ _ | with_reducible refine bel_drew ?_ | with_reducible refine bel_drewN ?_ _ | (with_reducible refine bel_set ?_ ?_ _; rotate_left; ((try simp); (try omega)))))⟩
        · go_wp2_with fail
          refine (equalCaches_any _ xs[k] _ _ ys[k] _ _ (by exact Cod.bel hsx (by repeat (first | with_reducible exact Below.refl _ _ | with_reducible assumption | with_reducible refine bel_alloc ?_ _ | with_reducible refine bel_drew ?_ | with_reducible refine bel_drewN ?_ _ | (with_reducible refine bel_set ?_ ?_ _; rotate_left; ((try simp); (try omega)))))) hzx2 (by exact Cod.bel hsy (by repeat (first | with_reducible exact Below.refl _ _ | with_reducible assumption | with_reducible refine bel_alloc ?_ _ | with_reducible refine bel_drew ?_ | with_reducible refine bel_drewN ?_ _ | (with_reducible refine bel_set ?_ ?_ _; rotate_left; ((try simp); (try omega)))))) hzy2).mono ?_
          rw [he]
          rintro e w1 ⟨rfl, hb1⟩
          have hB1 : Below w.heap.size w w1 := bel_then (by repeat (first | with_reducible exact Below.refl _ _ | with_reducible assumption | with_reducible refine bel_alloc ?_ _ | with_reducible refine bel_drew ?_ | with_reducible refine bel_drewN ?_ _ | (with_reducible refine bel_set ?_ ?_ _; rotate_left; ((try simp); (try omega))))) hb1
          clear hb1
          go_wp2_with fail
          go_roundw
          case rel => exact ⟨k + 1, by omega, by go_num, sameTo_succ _ _ _ _ hkx hky HS.out he, (by repeat (first | with_reducible exact Below.refl _ _ | with_reducible assumption | with_reducible refine bel_alloc ?_ _ | with_reducible refine bel_drew ?_ | with_reducible refine bel_drewN ?_ _ | (with_reducible refine bel_set ?_ ?_ _; rotate_left; ((try simp); (try omega)))))⟩
          case measure => simp [intOf]; omega
      · obtain rfl : k = n := by omega
        go_wp2
        go_ret
        exact ⟨ret_bool (eqBy_hit cacheEq xs ys (by rw [HN.out, HM.out]) (by rw [HN.out]; exact HS.out)).symm, hB⟩
  · have hne : ((n : Int) != (m : Int)) = true := by simp; omega
    go_enter Try.func100, Try.ntmps100
    go_wp2
    go_ret
    exact ⟨ret_bool (eqBy_len cacheEq xs ys (by rw [HN.out, HM.out]; exact hnm)).symm, (by repeat (first | with_reducible exact Below.refl _ _ | with_reducible assumption | with_reducible refine bel_alloc ?_ _ | with_reducible refine bel_drew ?_ | with_reducible refine bel_drewN ?_ _ | (with_reducible refine bel_set ?_ ?_ _; rotate_left; ((try simp); (try omega)))))⟩
set_option maxRecDepth 100000 in
set_option maxHeartbeats 4000000 in
theorem implEqualCacheSets_any (vs : Array Value) (x : TCSet) (F : List Nat) (vs2 : Array Value) (y : TCSet) (F2 : List Nat) (w : World) (h : cCSet.rep w vs.toList x F) (hn : cCSet.sz x ≤ 1048576) (h2 : cCSet.rep w vs2.toList y F2) (hn2 : cCSet.sz y ≤ 1048576) :
    Calls Try.prog 39 #[.agg vs, .agg vs2] w (Gives w (.bool (cachesEq x y))) := by
  obtain ⟨u0, E0, rfl, -, -, m0⟩ := TCSet.outA h
  obtain ⟨A0, c0, rfl⟩ := cL_form m0
  obtain ⟨v0, G0, rfl, -, -, p0⟩ := TCSet.outA h2
  obtain ⟨B0, d0, rfl⟩ := cL_form p0
  clear h h2
  go_enter Try.func39, Try.ntmps39
  go_wp2_with fail
  refine (equalFuncCache_any _ _ x.caches y.caches _ _ _ (by exact Cod.bel m0 (by repeat (first | with_reducible exact Below.refl _ _ | with_reducible assumption | with_reducible refine bel_alloc ?_ _ | with_reducible refine bel_drew ?_ | with_reducible refine bel_drewN ?_ _ | (with_reducible refine bel_set ?_ ?_ _; rotate_left; ((try simp); (try omega)))))) (by exact Cod.bel p0 (by repeat (first | with_reducible exact Below.refl _ _ | with_reducible assumption | with_reducible refine bel_alloc ?_ _ | with_reducible refine bel_drew ?_ | with_reducible refine bel_drewN ?_ _ | (with_reducible refine bel_set ?_ ?_ _; rotate_left; ((try simp); (try omega)))))) hn hn2).mono ?_
  rintro e w1 ⟨rfl, hb1⟩
  have hB : Below w.heap.size w w1 := bel_then (by repeat (first | with_reducible exact Below.refl _ _ | with_reducible assumption | with_reducible refine bel_alloc ?_ _ | with_reducible refine bel_drew ?_ | with_reducible refine bel_drewN ?_ _ | (with_reducible refine bel_set ?_ ?_ _; rotate_left; ((try simp); (try omega))))) hb1
  clear hb1
  go_wp2_with fail
  go_ret
  exact ⟨rfl, (by repeat (first | with_reducible exact Below.refl _ _ | with_reducible assumption | with_reducible refine bel_alloc ?_ _ | with_reducible refine bel_drew ?_ | with_reducible refine bel_drewN ?_ _ | (with_reducible refine bel_set ?_ ?_ _; rotate_left; ((try simp); (try omega)))))⟩
end Go.Proofs.Ytlicnppfgfjkgaa
