/-
  EqualCacheSets of the reference. No conditions.
-/
import Derived.Test.YtamcoplnpoddbaaEqCsI
import Derived.Test.YtamcoplnpoddbaaRegion
namespace Go.Proofs.Ytamcoplnpoddbaa
open Go.ChangeShapes Go.WideShapes Go.RowKit
set_option linter.unusedVariables false

set_option maxRecDepth 100000 in
set_option maxHeartbeats 8000000 in
theorem specEqualCacheSets_any (vs : Array Value) (x : TCSet) (F : List Nat) (vs2 : Array Value) (y : TCSet) (F2 : List Nat) (w : World) (h : cCSet.rep w vs.toList x F) (hn : cCSet.sz x ≤ 1048576) (h2 : cCSet.rep w vs2.toList y F2) (hn2 : cCSet.sz y ≤ 1048576) :
    Calls Try.prog 39 #[.agg vs, .agg vs2] w (Gives w (.bool (cachesEq x y))) := by
  obtain ⟨u0, E0, rfl, -, -, m0⟩ := TCSet.outA h
  obtain ⟨A0, c0, rfl⟩ := cL_form m0
  obtain ⟨v0, G0, rfl, -, -, p0⟩ := TCSet.outA h2
  obtain ⟨B0, d0, rfl⟩ := cL_form p0
  clear h h2
  obtain ⟨-, hcp, hm⟩ := cL_len m0
  obtain ⟨-, hcp2, hm2⟩ := cL_len p0
  obtain ⟨n, hxn⟩ : ∃ n, x.caches.length = n := ⟨_, rfl⟩
  obtain ⟨n', hxm⟩ : ∃ n', y.caches.length = n' := ⟨_, rfl⟩
  have HN := Lib.hid hxn
  have HM := Lib.hid hxm
  rw [hxn] at hcp ⊢
  rw [hxm] at hcp2 ⊢
  clear hxn hxm
  unfold maxLen at hm hm2
  by_cases hnm : n = n'
  · have HE := Lib.hid hnm
    subst hnm
    go_enter Try.func39, Try.ntmps39
    go_wp2
    generalize hW : World.alloc _ _ = W
    have hWs : W.heap.size = w.heap.size + 2 := by rw [← hW]; clear hW; simp
    have hbW : Below w.heap.size w W := by rw [← hW]; exact (by repeat (first | with_reducible exact Below.refl _ _ | with_reducible assumption | with_reducible refine bel_alloc ?_ _ | with_reducible refine bel_drew ?_ | with_reducible refine bel_drewN ?_ _ | (with_reducible refine bel_set ?_ ?_ _; rotate_left; ((try simp); (try omega)))))
    have HK := Lib.hid (show W.cell? ⟨w.heap.size, 0, none⟩ = some (.slice A0 n c0) ∧ W.cell? ⟨w.heap.size + 1, 0, none⟩ = some (.slice B0 n d0) from by refine ⟨?_, ?_⟩ <;> (rw [← hW]; clear hW; go_simp))
    clear hW
    go_loopw [5] (fun i wr => ∃ k : Nat, k ≤ n ∧ i = .int .i64 k ∧ sameTo cacheEq x.caches y.caches k ∧ Below W.heap.size W wr) (fun i _ => n - (intOf i).toNat)
    case atStart => exact ⟨0, Nat.zero_le _, rfl, sameTo_zero _ _ _, Below.refl _ _⟩
    case round =>
      obtain ⟨k, hk, rfl, hsm, hB⟩ := hrel
      have HS := Lib.hid hsm
      clear hsm
      have hws_wr : w.heap.size < wr.heap.size := by have := hB.size; omega
      have hbw : Below w.heap.size w wr := bel_then hbW hB
      have k0_wr : wr.cell? ⟨w.heap.size, 0, none⟩ = some (.slice A0 n c0) := (hB.cell (p := ⟨w.heap.size, 0, none⟩) (by (try simp); (try omega))).trans HK.out.1
      have k1_wr : wr.cell? ⟨w.heap.size + 1, 0, none⟩ = some (.slice B0 n d0) := (hB.cell (p := ⟨w.heap.size + 1, 0, none⟩) (by (try simp); (try omega))).trans HK.out.2
      have hws2 : w.heap.size + 1 < wr.heap.size := by have := hB.size; omega
      by_cases hlt : k < n
      · have hkx : k < x.caches.length := by rw [HN.out]; exact hlt
        have hky : k < y.caches.length := by rw [HM.out]; exact hlt
        obtain ⟨g, o, vs, G1, rfl, hgF, hx, -, hc⟩ := cL_get (hw := by decide) (hw2 := by decide) m0 hkx
        obtain ⟨g2, o2, vs2, G2, rfl, hgF2, hx2, -, hc2⟩ := cL_get (hw := by decide) (hw2 := by decide) p0 hky
        obtain ⟨v1, N1, rfl, -, -, m1⟩ := TCache.out hx
        obtain ⟨E5, e5, ee1⟩ := cL_form m1
        subst ee1
        obtain ⟨v2, N2, rfl, -, -, p1⟩ := TCache.out hx2
        obtain ⟨E6, e6, ee2⟩ := cL_form p1
        subst ee2
        have hgw : g < w.heap.size := Cod.lt _ m0 g hgF
        have hgw2 : g2 < w.heap.size := Cod.lt _ p0 g2 hgF2
        have q0 := (hbw.cell (p := ⟨g, o + k * 2, none⟩) hgw).trans ((hc 0 _ rfl).1)
        have q1 := (hbw.cell (p := ⟨g, o + k * 2 + 1, none⟩) hgw).trans ((hc 1 _ rfl).1)
        have r0 := (hbw.cell (p := ⟨g2, o2 + k * 2, none⟩) hgw2).trans ((hc2 0 _ rfl).1)
        have r1 := (hbw.cell (p := ⟨g2, o2 + k * 2 + 1, none⟩) hgw2).trans ((hc2 1 _ rfl).1)
        clear hc hc2 hx hx2
        have hgr : g < wr.heap.size := by omega
        have hgr2 : g2 < wr.heap.size := by omega
        have hgn : ¬ g = wr.heap.size := by omega
        have hgn2 : ¬ g2 = wr.heap.size := by omega
        have hki : ((k : Int) < (n : Int)) := by omega
        obtain ⟨-, hcp5, hm5⟩ := cL_len m1
        obtain ⟨-, hcp6, hm6⟩ := cL_len p1
        obtain ⟨m, hxm⟩ : ∃ m, x.caches[k].entries.length = m := ⟨_, rfl⟩
        obtain ⟨m', hym⟩ : ∃ m', y.caches[k].entries.length = m' := ⟨_, rfl⟩
        have HM1 := Lib.hid hxm
        have HM2 := Lib.hid hym
        rw [hxm] at hcp5 q1
        rw [hym] at hcp6 r1
        clear hxm hym
        unfold maxLen at hm5 hm6
        have hce : cacheEq x.caches[k] y.caches[k] = (!(x.caches[k].ver != y.caches[k].ver) && eqBy cachedEq x.caches[k].entries y.caches[k].entries) := by simp [cacheEq, bne]
        have HC := Lib.hid hce
        have HL := Lib.hid (show m ≠ m' → eqBy cachedEq x.caches[k].entries y.caches[k].entries = false from fun hne => eqBy_len cachedEq _ _ (by rw [HM1.out, HM2.out]; exact hne))
        clear hce
        cases e1 : (x.caches[k].ver != y.caches[k].ver)
        case true =>
          have HR := Lib.hid (show cacheEq x.caches[k] y.caches[k] = false by
            rw [HC.out]
            first
              | (rw [e1]; rfl)
              | (have hne : m ≠ m' := (by intro e; simp [e] at e2)
                 rw [HL.out hne]; simp; done))
          go_wp2
          go_ret
          exact ⟨ret_bool (eqBy_miss cacheEq _ _ k hkx hky HR.out).symm, (by repeat (first | with_reducible exact Below.refl _ _ | with_reducible assumption | with_reducible refine bel_alloc ?_ _ | with_reducible refine bel_drew ?_ | with_reducible refine bel_drewN ?_ _ | (with_reducible refine bel_set ?_ ?_ _; rotate_left; ((try simp); (try omega)))))⟩
        case false =>
          cases e2 : ((m : Int) != (m' : Int))
          case true =>
            have HR := Lib.hid (show cacheEq x.caches[k] y.caches[k] = false by
              rw [HC.out]
              first
                | (rw [e1]; rfl)
                | (have hne : m ≠ m' := (by intro e; simp [e] at e2)
                   rw [HL.out hne]; simp; done))
            go_wp2
            go_ret
            exact ⟨ret_bool (eqBy_miss cacheEq _ _ k hkx hky HR.out).symm, (by repeat (first | with_reducible exact Below.refl _ _ | with_reducible assumption | with_reducible refine bel_alloc ?_ _ | with_reducible refine bel_drew ?_ | with_reducible refine bel_drewN ?_ _ | (with_reducible refine bel_set ?_ ?_ _; rotate_left; ((try simp); (try omega)))))⟩
          case false =>
            have hmm : m = m' := by (have h9 : (m : Int) = m' := (by simpa using e2)); omega
            subst hmm
            have HR := Lib.hid (show cacheEq x.caches[k] y.caches[k] = eqBy cachedEq x.caches[k].entries y.caches[k].entries by rw [HC.out, e1]; rfl)
            obtain ⟨wo, rfl⟩ : ∃ wo : World, wo = wr := ⟨_, rfl⟩
            go_wp2
            generalize hV : World.alloc _ _ = V
            have hVs : V.heap.size = wo.heap.size + 2 := by rw [← hV]; clear hV; simp
            have hbV : Below wo.heap.size wo V := by rw [← hV]; exact (by repeat (first | with_reducible exact Below.refl _ _ | with_reducible assumption | with_reducible refine bel_alloc ?_ _ | with_reducible refine bel_drew ?_ | with_reducible refine bel_drewN ?_ _ | (with_reducible refine bel_set ?_ ?_ _; rotate_left; ((try simp); (try omega)))))
            have a1 : V.cell? ⟨wo.heap.size, 1, none⟩ = some (.slice E5 m e5) := by rw [← hV]; clear hV; go_simp
            have a2 : V.cell? ⟨wo.heap.size + 1, 1, none⟩ = some (.slice E6 m e6) := by rw [← hV]; clear hV; go_simp
            clear hV
            go_loopw [8] (fun i wr => ∃ j : Nat, j ≤ m ∧ i = .int .i64 j ∧ sameTo cachedEq x.caches[k].entries y.caches[k].entries j ∧ Below V.heap.size V wr) (fun i _ => m - (intOf i).toNat)
            case atStart => exact ⟨0, Nat.zero_le _, rfl, sameTo_zero _ _ _, Below.refl _ _⟩
            case round =>
              obtain ⟨j, hj, rfl, hsm2, hB2⟩ := hrel
              have HS2 := Lib.hid hsm2
              clear hsm2
              have hz9 := hB2.size
              have hbow : Below wo.heap.size wo wr := bel_then hbV hB2
              have hbw2 : Below w.heap.size w wr := bel_then hbw hbow
              have y1 := (hB2.cell (p := ⟨wo.heap.size, 1, none⟩) (by (try simp); (try omega))).trans a1
              have y2 := (hB2.cell (p := ⟨wo.heap.size + 1, 1, none⟩) (by (try simp); (try omega))).trans a2
              have hBW : Below W.heap.size W wr := hB.trans (hbow.mono hB.size)
              by_cases hltj : j < m
              · have hjx : j < x.caches[k].entries.length := by rw [HM1.out]; exact hltj
                have hjy : j < y.caches[k].entries.length := by rw [HM2.out]; exact hltj
                obtain ⟨g3, o3, vs3, G3, rfl, hgF3, hx3, -, hc3⟩ := cL_get (hw := by decide) (hw2 := by decide) m1 hjx
                obtain ⟨g4, o4, vs4, G4, rfl, hgF4, hx4, -, hc4⟩ := cL_get (hw := by decide) (hw2 := by decide) p1 hjy
                obtain ⟨v7, N3, rfl, -, hok3, m7⟩ := TCached.out hx3
                obtain ⟨A7, c7, ee7⟩ := cL_form m7
                subst ee7
                obtain ⟨v8, N4, rfl, -, hok4, p7⟩ := TCached.out hx4
                obtain ⟨A8, c8, ee8⟩ := cL_form p7
                subst ee8
                have hg3w : g3 < w.heap.size := Cod.lt _ m1 g3 hgF3
                have hg4w : g4 < w.heap.size := Cod.lt _ p1 g4 hgF4
                have t1 := y1
                have t2 := y2
                clear y1 y2 q0 q1 r0 r1
                have q0 := (hbw2.cell (p := ⟨g3, o3 + j * 7, none⟩) hg3w).trans ((hc3 0 _ rfl).1)
                have q1 := (hbw2.cell (p := ⟨g3, o3 + j * 7 + 1, none⟩) hg3w).trans ((hc3 1 _ rfl).1)
                have q2 := (hbw2.cell (p := ⟨g3, o3 + j * 7 + 2, none⟩) hg3w).trans ((hc3 2 _ rfl).1)
                have q3 := (hbw2.cell (p := ⟨g3, o3 + j * 7 + 3, none⟩) hg3w).trans ((hc3 3 _ rfl).1)
                have q4 := (hbw2.cell (p := ⟨g3, o3 + j * 7 + 4, none⟩) hg3w).trans ((hc3 4 _ rfl).1)
                have q5 := (hbw2.cell (p := ⟨g3, o3 + j * 7 + 5, none⟩) hg3w).trans ((hc3 5 _ rfl).1)
                have q6 := (hbw2.cell (p := ⟨g3, o3 + j * 7 + 6, none⟩) hg3w).trans ((hc3 6 _ rfl).1)
                have r0 := (hbw2.cell (p := ⟨g4, o4 + j * 7, none⟩) hg4w).trans ((hc4 0 _ rfl).1)
                have r1 := (hbw2.cell (p := ⟨g4, o4 + j * 7 + 1, none⟩) hg4w).trans ((hc4 1 _ rfl).1)
                have r2 := (hbw2.cell (p := ⟨g4, o4 + j * 7 + 2, none⟩) hg4w).trans ((hc4 2 _ rfl).1)
                have r3 := (hbw2.cell (p := ⟨g4, o4 + j * 7 + 3, none⟩) hg4w).trans ((hc4 3 _ rfl).1)
                have r4 := (hbw2.cell (p := ⟨g4, o4 + j * 7 + 4, none⟩) hg4w).trans ((hc4 4 _ rfl).1)
                have r5 := (hbw2.cell (p := ⟨g4, o4 + j * 7 + 5, none⟩) hg4w).trans ((hc4 5 _ rfl).1)
                have r6 := (hbw2.cell (p := ⟨g4, o4 + j * 7 + 6, none⟩) hg4w).trans ((hc4 6 _ rfl).1)
                clear hc3 hc4 hx3 hx4
                have hji : ((j : Int) < (m : Int)) := by omega
                have hcd : cachedEq x.caches[k].entries[j] y.caches[k].entries[j] = (x.caches[k].entries[j].site.toList == y.caches[k].entries[j].site.toList && x.caches[k].entries[j].path.toList == y.caches[k].entries[j].path.toList && equalResponses x.caches[k].entries[j].resp y.caches[k].entries[j].resp) := rfl
                have HD := Lib.hid hcd
                clear hcd
                cases f1 : (x.caches[k].entries[j].site.toList == y.caches[k].entries[j].site.toList)
                · have HX := Lib.hid (show cachedEq x.caches[k].entries[j] y.caches[k].entries[j] = false by rw [HD.out]; simp [*])
                  go_wp2
                  go_quiet (fail)
                  go_wp2
                  go_ret
                  exact ⟨ret_bool (eqBy_miss cacheEq _ _ k hkx hky (by rw [HR.out]; exact eqBy_miss cachedEq _ _ j hjx hjy HX.out)).symm, (by repeat (first | with_reducible exact Below.refl _ _ | with_reducible assumption | with_reducible refine bel_alloc ?_ _ | with_reducible refine bel_drew ?_ | with_reducible refine bel_drewN ?_ _ | (with_reducible refine bel_set ?_ ?_ _; rotate_left; ((try simp); (try omega)))))⟩
                ·
                  cases f2 : (x.caches[k].entries[j].path.toList == y.caches[k].entries[j].path.toList)
                  · have HX := Lib.hid (show cachedEq x.caches[k].entries[j] y.caches[k].entries[j] = false by rw [HD.out]; simp [*])
                    go_wp2
                    go_quiet (fail)
                    go_wp2
                    go_ret
                    exact ⟨ret_bool (eqBy_miss cacheEq _ _ k hkx hky (by rw [HR.out]; exact eqBy_miss cachedEq _ _ j hjx hjy HX.out)).symm, (by repeat (first | with_reducible exact Below.refl _ _ | with_reducible assumption | with_reducible refine bel_alloc ?_ _ | with_reducible refine bel_drew ?_ | with_reducible refine bel_drewN ?_ _ | (with_reducible refine bel_set ?_ ?_ _; rotate_left; ((try simp); (try omega)))))⟩
                  ·
                    have hrx : cResp.rep w _ x.caches[k].entries[j].resp _ := TResp.mk_ ⟨hok3.h2, hok3.h3, hok3.h4⟩ m7
                    have hry : cResp.rep w _ y.caches[k].entries[j].resp _ := TResp.mk_ ⟨hok4.h2, hok4.h3, hok4.h4⟩ p7
                    have hzx : cResp.sz x.caches[k].entries[j].resp ≤ 1048576 := by
                      have h1 := Cod.sz_mem cCache x.caches _ (List.getElem_mem hkx)
                      have h2 := Cod.sz_mem cCached x.caches[k].entries _ (List.getElem_mem hjx)
                      have h3 : cCache.sz x.caches[k] = 0 + Cod.szs cCached x.caches[k].entries := rfl
                      have h4 : cCSet.sz x = Cod.szs cCache x.caches := rfl
                      have h5 : cCached.sz x.caches[k].entries[j] = x.caches[k].entries[j].site.size + (x.caches[k].entries[j].path.size + cResp.sz x.caches[k].entries[j].resp) := rfl
                      omega
                    have hzy : cResp.sz y.caches[k].entries[j].resp ≤ 1048576 := by
                      have h1 := Cod.sz_mem cCache y.caches _ (List.getElem_mem hky)
                      have h2 := Cod.sz_mem cCached y.caches[k].entries _ (List.getElem_mem hjy)
                      have h3 : cCache.sz y.caches[k] = 0 + Cod.szs cCached y.caches[k].entries := rfl
                      have h4 : cCSet.sz y = Cod.szs cCache y.caches := rfl
                      have h5 : cCached.sz y.caches[k].entries[j] = y.caches[k].entries[j].site.size + (y.caches[k].entries[j].path.size + cResp.sz y.caches[k].entries[j].resp) := rfl
                      omega
                    have hS : ∀ w9, Below wr.heap.size wr w9 → Below wr.heap.size wr w9 ∧ w9.cell? ⟨wo.heap.size, 1, none⟩ = some (.slice (some ⟨g3, o3, none⟩) m e5) ∧ w9.cell? ⟨wo.heap.size + 1, 1, none⟩ = some (.slice (some ⟨g4, o4, none⟩) m e6) ∧ w9.cell? ⟨g3, o3 + j * 7, none⟩ = some (.string x.caches[k].entries[j].site) ∧ w9.cell? ⟨g3, o3 + j * 7 + 1, none⟩ = some (.string x.caches[k].entries[j].path) ∧ w9.cell? ⟨g3, o3 + j * 7 + 2, none⟩ = some (.int .i64 x.caches[k].entries[j].resp.type) ∧ w9.cell? ⟨g3, o3 + j * 7 + 3, none⟩ = some (.int .i64 x.caches[k].entries[j].resp.status) ∧ w9.cell? ⟨g3, o3 + j * 7 + 4, none⟩ = some (.int .i64 x.caches[k].entries[j].resp.ver) ∧ w9.cell? ⟨g3, o3 + j * 7 + 5, none⟩ = some (.slice A7 x.caches[k].entries[j].resp.body.length c7) ∧ w9.cell? ⟨g3, o3 + j * 7 + 6, none⟩ = some (.bool x.caches[k].entries[j].resp.shares) ∧ w9.cell? ⟨g4, o4 + j * 7, none⟩ = some (.string y.caches[k].entries[j].site) ∧ w9.cell? ⟨g4, o4 + j * 7 + 1, none⟩ = some (.string y.caches[k].entries[j].path) ∧ w9.cell? ⟨g4, o4 + j * 7 + 2, none⟩ = some (.int .i64 y.caches[k].entries[j].resp.type) ∧ w9.cell? ⟨g4, o4 + j * 7 + 3, none⟩ = some (.int .i64 y.caches[k].entries[j].resp.status) ∧ w9.cell? ⟨g4, o4 + j * 7 + 4, none⟩ = some (.int .i64 y.caches[k].entries[j].resp.ver) ∧ w9.cell? ⟨g4, o4 + j * 7 + 5, none⟩ = some (.slice A8 y.caches[k].entries[j].resp.body.length c8) ∧ w9.cell? ⟨g4, o4 + j * 7 + 6, none⟩ = some (.bool y.caches[k].entries[j].resp.shares) := fun w9 hb => ⟨hb, (hb.cell (p := ⟨wo.heap.size, 1, none⟩) (by (try simp); (try omega))).trans t1, (hb.cell (p := ⟨wo.heap.size + 1, 1, none⟩) (by (try simp); (try omega))).trans t2, (hb.cell (p := ⟨g3, o3 + j * 7, none⟩) (by (try simp); (try omega))).trans q0, (hb.cell (p := ⟨g3, o3 + j * 7 + 1, none⟩) (by (try simp); (try omega))).trans q1, (hb.cell (p := ⟨g3, o3 + j * 7 + 2, none⟩) (by (try simp); (try omega))).trans q2, (hb.cell (p := ⟨g3, o3 + j * 7 + 3, none⟩) (by (try simp); (try omega))).trans q3, (hb.cell (p := ⟨g3, o3 + j * 7 + 4, none⟩) (by (try simp); (try omega))).trans q4, (hb.cell (p := ⟨g3, o3 + j * 7 + 5, none⟩) (by (try simp); (try omega))).trans q5, (hb.cell (p := ⟨g3, o3 + j * 7 + 6, none⟩) (by (try simp); (try omega))).trans q6, (hb.cell (p := ⟨g4, o4 + j * 7, none⟩) (by (try simp); (try omega))).trans r0, (hb.cell (p := ⟨g4, o4 + j * 7 + 1, none⟩) (by (try simp); (try omega))).trans r1, (hb.cell (p := ⟨g4, o4 + j * 7 + 2, none⟩) (by (try simp); (try omega))).trans r2, (hb.cell (p := ⟨g4, o4 + j * 7 + 3, none⟩) (by (try simp); (try omega))).trans r3, (hb.cell (p := ⟨g4, o4 + j * 7 + 4, none⟩) (by (try simp); (try omega))).trans r4, (hb.cell (p := ⟨g4, o4 + j * 7 + 5, none⟩) (by (try simp); (try omega))).trans r5, (hb.cell (p := ⟨g4, o4 + j * 7 + 6, none⟩) (by (try simp); (try omega))).trans r6⟩
                    have hwb : Below wr.heap.size wr wr := Below.refl _ _
                    have hcon := fun W9 (hb9 : Below w.heap.size w W9) => specEqualResponses_any _ x.caches[k].entries[j].resp _ _ y.caches[k].entries[j].resp _ W9 (Cod.bel hrx hb9) hzx (Cod.bel hry hb9) hzy
                    cases f3 : equalResponses x.caches[k].entries[j].resp y.caches[k].entries[j].resp
                    · rw [f3] at hcon
                      have HX := Lib.hid (show cachedEq x.caches[k].entries[j] y.caches[k].entries[j] = false by rw [HD.out, f3]; simp)
                      go_wp2
                      refine wp_region_held_drew (S := (fun w9 => Below wr.heap.size wr w9 ∧ w9.cell? ⟨wo.heap.size, 1, none⟩ = some (.slice (some ⟨g3, o3, none⟩) m e5) ∧ w9.cell? ⟨wo.heap.size + 1, 1, none⟩ = some (.slice (some ⟨g4, o4, none⟩) m e6) ∧ w9.cell? ⟨g3, o3 + j * 7, none⟩ = some (.string x.caches[k].entries[j].site) ∧ w9.cell? ⟨g3, o3 + j * 7 + 1, none⟩ = some (.string x.caches[k].entries[j].path) ∧ w9.cell? ⟨g3, o3 + j * 7 + 2, none⟩ = some (.int .i64 x.caches[k].entries[j].resp.type) ∧ w9.cell? ⟨g3, o3 + j * 7 + 3, none⟩ = some (.int .i64 x.caches[k].entries[j].resp.status) ∧ w9.cell? ⟨g3, o3 + j * 7 + 4, none⟩ = some (.int .i64 x.caches[k].entries[j].resp.ver) ∧ w9.cell? ⟨g3, o3 + j * 7 + 5, none⟩ = some (.slice A7 x.caches[k].entries[j].resp.body.length c7) ∧ w9.cell? ⟨g3, o3 + j * 7 + 6, none⟩ = some (.bool x.caches[k].entries[j].resp.shares) ∧ w9.cell? ⟨g4, o4 + j * 7, none⟩ = some (.string y.caches[k].entries[j].site) ∧ w9.cell? ⟨g4, o4 + j * 7 + 1, none⟩ = some (.string y.caches[k].entries[j].path) ∧ w9.cell? ⟨g4, o4 + j * 7 + 2, none⟩ = some (.int .i64 y.caches[k].entries[j].resp.type) ∧ w9.cell? ⟨g4, o4 + j * 7 + 3, none⟩ = some (.int .i64 y.caches[k].entries[j].resp.status) ∧ w9.cell? ⟨g4, o4 + j * 7 + 4, none⟩ = some (.int .i64 y.caches[k].entries[j].resp.ver) ∧ w9.cell? ⟨g4, o4 + j * 7 + 5, none⟩ = some (.slice A8 y.caches[k].entries[j].resp.body.length c8) ∧ w9.cell? ⟨g4, o4 + j * 7 + 6, none⟩ = some (.bool y.caches[k].entries[j].resp.shares))) (by kernel_rfl) (by (try dsimp only); exact hS _ (by repeat (first | with_reducible exact Below.refl _ _ | with_reducible assumption | with_reducible refine bel_alloc ?_ _ | with_reducible refine bel_drew ?_ | with_reducible refine bel_drewN ?_ _ | (with_reducible refine bel_set ?_ ?_ _; rotate_left; ((try simp); (try omega)))))) (fun hHeld => ?_)
                      refine take_read (i := 0) 54 (v := ?v0) rfl rfl (by kernel_rfl) (by kernel_rfl) (by kernel_rfl) (fun _ _ _ h => h) (by rfl) ?hy0 (by assumption) ?rest0
                      case hy0 => (intro w hSw; (try dsimp only at hSw); go_simp; (try with_reducible rfl))
                      try simp only [Act.put, List.setIfInBounds_toArray, List.set_cons_zero, List.set_cons_succ]
                      refine take_read (i := 1) 55 (v := ?v1) rfl rfl (by kernel_rfl) (by kernel_rfl) (by kernel_rfl) (fun _ _ _ h => h) (by rfl) ?hy1 (by assumption) ?rest1
                      case hy1 => (intro w hSw; (try dsimp only at hSw); go_simp; (try with_reducible rfl))
                      try simp only [Act.put, List.setIfInBounds_toArray, List.set_cons_zero, List.set_cons_succ]
                      refine take_read (i := 2) 56 (v := ?v2) rfl rfl (by kernel_rfl) (by kernel_rfl) (by kernel_rfl) (fun _ _ _ h => h) (by rfl) ?hy2 (by assumption) ?rest2
                      case hy2 => (intro w hSw; (try dsimp only at hSw); go_simp; (try with_reducible rfl))
                      try simp only [Act.put, List.setIfInBounds_toArray, List.set_cons_zero, List.set_cons_succ]
                      refine take_read (i := 3) 57 (v := ?v3) rfl rfl (by kernel_rfl) (by kernel_rfl) (by kernel_rfl) (fun _ _ _ h => h) (by rfl) ?hy3 (by assumption) ?rest3
                      case hy3 => (intro w hSw; (try dsimp only at hSw); go_simp; (try with_reducible rfl))
                      try simp only [Act.put, List.setIfInBounds_toArray, List.set_cons_zero, List.set_cons_succ]
                      refine take_read (i := 4) 58 (v := ?v4) rfl rfl (by kernel_rfl) (by kernel_rfl) (by kernel_rfl) (fun _ _ _ h => h) (by rfl) ?hy4 (by assumption) ?rest4
                      case hy4 => (intro w hSw; (try dsimp only at hSw); go_simp; (try with_reducible rfl))
                      try simp only [Act.put, List.setIfInBounds_toArray, List.set_cons_zero, List.set_cons_succ]
                      refine take_read (i := 5) 59 (v := ?v5) rfl rfl (by kernel_rfl) (by kernel_rfl) (by kernel_rfl) (fun _ _ _ h => h) (by rfl) ?hy5 (by assumption) ?rest5
                      case hy5 => (intro w hSw; (try dsimp only at hSw); go_simp; (try with_reducible rfl))
                      try simp only [Act.put, List.setIfInBounds_toArray, List.set_cons_zero, List.set_cons_succ]
                      refine take_read (i := 6) 60 (v := ?v6) rfl rfl (by kernel_rfl) (by kernel_rfl) (by kernel_rfl) (fun _ _ _ h => h) (by rfl) ?hy6 (by assumption) ?rest6
                      case hy6 => (intro w hSw; (try dsimp only at hSw); go_simp; (try with_reducible rfl))
                      try simp only [Act.put, List.setIfInBounds_toArray, List.set_cons_zero, List.set_cons_succ]
                      refine take_read (i := 7) 61 (v := ?v7) rfl rfl (by kernel_rfl) (by kernel_rfl) (by kernel_rfl) (fun _ _ _ h => h) (by rfl) ?hy7 (by assumption) ?rest7
                      case hy7 => (intro w hSw; (try dsimp only at hSw); go_simp; (try with_reducible rfl))
                      try simp only [Act.put, List.setIfInBounds_toArray, List.set_cons_zero, List.set_cons_succ]
                      refine take_read (i := 8) 62 (v := ?v8) rfl rfl (by kernel_rfl) (by kernel_rfl) (by kernel_rfl) (fun _ _ _ h => h) (by rfl) ?hy8 (by assumption) ?rest8
                      case hy8 => (intro w hSw; (try dsimp only at hSw); go_simp; (try with_reducible rfl))
                      try simp only [Act.put, List.setIfInBounds_toArray, List.set_cons_zero, List.set_cons_succ]
                      refine take_read (i := 9) 63 (v := ?v9) rfl rfl (by kernel_rfl) (by kernel_rfl) (by kernel_rfl) (fun _ _ _ h => h) (by rfl) ?hy9 (by assumption) ?rest9
                      case hy9 => (intro w hSw; (try dsimp only at hSw); go_simp; (try with_reducible rfl))
                      try simp only [Act.put, List.setIfInBounds_toArray, List.set_cons_zero, List.set_cons_succ]
                      refine take_read (i := 10) 64 (v := ?v10) rfl rfl (by kernel_rfl) (by kernel_rfl) (by kernel_rfl) (fun _ _ _ h => h) (by rfl) ?hy10 (by assumption) ?rest10
                      case hy10 => (intro w hSw; (try dsimp only at hSw); go_simp; (try with_reducible rfl))
                      try simp only [Act.put, List.setIfInBounds_toArray, List.set_cons_zero, List.set_cons_succ]
                      refine take_read (i := 11) 65 (v := ?v11) rfl rfl (by kernel_rfl) (by kernel_rfl) (by kernel_rfl) (fun _ _ _ h => h) (by rfl) ?hy11 (by assumption) ?rest11
                      case hy11 => (intro w hSw; (try dsimp only at hSw); go_simp; (try with_reducible rfl))
                      try simp only [Act.put, List.setIfInBounds_toArray, List.set_cons_zero, List.set_cons_succ]
                      refine take_read (i := 12) 66 (v := ?v12) rfl rfl (by kernel_rfl) (by kernel_rfl) (by kernel_rfl) (fun _ _ _ h => h) (by rfl) ?hy12 (by assumption) ?rest12
                      case hy12 => (intro w hSw; (try dsimp only at hSw); go_simp; (try with_reducible rfl))
                      try simp only [Act.put, List.setIfInBounds_toArray, List.set_cons_zero, List.set_cons_succ]
                      refine take_read (i := 13) 67 (v := ?v13) rfl rfl (by kernel_rfl) (by kernel_rfl) (by kernel_rfl) (fun _ _ _ h => h) (by rfl) ?hy13 (by assumption) ?rest13
                      case hy13 => (intro w hSw; (try dsimp only at hSw); go_simp; (try with_reducible rfl))
                      try simp only [Act.put, List.setIfInBounds_toArray, List.set_cons_zero, List.set_cons_succ]
                      refine take_read (i := 14) 68 (v := ?v14) rfl rfl (by kernel_rfl) (by kernel_rfl) (by kernel_rfl) (fun _ _ _ h => h) (by rfl) ?hy14 (by assumption) ?rest14
                      case hy14 => (intro w hSw; (try dsimp only at hSw); go_simp; (try with_reducible rfl))
                      try simp only [Act.put, List.setIfInBounds_toArray, List.set_cons_zero, List.set_cons_succ]
                      refine take_read (i := 15) 69 (v := ?v15) rfl rfl (by kernel_rfl) (by kernel_rfl) (by kernel_rfl) (fun _ _ _ h => h) (by rfl) ?hy15 (by assumption) ?rest15
                      case hy15 => (intro w hSw; (try dsimp only at hSw); go_simp; (try with_reducible rfl))
                      try simp only [Act.put, List.setIfInBounds_toArray, List.set_cons_zero, List.set_cons_succ]
                      refine take_read (i := 16) 70 (v := ?v16) rfl rfl (by kernel_rfl) (by kernel_rfl) (by kernel_rfl) (fun _ _ _ h => h) (by rfl) ?hy16 (by assumption) ?rest16
                      case hy16 => (intro w hSw; (try dsimp only at hSw); go_simp; (try with_reducible rfl))
                      try simp only [Act.put, List.setIfInBounds_toArray, List.set_cons_zero, List.set_cons_succ]
                      refine take_read (i := 17) 71 (v := ?v17) rfl rfl (by kernel_rfl) (by kernel_rfl) (by kernel_rfl) (fun _ _ _ h => h) (by rfl) ?hy17 (by assumption) ?rest17
                      case hy17 => (intro w hSw; (try dsimp only at hSw); go_simp; (try with_reducible rfl))
                      try simp only [Act.put, List.setIfInBounds_toArray, List.set_cons_zero, List.set_cons_succ]
                      refine take_read (i := 18) 72 (v := ?v18) rfl rfl (by kernel_rfl) (by kernel_rfl) (by kernel_rfl) (fun _ _ _ h => h) (by rfl) ?hy18 (by assumption) ?rest18
                      case hy18 => (intro w hSw; (try dsimp only at hSw); go_simp; (try with_reducible rfl))
                      try simp only [Act.put, List.setIfInBounds_toArray, List.set_cons_zero, List.set_cons_succ]
                      refine take_read (i := 19) 73 (v := ?v19) rfl rfl (by kernel_rfl) (by kernel_rfl) (by kernel_rfl) (fun _ _ _ h => h) (by rfl) ?hy19 (by assumption) ?rest19
                      case hy19 => (intro w hSw; (try dsimp only at hSw); go_simp; (try with_reducible rfl))
                      try simp only [Act.put, List.setIfInBounds_toArray, List.set_cons_zero, List.set_cons_succ]
                      refine take_read (i := 20) 74 (v := ?v20) rfl rfl (by kernel_rfl) (by kernel_rfl) (by kernel_rfl) (fun _ _ _ h => h) (by rfl) ?hy20 (by assumption) ?rest20
                      case hy20 => (intro w hSw; (try dsimp only at hSw); go_simp; (try with_reducible rfl))
                      try simp only [Act.put, List.setIfInBounds_toArray, List.set_cons_zero, List.set_cons_succ]
                      refine take_read (i := 21) 75 (v := ?v21) rfl rfl (by kernel_rfl) (by kernel_rfl) (by kernel_rfl) (fun _ _ _ h => h) (by rfl) ?hy21 (by assumption) ?rest21
                      case hy21 => (intro w hSw; (try dsimp only at hSw); go_simp; (try with_reducible rfl))
                      try simp only [Act.put, List.setIfInBounds_toArray, List.set_cons_zero, List.set_cons_succ]
                      refine take_read (i := 22) 76 (v := ?v22) rfl rfl (by kernel_rfl) (by kernel_rfl) (by kernel_rfl) (fun _ _ _ h => h) (by rfl) ?hy22 (by assumption) ?rest22
                      case hy22 => (intro w hSw; (try dsimp only at hSw); go_simp; (try with_reducible rfl))
                      try simp only [Act.put, List.setIfInBounds_toArray, List.set_cons_zero, List.set_cons_succ]
                      refine take_read (i := 23) 77 (v := ?v23) rfl rfl (by kernel_rfl) (by kernel_rfl) (by kernel_rfl) (fun _ _ _ h => h) (by rfl) ?hy23 (by assumption) ?rest23
                      case hy23 => (intro w hSw; (try dsimp only at hSw); go_simp; (try with_reducible rfl))
                      try simp only [Act.put, List.setIfInBounds_toArray, List.set_cons_zero, List.set_cons_succ]
                      refine take_read (i := 24) 78 (v := ?v24) rfl rfl (by kernel_rfl) (by kernel_rfl) (by kernel_rfl) (fun _ _ _ h => h) (by rfl) ?hy24 (by assumption) ?rest24
                      case hy24 => (intro w hSw; (try dsimp only at hSw); go_simp; (try with_reducible rfl))
                      try simp only [Act.put, List.setIfInBounds_toArray, List.set_cons_zero, List.set_cons_succ]
                      refine take_read (i := 25) 79 (v := ?v25) rfl rfl (by kernel_rfl) (by kernel_rfl) (by kernel_rfl) (fun _ _ _ h => h) (by rfl) ?hy25 (by assumption) ?rest25
                      case hy25 => (intro w hSw; (try dsimp only at hSw); go_simp; (try with_reducible rfl))
                      try simp only [Act.put, List.setIfInBounds_toArray, List.set_cons_zero, List.set_cons_succ]
                      refine take_read (i := 26) 80 (v := ?v26) rfl rfl (by kernel_rfl) (by kernel_rfl) (by kernel_rfl) (fun _ _ _ h => h) (by rfl) ?hy26 (by assumption) ?rest26
                      case hy26 => (intro w hSw; (try dsimp only at hSw); go_simp; (try with_reducible rfl))
                      try simp only [Act.put, List.setIfInBounds_toArray, List.set_cons_zero, List.set_cons_succ]
                      refine take_read (i := 27) 81 (v := ?v27) rfl rfl (by kernel_rfl) (by kernel_rfl) (by kernel_rfl) (fun _ _ _ h => h) (by rfl) ?hy27 (by assumption) ?rest27
                      case hy27 => (intro w hSw; (try dsimp only at hSw); go_simp; (try with_reducible rfl))
                      try simp only [Act.put, List.setIfInBounds_toArray, List.set_cons_zero, List.set_cons_succ]
                      refine take_read (i := 28) 82 (v := ?v28) rfl rfl (by kernel_rfl) (by kernel_rfl) (by kernel_rfl) (fun _ _ _ h => h) (by rfl) ?hy28 (by assumption) ?rest28
                      case hy28 => (intro w hSw; (try dsimp only at hSw); go_simp; (try with_reducible rfl))
                      try simp only [Act.put, List.setIfInBounds_toArray, List.set_cons_zero, List.set_cons_succ]
                      refine take_read (i := 29) 83 (v := ?v29) rfl rfl (by kernel_rfl) (by kernel_rfl) (by kernel_rfl) (fun _ _ _ h => h) (by rfl) ?hy29 (by assumption) ?rest29
                      case hy29 => (intro w hSw; (try dsimp only at hSw); go_simp; (try with_reducible rfl))
                      try simp only [Act.put, List.setIfInBounds_toArray, List.set_cons_zero, List.set_cons_succ]
                      refine take_read (i := 30) 84 (v := ?v30) rfl rfl (by kernel_rfl) (by kernel_rfl) (by kernel_rfl) (fun _ _ _ h => h) (by rfl) ?hy30 (by assumption) ?rest30
                      case hy30 => (intro w hSw; (try dsimp only at hSw); go_simp; (try with_reducible rfl))
                      try simp only [Act.put, List.setIfInBounds_toArray, List.set_cons_zero, List.set_cons_succ]
                      refine take_read (i := 31) 85 (v := ?v31) rfl rfl (by kernel_rfl) (by kernel_rfl) (by kernel_rfl) (fun _ _ _ h => h) (by rfl) ?hy31 (by assumption) ?rest31
                      case hy31 => (intro w hSw; (try dsimp only at hSw); go_simp; (try with_reducible rfl))
                      try simp only [Act.put, List.setIfInBounds_toArray, List.set_cons_zero, List.set_cons_succ]
                      refine take_read (i := 32) 86 (v := ?v32) rfl rfl (by kernel_rfl) (by kernel_rfl) (by kernel_rfl) (fun _ _ _ h => h) (by rfl) ?hy32 (by assumption) ?rest32
                      case hy32 => (intro w hSw; (try dsimp only at hSw); go_simp; (try with_reducible rfl))
                      try simp only [Act.put, List.setIfInBounds_toArray, List.set_cons_zero, List.set_cons_succ]
                      refine take_read (i := 33) 87 (v := ?v33) rfl rfl (by kernel_rfl) (by kernel_rfl) (by kernel_rfl) (fun _ _ _ h => h) (by rfl) ?hy33 (by assumption) ?rest33
                      case hy33 => (intro w hSw; (try dsimp only at hSw); go_simp; (try with_reducible rfl))
                      try simp only [Act.put, List.setIfInBounds_toArray, List.set_cons_zero, List.set_cons_succ]
                      refine take_read (i := 34) 88 (v := ?v34) rfl rfl (by kernel_rfl) (by kernel_rfl) (by kernel_rfl) (fun _ _ _ h => h) (by rfl) ?hy34 (by assumption) ?rest34
                      case hy34 => (intro w hSw; (try dsimp only at hSw); go_simp; (try with_reducible rfl))
                      try simp only [Act.put, List.setIfInBounds_toArray, List.set_cons_zero, List.set_cons_succ]
                      refine take_read (i := 35) 89 (v := ?v35) rfl rfl (by kernel_rfl) (by kernel_rfl) (by kernel_rfl) (fun _ _ _ h => h) (by rfl) ?hy35 (by assumption) ?rest35
                      case hy35 => (intro w hSw; (try dsimp only at hSw); go_simp; (try with_reducible rfl))
                      try simp only [Act.put, List.setIfInBounds_toArray, List.set_cons_zero, List.set_cons_succ]
                      refine take_read (i := 36) 90 (v := ?v36) rfl rfl (by kernel_rfl) (by kernel_rfl) (by kernel_rfl) (fun _ _ _ h => h) (by rfl) ?hy36 (by assumption) ?rest36
                      case hy36 => (intro w hSw; (try dsimp only at hSw); go_simp; (try with_reducible rfl))
                      try simp only [Act.put, List.setIfInBounds_toArray, List.set_cons_zero, List.set_cons_succ]
                      refine take_read (i := 37) 91 (v := ?v37) rfl rfl (by kernel_rfl) (by kernel_rfl) (by kernel_rfl) (fun _ _ _ h => h) (by rfl) ?hy37 (by assumption) ?rest37
                      case hy37 => (intro w hSw; (try dsimp only at hSw); go_simp; (try with_reducible rfl))
                      try simp only [Act.put, List.setIfInBounds_toArray, List.set_cons_zero, List.set_cons_succ]
                      refine take_read (i := 38) 92 (v := ?v38) rfl rfl (by kernel_rfl) (by kernel_rfl) (by kernel_rfl) (fun _ _ _ h => h) (by rfl) ?hy38 (by assumption) ?rest38
                      case hy38 => (intro w hSw; (try dsimp only at hSw); go_simp; (try with_reducible rfl))
                      try simp only [Act.put, List.setIfInBounds_toArray, List.set_cons_zero, List.set_cons_succ]
                      refine take_read (i := 39) 93 (v := ?v39) rfl rfl (by kernel_rfl) (by kernel_rfl) (by kernel_rfl) (fun _ _ _ h => h) (by rfl) ?hy39 (by assumption) ?rest39
                      case hy39 => (intro w hSw; (try dsimp only at hSw); go_simp; (try with_reducible rfl))
                      try simp only [Act.put, List.setIfInBounds_toArray, List.set_cons_zero, List.set_cons_succ]
                      refine take_read (i := 40) 94 (v := ?v40) rfl rfl (by kernel_rfl) (by kernel_rfl) (by kernel_rfl) (fun _ _ _ h => h) (by rfl) ?hy40 (by assumption) ?rest40
                      case hy40 => (intro w hSw; (try dsimp only at hSw); go_simp; (try with_reducible rfl))
                      try simp only [Act.put, List.setIfInBounds_toArray, List.set_cons_zero, List.set_cons_succ]
                      refine wpAnyH_ready (rs := [41]) (by kernel_rfl) (by simp) ?_
                      refine AllReadyH.cons rfl (fun K hK => ?_) AllReadyH.nil
                      go_simp
                      (go_at_call 77; refine (hcon _ (bel_then hbw2 (by repeat (first | with_reducible exact Below.refl _ _ | with_reducible assumption | with_reducible refine bel_alloc ?_ _ | with_reducible refine bel_drew ?_ | with_reducible refine bel_drewN ?_ _ | (with_reducible refine bel_set ?_ ?_ _; rotate_left; ((try simp); (try omega))))))).mono ?_; rintro e w1 ⟨rfl, hb1⟩; have hbw1 : Below wr.heap.size wr w1 := bel_then (by repeat (first | with_reducible exact Below.refl _ _ | with_reducible assumption | with_reducible refine bel_alloc ?_ _ | with_reducible refine bel_drew ?_ | with_reducible refine bel_drewN ?_ _ | (with_reducible refine bel_set ?_ ?_ _; rotate_left; ((try simp); (try omega))))) hb1)
                      try go_wp2_with fail
                      refine hK.out _ _ ?_ (fun hHeld => ?_)
                      · (try dsimp only)
                        exact hS _ (by repeat (first | with_reducible exact Below.refl _ _ | with_reducible assumption | with_reducible refine bel_alloc ?_ _ | with_reducible refine bel_drew ?_ | with_reducible refine bel_drewN ?_ _ | (with_reducible refine bel_set ?_ ?_ _; rotate_left; ((try simp); (try omega)))))
                      clear hK K
                      try simp only [Act.put, List.setIfInBounds_toArray, List.set_cons_zero, List.set_cons_succ]
                      refine take_read (i := 42) 96 (v := ?v42) rfl rfl (by kernel_rfl) (by kernel_rfl) (by kernel_rfl) (fun _ _ _ h => h) (by rfl) ?hy42 (by assumption) ?rest42
                      case hy42 => (intro w hSw; (try dsimp only at hSw); go_simp; (try with_reducible rfl))
                      try simp only [Act.put, List.setIfInBounds_toArray, List.set_cons_zero, List.set_cons_succ]
                      refine take_read (i := 43) 97 (v := ?v43) rfl rfl (by kernel_rfl) (by kernel_rfl) (by kernel_rfl) (fun _ _ _ h => h) (by rfl) ?hy43 (by assumption) ?rest43
                      case hy43 => (intro w hSw; (try dsimp only at hSw); go_simp; (try with_reducible rfl))
                      try simp only [Act.put, List.setIfInBounds_toArray, List.set_cons_zero, List.set_cons_succ]
                      refine wpAnyH_done (by kernel_rfl) ?_ _
                      go_wp2_with fail
                      go_ret
                      exact ⟨ret_bool (eqBy_miss cacheEq _ _ k hkx hky (by rw [HR.out]; exact eqBy_miss cachedEq _ _ j hjx hjy HX.out)).symm, bel_then hbw2 (by repeat (first | with_reducible exact Below.refl _ _ | with_reducible assumption | with_reducible refine bel_alloc ?_ _ | with_reducible refine bel_drew ?_ | with_reducible refine bel_drewN ?_ _ | (with_reducible refine bel_set ?_ ?_ _; rotate_left; ((try simp); (try omega)))))⟩
                    · rw [f3] at hcon
                      have HX := Lib.hid (show cachedEq x.caches[k].entries[j] y.caches[k].entries[j] = true by rw [HD.out, f1, f2, f3]; rfl)
                      go_wp2
                      refine wp_region_held_drew (S := (fun w9 => Below wr.heap.size wr w9 ∧ w9.cell? ⟨wo.heap.size, 1, none⟩ = some (.slice (some ⟨g3, o3, none⟩) m e5) ∧ w9.cell? ⟨wo.heap.size + 1, 1, none⟩ = some (.slice (some ⟨g4, o4, none⟩) m e6) ∧ w9.cell? ⟨g3, o3 + j * 7, none⟩ = some (.string x.caches[k].entries[j].site) ∧ w9.cell? ⟨g3, o3 + j * 7 + 1, none⟩ = some (.string x.caches[k].entries[j].path) ∧ w9.cell? ⟨g3, o3 + j * 7 + 2, none⟩ = some (.int .i64 x.caches[k].entries[j].resp.type) ∧ w9.cell? ⟨g3, o3 + j * 7 + 3, none⟩ = some (.int .i64 x.caches[k].entries[j].resp.status) ∧ w9.cell? ⟨g3, o3 + j * 7 + 4, none⟩ = some (.int .i64 x.caches[k].entries[j].resp.ver) ∧ w9.cell? ⟨g3, o3 + j * 7 + 5, none⟩ = some (.slice A7 x.caches[k].entries[j].resp.body.length c7) ∧ w9.cell? ⟨g3, o3 + j * 7 + 6, none⟩ = some (.bool x.caches[k].entries[j].resp.shares) ∧ w9.cell? ⟨g4, o4 + j * 7, none⟩ = some (.string y.caches[k].entries[j].site) ∧ w9.cell? ⟨g4, o4 + j * 7 + 1, none⟩ = some (.string y.caches[k].entries[j].path) ∧ w9.cell? ⟨g4, o4 + j * 7 + 2, none⟩ = some (.int .i64 y.caches[k].entries[j].resp.type) ∧ w9.cell? ⟨g4, o4 + j * 7 + 3, none⟩ = some (.int .i64 y.caches[k].entries[j].resp.status) ∧ w9.cell? ⟨g4, o4 + j * 7 + 4, none⟩ = some (.int .i64 y.caches[k].entries[j].resp.ver) ∧ w9.cell? ⟨g4, o4 + j * 7 + 5, none⟩ = some (.slice A8 y.caches[k].entries[j].resp.body.length c8) ∧ w9.cell? ⟨g4, o4 + j * 7 + 6, none⟩ = some (.bool y.caches[k].entries[j].resp.shares))) (by kernel_rfl) (by (try dsimp only); exact hS _ (by repeat (first | with_reducible exact Below.refl _ _ | with_reducible assumption | with_reducible refine bel_alloc ?_ _ | with_reducible refine bel_drew ?_ | with_reducible refine bel_drewN ?_ _ | (with_reducible refine bel_set ?_ ?_ _; rotate_left; ((try simp); (try omega)))))) (fun hHeld => ?_)
                      refine take_read (i := 0) 54 (v := ?x2_v0) rfl rfl (by kernel_rfl) (by kernel_rfl) (by kernel_rfl) (fun _ _ _ h => h) (by rfl) ?x2_hy0 (by assumption) ?x2_rest0
                      case x2_hy0 => (intro w hSw; (try dsimp only at hSw); go_simp; (try with_reducible rfl))
                      try simp only [Act.put, List.setIfInBounds_toArray, List.set_cons_zero, List.set_cons_succ]
                      refine take_read (i := 1) 55 (v := ?x2_v1) rfl rfl (by kernel_rfl) (by kernel_rfl) (by kernel_rfl) (fun _ _ _ h => h) (by rfl) ?x2_hy1 (by assumption) ?x2_rest1
                      case x2_hy1 => (intro w hSw; (try dsimp only at hSw); go_simp; (try with_reducible rfl))
                      try simp only [Act.put, List.setIfInBounds_toArray, List.set_cons_zero, List.set_cons_succ]
                      refine take_read (i := 2) 56 (v := ?x2_v2) rfl rfl (by kernel_rfl) (by kernel_rfl) (by kernel_rfl) (fun _ _ _ h => h) (by rfl) ?x2_hy2 (by assumption) ?x2_rest2
                      case x2_hy2 => (intro w hSw; (try dsimp only at hSw); go_simp; (try with_reducible rfl))
                      try simp only [Act.put, List.setIfInBounds_toArray, List.set_cons_zero, List.set_cons_succ]
                      refine take_read (i := 3) 57 (v := ?x2_v3) rfl rfl (by kernel_rfl) (by kernel_rfl) (by kernel_rfl) (fun _ _ _ h => h) (by rfl) ?x2_hy3 (by assumption) ?x2_rest3
                      case x2_hy3 => (intro w hSw; (try dsimp only at hSw); go_simp; (try with_reducible rfl))
                      try simp only [Act.put, List.setIfInBounds_toArray, List.set_cons_zero, List.set_cons_succ]
                      refine take_read (i := 4) 58 (v := ?x2_v4) rfl rfl (by kernel_rfl) (by kernel_rfl) (by kernel_rfl) (fun _ _ _ h => h) (by rfl) ?x2_hy4 (by assumption) ?x2_rest4
                      case x2_hy4 => (intro w hSw; (try dsimp only at hSw); go_simp; (try with_reducible rfl))
                      try simp only [Act.put, List.setIfInBounds_toArray, List.set_cons_zero, List.set_cons_succ]
                      refine take_read (i := 5) 59 (v := ?x2_v5) rfl rfl (by kernel_rfl) (by kernel_rfl) (by kernel_rfl) (fun _ _ _ h => h) (by rfl) ?x2_hy5 (by assumption) ?x2_rest5
                      case x2_hy5 => (intro w hSw; (try dsimp only at hSw); go_simp; (try with_reducible rfl))
                      try simp only [Act.put, List.setIfInBounds_toArray, List.set_cons_zero, List.set_cons_succ]
                      refine take_read (i := 6) 60 (v := ?x2_v6) rfl rfl (by kernel_rfl) (by kernel_rfl) (by kernel_rfl) (fun _ _ _ h => h) (by rfl) ?x2_hy6 (by assumption) ?x2_rest6
                      case x2_hy6 => (intro w hSw; (try dsimp only at hSw); go_simp; (try with_reducible rfl))
                      try simp only [Act.put, List.setIfInBounds_toArray, List.set_cons_zero, List.set_cons_succ]
                      refine take_read (i := 7) 61 (v := ?x2_v7) rfl rfl (by kernel_rfl) (by kernel_rfl) (by kernel_rfl) (fun _ _ _ h => h) (by rfl) ?x2_hy7 (by assumption) ?x2_rest7
                      case x2_hy7 => (intro w hSw; (try dsimp only at hSw); go_simp; (try with_reducible rfl))
                      try simp only [Act.put, List.setIfInBounds_toArray, List.set_cons_zero, List.set_cons_succ]
                      refine take_read (i := 8) 62 (v := ?x2_v8) rfl rfl (by kernel_rfl) (by kernel_rfl) (by kernel_rfl) (fun _ _ _ h => h) (by rfl) ?x2_hy8 (by assumption) ?x2_rest8
                      case x2_hy8 => (intro w hSw; (try dsimp only at hSw); go_simp; (try with_reducible rfl))
                      try simp only [Act.put, List.setIfInBounds_toArray, List.set_cons_zero, List.set_cons_succ]
                      refine take_read (i := 9) 63 (v := ?x2_v9) rfl rfl (by kernel_rfl) (by kernel_rfl) (by kernel_rfl) (fun _ _ _ h => h) (by rfl) ?x2_hy9 (by assumption) ?x2_rest9
                      case x2_hy9 => (intro w hSw; (try dsimp only at hSw); go_simp; (try with_reducible rfl))
                      try simp only [Act.put, List.setIfInBounds_toArray, List.set_cons_zero, List.set_cons_succ]
                      refine take_read (i := 10) 64 (v := ?x2_v10) rfl rfl (by kernel_rfl) (by kernel_rfl) (by kernel_rfl) (fun _ _ _ h => h) (by rfl) ?x2_hy10 (by assumption) ?x2_rest10
                      case x2_hy10 => (intro w hSw; (try dsimp only at hSw); go_simp; (try with_reducible rfl))
                      try simp only [Act.put, List.setIfInBounds_toArray, List.set_cons_zero, List.set_cons_succ]
                      refine take_read (i := 11) 65 (v := ?x2_v11) rfl rfl (by kernel_rfl) (by kernel_rfl) (by kernel_rfl) (fun _ _ _ h => h) (by rfl) ?x2_hy11 (by assumption) ?x2_rest11
                      case x2_hy11 => (intro w hSw; (try dsimp only at hSw); go_simp; (try with_reducible rfl))
                      try simp only [Act.put, List.setIfInBounds_toArray, List.set_cons_zero, List.set_cons_succ]
                      refine take_read (i := 12) 66 (v := ?x2_v12) rfl rfl (by kernel_rfl) (by kernel_rfl) (by kernel_rfl) (fun _ _ _ h => h) (by rfl) ?x2_hy12 (by assumption) ?x2_rest12
                      case x2_hy12 => (intro w hSw; (try dsimp only at hSw); go_simp; (try with_reducible rfl))
                      try simp only [Act.put, List.setIfInBounds_toArray, List.set_cons_zero, List.set_cons_succ]
                      refine take_read (i := 13) 67 (v := ?x2_v13) rfl rfl (by kernel_rfl) (by kernel_rfl) (by kernel_rfl) (fun _ _ _ h => h) (by rfl) ?x2_hy13 (by assumption) ?x2_rest13
                      case x2_hy13 => (intro w hSw; (try dsimp only at hSw); go_simp; (try with_reducible rfl))
                      try simp only [Act.put, List.setIfInBounds_toArray, List.set_cons_zero, List.set_cons_succ]
                      refine take_read (i := 14) 68 (v := ?x2_v14) rfl rfl (by kernel_rfl) (by kernel_rfl) (by kernel_rfl) (fun _ _ _ h => h) (by rfl) ?x2_hy14 (by assumption) ?x2_rest14
                      case x2_hy14 => (intro w hSw; (try dsimp only at hSw); go_simp; (try with_reducible rfl))
                      try simp only [Act.put, List.setIfInBounds_toArray, List.set_cons_zero, List.set_cons_succ]
                      refine take_read (i := 15) 69 (v := ?x2_v15) rfl rfl (by kernel_rfl) (by kernel_rfl) (by kernel_rfl) (fun _ _ _ h => h) (by rfl) ?x2_hy15 (by assumption) ?x2_rest15
                      case x2_hy15 => (intro w hSw; (try dsimp only at hSw); go_simp; (try with_reducible rfl))
                      try simp only [Act.put, List.setIfInBounds_toArray, List.set_cons_zero, List.set_cons_succ]
                      refine take_read (i := 16) 70 (v := ?x2_v16) rfl rfl (by kernel_rfl) (by kernel_rfl) (by kernel_rfl) (fun _ _ _ h => h) (by rfl) ?x2_hy16 (by assumption) ?x2_rest16
                      case x2_hy16 => (intro w hSw; (try dsimp only at hSw); go_simp; (try with_reducible rfl))
                      try simp only [Act.put, List.setIfInBounds_toArray, List.set_cons_zero, List.set_cons_succ]
                      refine take_read (i := 17) 71 (v := ?x2_v17) rfl rfl (by kernel_rfl) (by kernel_rfl) (by kernel_rfl) (fun _ _ _ h => h) (by rfl) ?x2_hy17 (by assumption) ?x2_rest17
                      case x2_hy17 => (intro w hSw; (try dsimp only at hSw); go_simp; (try with_reducible rfl))
                      try simp only [Act.put, List.setIfInBounds_toArray, List.set_cons_zero, List.set_cons_succ]
                      refine take_read (i := 18) 72 (v := ?x2_v18) rfl rfl (by kernel_rfl) (by kernel_rfl) (by kernel_rfl) (fun _ _ _ h => h) (by rfl) ?x2_hy18 (by assumption) ?x2_rest18
                      case x2_hy18 => (intro w hSw; (try dsimp only at hSw); go_simp; (try with_reducible rfl))
                      try simp only [Act.put, List.setIfInBounds_toArray, List.set_cons_zero, List.set_cons_succ]
                      refine take_read (i := 19) 73 (v := ?x2_v19) rfl rfl (by kernel_rfl) (by kernel_rfl) (by kernel_rfl) (fun _ _ _ h => h) (by rfl) ?x2_hy19 (by assumption) ?x2_rest19
                      case x2_hy19 => (intro w hSw; (try dsimp only at hSw); go_simp; (try with_reducible rfl))
                      try simp only [Act.put, List.setIfInBounds_toArray, List.set_cons_zero, List.set_cons_succ]
                      refine take_read (i := 20) 74 (v := ?x2_v20) rfl rfl (by kernel_rfl) (by kernel_rfl) (by kernel_rfl) (fun _ _ _ h => h) (by rfl) ?x2_hy20 (by assumption) ?x2_rest20
                      case x2_hy20 => (intro w hSw; (try dsimp only at hSw); go_simp; (try with_reducible rfl))
                      try simp only [Act.put, List.setIfInBounds_toArray, List.set_cons_zero, List.set_cons_succ]
                      refine take_read (i := 21) 75 (v := ?x2_v21) rfl rfl (by kernel_rfl) (by kernel_rfl) (by kernel_rfl) (fun _ _ _ h => h) (by rfl) ?x2_hy21 (by assumption) ?x2_rest21
                      case x2_hy21 => (intro w hSw; (try dsimp only at hSw); go_simp; (try with_reducible rfl))
                      try simp only [Act.put, List.setIfInBounds_toArray, List.set_cons_zero, List.set_cons_succ]
                      refine take_read (i := 22) 76 (v := ?x2_v22) rfl rfl (by kernel_rfl) (by kernel_rfl) (by kernel_rfl) (fun _ _ _ h => h) (by rfl) ?x2_hy22 (by assumption) ?x2_rest22
                      case x2_hy22 => (intro w hSw; (try dsimp only at hSw); go_simp; (try with_reducible rfl))
                      try simp only [Act.put, List.setIfInBounds_toArray, List.set_cons_zero, List.set_cons_succ]
                      refine take_read (i := 23) 77 (v := ?x2_v23) rfl rfl (by kernel_rfl) (by kernel_rfl) (by kernel_rfl) (fun _ _ _ h => h) (by rfl) ?x2_hy23 (by assumption) ?x2_rest23
                      case x2_hy23 => (intro w hSw; (try dsimp only at hSw); go_simp; (try with_reducible rfl))
                      try simp only [Act.put, List.setIfInBounds_toArray, List.set_cons_zero, List.set_cons_succ]
                      refine take_read (i := 24) 78 (v := ?x2_v24) rfl rfl (by kernel_rfl) (by kernel_rfl) (by kernel_rfl) (fun _ _ _ h => h) (by rfl) ?x2_hy24 (by assumption) ?x2_rest24
                      case x2_hy24 => (intro w hSw; (try dsimp only at hSw); go_simp; (try with_reducible rfl))
                      try simp only [Act.put, List.setIfInBounds_toArray, List.set_cons_zero, List.set_cons_succ]
                      refine take_read (i := 25) 79 (v := ?x2_v25) rfl rfl (by kernel_rfl) (by kernel_rfl) (by kernel_rfl) (fun _ _ _ h => h) (by rfl) ?x2_hy25 (by assumption) ?x2_rest25
                      case x2_hy25 => (intro w hSw; (try dsimp only at hSw); go_simp; (try with_reducible rfl))
                      try simp only [Act.put, List.setIfInBounds_toArray, List.set_cons_zero, List.set_cons_succ]
                      refine take_read (i := 26) 80 (v := ?x2_v26) rfl rfl (by kernel_rfl) (by kernel_rfl) (by kernel_rfl) (fun _ _ _ h => h) (by rfl) ?x2_hy26 (by assumption) ?x2_rest26
                      case x2_hy26 => (intro w hSw; (try dsimp only at hSw); go_simp; (try with_reducible rfl))
                      try simp only [Act.put, List.setIfInBounds_toArray, List.set_cons_zero, List.set_cons_succ]
                      refine take_read (i := 27) 81 (v := ?x2_v27) rfl rfl (by kernel_rfl) (by kernel_rfl) (by kernel_rfl) (fun _ _ _ h => h) (by rfl) ?x2_hy27 (by assumption) ?x2_rest27
                      case x2_hy27 => (intro w hSw; (try dsimp only at hSw); go_simp; (try with_reducible rfl))
                      try simp only [Act.put, List.setIfInBounds_toArray, List.set_cons_zero, List.set_cons_succ]
                      refine take_read (i := 28) 82 (v := ?x2_v28) rfl rfl (by kernel_rfl) (by kernel_rfl) (by kernel_rfl) (fun _ _ _ h => h) (by rfl) ?x2_hy28 (by assumption) ?x2_rest28
                      case x2_hy28 => (intro w hSw; (try dsimp only at hSw); go_simp; (try with_reducible rfl))
                      try simp only [Act.put, List.setIfInBounds_toArray, List.set_cons_zero, List.set_cons_succ]
                      refine take_read (i := 29) 83 (v := ?x2_v29) rfl rfl (by kernel_rfl) (by kernel_rfl) (by kernel_rfl) (fun _ _ _ h => h) (by rfl) ?x2_hy29 (by assumption) ?x2_rest29
                      case x2_hy29 => (intro w hSw; (try dsimp only at hSw); go_simp; (try with_reducible rfl))
                      try simp only [Act.put, List.setIfInBounds_toArray, List.set_cons_zero, List.set_cons_succ]
                      refine take_read (i := 30) 84 (v := ?x2_v30) rfl rfl (by kernel_rfl) (by kernel_rfl) (by kernel_rfl) (fun _ _ _ h => h) (by rfl) ?x2_hy30 (by assumption) ?x2_rest30
                      case x2_hy30 => (intro w hSw; (try dsimp only at hSw); go_simp; (try with_reducible rfl))
                      try simp only [Act.put, List.setIfInBounds_toArray, List.set_cons_zero, List.set_cons_succ]
                      refine take_read (i := 31) 85 (v := ?x2_v31) rfl rfl (by kernel_rfl) (by kernel_rfl) (by kernel_rfl) (fun _ _ _ h => h) (by rfl) ?x2_hy31 (by assumption) ?x2_rest31
                      case x2_hy31 => (intro w hSw; (try dsimp only at hSw); go_simp; (try with_reducible rfl))
                      try simp only [Act.put, List.setIfInBounds_toArray, List.set_cons_zero, List.set_cons_succ]
                      refine take_read (i := 32) 86 (v := ?x2_v32) rfl rfl (by kernel_rfl) (by kernel_rfl) (by kernel_rfl) (fun _ _ _ h => h) (by rfl) ?x2_hy32 (by assumption) ?x2_rest32
                      case x2_hy32 => (intro w hSw; (try dsimp only at hSw); go_simp; (try with_reducible rfl))
                      try simp only [Act.put, List.setIfInBounds_toArray, List.set_cons_zero, List.set_cons_succ]
                      refine take_read (i := 33) 87 (v := ?x2_v33) rfl rfl (by kernel_rfl) (by kernel_rfl) (by kernel_rfl) (fun _ _ _ h => h) (by rfl) ?x2_hy33 (by assumption) ?x2_rest33
                      case x2_hy33 => (intro w hSw; (try dsimp only at hSw); go_simp; (try with_reducible rfl))
                      try simp only [Act.put, List.setIfInBounds_toArray, List.set_cons_zero, List.set_cons_succ]
                      refine take_read (i := 34) 88 (v := ?x2_v34) rfl rfl (by kernel_rfl) (by kernel_rfl) (by kernel_rfl) (fun _ _ _ h => h) (by rfl) ?x2_hy34 (by assumption) ?x2_rest34
                      case x2_hy34 => (intro w hSw; (try dsimp only at hSw); go_simp; (try with_reducible rfl))
                      try simp only [Act.put, List.setIfInBounds_toArray, List.set_cons_zero, List.set_cons_succ]
                      refine take_read (i := 35) 89 (v := ?x2_v35) rfl rfl (by kernel_rfl) (by kernel_rfl) (by kernel_rfl) (fun _ _ _ h => h) (by rfl) ?x2_hy35 (by assumption) ?x2_rest35
                      case x2_hy35 => (intro w hSw; (try dsimp only at hSw); go_simp; (try with_reducible rfl))
                      try simp only [Act.put, List.setIfInBounds_toArray, List.set_cons_zero, List.set_cons_succ]
                      refine take_read (i := 36) 90 (v := ?x2_v36) rfl rfl (by kernel_rfl) (by kernel_rfl) (by kernel_rfl) (fun _ _ _ h => h) (by rfl) ?x2_hy36 (by assumption) ?x2_rest36
                      case x2_hy36 => (intro w hSw; (try dsimp only at hSw); go_simp; (try with_reducible rfl))
                      try simp only [Act.put, List.setIfInBounds_toArray, List.set_cons_zero, List.set_cons_succ]
                      refine take_read (i := 37) 91 (v := ?x2_v37) rfl rfl (by kernel_rfl) (by kernel_rfl) (by kernel_rfl) (fun _ _ _ h => h) (by rfl) ?x2_hy37 (by assumption) ?x2_rest37
                      case x2_hy37 => (intro w hSw; (try dsimp only at hSw); go_simp; (try with_reducible rfl))
                      try simp only [Act.put, List.setIfInBounds_toArray, List.set_cons_zero, List.set_cons_succ]
                      refine take_read (i := 38) 92 (v := ?x2_v38) rfl rfl (by kernel_rfl) (by kernel_rfl) (by kernel_rfl) (fun _ _ _ h => h) (by rfl) ?x2_hy38 (by assumption) ?x2_rest38
                      case x2_hy38 => (intro w hSw; (try dsimp only at hSw); go_simp; (try with_reducible rfl))
                      try simp only [Act.put, List.setIfInBounds_toArray, List.set_cons_zero, List.set_cons_succ]
                      refine take_read (i := 39) 93 (v := ?x2_v39) rfl rfl (by kernel_rfl) (by kernel_rfl) (by kernel_rfl) (fun _ _ _ h => h) (by rfl) ?x2_hy39 (by assumption) ?x2_rest39
                      case x2_hy39 => (intro w hSw; (try dsimp only at hSw); go_simp; (try with_reducible rfl))
                      try simp only [Act.put, List.setIfInBounds_toArray, List.set_cons_zero, List.set_cons_succ]
                      refine take_read (i := 40) 94 (v := ?x2_v40) rfl rfl (by kernel_rfl) (by kernel_rfl) (by kernel_rfl) (fun _ _ _ h => h) (by rfl) ?x2_hy40 (by assumption) ?x2_rest40
                      case x2_hy40 => (intro w hSw; (try dsimp only at hSw); go_simp; (try with_reducible rfl))
                      try simp only [Act.put, List.setIfInBounds_toArray, List.set_cons_zero, List.set_cons_succ]
                      refine wpAnyH_ready (rs := [41]) (by kernel_rfl) (by simp) ?_
                      refine AllReadyH.cons rfl (fun K hK => ?_) AllReadyH.nil
                      go_simp
                      (go_at_call 77; refine (hcon _ (bel_then hbw2 (by repeat (first | with_reducible exact Below.refl _ _ | with_reducible assumption | with_reducible refine bel_alloc ?_ _ | with_reducible refine bel_drew ?_ | with_reducible refine bel_drewN ?_ _ | (with_reducible refine bel_set ?_ ?_ _; rotate_left; ((try simp); (try omega))))))).mono ?_; rintro e w1 ⟨rfl, hb1⟩; have hbw1 : Below wr.heap.size wr w1 := bel_then (by repeat (first | with_reducible exact Below.refl _ _ | with_reducible assumption | with_reducible refine bel_alloc ?_ _ | with_reducible refine bel_drew ?_ | with_reducible refine bel_drewN ?_ _ | (with_reducible refine bel_set ?_ ?_ _; rotate_left; ((try simp); (try omega))))) hb1)
                      try go_wp2_with fail
                      refine hK.out _ _ ?_ (fun hHeld => ?_)
                      · (try dsimp only)
                        exact hS _ (by repeat (first | with_reducible exact Below.refl _ _ | with_reducible assumption | with_reducible refine bel_alloc ?_ _ | with_reducible refine bel_drew ?_ | with_reducible refine bel_drewN ?_ _ | (with_reducible refine bel_set ?_ ?_ _; rotate_left; ((try simp); (try omega)))))
                      clear hK K
                      try simp only [Act.put, List.setIfInBounds_toArray, List.set_cons_zero, List.set_cons_succ]
                      refine take_read (i := 42) 96 (v := ?x2_v42) rfl rfl (by kernel_rfl) (by kernel_rfl) (by kernel_rfl) (fun _ _ _ h => h) (by rfl) ?x2_hy42 (by assumption) ?x2_rest42
                      case x2_hy42 => (intro w hSw; (try dsimp only at hSw); go_simp; (try with_reducible rfl))
                      try simp only [Act.put, List.setIfInBounds_toArray, List.set_cons_zero, List.set_cons_succ]
                      refine take_read (i := 43) 97 (v := ?x2_v43) rfl rfl (by kernel_rfl) (by kernel_rfl) (by kernel_rfl) (fun _ _ _ h => h) (by rfl) ?x2_hy43 (by assumption) ?x2_rest43
                      case x2_hy43 => (intro w hSw; (try dsimp only at hSw); go_simp; (try with_reducible rfl))
                      try simp only [Act.put, List.setIfInBounds_toArray, List.set_cons_zero, List.set_cons_succ]
                      refine wpAnyH_done (by kernel_rfl) ?_ _
                      go_wp2_with fail
                      go_roundw
                      case rel => exact ⟨j + 1, by omega, by go_num, sameTo_succ _ _ _ _ hjx hjy HS2.out HX.out, hB2.trans (hbw1.mono hB2.size)⟩
                      case measure => simp [intOf]; omega
              · obtain rfl : j = m := by omega
                have HX := Lib.hid (show cacheEq x.caches[k] y.caches[k] = true by rw [HR.out]; exact eqBy_hit cachedEq _ _ (by rw [HM1.out, HM2.out]) (by rw [HM1.out]; exact HS2.out))
                go_wp2
                go_roundw
                case rel => exact ⟨k + 1, by omega, by go_num, sameTo_succ _ _ _ _ hkx hky HS.out HX.out, hBW⟩
                case measure => simp [intOf]; omega
      · obtain rfl : k = n := by omega
        go_wp2
        go_ret
        exact ⟨ret_bool (eqBy_hit cacheEq _ _ (by rw [HN.out, HM.out]) (by rw [HN.out]; exact HS.out)).symm, (by repeat (first | with_reducible exact Below.refl _ _ | with_reducible assumption | with_reducible refine bel_alloc ?_ _ | with_reducible refine bel_drew ?_ | with_reducible refine bel_drewN ?_ _ | (with_reducible refine bel_set ?_ ?_ _; rotate_left; ((try simp); (try omega)))))⟩
  · have hne : ((n : Int) != (n' : Int)) = true := by simp; omega
    go_enter Try.func39, Try.ntmps39
    go_wp2
    go_ret
    exact ⟨ret_bool (eqBy_len cacheEq _ _ (by rw [HN.out, HM.out]; exact hnm)).symm, (by repeat (first | with_reducible exact Below.refl _ _ | with_reducible assumption | with_reducible refine bel_alloc ?_ _ | with_reducible refine bel_drew ?_ | with_reducible refine bel_drewN ?_ _ | (with_reducible refine bel_set ?_ ?_ _; rotate_left; ((try simp); (try omega)))))⟩
end Go.Proofs.Ytamcoplnpoddbaa
