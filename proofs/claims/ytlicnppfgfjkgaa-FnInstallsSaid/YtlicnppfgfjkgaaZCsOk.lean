/-
  IsCacheSet of the program. No conditions.
-/
import Derived.Test.YtlicnppfgfjkgaaZCsPlain
import Derived.Test.YtlicnppfgfjkgaaZCsOkS
import Derived.Test.YtlicnppfgfjkgaaZA
namespace Go.Proofs.Ytlicnppfgfjkgaa
open Go.ChangeShapes Go.WideShapes Go.RowKit
set_option linter.unusedVariables false

set_option maxRecDepth 100000 in
set_option maxHeartbeats 8000000 in
theorem implIsCacheSetN_any (vs : Array Value) (x : TCSet) (F : List Nat) (w : World) (h : cCSet.rep w vs.toList x F) :
    Calls Try.prog 42 #[.agg vs] w (Gives w (.bool (isCacheSet x))) := by
  obtain ⟨v0, F0, rfl, -, -, m0⟩ := TCSet.outA h
  obtain ⟨A, cp, rfl⟩ := cL_form m0
  obtain ⟨-, hcp, hm⟩ := cL_len m0
  clear h
  have HE := Lib.hid (show isCacheSet x = (allTo (cacheOk x.caches) x.caches.length && decide ((x.caches.length : Int) ≤ 4)) from rfl)
  obtain ⟨n, hxn⟩ : ∃ n, x.caches.length = n := ⟨_, rfl⟩
  have HN := Lib.hid hxn
  rw [hxn] at hcp ⊢
  clear hxn
  unfold maxLen at hm
  go_enter Try.func42, Try.ntmps42
  go_wp2
  generalize hW : World.alloc _ _ = W
  have hWs : W.heap.size = w.heap.size + 1 := by rw [← hW]; clear hW; simp
  have hbW : Below w.heap.size w W := by rw [← hW]; exact (by repeat (first | with_reducible exact Below.refl _ _ | with_reducible assumption | with_reducible refine bel_alloc ?_ _ | with_reducible refine bel_drew ?_ | with_reducible refine bel_drewN ?_ _ | (with_reducible refine bel_set ?_ ?_ _; rotate_left; ((try simp); (try omega)))))
  have HK := Lib.hid (show W.cell? ⟨w.heap.size, 0, none⟩ = some (.slice A n cp) from by (rw [← hW]; clear hW; go_simp))
  clear hW
  go_loopw [10] (fun i wr => ∃ k : Nat, k ≤ n ∧ i = .int .i64 k ∧ allTo (cacheOk x.caches) k = true ∧ Below W.heap.size W wr) (fun i _ => n - (intOf i).toNat)
  case atStart => exact ⟨0, Nat.zero_le _, rfl, allTo_zero _, Below.refl _ _⟩
  case round =>
    obtain ⟨k, hk, rfl, hno, hB⟩ := hrel
    have HO := Lib.hid hno
    clear hno
    have hws_wr : w.heap.size < wr.heap.size := by have := hB.size; omega
    have hbw : Below w.heap.size w wr := bel_then hbW hB
    have k0_wr : wr.cell? ⟨w.heap.size, 0, none⟩ = some (.slice A n cp) := (hB.cell (p := ⟨w.heap.size, 0, none⟩) (by (try simp); (try omega))).trans HK.out
    by_cases hlt : k < n
    · have hkx : k < x.caches.length := by rw [HN.out]; exact hlt
      obtain ⟨g, o, vs, F1, rfl, hgF, hx, -, hc⟩ := cL_get (hw := by decide) (hw2 := by decide) m0 hkx
      obtain ⟨v1, F2, rfl, -, -, m1⟩ := TCache.out hx
      obtain ⟨E5, e5, e5'⟩ := cL_form m1
      subst e5'
      have hgw : g < w.heap.size := Cod.lt _ m0 g hgF
      have q0 := (hbw.cell (p := ⟨g, o + k * 2, none⟩) hgw).trans ((hc 0 _ rfl).1)
      have q1 := (hbw.cell (p := ⟨g, o + k * 2 + 1, none⟩) hgw).trans ((hc 1 _ rfl).1)
      clear hc hx
      have hgr : g < wr.heap.size := by omega
      have hgn : ¬ g = wr.heap.size := by omega
      have hki : ((k : Int) < (n : Int)) := by omega
      have hin := fun W : World => inRange_any x.caches[k].ver 1 1000000000000 W
      cases e1 : inR x.caches[k].ver 1 1000000000000
      · have HB := Lib.hid (show isCacheSet x = false by rw [HE.out, allTo_bad hkx (cacheOk_range hkx e1)]; simp)
        rw [e1] at hin
        go_wp2
        go_quiet (first | (go_at_call 66; first | exact quiet_left (hin _) | exact quiet_add_left (hin _)))
        go_wp2
        go_ret
        exact ⟨ret_bool HB.out.symm, (by repeat (first | with_reducible exact Below.refl _ _ | with_reducible assumption | with_reducible refine bel_alloc ?_ _ | with_reducible refine bel_drew ?_ | with_reducible refine bel_drewN ?_ _ | (with_reducible refine bel_set ?_ ?_ _; rotate_left; ((try simp); (try omega)))))⟩
      · rw [e1] at hin
        cases k with
        | zero =>
          have HZ := Lib.hid (cacheOk_zero hkx)
          replace q0 : wr.cell? ⟨g, o, none⟩ = some (.int .i64 x.caches[0].ver) := by simpa using q0
          replace q1 : wr.cell? ⟨g, o + 1, none⟩ = some (.slice E5 x.caches[0].entries.length e5) := by simpa using q1
          replace hki : (0 : Int) < n := by omega
          obtain ⟨-, hcp5, hm5⟩ := cL_len m1
          obtain ⟨m, hxm⟩ : ∃ m, x.caches[0].entries.length = m := ⟨_, rfl⟩
          have HM := Lib.hid hxm
          rw [hxm] at hcp5 q1
          have m1m := m1
          rw [hxm] at m1m
          unfold maxLen at hm5
          cases e4 : decide ((12 : Int) < (m : Int))
          case true =>
            have HB := Lib.hid (show isCacheSet x = false by
              have h1 : entriesOk x.caches[0].entries = false := (by unfold entriesOk; rw [hxm, show decide ((m : Int) ≤ 12) = false from decide_eq_false (by have := of_decide_eq_true e4; omega)]; rfl)
              rw [HE.out, allTo_bad hkx (cacheOk_entries hkx h1)]; simp)
            clear hxm
            go_wp2
            go_quiet (first | (go_at_call 66; first | exact quiet_left (hin _) | exact quiet_add_left (hin _)))
            go_wp2
            go_ret
            exact ⟨ret_bool HB.out.symm, (by repeat (first | with_reducible exact Below.refl _ _ | with_reducible assumption | with_reducible refine bel_alloc ?_ _ | with_reducible refine bel_drew ?_ | with_reducible refine bel_drewN ?_ _ | (with_reducible refine bel_set ?_ ?_ _; rotate_left; ((try simp); (try omega)))))⟩
          case false =>
            have HEN := Lib.hid (show entriesOk x.caches[0].entries = allTo (entryOk x.caches[0].entries) m by
              unfold entriesOk; rw [hxm, show decide ((m : Int) ≤ 12) = true from decide_eq_true (by have := of_decide_eq_false e4; omega)]; rfl)
            clear hxm
            obtain ⟨wo, rfl⟩ : ∃ wo : World, wo = wr := ⟨_, rfl⟩
            go_wp2
            go_quiet (first | (go_at_call 66; first | exact quiet_left (hin _) | exact quiet_add_left (hin _)))
            go_wp2
            generalize hV : World.drewN _ _ = V
            have hbV : Below wo.heap.size wo V := by rw [← hV]; exact (by repeat (first | with_reducible exact Below.refl _ _ | with_reducible assumption | with_reducible refine bel_alloc ?_ _ | with_reducible refine bel_drew ?_ | with_reducible refine bel_drewN ?_ _ | (with_reducible refine bel_set ?_ ?_ _; rotate_left; ((try simp); (try omega)))))
            have hVs : wo.heap.size < V.heap.size := by rw [← hV]; clear hV; simp
            have a0 : V.cell? ⟨wo.heap.size, 0, none⟩ = some (.int .i64 x.caches[0].ver) := by rw [← hV]; clear hV; go_simp
            have a1 : V.cell? ⟨wo.heap.size, 1, none⟩ = some (.slice E5 m e5) := by rw [← hV]; clear hV; go_simp
            clear hV
            go_loopw [44] (fun i wr => ∃ j2 : Nat, j2 ≤ m ∧ i = .int .i64 j2 ∧ allTo (entryOk x.caches[0].entries) j2 = true ∧ Below V.heap.size V wr) (fun i _ => m - (intOf i).toNat)
            case atStart => exact ⟨0, Nat.zero_le _, rfl, allTo_zero _, Below.refl _ _⟩
            case round =>
              obtain ⟨i, hi, rfl, hno2, hB2⟩ := hrel
              have HO2 := Lib.hid hno2
              clear hno2
              have hz9 := hB2.size
              have hbow : Below wo.heap.size wo wr := bel_then hbV hB2
              have hbw2 : Below w.heap.size w wr := bel_then hbw hbow
              have y0 := (hB2.cell (p := ⟨wo.heap.size, 0, none⟩) hVs).trans a0
              have y1 := (hB2.cell (p := ⟨wo.heap.size, 1, none⟩) hVs).trans a1
              have hvr : wo.heap.size < wr.heap.size := by omega
              have hvn : ¬ wo.heap.size = wr.heap.size := by omega
              have hBW : Below W.heap.size W wr := hB.trans (hbow.mono hB.size)
              by_cases hlti : i < m
              · have hix : i < x.caches[0].entries.length := by rw [HM.out]; exact hlti
                obtain ⟨g2, o2, vs2, F3, rfl, hgF2, hx2, -, hc2⟩ := cL_get (hw := by decide) (hw2 := by decide) m1 hix
                obtain ⟨v5, F4, rfl, -, hok5, m5⟩ := TCached.out hx2
                obtain ⟨A5, c5, e5''⟩ := cL_form m5
                subst e5''
                have hgw2 : g2 < w.heap.size := Cod.lt _ m1 g2 hgF2
                have t0 := (hbw2.cell (p := ⟨g2, o2 + i * 7, none⟩) hgw2).trans ((hc2 0 _ rfl).1)
                have t1 := (hbw2.cell (p := ⟨g2, o2 + i * 7 + 1, none⟩) hgw2).trans ((hc2 1 _ rfl).1)
                have t2 := (hbw2.cell (p := ⟨g2, o2 + i * 7 + 2, none⟩) hgw2).trans ((hc2 2 _ rfl).1)
                have t3 := (hbw2.cell (p := ⟨g2, o2 + i * 7 + 3, none⟩) hgw2).trans ((hc2 3 _ rfl).1)
                have t4 := (hbw2.cell (p := ⟨g2, o2 + i * 7 + 4, none⟩) hgw2).trans ((hc2 4 _ rfl).1)
                have t5 := (hbw2.cell (p := ⟨g2, o2 + i * 7 + 5, none⟩) hgw2).trans ((hc2 5 _ rfl).1)
                have t6 := (hbw2.cell (p := ⟨g2, o2 + i * 7 + 6, none⟩) hgw2).trans ((hc2 6 _ rfl).1)
                clear hc2 hx2
                have hs1 := hok5.h0
                have hs2 := hok5.h1
                have hgr2 : g2 < wr.heap.size := by omega
                have hgn2 : ¬ g2 = wr.heap.size := by omega
                have hii : ((i : Int) < (m : Int)) := by omega
                have hokr : x.caches[0].entries[i].resp.Ok := ⟨hok5.h2, hok5.h3, hok5.h4⟩
                have HK := Lib.hid (entryOk_at hix)
                have HIX := Lib.hid (show (entryIx x.caches[0].entries x.caches[0].entries[i].site x.caches[0].entries[i].path != (i : Int)) = !noneTo (fun y => sameEntry y x.caches[0].entries[i].site x.caches[0].entries[i].path) x.caches[0].entries i from idxP_is _ _ i hix (sameEntry_refl _))
                cases f1 : (isName x.caches[0].entries[i].site)
                · have HB := Lib.hid (show isCacheSet x = false by
                    have h1 : entryOk x.caches[0].entries i = false := (by
                      rw [HK.out]
                      first
                        | (simp [*]; done)
                        | (rw [HIX.out] at f3; simp at f3; simp [f3]; done))
                    rw [HE.out, allTo_bad hkx (cacheOk_entries hkx (by rw [HEN.out, allTo_bad hlti h1]))]; simp)
                  go_wp2_with (first | (go_at_call 74; refine (implName_any _ _ (by assumption)).mono ?_; rintro e w1 ⟨rfl, rfl⟩) | (go_at_call 93; refine (implEntry_any _ _ _ _ x.caches[0].entries _ _ _ _ (by exact Cod.bel m1m (by repeat (first | with_reducible exact Below.refl _ _ | with_reducible assumption | with_reducible refine bel_alloc ?_ _ | with_reducible refine bel_drew ?_ | with_reducible refine bel_drewN ?_ _ | (with_reducible refine bel_set ?_ ?_ _; rotate_left; ((try simp); (try omega))))))).mono ?_; rintro e w1 ⟨rfl, hb1⟩; obtain ⟨hc1, hf1, hz1⟩ := bcell hb1; (try simp at hz1); have hB1 : Below w.heap.size w w1 := bel_then (by repeat (first | with_reducible exact Below.refl _ _ | with_reducible assumption | with_reducible refine bel_alloc ?_ _ | with_reducible refine bel_drew ?_ | with_reducible refine bel_drewN ?_ _ | (with_reducible refine bel_set ?_ ?_ _; rotate_left; ((try simp); (try omega))))) hb1; clear hb1) | (go_at_call 103; refine (implIsResponseN_any _ x.caches[0].entries[i].resp _ _ (by exact TResp.mk_ hokr (Cod.bel m5 (by repeat (first | with_reducible exact Below.refl _ _ | with_reducible assumption | with_reducible refine bel_alloc ?_ _ | with_reducible refine bel_drew ?_ | with_reducible refine bel_drewN ?_ _ | (with_reducible refine bel_set ?_ ?_ _; rotate_left; ((try simp); (try omega)))))))).mono ?_; rintro e w2 ⟨rfl, hb2⟩; have hB2' : Below w.heap.size w w2 := bel_then (by repeat (first | with_reducible exact Below.refl _ _ | with_reducible assumption | with_reducible refine bel_alloc ?_ _ | with_reducible refine bel_drew ?_ | with_reducible refine bel_drewN ?_ _ | (with_reducible refine bel_set ?_ ?_ _; rotate_left; ((try simp); (try omega))))) hb2; clear hb2))
                  go_ret
                  exact ⟨ret_bool HB.out.symm, (by repeat (first | with_reducible exact Below.refl _ _ | with_reducible assumption | with_reducible refine bel_alloc ?_ _ | with_reducible refine bel_drew ?_ | with_reducible refine bel_drewN ?_ _ | (with_reducible refine bel_set ?_ ?_ _; rotate_left; ((try simp); (try omega)))))⟩
                ·
                  cases f2 : (isName x.caches[0].entries[i].path)
                  · have HB := Lib.hid (show isCacheSet x = false by
                      have h1 : entryOk x.caches[0].entries i = false := (by
                        rw [HK.out]
                        first
                          | (simp [*]; done)
                          | (rw [HIX.out] at f3; simp at f3; simp [f3]; done))
                      rw [HE.out, allTo_bad hkx (cacheOk_entries hkx (by rw [HEN.out, allTo_bad hlti h1]))]; simp)
                    go_wp2_with (first | (go_at_call 74; refine (implName_any _ _ (by assumption)).mono ?_; rintro e w1 ⟨rfl, rfl⟩) | (go_at_call 93; refine (implEntry_any _ _ _ _ x.caches[0].entries _ _ _ _ (by exact Cod.bel m1m (by repeat (first | with_reducible exact Below.refl _ _ | with_reducible assumption | with_reducible refine bel_alloc ?_ _ | with_reducible refine bel_drew ?_ | with_reducible refine bel_drewN ?_ _ | (with_reducible refine bel_set ?_ ?_ _; rotate_left; ((try simp); (try omega))))))).mono ?_; rintro e w1 ⟨rfl, hb1⟩; obtain ⟨hc1, hf1, hz1⟩ := bcell hb1; (try simp at hz1); have hB1 : Below w.heap.size w w1 := bel_then (by repeat (first | with_reducible exact Below.refl _ _ | with_reducible assumption | with_reducible refine bel_alloc ?_ _ | with_reducible refine bel_drew ?_ | with_reducible refine bel_drewN ?_ _ | (with_reducible refine bel_set ?_ ?_ _; rotate_left; ((try simp); (try omega))))) hb1; clear hb1) | (go_at_call 103; refine (implIsResponseN_any _ x.caches[0].entries[i].resp _ _ (by exact TResp.mk_ hokr (Cod.bel m5 (by repeat (first | with_reducible exact Below.refl _ _ | with_reducible assumption | with_reducible refine bel_alloc ?_ _ | with_reducible refine bel_drew ?_ | with_reducible refine bel_drewN ?_ _ | (with_reducible refine bel_set ?_ ?_ _; rotate_left; ((try simp); (try omega)))))))).mono ?_; rintro e w2 ⟨rfl, hb2⟩; have hB2' : Below w.heap.size w w2 := bel_then (by repeat (first | with_reducible exact Below.refl _ _ | with_reducible assumption | with_reducible refine bel_alloc ?_ _ | with_reducible refine bel_drew ?_ | with_reducible refine bel_drewN ?_ _ | (with_reducible refine bel_set ?_ ?_ _; rotate_left; ((try simp); (try omega))))) hb2; clear hb2))
                    go_ret
                    exact ⟨ret_bool HB.out.symm, (by repeat (first | with_reducible exact Below.refl _ _ | with_reducible assumption | with_reducible refine bel_alloc ?_ _ | with_reducible refine bel_drew ?_ | with_reducible refine bel_drewN ?_ _ | (with_reducible refine bel_set ?_ ?_ _; rotate_left; ((try simp); (try omega)))))⟩
                  ·
                    cases f3 : (entryIx x.caches[0].entries x.caches[0].entries[i].site x.caches[0].entries[i].path != (i : Int))
                    case true =>
                      have HB := Lib.hid (show isCacheSet x = false by
                        have h1 : entryOk x.caches[0].entries i = false := (by
                          rw [HK.out]
                          first
                            | (simp [*]; done)
                            | (rw [HIX.out] at f3; simp at f3; simp [f3]; done))
                        rw [HE.out, allTo_bad hkx (cacheOk_entries hkx (by rw [HEN.out, allTo_bad hlti h1]))]; simp)
                      go_wp2_with (first | (go_at_call 74; refine (implName_any _ _ (by assumption)).mono ?_; rintro e w1 ⟨rfl, rfl⟩) | (go_at_call 93; refine (implEntry_any _ _ _ _ x.caches[0].entries _ _ _ _ (by exact Cod.bel m1m (by repeat (first | with_reducible exact Below.refl _ _ | with_reducible assumption | with_reducible refine bel_alloc ?_ _ | with_reducible refine bel_drew ?_ | with_reducible refine bel_drewN ?_ _ | (with_reducible refine bel_set ?_ ?_ _; rotate_left; ((try simp); (try omega))))))).mono ?_; rintro e w1 ⟨rfl, hb1⟩; obtain ⟨hc1, hf1, hz1⟩ := bcell hb1; (try simp at hz1); have hB1 : Below w.heap.size w w1 := bel_then (by repeat (first | with_reducible exact Below.refl _ _ | with_reducible assumption | with_reducible refine bel_alloc ?_ _ | with_reducible refine bel_drew ?_ | with_reducible refine bel_drewN ?_ _ | (with_reducible refine bel_set ?_ ?_ _; rotate_left; ((try simp); (try omega))))) hb1; clear hb1) | (go_at_call 103; refine (implIsResponseN_any _ x.caches[0].entries[i].resp _ _ (by exact TResp.mk_ hokr (Cod.bel m5 (by repeat (first | with_reducible exact Below.refl _ _ | with_reducible assumption | with_reducible refine bel_alloc ?_ _ | with_reducible refine bel_drew ?_ | with_reducible refine bel_drewN ?_ _ | (with_reducible refine bel_set ?_ ?_ _; rotate_left; ((try simp); (try omega)))))))).mono ?_; rintro e w2 ⟨rfl, hb2⟩; have hB2' : Below w.heap.size w w2 := bel_then (by repeat (first | with_reducible exact Below.refl _ _ | with_reducible assumption | with_reducible refine bel_alloc ?_ _ | with_reducible refine bel_drew ?_ | with_reducible refine bel_drewN ?_ _ | (with_reducible refine bel_set ?_ ?_ _; rotate_left; ((try simp); (try omega))))) hb2; clear hb2))
                      go_ret
                      exact ⟨ret_bool HB.out.symm, (by repeat (first | with_reducible exact Below.refl _ _ | with_reducible assumption | with_reducible refine bel_alloc ?_ _ | with_reducible refine bel_drew ?_ | with_reducible refine bel_drewN ?_ _ | (with_reducible refine bel_set ?_ ?_ _; rotate_left; ((try simp); (try omega)))))⟩
                    case false =>
                      cases f4 : (isResponse x.caches[0].entries[i].resp)
                      · have HB := Lib.hid (show isCacheSet x = false by
                          have h1 : entryOk x.caches[0].entries i = false := (by
                            rw [HK.out]
                            first
                              | (simp [*]; done)
                              | (rw [HIX.out] at f3; simp at f3; simp [f3]; done))
                          rw [HE.out, allTo_bad hkx (cacheOk_entries hkx (by rw [HEN.out, allTo_bad hlti h1]))]; simp)
                        go_wp2_with (first | (go_at_call 74; refine (implName_any _ _ (by assumption)).mono ?_; rintro e w1 ⟨rfl, rfl⟩) | (go_at_call 93; refine (implEntry_any _ _ _ _ x.caches[0].entries _ _ _ _ (by exact Cod.bel m1m (by repeat (first | with_reducible exact Below.refl _ _ | with_reducible assumption | with_reducible refine bel_alloc ?_ _ | with_reducible refine bel_drew ?_ | with_reducible refine bel_drewN ?_ _ | (with_reducible refine bel_set ?_ ?_ _; rotate_left; ((try simp); (try omega))))))).mono ?_; rintro e w1 ⟨rfl, hb1⟩; obtain ⟨hc1, hf1, hz1⟩ := bcell hb1; (try simp at hz1); have hB1 : Below w.heap.size w w1 := bel_then (by repeat (first | with_reducible exact Below.refl _ _ | with_reducible assumption | with_reducible refine bel_alloc ?_ _ | with_reducible refine bel_drew ?_ | with_reducible refine bel_drewN ?_ _ | (with_reducible refine bel_set ?_ ?_ _; rotate_left; ((try simp); (try omega))))) hb1; clear hb1) | (go_at_call 103; refine (implIsResponseN_any _ x.caches[0].entries[i].resp _ _ (by exact TResp.mk_ hokr (Cod.bel m5 (by repeat (first | with_reducible exact Below.refl _ _ | with_reducible assumption | with_reducible refine bel_alloc ?_ _ | with_reducible refine bel_drew ?_ | with_reducible refine bel_drewN ?_ _ | (with_reducible refine bel_set ?_ ?_ _; rotate_left; ((try simp); (try omega)))))))).mono ?_; rintro e w2 ⟨rfl, hb2⟩; have hB2' : Below w.heap.size w w2 := bel_then (by repeat (first | with_reducible exact Below.refl _ _ | with_reducible assumption | with_reducible refine bel_alloc ?_ _ | with_reducible refine bel_drew ?_ | with_reducible refine bel_drewN ?_ _ | (with_reducible refine bel_set ?_ ?_ _; rotate_left; ((try simp); (try omega))))) hb2; clear hb2))
                        go_ret
                        exact ⟨ret_bool HB.out.symm, (by repeat (first | with_reducible exact Below.refl _ _ | with_reducible assumption | with_reducible refine bel_alloc ?_ _ | with_reducible refine bel_drew ?_ | with_reducible refine bel_drewN ?_ _ | (with_reducible refine bel_set ?_ ?_ _; rotate_left; ((try simp); (try omega)))))⟩
                      ·
                        have HI := Lib.hid (show entryOk x.caches[0].entries i = true by
                          rw [HIX.out] at f3
                          rw [HK.out, f1, f2, f4]
                          simpa using f3)
                        go_wp2_with (first | (go_at_call 74; refine (implName_any _ _ (by assumption)).mono ?_; rintro e w1 ⟨rfl, rfl⟩) | (go_at_call 93; refine (implEntry_any _ _ _ _ x.caches[0].entries _ _ _ _ (by exact Cod.bel m1m (by repeat (first | with_reducible exact Below.refl _ _ | with_reducible assumption | with_reducible refine bel_alloc ?_ _ | with_reducible refine bel_drew ?_ | with_reducible refine bel_drewN ?_ _ | (with_reducible refine bel_set ?_ ?_ _; rotate_left; ((try simp); (try omega))))))).mono ?_; rintro e w1 ⟨rfl, hb1⟩; obtain ⟨hc1, hf1, hz1⟩ := bcell hb1; (try simp at hz1); have hB1 : Below w.heap.size w w1 := bel_then (by repeat (first | with_reducible exact Below.refl _ _ | with_reducible assumption | with_reducible refine bel_alloc ?_ _ | with_reducible refine bel_drew ?_ | with_reducible refine bel_drewN ?_ _ | (with_reducible refine bel_set ?_ ?_ _; rotate_left; ((try simp); (try omega))))) hb1; have hBV : Below V.heap.size V w1 := belB_then (Nat.le_refl _) (by repeat (first | with_reducible exact hB2 | with_reducible refine belB_alloc (Nat.le_refl _) ?_ _)) hb1; clear hb1) | (go_at_call 103; refine (implIsResponseN_any _ x.caches[0].entries[i].resp _ _ (by exact TResp.mk_ hokr (Cod.bel m5 (by repeat (first | with_reducible exact Below.refl _ _ | with_reducible assumption | with_reducible refine bel_alloc ?_ _ | with_reducible refine bel_drew ?_ | with_reducible refine bel_drewN ?_ _ | (with_reducible refine bel_set ?_ ?_ _; rotate_left; ((try simp); (try omega)))))))).mono ?_; rintro e w2 ⟨rfl, hb2⟩; have hBV2 : Below V.heap.size V w2 := belB_then (Nat.le_refl _) hBV hb2; clear hb2))
                        go_roundw
                        case rel => first | exact ⟨i + 1, by omega, by go_num, by rw [allTo_succ, HO2.out, HI.out]; rfl, hBV2⟩ | ((repeat apply Exists.intro); exact ⟨⟨i + 1, by omega, by go_num, by rw [allTo_succ, HO2.out, HI.out]; rfl, hBV2⟩, rfl⟩)
                        case measure => simp [intOf]; omega
              · obtain rfl : i = m := by omega
                have HI := Lib.hid (show cacheOk x.caches (0) = true by (have h1 := HEN.out; rw [HO2.out] at h1; rw [HZ.out, e1, h1]; rfl))
                go_wp2
                go_roundw
                case rel => exact ⟨0 + 1, by omega, by go_num, by rw [allTo_succ, HI.out, HO.out]; rfl, hBW⟩
                case measure => simp [intOf]; omega
        | succ j =>
          have hjx : j < x.caches.length := by omega
          obtain ⟨g', o', vs', F1', eA, -, hx', -, hc'⟩ := cL_get (hw := by decide) (hw2 := by decide) m0 hjx
          injection eA with eA
          injection eA with e1' e2'
          subst e1'
          subst e2'
          obtain ⟨v1', F2', rfl, -, -, m1'⟩ := TCache.out hx'
          have r0 := (hbw.cell (p := ⟨g, o + j * 2, none⟩) hgw).trans ((hc' 0 _ rfl).1)
          clear hc' hx' m1'
          have hd1 : decide ((0 : Int) < (j : Int) + 1) = true := decide_eq_true (by omega)
          have hk0 : (0 : Int) ≤ (j : Int) + 1 := by omega
          have hjn : ((j : Int) < (n : Int)) := by omega
          replace hki : ((j : Int) + 1 < (n : Int)) := by omega
          have HG := Lib.hid (cacheOk_succ hkx hjx)
          cases e2 : decide (x.caches[j].ver < x.caches[j + 1].ver)
          · have HB := Lib.hid (show isCacheSet x = false by rw [HE.out, allTo_bad hkx (by rw [HG.out, e2]; simp)]; simp)
            have e3 : decide (x.caches[j + 1].ver ≤ x.caches[j].ver) = true := by simp at e2 ⊢; omega
            go_wp2
            go_quiet (first | (go_at_call 66; first | exact quiet_left (hin _) | exact quiet_add_left (hin _)))
            go_wp2
            go_ret
            exact ⟨ret_bool HB.out.symm, (by repeat (first | with_reducible exact Below.refl _ _ | with_reducible assumption | with_reducible refine bel_alloc ?_ _ | with_reducible refine bel_drew ?_ | with_reducible refine bel_drewN ?_ _ | (with_reducible refine bel_set ?_ ?_ _; rotate_left; ((try simp); (try omega)))))⟩
          · have e3 : decide (x.caches[j + 1].ver ≤ x.caches[j].ver) = false := by simp at e2 ⊢; omega
            obtain ⟨-, hcp5, hm5⟩ := cL_len m1
            obtain ⟨m, hxm⟩ : ∃ m, x.caches[j + 1].entries.length = m := ⟨_, rfl⟩
            have HM := Lib.hid hxm
            rw [hxm] at hcp5 q1
            have m1m := m1
            rw [hxm] at m1m
            unfold maxLen at hm5
            cases e4 : decide ((12 : Int) < (m : Int))
            case true =>
              have HB := Lib.hid (show isCacheSet x = false by
                have h1 : entriesOk x.caches[j + 1].entries = false := (by unfold entriesOk; rw [hxm, show decide ((m : Int) ≤ 12) = false from decide_eq_false (by have := of_decide_eq_true e4; omega)]; rfl)
                rw [HE.out, allTo_bad hkx (cacheOk_entries hkx h1)]; simp)
              clear hxm
              go_wp2
              go_quiet (first | (go_at_call 66; first | exact quiet_left (hin _) | exact quiet_add_left (hin _)))
              go_wp2
              go_ret
              exact ⟨ret_bool HB.out.symm, (by repeat (first | with_reducible exact Below.refl _ _ | with_reducible assumption | with_reducible refine bel_alloc ?_ _ | with_reducible refine bel_drew ?_ | with_reducible refine bel_drewN ?_ _ | (with_reducible refine bel_set ?_ ?_ _; rotate_left; ((try simp); (try omega)))))⟩
            case false =>
              have HEN := Lib.hid (show entriesOk x.caches[j + 1].entries = allTo (entryOk x.caches[j + 1].entries) m by
                unfold entriesOk; rw [hxm, show decide ((m : Int) ≤ 12) = true from decide_eq_true (by have := of_decide_eq_false e4; omega)]; rfl)
              clear hxm
              obtain ⟨wo, rfl⟩ : ∃ wo : World, wo = wr := ⟨_, rfl⟩
              go_wp2
              go_quiet (first | (go_at_call 66; first | exact quiet_left (hin _) | exact quiet_add_left (hin _)))
              go_wp2
              generalize hV : World.drewN _ _ = V
              have hbV : Below wo.heap.size wo V := by rw [← hV]; exact (by repeat (first | with_reducible exact Below.refl _ _ | with_reducible assumption | with_reducible refine bel_alloc ?_ _ | with_reducible refine bel_drew ?_ | with_reducible refine bel_drewN ?_ _ | (with_reducible refine bel_set ?_ ?_ _; rotate_left; ((try simp); (try omega)))))
              have hVs : wo.heap.size < V.heap.size := by rw [← hV]; clear hV; simp
              have a0 : V.cell? ⟨wo.heap.size, 0, none⟩ = some (.int .i64 x.caches[j + 1].ver) := by rw [← hV]; clear hV; go_simp
              have a1 : V.cell? ⟨wo.heap.size, 1, none⟩ = some (.slice E5 m e5) := by rw [← hV]; clear hV; go_simp
              clear hV
              go_loopw [44] (fun i wr => ∃ j2 : Nat, j2 ≤ m ∧ i = .int .i64 j2 ∧ allTo (entryOk x.caches[j + 1].entries) j2 = true ∧ Below V.heap.size V wr) (fun i _ => m - (intOf i).toNat)
              case atStart => exact ⟨0, Nat.zero_le _, rfl, allTo_zero _, Below.refl _ _⟩
              case round =>
                obtain ⟨i, hi, rfl, hno2, hB2⟩ := hrel
                have HO2 := Lib.hid hno2
                clear hno2
                have hz9 := hB2.size
                have hbow : Below wo.heap.size wo wr := bel_then hbV hB2
                have hbw2 : Below w.heap.size w wr := bel_then hbw hbow
                have y0 := (hB2.cell (p := ⟨wo.heap.size, 0, none⟩) hVs).trans a0
                have y1 := (hB2.cell (p := ⟨wo.heap.size, 1, none⟩) hVs).trans a1
                have hvr : wo.heap.size < wr.heap.size := by omega
                have hvn : ¬ wo.heap.size = wr.heap.size := by omega
                have hBW : Below W.heap.size W wr := hB.trans (hbow.mono hB.size)
                by_cases hlti : i < m
                · have hix : i < x.caches[j + 1].entries.length := by rw [HM.out]; exact hlti
                  obtain ⟨g2, o2, vs2, F3, rfl, hgF2, hx2, -, hc2⟩ := cL_get (hw := by decide) (hw2 := by decide) m1 hix
                  obtain ⟨v5, F4, rfl, -, hok5, m5⟩ := TCached.out hx2
                  obtain ⟨A5, c5, e5''⟩ := cL_form m5
                  subst e5''
                  have hgw2 : g2 < w.heap.size := Cod.lt _ m1 g2 hgF2
                  have t0 := (hbw2.cell (p := ⟨g2, o2 + i * 7, none⟩) hgw2).trans ((hc2 0 _ rfl).1)
                  have t1 := (hbw2.cell (p := ⟨g2, o2 + i * 7 + 1, none⟩) hgw2).trans ((hc2 1 _ rfl).1)
                  have t2 := (hbw2.cell (p := ⟨g2, o2 + i * 7 + 2, none⟩) hgw2).trans ((hc2 2 _ rfl).1)
                  have t3 := (hbw2.cell (p := ⟨g2, o2 + i * 7 + 3, none⟩) hgw2).trans ((hc2 3 _ rfl).1)
                  have t4 := (hbw2.cell (p := ⟨g2, o2 + i * 7 + 4, none⟩) hgw2).trans ((hc2 4 _ rfl).1)
                  have t5 := (hbw2.cell (p := ⟨g2, o2 + i * 7 + 5, none⟩) hgw2).trans ((hc2 5 _ rfl).1)
                  have t6 := (hbw2.cell (p := ⟨g2, o2 + i * 7 + 6, none⟩) hgw2).trans ((hc2 6 _ rfl).1)
                  clear hc2 hx2
                  have hs1 := hok5.h0
                  have hs2 := hok5.h1
                  have hgr2 : g2 < wr.heap.size := by omega
                  have hgn2 : ¬ g2 = wr.heap.size := by omega
                  have hii : ((i : Int) < (m : Int)) := by omega
                  have hokr : x.caches[j + 1].entries[i].resp.Ok := ⟨hok5.h2, hok5.h3, hok5.h4⟩
                  have HK := Lib.hid (entryOk_at hix)
                  have HIX := Lib.hid (show (entryIx x.caches[j + 1].entries x.caches[j + 1].entries[i].site x.caches[j + 1].entries[i].path != (i : Int)) = !noneTo (fun y => sameEntry y x.caches[j + 1].entries[i].site x.caches[j + 1].entries[i].path) x.caches[j + 1].entries i from idxP_is _ _ i hix (sameEntry_refl _))
                  cases f1 : (isName x.caches[j + 1].entries[i].site)
                  · have HB := Lib.hid (show isCacheSet x = false by
                      have h1 : entryOk x.caches[j + 1].entries i = false := (by
                        rw [HK.out]
                        first
                          | (simp [*]; done)
                          | (rw [HIX.out] at f3; simp at f3; simp [f3]; done))
                      rw [HE.out, allTo_bad hkx (cacheOk_entries hkx (by rw [HEN.out, allTo_bad hlti h1]))]; simp)
                    go_wp2_with (first | (go_at_call 74; refine (implName_any _ _ (by assumption)).mono ?_; rintro e w1 ⟨rfl, rfl⟩) | (go_at_call 93; refine (implEntry_any _ _ _ _ x.caches[j + 1].entries _ _ _ _ (by exact Cod.bel m1m (by repeat (first | with_reducible exact Below.refl _ _ | with_reducible assumption | with_reducible refine bel_alloc ?_ _ | with_reducible refine bel_drew ?_ | with_reducible refine bel_drewN ?_ _ | (with_reducible refine bel_set ?_ ?_ _; rotate_left; ((try simp); (try omega))))))).mono ?_; rintro e w1 ⟨rfl, hb1⟩; obtain ⟨hc1, hf1, hz1⟩ := bcell hb1; (try simp at hz1); have hB1 : Below w.heap.size w w1 := bel_then (by repeat (first | with_reducible exact Below.refl _ _ | with_reducible assumption | with_reducible refine bel_alloc ?_ _ | with_reducible refine bel_drew ?_ | with_reducible refine bel_drewN ?_ _ | (with_reducible refine bel_set ?_ ?_ _; rotate_left; ((try simp); (try omega))))) hb1; clear hb1) | (go_at_call 103; refine (implIsResponseN_any _ x.caches[j + 1].entries[i].resp _ _ (by exact TResp.mk_ hokr (Cod.bel m5 (by repeat (first | with_reducible exact Below.refl _ _ | with_reducible assumption | with_reducible refine bel_alloc ?_ _ | with_reducible refine bel_drew ?_ | with_reducible refine bel_drewN ?_ _ | (with_reducible refine bel_set ?_ ?_ _; rotate_left; ((try simp); (try omega)))))))).mono ?_; rintro e w2 ⟨rfl, hb2⟩; have hB2' : Below w.heap.size w w2 := bel_then (by repeat (first | with_reducible exact Below.refl _ _ | with_reducible assumption | with_reducible refine bel_alloc ?_ _ | with_reducible refine bel_drew ?_ | with_reducible refine bel_drewN ?_ _ | (with_reducible refine bel_set ?_ ?_ _; rotate_left; ((try simp); (try omega))))) hb2; clear hb2))
                    go_ret
                    exact ⟨ret_bool HB.out.symm, (by repeat (first | with_reducible exact Below.refl _ _ | with_reducible assumption | with_reducible refine bel_alloc ?_ _ | with_reducible refine bel_drew ?_ | with_reducible refine bel_drewN ?_ _ | (with_reducible refine bel_set ?_ ?_ _; rotate_left; ((try simp); (try omega)))))⟩
                  ·
                    cases f2 : (isName x.caches[j + 1].entries[i].path)
                    · have HB := Lib.hid (show isCacheSet x = false by
                        have h1 : entryOk x.caches[j + 1].entries i = false := (by
                          rw [HK.out]
                          first
                            | (simp [*]; done)
                            | (rw [HIX.out] at f3; simp at f3; simp [f3]; done))
                        rw [HE.out, allTo_bad hkx (cacheOk_entries hkx (by rw [HEN.out, allTo_bad hlti h1]))]; simp)
                      go_wp2_with (first | (go_at_call 74; refine (implName_any _ _ (by assumption)).mono ?_; rintro e w1 ⟨rfl, rfl⟩) | (go_at_call 93; refine (implEntry_any _ _ _ _ x.caches[j + 1].entries _ _ _ _ (by exact Cod.bel m1m (by repeat (first | with_reducible exact Below.refl _ _ | with_reducible assumption | with_reducible refine bel_alloc ?_ _ | with_reducible refine bel_drew ?_ | with_reducible refine bel_drewN ?_ _ | (with_reducible refine bel_set ?_ ?_ _; rotate_left; ((try simp); (try omega))))))).mono ?_; rintro e w1 ⟨rfl, hb1⟩; obtain ⟨hc1, hf1, hz1⟩ := bcell hb1; (try simp at hz1); have hB1 : Below w.heap.size w w1 := bel_then (by repeat (first | with_reducible exact Below.refl _ _ | with_reducible assumption | with_reducible refine bel_alloc ?_ _ | with_reducible refine bel_drew ?_ | with_reducible refine bel_drewN ?_ _ | (with_reducible refine bel_set ?_ ?_ _; rotate_left; ((try simp); (try omega))))) hb1; clear hb1) | (go_at_call 103; refine (implIsResponseN_any _ x.caches[j + 1].entries[i].resp _ _ (by exact TResp.mk_ hokr (Cod.bel m5 (by repeat (first | with_reducible exact Below.refl _ _ | with_reducible assumption | with_reducible refine bel_alloc ?_ _ | with_reducible refine bel_drew ?_ | with_reducible refine bel_drewN ?_ _ | (with_reducible refine bel_set ?_ ?_ _; rotate_left; ((try simp); (try omega)))))))).mono ?_; rintro e w2 ⟨rfl, hb2⟩; have hB2' : Below w.heap.size w w2 := bel_then (by repeat (first | with_reducible exact Below.refl _ _ | with_reducible assumption | with_reducible refine bel_alloc ?_ _ | with_reducible refine bel_drew ?_ | with_reducible refine bel_drewN ?_ _ | (with_reducible refine bel_set ?_ ?_ _; rotate_left; ((try simp); (try omega))))) hb2; clear hb2))
                      go_ret
                      exact ⟨ret_bool HB.out.symm, (by repeat (first | with_reducible exact Below.refl _ _ | with_reducible assumption | with_reducible refine bel_alloc ?_ _ | with_reducible refine bel_drew ?_ | with_reducible refine bel_drewN ?_ _ | (with_reducible refine bel_set ?_ ?_ _; rotate_left; ((try simp); (try omega)))))⟩
                    ·
                      cases f3 : (entryIx x.caches[j + 1].entries x.caches[j + 1].entries[i].site x.caches[j + 1].entries[i].path != (i : Int))
                      case true =>
                        have HB := Lib.hid (show isCacheSet x = false by
                          have h1 : entryOk x.caches[j + 1].entries i = false := (by
                            rw [HK.out]
                            first
                              | (simp [*]; done)
                              | (rw [HIX.out] at f3; simp at f3; simp [f3]; done))
                          rw [HE.out, allTo_bad hkx (cacheOk_entries hkx (by rw [HEN.out, allTo_bad hlti h1]))]; simp)
                        go_wp2_with (first | (go_at_call 74; refine (implName_any _ _ (by assumption)).mono ?_; rintro e w1 ⟨rfl, rfl⟩) | (go_at_call 93; refine (implEntry_any _ _ _ _ x.caches[j + 1].entries _ _ _ _ (by exact Cod.bel m1m (by repeat (first | with_reducible exact Below.refl _ _ | with_reducible assumption | with_reducible refine bel_alloc ?_ _ | with_reducible refine bel_drew ?_ | with_reducible refine bel_drewN ?_ _ | (with_reducible refine bel_set ?_ ?_ _; rotate_left; ((try simp); (try omega))))))).mono ?_; rintro e w1 ⟨rfl, hb1⟩; obtain ⟨hc1, hf1, hz1⟩ := bcell hb1; (try simp at hz1); have hB1 : Below w.heap.size w w1 := bel_then (by repeat (first | with_reducible exact Below.refl _ _ | with_reducible assumption | with_reducible refine bel_alloc ?_ _ | with_reducible refine bel_drew ?_ | with_reducible refine bel_drewN ?_ _ | (with_reducible refine bel_set ?_ ?_ _; rotate_left; ((try simp); (try omega))))) hb1; clear hb1) | (go_at_call 103; refine (implIsResponseN_any _ x.caches[j + 1].entries[i].resp _ _ (by exact TResp.mk_ hokr (Cod.bel m5 (by repeat (first | with_reducible exact Below.refl _ _ | with_reducible assumption | with_reducible refine bel_alloc ?_ _ | with_reducible refine bel_drew ?_ | with_reducible refine bel_drewN ?_ _ | (with_reducible refine bel_set ?_ ?_ _; rotate_left; ((try simp); (try omega)))))))).mono ?_; rintro e w2 ⟨rfl, hb2⟩; have hB2' : Below w.heap.size w w2 := bel_then (by repeat (first | with_reducible exact Below.refl _ _ | with_reducible assumption | with_reducible refine bel_alloc ?_ _ | with_reducible refine bel_drew ?_ | with_reducible refine bel_drewN ?_ _ | (with_reducible refine bel_set ?_ ?_ _; rotate_left; ((try simp); (try omega))))) hb2; clear hb2))
                        go_ret
                        exact ⟨ret_bool HB.out.symm, (by repeat (first | with_reducible exact Below.refl _ _ | with_reducible assumption | with_reducible refine bel_alloc ?_ _ | with_reducible refine bel_drew ?_ | with_reducible refine bel_drewN ?_ _ | (with_reducible refine bel_set ?_ ?_ _; rotate_left; ((try simp); (try omega)))))⟩
                      case false =>
                        cases f4 : (isResponse x.caches[j + 1].entries[i].resp)
                        · have HB := Lib.hid (show isCacheSet x = false by
                            have h1 : entryOk x.caches[j + 1].entries i = false := (by
                              rw [HK.out]
                              first
                                | (simp [*]; done)
                                | (rw [HIX.out] at f3; simp at f3; simp [f3]; done))
                            rw [HE.out, allTo_bad hkx (cacheOk_entries hkx (by rw [HEN.out, allTo_bad hlti h1]))]; simp)
                          go_wp2_with (first | (go_at_call 74; refine (implName_any _ _ (by assumption)).mono ?_; rintro e w1 ⟨rfl, rfl⟩) | (go_at_call 93; refine (implEntry_any _ _ _ _ x.caches[j + 1].entries _ _ _ _ (by exact Cod.bel m1m (by repeat (first | with_reducible exact Below.refl _ _ | with_reducible assumption | with_reducible refine bel_alloc ?_ _ | with_reducible refine bel_drew ?_ | with_reducible refine bel_drewN ?_ _ | (with_reducible refine bel_set ?_ ?_ _; rotate_left; ((try simp); (try omega))))))).mono ?_; rintro e w1 ⟨rfl, hb1⟩; obtain ⟨hc1, hf1, hz1⟩ := bcell hb1; (try simp at hz1); have hB1 : Below w.heap.size w w1 := bel_then (by repeat (first | with_reducible exact Below.refl _ _ | with_reducible assumption | with_reducible refine bel_alloc ?_ _ | with_reducible refine bel_drew ?_ | with_reducible refine bel_drewN ?_ _ | (with_reducible refine bel_set ?_ ?_ _; rotate_left; ((try simp); (try omega))))) hb1; clear hb1) | (go_at_call 103; refine (implIsResponseN_any _ x.caches[j + 1].entries[i].resp _ _ (by exact TResp.mk_ hokr (Cod.bel m5 (by repeat (first | with_reducible exact Below.refl _ _ | with_reducible assumption | with_reducible refine bel_alloc ?_ _ | with_reducible refine bel_drew ?_ | with_reducible refine bel_drewN ?_ _ | (with_reducible refine bel_set ?_ ?_ _; rotate_left; ((try simp); (try omega)))))))).mono ?_; rintro e w2 ⟨rfl, hb2⟩; have hB2' : Below w.heap.size w w2 := bel_then (by repeat (first | with_reducible exact Below.refl _ _ | with_reducible assumption | with_reducible refine bel_alloc ?_ _ | with_reducible refine bel_drew ?_ | with_reducible refine bel_drewN ?_ _ | (with_reducible refine bel_set ?_ ?_ _; rotate_left; ((try simp); (try omega))))) hb2; clear hb2))
                          go_ret
                          exact ⟨ret_bool HB.out.symm, (by repeat (first | with_reducible exact Below.refl _ _ | with_reducible assumption | with_reducible refine bel_alloc ?_ _ | with_reducible refine bel_drew ?_ | with_reducible refine bel_drewN ?_ _ | (with_reducible refine bel_set ?_ ?_ _; rotate_left; ((try simp); (try omega)))))⟩
                        ·
                          have HI := Lib.hid (show entryOk x.caches[j + 1].entries i = true by
                            rw [HIX.out] at f3
                            rw [HK.out, f1, f2, f4]
                            simpa using f3)
                          go_wp2_with (first | (go_at_call 74; refine (implName_any _ _ (by assumption)).mono ?_; rintro e w1 ⟨rfl, rfl⟩) | (go_at_call 93; refine (implEntry_any _ _ _ _ x.caches[j + 1].entries _ _ _ _ (by exact Cod.bel m1m (by repeat (first | with_reducible exact Below.refl _ _ | with_reducible assumption | with_reducible refine bel_alloc ?_ _ | with_reducible refine bel_drew ?_ | with_reducible refine bel_drewN ?_ _ | (with_reducible refine bel_set ?_ ?_ _; rotate_left; ((try simp); (try omega))))))).mono ?_; rintro e w1 ⟨rfl, hb1⟩; obtain ⟨hc1, hf1, hz1⟩ := bcell hb1; (try simp at hz1); have hB1 : Below w.heap.size w w1 := bel_then (by repeat (first | with_reducible exact Below.refl _ _ | with_reducible assumption | with_reducible refine bel_alloc ?_ _ | with_reducible refine bel_drew ?_ | with_reducible refine bel_drewN ?_ _ | (with_reducible refine bel_set ?_ ?_ _; rotate_left; ((try simp); (try omega))))) hb1; have hBV : Below V.heap.size V w1 := belB_then (Nat.le_refl _) (by repeat (first | with_reducible exact hB2 | with_reducible refine belB_alloc (Nat.le_refl _) ?_ _)) hb1; clear hb1) | (go_at_call 103; refine (implIsResponseN_any _ x.caches[j + 1].entries[i].resp _ _ (by exact TResp.mk_ hokr (Cod.bel m5 (by repeat (first | with_reducible exact Below.refl _ _ | with_reducible assumption | with_reducible refine bel_alloc ?_ _ | with_reducible refine bel_drew ?_ | with_reducible refine bel_drewN ?_ _ | (with_reducible refine bel_set ?_ ?_ _; rotate_left; ((try simp); (try omega)))))))).mono ?_; rintro e w2 ⟨rfl, hb2⟩; have hBV2 : Below V.heap.size V w2 := belB_then (Nat.le_refl _) hBV hb2; clear hb2))
                          go_roundw
                          case rel => first | exact ⟨i + 1, by omega, by go_num, by rw [allTo_succ, HO2.out, HI.out]; rfl, hBV2⟩ | ((repeat apply Exists.intro); exact ⟨⟨i + 1, by omega, by go_num, by rw [allTo_succ, HO2.out, HI.out]; rfl, hBV2⟩, rfl⟩)
                          case measure => simp [intOf]; omega
                · obtain rfl : i = m := by omega
                  have HI := Lib.hid (show cacheOk x.caches (j + 1) = true by (have h1 := HEN.out; rw [HO2.out] at h1; rw [HG.out, e1, e2, h1]; rfl))
                  go_wp2
                  go_roundw
                  case rel => exact ⟨j + 1 + 1, by omega, by go_num, by rw [allTo_succ, HI.out, HO.out]; rfl, hBW⟩
                  case measure => simp [intOf]; omega
    · obtain rfl : k = n := by omega
      have HF := Lib.hid (show isCacheSet x = decide ((k : Int) ≤ 4) by rw [HE.out, HN.out, HO.out]; simp)
      go_wp2
      all_goals go_ret
      all_goals exact ⟨ret_bool (by rw [HF.out]), (by repeat (first | with_reducible exact Below.refl _ _ | with_reducible assumption | with_reducible refine bel_alloc ?_ _ | with_reducible refine bel_drew ?_ | with_reducible refine bel_drewN ?_ _ | (with_reducible refine bel_set ?_ ?_ _; rotate_left; ((try simp); (try omega)))))⟩
theorem implIsCacheSet_any (vs : Array Value) (x : TCSet) (F : List Nat) (w : World) (h : cCSet.rep w vs.toList x F) (hn : cCSet.sz x ≤ 1048576) :
    Calls Try.prog 42 #[.agg vs] w (Gives w (.bool (isCacheSet x))) := implIsCacheSetN_any vs x F w h
end Go.Proofs.Ytlicnppfgfjkgaa
