/-
  l17Entries of the reference. No conditions.
-/
import Derived.Test.YtlicnppfgfjkgaaZCsPlain
import Derived.Test.YtlicnppfgfjkgaaZA
namespace Go.Proofs.Ytlicnppfgfjkgaa
open Go.ChangeShapes Go.WideShapes Go.RowKit
set_option linter.unusedVariables false

set_option maxRecDepth 100000 in
set_option maxHeartbeats 4000000 in
theorem specEntries_any (v : Value) (es : List TCached) (F : List Nat) (w : World) (h : cCachedS.rep w [v] es F) :
    Calls Try.prog 142 #[v] w (Gives w (.bool (entriesOk es))) := by
  obtain ⟨A, cp, rfl⟩ := cL_form h
  obtain ⟨-, hcp, hm⟩ := cL_len h
  have HE := Lib.hid (show entriesOk es = (decide ((es.length : Int) ≤ 12) && allTo (entryOk es) es.length) from rfl)
  obtain ⟨n, hxn⟩ : ∃ n, es.length = n := ⟨_, rfl⟩
  have HN := Lib.hid hxn
  rw [hxn] at hcp ⊢
  clear hxn
  unfold maxLen at hm
  go_enter Try.func142, Try.ntmps142
  go_wp2
  go_loopw [3] (fun i wr => ∃ k : Nat, k ≤ n ∧ i = .int .i64 k ∧ allTo (entryOk es) k = true ∧ Below w.heap.size w wr) (fun i _ => n - (intOf i).toNat)
  case atStart => exact ⟨0, Nat.zero_le _, rfl, allTo_zero _, Below.refl _ _⟩
  case round =>
    obtain ⟨k, hk, rfl, hno, hB⟩ := hrel
    have HO := Lib.hid hno
    clear hno
    by_cases hlt : k < n
    · have hkx : k < es.length := by rw [HN.out]; exact hlt
      obtain ⟨g, o, vs, F1, rfl, hgF, hx, -, hc⟩ := cL_get (hw := by decide) (hw2 := by decide) h hkx
      obtain ⟨v5, F4, rfl, -, hok5, m5⟩ := TCached.out hx
      obtain ⟨A5, c5, e5'⟩ := cL_form m5
      subst e5'
      have hgw : g < w.heap.size := Cod.lt _ h g hgF
      have q0 := (hB.cell (p := ⟨g, o + k * 7, none⟩) hgw).trans ((hc 0 _ rfl).1)
      have q1 := (hB.cell (p := ⟨g, o + k * 7 + 1, none⟩) hgw).trans ((hc 1 _ rfl).1)
      have q2 := (hB.cell (p := ⟨g, o + k * 7 + 2, none⟩) hgw).trans ((hc 2 _ rfl).1)
      have q3 := (hB.cell (p := ⟨g, o + k * 7 + 3, none⟩) hgw).trans ((hc 3 _ rfl).1)
      have q4 := (hB.cell (p := ⟨g, o + k * 7 + 4, none⟩) hgw).trans ((hc 4 _ rfl).1)
      have q5 := (hB.cell (p := ⟨g, o + k * 7 + 5, none⟩) hgw).trans ((hc 5 _ rfl).1)
      have q6 := (hB.cell (p := ⟨g, o + k * 7 + 6, none⟩) hgw).trans ((hc 6 _ rfl).1)
      have hs1 := hok5.h0
      have hs2 := hok5.h1
      have hokr : es[k].resp.Ok := ⟨hok5.h2, hok5.h3, hok5.h4⟩
      have hgr : g < wr.heap.size := Nat.lt_of_lt_of_le hgw hB.size
      have hki : ((k : Int) < (n : Int)) := by omega
      have HK := Lib.hid (entryOk_at hkx)
      clear hx
      obtain ⟨wo, rfl⟩ : ∃ wo : World, wo = wr := ⟨_, rfl⟩
      cases e1 : (isName es[k].site)
      · have HB := Lib.hid (show entriesOk es = false by rw [HE.out, allTo_bad hkx (by rw [HK.out]; simp [*])]; simp)
        go_wp2_with (first | (go_at_call 126; refine (specName_any _ _ (by assumption)).mono ?_; rintro e w1 ⟨rfl, rfl⟩) | (go_at_call 163; refine (specIsResponseN_any _ es[k].resp _ _ (by exact TResp.mk_ hokr (Cod.bel m5 (by repeat (first | with_reducible exact Below.refl _ _ | with_reducible assumption | with_reducible refine bel_alloc ?_ _ | with_reducible refine bel_drew ?_ | with_reducible refine bel_drewN ?_ _ | (with_reducible refine bel_set ?_ ?_ _; rotate_left; ((try simp); (try omega)))))))).mono ?_; rintro e w1 ⟨rfl, hb1⟩; have hB1 : Below w.heap.size w w1 := bel_then (by repeat (first | with_reducible exact Below.refl _ _ | with_reducible assumption | with_reducible refine bel_alloc ?_ _ | with_reducible refine bel_drew ?_ | with_reducible refine bel_drewN ?_ _ | (with_reducible refine bel_set ?_ ?_ _; rotate_left; ((try simp); (try omega))))) hb1; clear hb1))
        go_ret
        exact ⟨ret_bool HB.out.symm, (by repeat (first | with_reducible exact Below.refl _ _ | with_reducible assumption | with_reducible refine bel_alloc ?_ _ | with_reducible refine bel_drew ?_ | with_reducible refine bel_drewN ?_ _ | (with_reducible refine bel_set ?_ ?_ _; rotate_left; ((try simp); (try omega)))))⟩
      ·
        cases e2 : (isName es[k].path)
        · have HB := Lib.hid (show entriesOk es = false by rw [HE.out, allTo_bad hkx (by rw [HK.out]; simp [*])]; simp)
          go_wp2_with (first | (go_at_call 126; refine (specName_any _ _ (by assumption)).mono ?_; rintro e w1 ⟨rfl, rfl⟩) | (go_at_call 163; refine (specIsResponseN_any _ es[k].resp _ _ (by exact TResp.mk_ hokr (Cod.bel m5 (by repeat (first | with_reducible exact Below.refl _ _ | with_reducible assumption | with_reducible refine bel_alloc ?_ _ | with_reducible refine bel_drew ?_ | with_reducible refine bel_drewN ?_ _ | (with_reducible refine bel_set ?_ ?_ _; rotate_left; ((try simp); (try omega)))))))).mono ?_; rintro e w1 ⟨rfl, hb1⟩; have hB1 : Below w.heap.size w w1 := bel_then (by repeat (first | with_reducible exact Below.refl _ _ | with_reducible assumption | with_reducible refine bel_alloc ?_ _ | with_reducible refine bel_drew ?_ | with_reducible refine bel_drewN ?_ _ | (with_reducible refine bel_set ?_ ?_ _; rotate_left; ((try simp); (try omega))))) hb1; clear hb1))
          go_ret
          exact ⟨ret_bool HB.out.symm, (by repeat (first | with_reducible exact Below.refl _ _ | with_reducible assumption | with_reducible refine bel_alloc ?_ _ | with_reducible refine bel_drew ?_ | with_reducible refine bel_drewN ?_ _ | (with_reducible refine bel_set ?_ ?_ _; rotate_left; ((try simp); (try omega)))))⟩
        ·
          cases e3 : (isResponse es[k].resp)
          · have HB := Lib.hid (show entriesOk es = false by rw [HE.out, allTo_bad hkx (by rw [HK.out]; simp [*])]; simp)
            go_wp2_with (first | (go_at_call 126; refine (specName_any _ _ (by assumption)).mono ?_; rintro e w1 ⟨rfl, rfl⟩) | (go_at_call 163; refine (specIsResponseN_any _ es[k].resp _ _ (by exact TResp.mk_ hokr (Cod.bel m5 (by repeat (first | with_reducible exact Below.refl _ _ | with_reducible assumption | with_reducible refine bel_alloc ?_ _ | with_reducible refine bel_drew ?_ | with_reducible refine bel_drewN ?_ _ | (with_reducible refine bel_set ?_ ?_ _; rotate_left; ((try simp); (try omega)))))))).mono ?_; rintro e w1 ⟨rfl, hb1⟩; have hB1 : Below w.heap.size w w1 := bel_then (by repeat (first | with_reducible exact Below.refl _ _ | with_reducible assumption | with_reducible refine bel_alloc ?_ _ | with_reducible refine bel_drew ?_ | with_reducible refine bel_drewN ?_ _ | (with_reducible refine bel_set ?_ ?_ _; rotate_left; ((try simp); (try omega))))) hb1; clear hb1))
            go_ret
            exact ⟨ret_bool HB.out.symm, (by repeat (first | with_reducible exact Below.refl _ _ | with_reducible assumption | with_reducible refine bel_alloc ?_ _ | with_reducible refine bel_drew ?_ | with_reducible refine bel_drewN ?_ _ | (with_reducible refine bel_set ?_ ?_ _; rotate_left; ((try simp); (try omega)))))⟩
          ·
            go_wp2_with (first | (go_at_call 126; refine (specName_any _ _ (by assumption)).mono ?_; rintro e w1 ⟨rfl, rfl⟩) | (go_at_call 163; refine (specIsResponseN_any _ es[k].resp _ _ (by exact TResp.mk_ hokr (Cod.bel m5 (by repeat (first | with_reducible exact Below.refl _ _ | with_reducible assumption | with_reducible refine bel_alloc ?_ _ | with_reducible refine bel_drew ?_ | with_reducible refine bel_drewN ?_ _ | (with_reducible refine bel_set ?_ ?_ _; rotate_left; ((try simp); (try omega)))))))).mono ?_; rintro e w1 ⟨rfl, hb1⟩; have hB1 : Below w.heap.size w w1 := bel_then (by repeat (first | with_reducible exact Below.refl _ _ | with_reducible assumption | with_reducible refine bel_alloc ?_ _ | with_reducible refine bel_drew ?_ | with_reducible refine bel_drewN ?_ _ | (with_reducible refine bel_set ?_ ?_ _; rotate_left; ((try simp); (try omega))))) hb1; clear hb1))
            go_loopw [4] (fun i wr => ∃ j : Nat, j ≤ k ∧ i = .int .i64 j ∧ noneTo (fun y => sameEntry y es[k].site es[k].path) es j = true ∧ Below w.heap.size w wr) (fun i _ => k - (intOf i).toNat)
            case atStart => exact ⟨0, Nat.zero_le _, rfl, noneTo_zero _ _, (by repeat (first | with_reducible exact Below.refl _ _ | with_reducible assumption | with_reducible refine bel_alloc ?_ _ | with_reducible refine bel_drew ?_ | with_reducible refine bel_drewN ?_ _ | (with_reducible refine bel_set ?_ ?_ _; rotate_left; ((try simp); (try omega)))))⟩
            case round =>
              obtain ⟨j, hj, rfl, hno2, hB2⟩ := hrel
              have HO2 := Lib.hid hno2
              clear hno2
              by_cases hltj : j < k
              · have hjx : j < es.length := by omega
                obtain ⟨g2, o2, vs2, F3, eA, hgF2, hx2, -, hc2⟩ := cL_get (hw := by decide) (hw2 := by decide) h hjx
                injection eA with eA
                injection eA with e1' e2'
                subst e1'
                subst e2'
                obtain ⟨v6, F6, rfl, -, hok6, m6⟩ := TCached.out hx2
                clear q0 q1 q2 q3 q4 q5 q6
                have q0 := (hB2.cell (p := ⟨g, o + k * 7, none⟩) hgw).trans ((hc 0 _ rfl).1)
                have q1 := (hB2.cell (p := ⟨g, o + k * 7 + 1, none⟩) hgw).trans ((hc 1 _ rfl).1)
                have r0 := (hB2.cell (p := ⟨g, o + j * 7, none⟩) hgw).trans ((hc2 0 _ rfl).1)
                have r1 := (hB2.cell (p := ⟨g, o + j * 7 + 1, none⟩) hgw).trans ((hc2 1 _ rfl).1)
                clear hc2 hx2
                have hji : ((j : Int) < (k : Int)) := by omega
                have hjn : ((j : Int) < (n : Int)) := by omega
                have HP := Lib.hid (show sameEntry es[j] es[k].site es[k].path = (es[j].site.toList == es[k].site.toList && es[j].path.toList == es[k].path.toList) from rfl)
                have HQ := Lib.hid (show sameEntry es[j] es[k].site es[k].path = true → entriesOk es = false from fun hs => by
                  have h1 : noneTo (fun y => sameEntry y es[k].site es[k].path) es k = false := by
                    cases hnn : noneTo (fun y => sameEntry y es[k].site es[k].path) es k with
                    | false => rfl
                    | true =>
                      have h2 := idxP_hit (fun y => sameEntry y es[k].site es[k].path) es k hkx hnn (sameEntry_refl _)
                      have h3 := idxP_hit (fun y => sameEntry y es[k].site es[k].path) es j hjx HO2.out hs
                      omega
                  rw [HE.out, allTo_bad hkx (by rw [HK.out, h1]; simp)]; simp)
                clear hc
                cases f1 : (es[j].site.toList == es[k].site.toList)
                · have HI := Lib.hid (show sameEntry es[j] es[k].site es[k].path = false by rw [HP.out]; simp [*])
                  clear HQ
                  go_wp2
                  go_quiet (fail)
                  go_wp2
                  go_roundw
                  case rel => exact ⟨j + 1, by omega, by go_num, noneTo_succ _ es j hjx HO2.out HI.out, bel_drewN hB2 _⟩
                  case measure => simp [intOf]; omega
                ·
                  cases f2 : (es[j].path.toList == es[k].path.toList)
                  · have HI := Lib.hid (show sameEntry es[j] es[k].site es[k].path = false by rw [HP.out]; simp [*])
                    clear HQ
                    go_wp2
                    go_quiet (fail)
                    go_wp2
                    go_roundw
                    case rel => exact ⟨j + 1, by omega, by go_num, noneTo_succ _ es j hjx HO2.out HI.out, bel_drewN hB2 _⟩
                    case measure => simp [intOf]; omega
                  ·
                    have HI := Lib.hid (HQ.out (by rw [HP.out, f1, f2]; rfl))
                    clear HQ
                    go_wp2
                    go_quiet (fail)
                    go_wp2
                    go_ret
                    exact ⟨ret_bool HI.out.symm, (by repeat (first | with_reducible exact Below.refl _ _ | with_reducible assumption | with_reducible refine bel_alloc ?_ _ | with_reducible refine bel_drew ?_ | with_reducible refine bel_drewN ?_ _ | (with_reducible refine bel_set ?_ ?_ _; rotate_left; ((try simp); (try omega)))))⟩
              · obtain rfl : j = k := by omega
                have HI := Lib.hid (show entryOk es j = true by rw [HK.out, e1, e2, e3, HO2.out]; rfl)
                go_wp2
                go_roundw
                case rel => exact ⟨j + 1, by omega, by go_num, by rw [allTo_succ, HO.out, HI.out]; rfl, hB2⟩
                case measure => simp [intOf]; omega
    · obtain rfl : k = n := by omega
      have HF := Lib.hid (show entriesOk es = decide ((k : Int) ≤ 12) by rw [HE.out, HN.out, HO.out]; simp)
      go_wp2
      all_goals go_ret
      all_goals exact ⟨ret_bool (by rw [HF.out]), hB⟩
end Go.Proofs.Ytlicnppfgfjkgaa
