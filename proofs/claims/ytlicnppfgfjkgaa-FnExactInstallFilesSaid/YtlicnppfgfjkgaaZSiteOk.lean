/-
  IsSite and ServesVersion of the program and of the reference. No conditions.
-/
import Derived.Test.YtlicnppfgfjkgaaZSiteFn
import Derived.Test.YtlicnppfgfjkgaaZB
import Derived.StillTailTactics
namespace Go.Proofs.Ytlicnppfgfjkgaa
open Go.ChangeShapes Go.WideShapes Go.RowKit
set_option linter.unusedVariables false

def siteAt (fs : List ByteArray) (i : Nat) : Bool :=
  match fs[i]? with
  | some f => isName f && (i == 0 || match fs[i - 1]? with | some g => strLess g f | none => false)
  | none => false
theorem siteAt_zero {fs : List ByteArray} (h : 0 < fs.length) : siteAt fs 0 = isName fs[0] := by
  unfold siteAt; rw [List.getElem?_eq_getElem h]; simp
theorem siteAt_succ {fs : List ByteArray} {k : Nat} (h : k < fs.length) (h0 : 0 < k) (h1 : k - 1 < fs.length) : siteAt fs k = (isName fs[k] && strLess fs[k - 1] fs[k]) := by
  unfold siteAt
  rw [List.getElem?_eq_getElem h, List.getElem?_eq_getElem h1]
  have : (k == 0) = false := by simp; omega
  simp [this]
theorem siteAt_name {fs : List ByteArray} {k : Nat} (h : k < fs.length) (hn : isName fs[k] = false) : siteAt fs k = false := by
  unfold siteAt
  rw [List.getElem?_eq_getElem h]; simp [hn]
def isSite (x : TSite) : Bool := allTo (siteAt x.files) x.files.length && isName x.name && inR x.ver 1 1000000000000 && inR x.files.length 1 6

set_option maxRecDepth 100000 in
set_option maxHeartbeats 4000000 in
theorem implIsSite_any (vs : Array Value) (x : TSite) (F : List Nat) (w : World) (h : cSite.rep w vs.toList x F) (hn : cSite.sz x ≤ 1048576) :
    Calls Try.prog 77 #[.agg vs] w (Gives w (.bool (isSite x))) := by
  obtain ⟨v2, F2, rfl, -, hok, m2⟩ := TSite.outA h
  clear h
  obtain ⟨A, cp, e2⟩ := cL_form m2
  subst e2
  obtain ⟨-, hcp, hm⟩ := cL_len m2
  have HE := Lib.hid (show isSite x = (allTo (siteAt x.files) x.files.length && isName x.name && inR x.ver 1 1000000000000 && inR x.files.length 1 6) from rfl)
  obtain ⟨n, hxn⟩ : ∃ n, x.files.length = n := ⟨_, rfl⟩
  have HN := Lib.hid hxn
  rw [hxn] at hcp ⊢
  clear hxn
  unfold maxLen at hm
  obtain ⟨hs0, hv0⟩ := hok
  go_enter Try.func77, Try.ntmps77
  go_wp2
  generalize hW : World.alloc _ _ = W
  have hWs : W.heap.size = w.heap.size + 1 := by rw [← hW]; clear hW; simp
  have hbW : Below w.heap.size w W := by rw [← hW]; exact (by repeat (first | with_reducible exact Below.refl _ _ | with_reducible assumption | with_reducible refine bel_alloc ?_ _ | with_reducible refine bel_drew ?_ | with_reducible refine bel_drewN ?_ _ | (with_reducible refine bel_set ?_ ?_ _; rotate_left; ((try simp); (try omega)))))
  have HK := Lib.hid (show W.cell? ⟨w.heap.size, 0, none⟩ = some (.string x.name) ∧ W.cell? ⟨w.heap.size, 1, none⟩ = some (.int .i64 x.ver) ∧ W.cell? ⟨w.heap.size, 2, none⟩ = some (.slice A n cp) ∧ W.cell? ⟨w.heap.size, 3, none⟩ = some (.bool x.shared) from by refine ⟨?_, ?_, ?_, ?_⟩ <;> (rw [← hW]; clear hW; go_simp))
  clear hW
  go_loopw [8] (fun i wr => ∃ k : Nat, k ≤ n ∧ i = .int .i64 k ∧ allTo (siteAt x.files) k = true ∧ Below W.heap.size W wr) (fun i _ => n - (intOf i).toNat)
  case atStart => exact ⟨0, Nat.zero_le _, rfl, allTo_zero _, Below.refl _ _⟩
  case round =>
    obtain ⟨k, hk, rfl, hno, hB⟩ := hrel
    have HO := Lib.hid hno
    clear hno
    have hws_wr : w.heap.size < wr.heap.size := by have := hB.size; omega
    have hbw : Below w.heap.size w wr := bel_then hbW hB
    have k0_wr : wr.cell? ⟨w.heap.size, 0, none⟩ = some (.string x.name) := (hB.cell (p := ⟨w.heap.size, 0, none⟩) (by (try simp); (try omega))).trans HK.out.1
    have k1_wr : wr.cell? ⟨w.heap.size, 1, none⟩ = some (.int .i64 x.ver) := (hB.cell (p := ⟨w.heap.size, 1, none⟩) (by (try simp); (try omega))).trans HK.out.2.1
    have k2_wr : wr.cell? ⟨w.heap.size, 2, none⟩ = some (.slice A n cp) := (hB.cell (p := ⟨w.heap.size, 2, none⟩) (by (try simp); (try omega))).trans HK.out.2.2.1
    have k3_wr : wr.cell? ⟨w.heap.size, 3, none⟩ = some (.bool x.shared) := (hB.cell (p := ⟨w.heap.size, 3, none⟩) (by (try simp); (try omega))).trans HK.out.2.2.2
    by_cases hlt : k < n
    · have hkx : k < x.files.length := by rw [HN.out]; exact hlt
      obtain ⟨g, o, vs, F1, rfl, hgF, hx, -, hc⟩ := cL_get (hw := by decide) (hw2 := by decide) (Cod.bel m2 hbw) hkx
      obtain ⟨rfl, -, hk1⟩ := hx
      have q0 : wr.cell? ⟨g, o + k, none⟩ = some _ := (by have h1 := (hc 0 _ rfl).1; rwa [show (cS).wd = 1 from rfl, Nat.mul_one, Nat.add_zero] at h1)
      clear hc
      have hki : ((k : Int) < (n : Int)) := by omega
      cases hnm : isName x.files[k]
      · have HB := Lib.hid (show isSite x = false by rw [HE.out, allTo_bad hkx (siteAt_name hkx hnm)]; rfl)
        go_wp2_with (first | (go_at_call 74; refine (implName_any _ _ (by assumption)).mono ?_; rintro e w1 ⟨rfl, rfl⟩))
        go_ret
        exact ⟨ret_bool HB.out.symm, (by repeat (first | with_reducible exact Below.refl _ _ | with_reducible assumption | with_reducible refine bel_alloc ?_ _ | with_reducible refine bel_drew ?_ | with_reducible refine bel_drewN ?_ _ | (with_reducible refine bel_set ?_ ?_ _; rotate_left; ((try simp); (try omega)))))⟩
      · cases k with
        | zero =>
          have hz : siteAt x.files 0 = true := by rw [siteAt_zero hkx]; exact hnm
          have HZ := Lib.hid hz
          clear hz
          replace q0 : wr.cell? ⟨g, o, none⟩ = some (.string x.files[0]) := q0
          go_wp2_with (first | (go_at_call 74; refine (implName_any _ _ (by assumption)).mono ?_; rintro e w1 ⟨rfl, rfl⟩))
          go_roundw
          case rel => exact ⟨1, by omega, by go_num, by rw [allTo_succ, HZ.out]; rfl, hB⟩
          case measure => simp [intOf]; omega
        | succ j =>
          have hjx : j < x.files.length := by omega
          have HG := Lib.hid (siteAt_succ hkx (Nat.succ_pos j) (by simpa using hjx))
          obtain ⟨g', o', vs', F1', eA, -, hx', -, hc'⟩ := cL_get (hw := by decide) (hw2 := by decide) (Cod.bel m2 hbw) hjx
          injection eA with eA
          injection eA with e1 e2
          subst e1
          subst e2
          obtain ⟨rfl, -, hk1'⟩ := hx'
          have q1 : wr.cell? ⟨g, o + j, none⟩ = some _ := (by have h1 := (hc' 0 _ rfl).1; rwa [show (cS).wd = 1 from rfl, Nat.mul_one, Nat.add_zero] at h1)
          clear hc'
          have htr := strLess_turn x.files[j + 1] x.files[j]
          cases hl : strLess x.files[j] x.files[j + 1]
          · rw [hl, Bool.not_false] at htr
            have HB := Lib.hid (show isSite x = false by rw [HE.out, allTo_bad hkx (by rw [HG.out]; simp [hl])]; rfl)
            go_wp2_with (first | (go_at_call 74; refine (implName_any _ _ (by assumption)).mono ?_; rintro e w1 ⟨rfl, rfl⟩))
            go_ret
            exact ⟨ret_bool HB.out.symm, (by repeat (first | with_reducible exact Below.refl _ _ | with_reducible assumption | with_reducible refine bel_alloc ?_ _ | with_reducible refine bel_drew ?_ | with_reducible refine bel_drewN ?_ _ | (with_reducible refine bel_set ?_ ?_ _; rotate_left; ((try simp); (try omega)))))⟩
          · rw [hl, Bool.not_true] at htr
            have HZ := Lib.hid (show siteAt x.files (j + 1) = true by rw [HG.out]; simp [hl, hnm])
            go_wp2_with (first | (go_at_call 74; refine (implName_any _ _ (by assumption)).mono ?_; rintro e w1 ⟨rfl, rfl⟩))
            go_roundw
            case rel => exact ⟨j + 2, by omega, by go_num, by rw [allTo_succ, HZ.out, HO.out]; rfl, hB⟩
            case measure => simp [intOf]; omega
    · obtain rfl : k = n := by omega
      have HH := Lib.hid (show isSite x = (isName x.name && inR x.ver 1 1000000000000 && inR k 1 6) by rw [HE.out, HN.out, HO.out]; rfl)
      go_wp2_with (first | (go_at_call 74; refine (implName_any _ _ (by assumption)).mono ?_; rintro e w1 ⟨rfl, rfl⟩) | (go_at_call 66; refine (inRange_any _ _ _ _).mono ?_; rintro e w1 ⟨rfl, rfl⟩))
      all_goals go_ret
      all_goals exact ⟨ret_bool (by rw [HH.out]; simp [*]), (by repeat (first | with_reducible exact Below.refl _ _ | with_reducible assumption | with_reducible refine bel_alloc ?_ _ | with_reducible refine bel_drew ?_ | with_reducible refine bel_drewN ?_ _ | (with_reducible refine bel_set ?_ ?_ _; rotate_left; ((try simp); (try omega)))))⟩
set_option maxRecDepth 100000 in
set_option maxHeartbeats 4000000 in
theorem specIsSite_any (vs : Array Value) (x : TSite) (F : List Nat) (w : World) (h : cSite.rep w vs.toList x F) (hn : cSite.sz x ≤ 1048576) :
    Calls Try.prog 81 #[.agg vs] w (Gives w (.bool (isSite x))) := by
  obtain ⟨v2, F2, rfl, -, hok, m2⟩ := TSite.outA h
  clear h
  obtain ⟨A, cp, e2⟩ := cL_form m2
  subst e2
  obtain ⟨-, hcp, hm⟩ := cL_len m2
  have HE := Lib.hid (show isSite x = (allTo (siteAt x.files) x.files.length && isName x.name && inR x.ver 1 1000000000000 && inR x.files.length 1 6) from rfl)
  obtain ⟨n, hxn⟩ : ∃ n, x.files.length = n := ⟨_, rfl⟩
  have HN := Lib.hid hxn
  rw [hxn] at hcp ⊢
  clear hxn
  unfold maxLen at hm
  obtain ⟨hs0, hv0⟩ := hok
  go_enter Try.func81, Try.ntmps81
  go_wp2
  generalize hW : World.alloc _ _ = W
  have hWs : W.heap.size = w.heap.size + 1 := by rw [← hW]; clear hW; simp
  have hbW : Below w.heap.size w W := by rw [← hW]; exact (by repeat (first | with_reducible exact Below.refl _ _ | with_reducible assumption | with_reducible refine bel_alloc ?_ _ | with_reducible refine bel_drew ?_ | with_reducible refine bel_drewN ?_ _ | (with_reducible refine bel_set ?_ ?_ _; rotate_left; ((try simp); (try omega)))))
  have HK := Lib.hid (show W.cell? ⟨w.heap.size, 0, none⟩ = some (.string x.name) ∧ W.cell? ⟨w.heap.size, 1, none⟩ = some (.int .i64 x.ver) ∧ W.cell? ⟨w.heap.size, 2, none⟩ = some (.slice A n cp) ∧ W.cell? ⟨w.heap.size, 3, none⟩ = some (.bool x.shared) from by refine ⟨?_, ?_, ?_, ?_⟩ <;> (rw [← hW]; clear hW; go_simp))
  clear hW
  go_loopw [3] (fun i wr => ∃ k : Nat, k ≤ n ∧ i = .int .i64 k ∧ allTo (siteAt x.files) k = true ∧ Below W.heap.size W wr) (fun i _ => n - (intOf i).toNat)
  case atStart => exact ⟨0, Nat.zero_le _, rfl, allTo_zero _, Below.refl _ _⟩
  case round =>
    obtain ⟨k, hk, rfl, hno, hB⟩ := hrel
    have HO := Lib.hid hno
    clear hno
    have hws_wr : w.heap.size < wr.heap.size := by have := hB.size; omega
    have hbw : Below w.heap.size w wr := bel_then hbW hB
    have k0_wr : wr.cell? ⟨w.heap.size, 0, none⟩ = some (.string x.name) := (hB.cell (p := ⟨w.heap.size, 0, none⟩) (by (try simp); (try omega))).trans HK.out.1
    have k1_wr : wr.cell? ⟨w.heap.size, 1, none⟩ = some (.int .i64 x.ver) := (hB.cell (p := ⟨w.heap.size, 1, none⟩) (by (try simp); (try omega))).trans HK.out.2.1
    have k2_wr : wr.cell? ⟨w.heap.size, 2, none⟩ = some (.slice A n cp) := (hB.cell (p := ⟨w.heap.size, 2, none⟩) (by (try simp); (try omega))).trans HK.out.2.2.1
    have k3_wr : wr.cell? ⟨w.heap.size, 3, none⟩ = some (.bool x.shared) := (hB.cell (p := ⟨w.heap.size, 3, none⟩) (by (try simp); (try omega))).trans HK.out.2.2.2
    by_cases hlt : k < n
    · have hkx : k < x.files.length := by rw [HN.out]; exact hlt
      obtain ⟨g, o, vs, F1, rfl, hgF, hx, -, hc⟩ := cL_get (hw := by decide) (hw2 := by decide) (Cod.bel m2 hbw) hkx
      obtain ⟨rfl, -, hk1⟩ := hx
      have q0 : wr.cell? ⟨g, o + k, none⟩ = some _ := (by have h1 := (hc 0 _ rfl).1; rwa [show (cS).wd = 1 from rfl, Nat.mul_one, Nat.add_zero] at h1)
      clear hc
      have hki : ((k : Int) < (n : Int)) := by omega
      have hcn := fun W : World => specName_any x.files[k] W (by assumption)
      cases hnm : isName x.files[k]
      · rw [hnm] at hcn
        have HB := Lib.hid (show isSite x = false by rw [HE.out, allTo_bad hkx (siteAt_name hkx hnm)]; rfl)
        go_wp2_with fail
        go_quiet (first | (go_at_call 126; first | exact quiet_left (hcn _) | exact quiet_add_left (hcn _)))
        go_wp2_with fail
        go_ret
        exact ⟨ret_bool HB.out.symm, (by repeat (first | with_reducible exact Below.refl _ _ | with_reducible assumption | with_reducible refine bel_alloc ?_ _ | with_reducible refine bel_drew ?_ | with_reducible refine bel_drewN ?_ _ | (with_reducible refine bel_set ?_ ?_ _; rotate_left; ((try simp); (try omega)))))⟩
      · rw [hnm] at hcn
        cases k with
        | zero =>
          have hz : siteAt x.files 0 = true := by rw [siteAt_zero hkx]; exact hnm
          have HZ := Lib.hid hz
          clear hz
          replace q0 : wr.cell? ⟨g, o, none⟩ = some (.string x.files[0]) := q0
          replace hki : (0 : Int) < n := hki
          go_wp2_with fail
          go_quiet (first | (go_at_call 126; first | exact quiet_left (hcn _) | exact quiet_add_left (hcn _)))
          go_wp2_with fail
          go_roundw
          case rel => exact ⟨1, by omega, by go_num, by rw [allTo_succ, HZ.out]; rfl, bel_drewN hB _⟩
          case measure => simp [intOf]; omega
        | succ j =>
          have hjx : j < x.files.length := by omega
          have HG := Lib.hid (siteAt_succ hkx (Nat.succ_pos j) (by simpa using hjx))
          obtain ⟨g', o', vs', F1', eA, -, hx', -, hc'⟩ := cL_get (hw := by decide) (hw2 := by decide) (Cod.bel m2 hbw) hjx
          injection eA with eA
          injection eA with e1 e2
          subst e1
          subst e2
          obtain ⟨rfl, -, hk1'⟩ := hx'
          have q1 : wr.cell? ⟨g, o + j, none⟩ = some _ := (by have h1 := (hc' 0 _ rfl).1; rwa [show (cS).wd = 1 from rfl, Nat.mul_one, Nat.add_zero] at h1)
          clear hc'
          have hd1 : decide ((0 : Int) < (j : Int) + 1) = true := decide_eq_true (by omega)
          have hjn : ((j : Int) < (n : Int)) := by omega
          replace hki : ((j : Int) + 1 < (n : Int)) := by omega
          cases hl : Op.bytesLess x.files[j].toList x.files[j + 1].toList
          · have HB := Lib.hid (show isSite x = false by rw [HE.out, allTo_bad hkx (by rw [HG.out]; simp [strLess, hl])]; rfl)
            go_wp2_with fail
            go_quiet (first | (go_at_call 126; first | exact quiet_left (hcn _) | exact quiet_add_left (hcn _)))
            go_wp2_with fail
            go_ret
            exact ⟨ret_bool HB.out.symm, (by repeat (first | with_reducible exact Below.refl _ _ | with_reducible assumption | with_reducible refine bel_alloc ?_ _ | with_reducible refine bel_drew ?_ | with_reducible refine bel_drewN ?_ _ | (with_reducible refine bel_set ?_ ?_ _; rotate_left; ((try simp); (try omega)))))⟩
          · have HZ := Lib.hid (show siteAt x.files (j + 1) = true by rw [HG.out]; simp [strLess, hl, hnm])
            go_wp2_with fail
            go_quiet (first | (go_at_call 126; first | exact quiet_left (hcn _) | exact quiet_add_left (hcn _)))
            go_wp2_with fail
            go_roundw
            case rel => exact ⟨j + 2, by omega, by go_num, by rw [allTo_succ, HZ.out, HO.out]; rfl, bel_drewN hB _⟩
            case measure => simp [intOf]; omega
    · obtain rfl : k = n := by omega
      have HH := Lib.hid (show isSite x = (isName x.name && inR x.ver 1 1000000000000 && inR k 1 6) by rw [HE.out, HN.out, HO.out]; rfl)
      go_wp2_with (first | (go_at_call 126; refine (specName_any _ _ (by assumption)).mono ?_; rintro e w1 ⟨rfl, rfl⟩) | (go_at_call 83; refine (l1In_any _ _ _ _).mono ?_; rintro e w1 ⟨rfl, rfl⟩))
      all_goals go_ret
      all_goals exact ⟨ret_bool (by rw [HH.out]; simp [*]), (by repeat (first | with_reducible exact Below.refl _ _ | with_reducible assumption | with_reducible refine bel_alloc ?_ _ | with_reducible refine bel_drew ?_ | with_reducible refine bel_drewN ?_ _ | (with_reducible refine bel_set ?_ ?_ _; rotate_left; ((try simp); (try omega)))))⟩
end Go.Proofs.Ytlicnppfgfjkgaa
