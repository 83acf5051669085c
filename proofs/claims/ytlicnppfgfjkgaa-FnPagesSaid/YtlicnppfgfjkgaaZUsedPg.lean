/-
  UsedVersions of both packages; rows of numbers compared; DrawUsedVersions. No conditions but the sizes of the law.
-/
import Derived.Test.YtlicnppfgfjkgaaZDrawLoad
import Derived.Test.YtlicnppfgfjkgaaZA
namespace Go.Proofs.Ytlicnppfgfjkgaa
open Go.ChangeShapes Go.WideShapes Go.RowKit
set_option linter.unusedVariables false

def cPageS : Cod (List TPage) := cL cPage (by decide) (by decide)
def usedTo (l : List TPage) (site : ByteArray) (k : Nat) : List Int := ((l.take k).filter fun p => strEq p.site site).map fun p => p.ver
theorem usedTo_len (l : List TPage) (site : ByteArray) (k : Nat) : (usedTo l site k).length ≤ k := by
  unfold usedTo
  rw [List.length_map]
  exact Nat.le_trans (List.length_filter_le _ _) (List.length_take_le k l)
theorem usedTo_yes {l : List TPage} {site : ByteArray} {k : Nat} (h : k < l.length) (e : (l[k].site.toList == site.toList) = true) : usedTo l site (k + 1) = usedTo l site k ++ [l[k].ver] := by
  unfold usedTo
  rw [List.take_succ_eq_append_getElem h, List.filter_append, List.map_append]
  simp [List.filter, strEq, e]
theorem usedTo_no {l : List TPage} {site : ByteArray} {k : Nat} (h : k < l.length) (e : (l[k].site.toList == site.toList) = false) : usedTo l site (k + 1) = usedTo l site k := by
  unfold usedTo
  rw [List.take_succ_eq_append_getElem h, List.filter_append, List.map_append]
  simp [List.filter, strEq, e]
set_option maxRecDepth 100000 in
set_option maxHeartbeats 4000000 in
theorem implUsedVersions_any (v : Value) (l : List TPage) (site : ByteArray) (F : List Nat) (w : World) (h : cPageS.rep w [v] l F) (hn : l.length ≤ 1048576) (hst : site.size ≤ maxLen) :
    Calls Try.prog 23 #[v, .string site] w (GivesS cIS w (usedTo l site l.length)) := by
  obtain ⟨i0, hi0, hz0, hz1, hz2⟩ := info_parts infoInt
  obtain ⟨A, cp, rfl⟩ := cL_form h
  obtain ⟨-, hcp, hm⟩ := cL_len h
  obtain ⟨n, hxn⟩ : ∃ n, l.length = n := ⟨_, rfl⟩
  have HN := Lib.hid hxn
  rw [hxn] at hcp hn ⊢
  have HR := Lib.hid h
  clear hxn h
  unfold maxLen at hm
  go_enter Try.func23, Try.ntmps23
  go_wp2_with fail
  generalize hW : World.alloc w _ = W
  have hbW : Below w.heap.size w W := by rw [← hW]; exact bel_oneP _ _
  clear hW
  go_loopw [5, 11] (fun o i wr => ∃ k : Nat, k ≤ n ∧ i = .int .i64 k ∧ (∃ us : List Int, us = usedTo l site k ∧ Own cI 3 w.heap.size wr o us []) ∧ Below w.heap.size w wr) (fun _ i _ => n - (intOf i).toNat)
  case atStart => exact ⟨0, Nat.zero_le _, rfl, ⟨[], rfl, Own.empty _⟩, hbW⟩
  case round =>
    obtain ⟨k, hk, rfl, ⟨us, hus, hown⟩, hB⟩ := hrel
    have HU := Lib.hid hus
    have HO := Lib.hid hown
    have hul : us.length ≤ k := by rw [hus]; exact usedTo_len l site k
    clear hus hown
    have hwr := hB.size
    by_cases hlt : k < n
    · have hkx : k < l.length := by rw [HN.out]; exact hlt
      have hki : ((k : Int) < (n : Int)) := by omega
      have hk0 : (0 : Int) ≤ (k : Int) := by omega
      obtain ⟨g, o, vs, G1, rfl, hg, hx, -, hc⟩ := cL_get (hw := by decide) (hw2 := by decide) (Cod.bel HR.out hB) hkx
      obtain ⟨v4, v5, v7, F4, F5, F7, rfl, -, hok, m4, m5, m7⟩ := TPage.out hx
      obtain ⟨A4, c4, rfl⟩ := cL_form m4
      obtain ⟨A5, c5, rfl⟩ := cL_form m5
      obtain ⟨A7, c7, rfl⟩ := cL_form m7
      have hgw : g < wr.heap.size := Cod.lt _ (Cod.bel HR.out hB) g hg
      have p0 : wr.cell? ⟨g, o + k * 11, none⟩ = some (.int .i64 l[k].id) := (hc 0 _ rfl).1
      have p1 : wr.cell? ⟨g, o + k * 11 + 1, none⟩ = some (.string l[k].site) := (hc 1 _ rfl).1
      have p2 : wr.cell? ⟨g, o + k * 11 + 2, none⟩ = some (.string l[k].top) := (hc 2 _ rfl).1
      have p3 : wr.cell? ⟨g, o + k * 11 + 3, none⟩ = some (.int .i64 l[k].ver) := (hc 3 _ rfl).1
      have p4 : wr.cell? ⟨g, o + k * 11 + 4, none⟩ = some (.slice A4 l[k].loaded.length c4) := (hc 4 _ rfl).1
      have p5 : wr.cell? ⟨g, o + k * 11 + 5, none⟩ = some (.slice A5 l[k].mach.script.length c5) := (hc 5 _ rfl).1
      have p6 : wr.cell? ⟨g, o + k * 11 + 6, none⟩ = some (.int .i64 l[k].mach.pc) := (hc 6 _ rfl).1
      have p7 : wr.cell? ⟨g, o + k * 11 + 7, none⟩ = some (.slice A7 l[k].mach.regs.length c7) := (hc 7 _ rfl).1
      have p8 : wr.cell? ⟨g, o + k * 11 + 8, none⟩ = some (.int .i64 l[k].mach.steps) := (hc 8 _ rfl).1
      have p9 : wr.cell? ⟨g, o + k * 11 + 9, none⟩ = some (.bool l[k].mach.done) := (hc 9 _ rfl).1
      have p10 : wr.cell? ⟨g, o + k * 11 + 10, none⟩ = some (.bool l[k].mach.wait) := (hc 10 _ rfl).1
      have hvr := hok.h3
      have hsz := hok.h1
      clear hc hx m4 m5 m7 hok hg
      cases e1 : (l[k].site.toList == site.toList)
      · have hst2 := usedTo_no hkx e1
        go_wp2_with fail
        go_roundw
        case rel => exact ⟨k + 1, by omega, by go_num, ⟨us, by rw [HU.out, hst2], HO.out.bel (by repeat (first | with_reducible exact Below.refl _ _ | with_reducible assumption | with_reducible refine bel_alloc ?_ _ | with_reducible refine bel_drew ?_ | with_reducible refine bel_drewN ?_ _ | (with_reducible refine bel_set ?_ ?_ _; rotate_left; ((try simp); (try omega)))))⟩, (by repeat (first | with_reducible exact Below.refl _ _ | with_reducible assumption | with_reducible refine bel_alloc ?_ _ | with_reducible refine bel_drew ?_ | with_reducible refine bel_drewN ?_ _ | (with_reducible refine bel_set ?_ ?_ _; rotate_left; ((try simp); (try omega)))))⟩
        case measure => simp [intOf]; omega
      · have hst2 := usedTo_yes hkx e1
        generalize l[k].ver = ver at *
        go_wp2_with (at_builtin; refine wpList_app (c := cI) (B := w.heap.size) (xs := us) (ys := [ver]) (Fi := []) (Fy := []) _ rfl _ _ _ rfl i0 _ _ Try.underlying26 hi0 hz0 hz1 hz2 rfl (by decide) rfl (HO.out.bel (by repeat (first | with_reducible exact Below.refl _ _ | with_reducible assumption | with_reducible refine bel_alloc ?_ _ | with_reducible refine bel_drew ?_ | with_reducible refine bel_drewN ?_ _ | (with_reducible refine bel_set ?_ ?_ _; rotate_left; ((try simp); (try omega)))))) (.slice (some ⟨wr.heap.size + 1, 0, none⟩) 1 1) rfl (src_new 3 (wr.heap.size + 1) (by simp) ⟨rfl, rfl, hvr⟩) (by unfold maxLen; simp; omega) (by simp; omega) (by (try simp); (try omega)) (by simp) ?_)
        intro v3 w3 ho3 hg3 hat3
        have hlo := HO.out.lt
        have hB3 : Below w.heap.size w w3 := (show Below w.heap.size w _ from (by repeat (first | with_reducible exact Below.refl _ _ | with_reducible assumption | with_reducible refine bel_alloc ?_ _ | with_reducible refine bel_drew ?_ | with_reducible refine bel_drewN ?_ _ | (with_reducible refine bel_set ?_ ?_ _; rotate_left; ((try simp); (try omega)))))).grown hg3 (by (try simp); omega) (fun g hg => (hlo g hg).1)
        have HO3 := Lib.hid ho3
        clear ho3 hg3 hat3 hlo
        go_wp2_with fail
        go_roundw
        case rel => exact ⟨k + 1, by omega, by go_num, ⟨us ++ [ver], by rw [HU.out, hst2], HO3.out⟩, hB3⟩
        case measure => simp [intOf]; omega
    · obtain rfl : k = n := by omega
      obtain ⟨G, hr2, hf2, -⟩ := HO.out.fresh (hw := by decide) (hw2 := by decide)
      have HR2 := Lib.hid hr2
      clear hr2
      go_wp2_with fail
      go_ret
      exact ⟨_, G, rfl, hB, by rw [← HU.out]; exact HR2.out, hf2⟩
set_option maxRecDepth 100000 in
set_option maxHeartbeats 4000000 in
theorem specUsedVersions_any (v : Value) (l : List TPage) (site : ByteArray) (F : List Nat) (w : World) (h : cPageS.rep w [v] l F) (hn : l.length ≤ 1048576) (hst : site.size ≤ maxLen) :
    Calls Try.prog 24 #[v, .string site] w (GivesS cIS w (usedTo l site l.length)) := by
  obtain ⟨i0, hi0, hz0, hz1, hz2⟩ := info_parts infoInt
  obtain ⟨A, cp, rfl⟩ := cL_form h
  obtain ⟨-, hcp, hm⟩ := cL_len h
  obtain ⟨n, hxn⟩ : ∃ n, l.length = n := ⟨_, rfl⟩
  have HN := Lib.hid hxn
  rw [hxn] at hcp hn ⊢
  have HR := Lib.hid h
  clear hxn h
  unfold maxLen at hm
  go_enter Try.func24, Try.ntmps24
  go_wp2_with fail
  generalize hW : World.alloc w _ = W
  have hbW : Below w.heap.size w W := by rw [← hW]; exact bel_oneP _ _
  clear hW
  go_loopw [5, 6] (fun o i wr => ∃ k : Nat, k ≤ n ∧ i = .int .i64 k ∧ (∃ us : List Int, us = usedTo l site k ∧ Own cI 3 w.heap.size wr o us []) ∧ Below w.heap.size w wr) (fun _ i _ => n - (intOf i).toNat)
  case atStart => exact ⟨0, Nat.zero_le _, rfl, ⟨[], rfl, Own.empty _⟩, hbW⟩
  case round =>
    obtain ⟨k, hk, rfl, ⟨us, hus, hown⟩, hB⟩ := hrel
    have HU := Lib.hid hus
    have HO := Lib.hid hown
    have hul : us.length ≤ k := by rw [hus]; exact usedTo_len l site k
    clear hus hown
    have hwr := hB.size
    by_cases hlt : k < n
    · have hkx : k < l.length := by rw [HN.out]; exact hlt
      have hki : ((k : Int) < (n : Int)) := by omega
      have hk0 : (0 : Int) ≤ (k : Int) := by omega
      obtain ⟨g, o, vs, G1, rfl, hg, hx, -, hc⟩ := cL_get (hw := by decide) (hw2 := by decide) (Cod.bel HR.out hB) hkx
      obtain ⟨v4, v5, v7, F4, F5, F7, rfl, -, hok, m4, m5, m7⟩ := TPage.out hx
      obtain ⟨A4, c4, rfl⟩ := cL_form m4
      obtain ⟨A5, c5, rfl⟩ := cL_form m5
      obtain ⟨A7, c7, rfl⟩ := cL_form m7
      have hgw : g < wr.heap.size := Cod.lt _ (Cod.bel HR.out hB) g hg
      have p1 : wr.cell? ⟨g, o + k * 11 + 1, none⟩ = some (.string l[k].site) := (hc 1 _ rfl).1
      have p3 : wr.cell? ⟨g, o + k * 11 + 3, none⟩ = some (.int .i64 l[k].ver) := (hc 3 _ rfl).1
      have hvr := hok.h3
      have hsz := hok.h1
      clear hc hx m4 m5 m7 hok hg
      cases e1 : (l[k].site.toList == site.toList)
      · have hst2 := usedTo_no hkx e1
        go_wp2_with fail
        go_roundw
        case rel => exact ⟨k + 1, by omega, by go_num, ⟨us, by rw [HU.out, hst2], HO.out.bel (by repeat (first | with_reducible exact Below.refl _ _ | with_reducible assumption | with_reducible refine bel_alloc ?_ _ | with_reducible refine bel_drew ?_ | with_reducible refine bel_drewN ?_ _ | (with_reducible refine bel_set ?_ ?_ _; rotate_left; ((try simp); (try omega)))))⟩, (by repeat (first | with_reducible exact Below.refl _ _ | with_reducible assumption | with_reducible refine bel_alloc ?_ _ | with_reducible refine bel_drew ?_ | with_reducible refine bel_drewN ?_ _ | (with_reducible refine bel_set ?_ ?_ _; rotate_left; ((try simp); (try omega)))))⟩
        case measure => simp [intOf]; omega
      · have hst2 := usedTo_yes hkx e1
        generalize l[k].ver = ver at *
        go_wp2_with (at_builtin; refine wpList_app (c := cI) (B := w.heap.size) (xs := us) (ys := [ver]) (Fi := []) (Fy := []) _ rfl _ _ _ rfl i0 _ _ Try.underlying26 hi0 hz0 hz1 hz2 rfl (by decide) rfl (HO.out.bel (by repeat (first | with_reducible exact Below.refl _ _ | with_reducible assumption | with_reducible refine bel_alloc ?_ _ | with_reducible refine bel_drew ?_ | with_reducible refine bel_drewN ?_ _ | (with_reducible refine bel_set ?_ ?_ _; rotate_left; ((try simp); (try omega)))))) (.slice (some ⟨wr.heap.size, 0, none⟩) 1 1) rfl (src_new 3 (wr.heap.size) (by simp) ⟨rfl, rfl, hvr⟩) (by unfold maxLen; simp; omega) (by simp; omega) (by (try simp); (try omega)) (by simp) ?_)
        intro v3 w3 ho3 hg3 hat3
        have hlo := HO.out.lt
        have hB3 : Below w.heap.size w w3 := (show Below w.heap.size w _ from (by repeat (first | with_reducible exact Below.refl _ _ | with_reducible assumption | with_reducible refine bel_alloc ?_ _ | with_reducible refine bel_drew ?_ | with_reducible refine bel_drewN ?_ _ | (with_reducible refine bel_set ?_ ?_ _; rotate_left; ((try simp); (try omega)))))).grown hg3 (by (try simp); omega) (fun g hg => (hlo g hg).1)
        have HO3 := Lib.hid ho3
        clear ho3 hg3 hat3 hlo
        go_wp2_with fail
        go_roundw
        case rel => exact ⟨k + 1, by omega, by go_num, ⟨us ++ [ver], by rw [HU.out, hst2], HO3.out⟩, hB3⟩
        case measure => simp [intOf]; omega
    · obtain rfl : k = n := by omega
      obtain ⟨G, hr2, hf2, -⟩ := HO.out.fresh (hw := by decide) (hw2 := by decide)
      have HR2 := Lib.hid hr2
      clear hr2
      go_wp2_with fail
      go_ret
      exact ⟨_, G, rfl, hB, by rw [← HU.out]; exact HR2.out, hf2⟩
set_option maxHeartbeats 2000000 in
theorem sameInts_any (v1 v2 : Value) (xs : List Int) (F1 F2 : List Nat) (w : World) (h1 : cIS.rep w [v1] xs F1) (h2 : cIS.rep w [v2] xs F2) :
    Calls Try.prog 22 #[v1, v2] w (Gives w (.bool true)) := by
  obtain ⟨A, cp, rfl⟩ := cL_form h1
  obtain ⟨B, cq, rfl⟩ := cL_form h2
  obtain ⟨-, hcp, hm⟩ := cL_len h1
  obtain ⟨-, hcp2, hm2⟩ := cL_len h2
  obtain ⟨n, hxn⟩ : ∃ n, xs.length = n := ⟨_, rfl⟩
  have HN := Lib.hid hxn
  rw [hxn] at hcp hcp2 ⊢
  clear hxn
  unfold maxLen at hm hm2
  go_enter Try.func22, Try.ntmps22
  go_wp2
  go_loopw [5] (fun i wr => ∃ k : Nat, k ≤ n ∧ i = .int .i64 k ∧ Below w.heap.size w wr) (fun i _ => n - (intOf i).toNat)
  case atStart => exact ⟨0, Nat.zero_le _, rfl, Below.refl _ _⟩
  case round =>
    obtain ⟨k, hk, rfl, hB⟩ := hrel
    by_cases hlt : k < n
    · have hkx : k < xs.length := by rw [HN.out]; exact hlt
      obtain ⟨g, o, vs, G1, rfl, -, hx, -, hc⟩ := cL_get (hw := by decide) (hw2 := by decide) (Cod.bel h1 hB) hkx
      obtain ⟨g2, o2, vs2, G2, rfl, -, hx2, -, hc2⟩ := cL_get (hw := by decide) (hw2 := by decide) (Cod.bel h2 hB) hkx
      obtain ⟨rfl, -, -⟩ := hx
      obtain ⟨rfl, -, -⟩ := hx2
      have q0 : wr.cell? ⟨g, o + k, none⟩ = some _ := (by have h1 := (hc 0 _ rfl).1; rwa [show (cI).wd = 1 from rfl, Nat.mul_one, Nat.add_zero] at h1)
      have r0 : wr.cell? ⟨g2, o2 + k, none⟩ = some _ := (by have h1 := (hc2 0 _ rfl).1; rwa [show (cI).wd = 1 from rfl, Nat.mul_one, Nat.add_zero] at h1)
      clear hc hc2
      generalize xs[k] = x at *
      have hki : ((k : Int) < (n : Int)) := by omega
      have hne : (x != x) = false := by simp
      go_wp2
      go_quiet (fail)
      go_wp2
      go_roundw
      case rel => exact ⟨k + 1, by omega, by go_num, bel_drewN hB _⟩
      case measure => simp [intOf]; omega
    · obtain rfl : k = n := by omega
      go_wp2
      go_ret
      exact ⟨rfl, hB⟩
end Go.Proofs.Ytlicnppfgfjkgaa
