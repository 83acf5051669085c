/-
  ParseInstr of the reference. The conditions: a length, and that the library's variables hold what its text lays.
-/
import Derived.Test.YtlicnppfgfjkgaaDoorZA
import Derived.Test.YtlicnppfgfjkgaaDoorZFmtInsS
import Derived.Test.YtlicnppfgfjkgaaDoorZDrawW
import Derived.Test.YtlicnppfgfjkgaaDoorZInsBox
import Derived.Deep.CutRange
import Derived.Test.YtlicnppfgfjkgaaDoorZSetRet
namespace Go.Proofs.YtlicnppfgfjkgaaDoor
open Go.ChangeShapes Go.WideShapes Go.RowKit
set_option linter.unusedVariables false

theorem kindTo_hit {w : List UInt8} {k : Nat} (h1 : 1 ≤ k) (h : wordL (k : Int) = w) : kindTo w (k + 1 - 1) = k := by
  obtain ⟨j, rfl⟩ : ∃ j, k = j + 1 := ⟨k - 1, by omega⟩
  show kindTo w (j + 1) = _
  unfold kindTo; rw [if_pos h]
theorem kindTo_miss {w : List UInt8} {k : Nat} (h1 : 1 ≤ k) (h : wordL (k : Int) ≠ w) : kindTo w (k + 1 - 1) = kindTo w (k - 1) := by
  obtain ⟨j, rfl⟩ : ∃ j, k = j + 1 := ⟨k - 1, by omega⟩
  show kindTo w (j + 1) = _
  conv => lhs; unfold kindTo
  rw [if_neg h]; rfl
theorem numsOf_none {p : List UInt8} {ps : List (List UInt8)} (h : parseNum p = none) : numsOf (p :: ps) = ([], p) := by simp [numsOf, h]
theorem numsOf_some {p : List UInt8} {ps : List (List UInt8)} {m : Nat} (h : parseNum p = some m) : numsOf (p :: ps) = ((m : Int) :: (numsOf ps).1, (numsOf ps).2) := by simp [numsOf, h]
theorem numsOf_range : ∀ (ps : List (List UInt8)) (x : Int), x ∈ (numsOf ps).1 → 0 ≤ x ∧ x ≤ 1000000000000
  | [], x, h => by simp [numsOf] at h
  | p :: ps, x, h => by
    cases hp : parseNum p with
    | none => rw [numsOf_none hp] at h; simp at h
    | some m =>
      rw [numsOf_some hp] at h
      simp only [List.mem_cons] at h
      rcases h with rfl | h
      · have := (parseNum_some hp).1; omega
      · exact numsOf_range ps x h
theorem numsOf_text : ∀ (ps : List (List UInt8)), (numsOf ps).2 = [] ∨ (numsOf ps).2 ∈ ps
  | [] => .inl rfl
  | p :: ps => by
    cases hp : parseNum p with
    | none => rw [numsOf_none hp]; exact .inr (by simp)
    | some m =>
      rw [numsOf_some hp]
      rcases numsOf_text ps with h | h
      · exact .inl h
      · exact .inr (by simp [h])

set_option maxRecDepth 100000 in
set_option maxHeartbeats 8000000 in
theorem specParseInstr_any (s : ByteArray) (w : World) (hs : s.size ≤ 1048576) :
    Calls Tryd.prog 13 #[.string s] w fun e w' => e = .returned (.tuple #[(parseInstr s.data.toList).1.val, .bool (parseInstr s.data.toList).2]) ∧ Below w.heap.size w w' := by
  go_enter Tryd.func13, Tryd.ntmps13
  go_wp2_with fail
  refine (specSplit_any s 32 _ hs).mono ?_
  rintro e w1 ⟨v, F, rfl, hb1, hr1, hf1⟩
  have hlen := cut_len 32 s.data.toList
  have hp0 : ∀ p, p ∈ cut 32 s.data.toList → p.length ≤ 1048576 := fun p hp => by have := cut_piece 32 _ p hp; rw [← Lib.size_eq] at this; omega
  rw [← Lib.size_eq] at hlen
  have HC := Lib.hid (And.intro hp0 (show cut 32 s.data.toList ≠ [] from cut_ne 32 _))
  clear hp0
  obtain ⟨ps, hps⟩ : ∃ ps, cut 32 s.data.toList = ps := ⟨_, rfl⟩
  rw [hps] at hr1 HC hlen
  have HP := Lib.hid hps
  clear hps
  obtain ⟨A, cp, rfl⟩ := cL_form hr1
  have hz1 := hb1.size
  (try simp at hz1)
  have hs1 : w.heap.size < w1.heap.size := by omega
  have hB1 : Below w.heap.size w w1 := bel_then (by repeat (first | with_reducible exact Below.refl _ _ | with_reducible assumption | with_reducible refine bel_alloc ?_ _ | with_reducible refine bel_drew ?_ | with_reducible refine bel_drewN ?_ _ | (with_reducible refine bel_set ?_ ?_ _; rotate_left; ((try simp); (try omega))))) hb1
  have hr1l : ∀ b, b ∈ F → b < w1.heap.size := fun b hb => Cod.lt _ hr1 b hb
  have q0 : InsBox w1 w.heap.size 0 0 0 ⟨#[]⟩ := (InsBox.new w _ 0 0 0 ⟨#[]⟩).block (hb1.block w.heap.size (by simp))
  have HR := Lib.hid (And.intro hr1 (And.intro hr1l q0))
  clear hr1 hr1l q0 hb1 hf1
  go_wp2_with fail
  refine (specWords_any _).mono ?_
  rintro e w2 ⟨rfl, hb2, hcell⟩
  have hz2 := hb2.size
  (try simp at hz2)
  have hs2 : w.heap.size < w2.heap.size ∧ w1.heap.size < w2.heap.size ∧ w1.heap.size + 1 ≤ w2.heap.size := by omega
  have hB2 : Below w.heap.size w w2 := bel_then (by repeat (first | with_reducible exact Below.refl _ _ | with_reducible assumption | with_reducible refine bel_alloc ?_ _ | with_reducible refine bel_drew ?_ | with_reducible refine bel_drewN ?_ _ | (with_reducible refine bel_set ?_ ?_ _; rotate_left; ((try simp); (try omega))))) hb2
  have hb12 : Below w1.heap.size w1 w2 := bel_then (by repeat (first | with_reducible exact Below.refl _ _ | with_reducible assumption | with_reducible refine bel_alloc ?_ _ | with_reducible refine bel_drew ?_ | with_reducible refine bel_drewN ?_ _ | (with_reducible refine bel_set ?_ ?_ _; rotate_left; ((try simp); (try omega))))) hb2
  have x2 : InsBox w2 w1.heap.size 0 0 0 ⟨#[]⟩ := (InsBox.new w1 _ 0 0 0 ⟨#[]⟩).block (hb2.block w1.heap.size (by simp))
  have q2 : InsBox w2 w.heap.size 0 0 0 ⟨#[]⟩ := HR.out.2.2.block (hb12.block w.heap.size hs1)
  have hr2 := Cod.bel HR.out.1 hb12
  have hcl : ∀ k : Nat, 1 ≤ k → k ≤ 9 → w2.cell? ⟨w1.heap.size + 1, k, none⟩ = some (.string (baOf (wordL k))) := fun k h1 h9 => by have := hcell k h1 h9; simpa using this
  have hcl0 : w1.heap.size + 1 < w2.heap.size := by
    have h1 := hcl 1 (by decide) (by decide)
    unfold World.cell? at h1
    cases hh : w2.heap[w1.heap.size + 1]? with
    | none => simp [hh] at h1
    | some x => exact (Array.getElem?_eq_some_iff.1 hh).1
  have hFl := HR.out.2.1
  have H2 := Lib.hid (And.intro x2 (And.intro q2 (And.intro hr2 (And.intro hcl hFl))))
  clear HR hcell hb2 x2 q2 hr2 hcl hFl hb12
  obtain ⟨p0, hp0⟩ : ∃ p0, ps.headD [] = p0 := ⟨_, rfl⟩
  have H0 := Lib.hid hp0
  clear hp0
  have hn0 : 0 < ps.length := by
    have := HC.out.2
    cases ps with
    | nil => exact absurd rfl this
    | cons a l => simp
  obtain ⟨np, hnp⟩ : ∃ np, ps.length = np := ⟨_, rfl⟩
  have HNP := Lib.hid hnp
  rw [hnp] at hn0 hlen ⊢
  clear hnp
  go_wp2_with fail
  go_loopw [7] (fun i wr => ∃ k : Nat, i = .int .i64 k ∧ 1 ≤ k ∧ k ≤ 10 ∧ InsBox wr w1.heap.size (kindTo p0 (k - 1)) 0 0 ⟨#[]⟩ ∧ Only [w1.heap.size] w2 wr) (fun i _ => 10 - (intOf i).toNat)
  case atStart => exact ⟨1, rfl, by decide, by decide, H2.out.1, Only.refl _ _⟩
  case round =>
    obtain ⟨k, rfl, hk1, hk10, hx, hO⟩ := hrel
    have HX := Lib.hid hx
    clear hx
    have hszr := hO.size
    by_cases hlt : k < 10
    · have hki : (k : Int) < 10 := by omega
      have hki0 : (0 : Int) ≤ k := by omega
      have hnm : wr.cell? ⟨w1.heap.size + 1, k, none⟩ = some (.string (baOf (wordL k))) := (World.cell?_of_block (a := ⟨w1.heap.size + 1, k, none⟩) (hO.block (w1.heap.size + 1) hcl0 (by simp))).trans (H2.out.2.2.2.1 k hk1 (by omega))
      have hrr := Cod.only H2.out.2.2.1 hO (fun b hb hm => by have := H2.out.2.2.2.2 b hb; simp at hm; omega)
      obtain ⟨g, o, vs, F1, rfl, hgF, hxx, -, hc⟩ := cL_get (hw := by decide) (hw2 := by decide) hrr (show 0 < ps.length by rw [HNP.out]; exact hn0)
      obtain ⟨rfl, -, -⟩ := hxx
      have p0c : wr.cell? ⟨g, o, none⟩ = some _ := (by have h1 := (hc 0 _ rfl).1; simpa using h1)
      have hp00 : ps[0]'(by rw [HNP.out]; exact hn0) = p0 := by
        rw [← H0.out]; cases ps with
        | nil => exact absurd rfl HC.out.2
        | cons a l => rfl
      rw [hp00] at p0c
      clear hc hrr hp00
      obtain ⟨sw, hsw⟩ : ∃ q, baOf (wordL k) = q := ⟨_, rfl⟩
      obtain ⟨sp, hsp⟩ : ∃ q, baOf p0 = q := ⟨_, rfl⟩
      rw [hsw] at hnm
      rw [hsp] at p0c
      have HSW := Lib.hid (And.intro hsw hsp)
      clear hsw hsp
      have hkt : k - 1 + 1 = k := by omega
      cases hq : (sw.toList == sp.toList)
      · go_wp2_with fail
        go_quiet (fail)
        go_wp2_with fail
        go_roundw
        case rel => exact ⟨k + 1, by go_num, by omega, by omega, by
          rw [kindTo_miss hk1 (fun e => by rw [← HSW.out.1, ← HSW.out.2, e] at hq; simp at hq)]
          exact HX.out.block rfl, hO.drewN _⟩
        case measure => simp [intOf]; omega
      · go_wp2_with fail
        go_quiet (fail)
        have hf0 : wr.frozen? ⟨w1.heap.size, 0, none⟩ = false := HX.out.f0
        have hx0 := HX.out.c0
        go_wp2_with fail
        go_roundw
        case rel => exact ⟨k + 1, by go_num, by omega, by omega, by
          rw [kindTo_hit hk1 (by rw [Lib.toList_data, Lib.toList_data, ← HSW.out.1, ← HSW.out.2] at hq; exact eq_of_beq hq)]
          exact InsBox.set0 (w := wr.drewN _) (HX.out.block rfl) _, (hO.drewN _).set_ (by simp) _⟩
        case measure => simp [intOf]; omega
    · have hki : ¬ ((k : Int) < 10) := by omega
      obtain ⟨wx, rfl⟩ : ∃ q : World, q = wr := ⟨_, rfl⟩
      obtain ⟨kd, hkd⟩ : ∃ q, kindTo p0 9 = q := ⟨_, rfl⟩
      have hx9 : InsBox wx w1.heap.size kd 0 0 ⟨#[]⟩ := by rw [← hkd, show (9 : Nat) = k - 1 by omega]; exact HX.out
      have hkr := kindTo_range p0 9
      rw [hkd] at hkr
      have HKD := Lib.hid hkd
      have hrr := Cod.only H2.out.2.2.1 hO (fun b hb hm => by have := H2.out.2.2.2.2 b hb; simp at hm; omega)
      have q9 : InsBox wx w.heap.size 0 0 0 ⟨#[]⟩ := H2.out.2.1.block (hO.block w.heap.size (by omega) (by simp; omega))
      have hFl := H2.out.2.2.2.2
      have hBr : Below w.heap.size w wx := ⟨hO.os.trans hB2.os, hO.tape.trans hB2.tape, hO.output.trans hB2.output, by omega, fun b hb => (hO.block b (by omega) (by simp; omega)).trans (hB2.block b hb)⟩
      have H9 := Lib.hid (And.intro hx9 (And.intro q9 (And.intro hrr hFl)))
      clear hkd hx9 hrr q9 HX hFl
      clear H2
      obtain ⟨i1, hj1', hy0, hy1, hy2⟩ := info_parts infoInt
      go_upto_region 10 with (fail)
      go_cut [9] from 9 to 9 (fun v wr => v = .int .i64 1 ∧ wr = wx.alloc (.cells #[] 3))
      case first =>
        go_wp2_with fail
        go_meet
        case rel => exact ⟨rfl, rfl⟩
      obtain ⟨rfl, rfl⟩ := hcut
      apply_assumption
      go_cut [8] from 9 to 57 (fun nv wr => ∃ (l : List Int) (tx : List UInt8), Own cI 3 wx.heap.size wr nv l [] ∧ numsOf ps.tail = (l, tx) ∧ l.length ≤ np ∧ InsBox wr w1.heap.size kd 0 0 (baOf tx) ∧ InsBox wr w.heap.size 0 0 0 ⟨#[]⟩ ∧ Below w.heap.size w wr ∧ wx.heap.size ≤ wr.heap.size)
      case first =>
        go_wp2_with fail
        go_loopw [8, 9] (fun nv i wr => ∃ (j : Nat) (l : List Int), i = .int .i64 j ∧ 1 ≤ j ∧ j ≤ np ∧ l.length + 1 ≤ j ∧ Own cI 3 wx.heap.size wr nv l [] ∧ (l ++ (numsOf (ps.drop j)).1 = (numsOf ps.tail).1 ∧ (numsOf (ps.drop j)).2 = (numsOf ps.tail).2) ∧ Below wx.heap.size wx wr) (fun _ i _ => np - (intOf i).toNat)
        case atStart => exact ⟨1, [], rfl, Nat.le_refl _, by omega, Nat.le_refl _, Own.empty _, ⟨by rw [List.drop_one]; rfl, by rw [List.drop_one]⟩, (by repeat (first | with_reducible exact Below.refl _ _ | with_reducible assumption | with_reducible refine bel_alloc ?_ _ | with_reducible refine bel_drew ?_ | with_reducible refine bel_drewN ?_ _ | (with_reducible refine bel_set ?_ ?_ _; rotate_left; ((try simp); (try omega)))))⟩
        case round =>
          obtain ⟨j, l, rfl, hj1, hjn, hll, hown, hnum, hBq⟩ := hrel
          have HO := Lib.hid hown
          have HN := Lib.hid hnum
          clear hown hnum
          have hszq := hBq.size
          by_cases hjlt : j < np
          · have hji : (j : Int) < (np : Int) := by omega
            have hjx : j < ps.length := by rw [HNP.out]; exact hjlt
            obtain ⟨g, o, vs, F1, rfl, hgF, hxx, -, hc⟩ := cL_get (hw := by decide) (hw2 := by decide) (Cod.bel H9.out.2.2.1 hBq) hjx
            obtain ⟨rfl, -, -⟩ := hxx
            have pjc : wr.cell? ⟨g, o + j, none⟩ = some _ := (by have h1 := (hc 0 _ rfl).1; rwa [show cT.wd = 1 from rfl, Nat.mul_one, Nat.add_zero] at h1)
            clear hc
            have hpl := HC.out.1 ps[j] (List.getElem_mem hjx)
            obtain ⟨pj, hpj⟩ : ∃ q, ps[j] = q := ⟨_, rfl⟩
            have hdr : ps.drop j = pj :: ps.drop (j + 1) := by rw [← hpj]; exact List.drop_eq_getElem_cons hjx
            rw [hpj] at pjc hpl
            have HD := Lib.hid hdr
            clear hdr hpj
            obtain ⟨sj, hsj⟩ : ∃ q, baOf pj = q := ⟨_, rfl⟩
            have hI := fun W => specParseInt_any sj W (by rw [← hsj, baOf_size]; exact hpl)
            rw [show sj.data.toList = pj by rw [← hsj]; rfl] at hI
            rw [hsj] at pjc
            have HSJ := Lib.hid hsj
            clear hsj hpl
            cases hp : parseNum pj with
            | none =>
              rw [numV_none hp] at hI
              have HD2 := Lib.hid (show ps.drop j = pj :: ps.drop (j + 1) ∧ parseNum pj = none from ⟨HD.out, hp⟩)
              clear hp HD
              go_wp2_with fail
              refine (hI _).mono ?_
              rintro e wp ⟨rfl, hbp⟩
              have hszp := hbp.size
              have hBp : Below wx.heap.size wx wp := bel_then hBq hbp
              have pjc2 : wp.cell? ⟨g, o + j, none⟩ = some (.string sj) := (hbp.cell (p := ⟨g, o + j, none⟩) (show g < wr.heap.size by have := Cod.lt _ H9.out.2.2.1 g hgF; omega)).trans pjc
              have hx := H9.out.1.block (hBp.block w1.heap.size (by omega))
              have hf3 := hx.f3
              have hx3 := hx.c3
              have hq := H9.out.2.1.block (hBp.block w.heap.size (by omega))
              have HX := Lib.hid (And.intro hx hq)
              clear hx hq
              go_wp2_with fail
              go_meet
              case rel => exact ⟨l, pj, ((HO.out.bel hbp).set_ (fun e => by have := (HO.out.lt _ e).1; simp at this; omega) _), by
                have h1 := HN.out
                rw [HD2.out.1, numsOf_none HD2.out.2] at h1
                exact Prod.ext (by rw [← h1.1]; simp) h1.2.symm, by omega, by rw [HSJ.out]; exact HX.out.1.set3 _, HX.out.2.block (Below.heap_setCell _ _ _ _ (show w.heap.size ≠ w1.heap.size by omega)), bel_set (bel_then hBr (hBp.mono (by omega))) (show w.heap.size ≤ w1.heap.size by omega) _, by (try simp); omega⟩
            | some m =>
              rw [numV_some hp] at hI
              have hm := (parseNum_some hp).1
              have HD2 := Lib.hid (show ps.drop j = pj :: ps.drop (j + 1) ∧ parseNum pj = some m from ⟨HD.out, hp⟩)
              clear hp HD
              go_wp2_with fail
              refine (hI _).mono ?_
              rintro e wp ⟨rfl, hbp⟩
              have hszp := hbp.size
              have hBp : Below wx.heap.size wx wp := bel_then hBq hbp
              have HO2 := Lib.hid (HO.out.bel hbp)
              go_wp2_with (at_builtin; refine wpList_app (c := cI) (B := wx.heap.size) (xs := l) (ys := [(m : Int)]) (Fi := []) (Fy := []) _ rfl _ _ _ rfl i1 _ _ Tryd.underlying59 hj1' hy0 hy1 hy2 rfl (by decide) rfl (HO2.out.bel (by repeat (first | with_reducible exact Below.refl _ _ | with_reducible assumption | with_reducible refine bel_alloc ?_ _ | with_reducible refine bel_drew ?_ | with_reducible refine bel_drewN ?_ _ | (with_reducible refine bel_set ?_ ?_ _; rotate_left; ((try simp); (try omega)))))) (.slice (some ⟨wp.heap.size, 0, none⟩) 1 1) rfl (src_int (by omega)) (by unfold maxLen; simp; omega) (by simp; omega) (by (try simp); (try omega)) (by simp) ?_)
              intro v3 w3 ho3 hg3 hat3
              have hlo := HO2.out.lt
              have hB3 : Below wx.heap.size wx w3 := (show Below wx.heap.size wx _ from (by repeat (first | with_reducible exact Below.refl _ _ | with_reducible assumption | with_reducible refine bel_alloc ?_ _ | with_reducible refine bel_drew ?_ | with_reducible refine bel_drewN ?_ _ | (with_reducible refine bel_set ?_ ?_ _; rotate_left; ((try simp); (try omega)))))).grown hg3 (by (try simp); (try omega)) (fun g hg => (hlo g hg).1)
              have HO3 := Lib.hid ho3
              clear ho3 hg3 hat3 hlo
              go_wp2_with fail
              go_roundw
              case rel => exact ⟨j + 1, l ++ [(m : Int)], by go_num, by omega, by omega, by simp; omega, HO3.out, by
                have h1 := HN.out
                rw [HD2.out.1, numsOf_some HD2.out.2] at h1
                exact ⟨by rw [← h1.1]; simp, h1.2⟩, hB3⟩
              case measure => simp [intOf]; omega
          · have hji : ¬ (j : Int) < (np : Int) := by omega
            have hdr : ps.drop j = [] := List.drop_eq_nil_of_le (by rw [HNP.out]; omega)
            have HD := Lib.hid hdr
            clear hdr
            go_wp2_with fail
            go_meet
            case rel => exact ⟨l, [], HO.out, by
              have h1 := HN.out
              rw [HD.out] at h1
              exact Prod.ext (by rw [← h1.1]; simp [numsOf]) h1.2.symm, by omega, H9.out.1.block (hBq.block w1.heap.size (by omega)), H9.out.2.1.block (hBq.block w.heap.size (by omega)), bel_then hBr (hBq.mono (by omega)), by omega⟩
      case rest =>
        obtain ⟨l, tx, hown, hnum, hll, hx, hq, hB, hsz⟩ := hcut
        have hcore : specCore ps = ⟨kd, (if kd = 4 then 0 :: l else l).getD 0 0, (if kd = 4 then 0 :: l else l).getD 1 0, baOf tx⟩ := by
          unfold specCore
          simp only [hnum, H0.out, HKD.out]
        have hrange : ∀ x, x ∈ l → 0 ≤ x ∧ x ≤ 1000000000000 := fun x hx => numsOf_range ps.tail x (by rw [hnum]; exact hx)
        have htx : (baOf tx).size ≤ 1048576 := by
          rw [baOf_size]
          rcases numsOf_text ps.tail with h | h
          · rw [hnum] at h; simp only at h; rw [h]; simp
          · rw [hnum] at h; exact HC.out.1 _ (List.mem_of_mem_tail h)
        have HN := Lib.hid (And.intro hcore hrange)
        clear hcore hrange hnum
        generalize baOf tx = tb at *
        have HO := Lib.hid hown
        have HX := Lib.hid (And.intro hx hq)
        have hx0 := hx.c0
        clear hown hx hq H9
        go_upto_if 60 with (fail)
        go_cut [8] from 58 to 63 (fun nv wq => Own cI 3 wx.heap.size wq nv (if kd = 4 then 0 :: l else l) [] ∧ InsBox wq w1.heap.size kd 0 0 tb ∧ InsBox wq w.heap.size 0 0 0 ⟨#[]⟩ ∧ Below w.heap.size w wq ∧ wx.heap.size ≤ wq.heap.size)
        case first =>
          by_cases h4 : kd = 4
          · have hb4 : (kd == 4) = true := by simp [h4]
            have H4 := Lib.hid h4
            obtain ⟨G, hrl, -, -⟩ := HO.out.fresh (hw := by decide) (hw2 := by decide)
            obtain ⟨AL, cl, e8⟩ := HO.out.slice
            subst e8
            have HR := Lib.hid hrl
            clear h4 hrl
            go_wp2_with (at_builtin; refine wpList_app (c := cI) (B := wx.heap.size) (xs := [0]) (ys := l) (Fi := []) (Fy := []) _ rfl _ _ _ rfl i1 _ _ Tryd.underlying59 hj1' hy0 hy1 hy2 rfl (by decide) rfl (Own.mono (Own.of_new (c := cI) 3 1 rfl (by decide) (by decide) rfl (repsInt _ [0] (by simp))) hsz) (.slice AL l.length cl) rfl (AppSrc.flat (hw := by decide) (hw2 := by decide) flat_I (Cod.bel HR.out (by repeat (first | with_reducible exact Below.refl _ _ | with_reducible assumption | with_reducible refine bel_alloc ?_ _ | with_reducible refine bel_drew ?_ | with_reducible refine bel_drewN ?_ _ | (with_reducible refine bel_set ?_ ?_ _; rotate_left; ((try simp); (try omega))))))) (by unfold maxLen; simp; omega) (by simp; omega) (by (try simp); (try omega)) (by simp) ?_)
            intro v3 w3 ho3 hg3 hat3
            have hlo : ∀ g, ownB (.slice (some ⟨wc.heap.size, 0, none⟩) 1 1) = some g → wc.heap.size ≤ g := fun g hg => by simp [ownB] at hg; omega
            have hB3 : Below w.heap.size w w3 := (show Below w.heap.size w _ from (by repeat (first | with_reducible exact Below.refl _ _ | with_reducible assumption | with_reducible refine bel_alloc ?_ _ | with_reducible refine bel_drew ?_ | with_reducible refine bel_drewN ?_ _ | (with_reducible refine bel_set ?_ ?_ _; rotate_left; ((try simp); (try omega)))))).grown hg3 (by (try simp); (try omega)) (fun g hg => by have := hlo g hg; omega)
            have hb3 : Below wc.heap.size wc w3 := (show Below wc.heap.size wc _ from (by repeat (first | with_reducible exact Below.refl _ _ | with_reducible assumption | with_reducible refine bel_alloc ?_ _ | with_reducible refine bel_drew ?_ | with_reducible refine bel_drewN ?_ _ | (with_reducible refine bel_set ?_ ?_ _; rotate_left; ((try simp); (try omega)))))).grown hg3 (by (try simp)) (fun g hg => hlo g hg)
            have hz3 := hb3.size
            have HO3 := Lib.hid ho3
            clear ho3 hg3 hat3 hlo
            go_wp2_with fail
            go_meet
            case rel => exact ⟨by rw [if_pos H4.out]; exact HO3.out, HX.out.1.block (hb3.block _ (by omega)), HX.out.2.block (hb3.block _ (by omega)), hB3, by omega⟩
          · have hb4 : (kd == 4) = false := by simp [h4]
            have H4 := Lib.hid h4
            clear h4
            go_wp2_with fail
            go_meet
            case rel => exact ⟨by rw [if_neg H4.out]; exact HO.out, HX.out.1, HX.out.2, hB, hsz⟩
        case rest =>
          obtain ⟨hown, hx, hq, hBB, hsz3⟩ := hcut
          have hL : ∀ x, x ∈ (if kd = 4 then 0 :: l else l) → 0 ≤ x ∧ x ≤ 1000000000000 := by
            intro x hx
            split at hx
            · rcases List.mem_cons.1 hx with rfl | hx
              · omega
              · exact HN.out.2 x hx
            · exact HN.out.2 x hx
          replace HN := Lib.hid (And.intro HN.out.1 trivial)
          generalize (if kd = 4 then 0 :: l else l) = L at *
          have htb := htx
          clear HO HX hx0 hB hsz
          rcases L with _ | ⟨a, _ | ⟨b, L⟩⟩
          · obtain ⟨A8, c8, e8⟩ := hown.slice
            subst e8
            have hxx := hx
            have hqq := hq
            have hx0 := hx.c0; have hx1 := hx.c1; have hx2 := hx.c2; have hx3 := hx.c3
            clear hx hq
            obtain ⟨sf, hsf⟩ : ∃ q, baOf (fmtL ⟨kd, 0, 0, tb⟩) = q := ⟨_, rfl⟩
            have hF : ∀ W, Calls Tryd.prog 20 #[.agg #[.int .i64 kd, .int .i64 0, .int .i64 0, .string tb]] W (Gives W (.string sf)) := fun W => by rw [← hsf]; exact specFormatCells_any kd 0 0 tb W (by unfold maxLen; omega)
            have HSF := Lib.hid hsf
            clear hsf
            cases heq : (sf.toList == s.toList)
            · go_wp2_with (go_at_call 20; refine (hF _).mono ?_; rintro e w4 ⟨rfl, hb4⟩; have hq4 := (show InsBox w4 w.heap.size 0 0 0 ⟨#[]⟩ from hqq.block (hb4.block _ (by (try simp); omega))); have hx4 := (show InsBox w4 w1.heap.size kd 0 0 tb from hxx.block (hb4.block _ (by (try simp); omega))); have e0 := hq4.c0; have e1 := hq4.c1; have e2 := hq4.c2; have e3 := hq4.c3; have g0 := hq4.f0; have g1 := hq4.f1; have g2 := hq4.f2; have g3 := hq4.f3; have b0 := hx4.c0; have b1 := hx4.c1; have b2 := hx4.c2; have b3 := hx4.c3; have hB4 : Below w.heap.size w w4 := (bel_then hBB hb4); have HQ4 := Lib.hid hq4; clear hq4 hx4 hb4)
              refine sets_ret4 (a' := .int .i64 0) (b' := .int .i64 0) (c' := .int .i64 0) (d' := .string ⟨#[]⟩) w.heap.size HQ4.out.c0 HQ4.out.c1 HQ4.out.c2 HQ4.out.c3 (fun W9 e9 c0 c1 c2 c3 => ?_)
              refine bodyPost_ret (v := .tuple #[.agg #[.int .i64 0, .int .i64 0, .int .i64 0, .string ⟨#[]⟩], .bool false]) (by simp [results, Tryd.results13, go_sem, c0, c1, c2, c3]) rfl ?_
              clear c0 c1 c2 c3
              subst e9
              refine ⟨?_, (by repeat (first | with_reducible exact Below.refl _ _ | with_reducible assumption | with_reducible refine bel_alloc ?_ _ | with_reducible refine bel_drew ?_ | with_reducible refine bel_drewN ?_ _ | (with_reducible refine bel_set ?_ ?_ _; rotate_left; ((try simp); (try omega)))))⟩
              have hg : parseInstr s.data.toList = (insZero, false) := by
                unfold parseInstr
                rw [HP.out, HN.out.1]
                exact if_neg (fun h => by
                have e : sf = s := HSF.out.symm.trans ((congrArg baOf h.1).trans (baOf_of s))
                rw [e] at heq; simp at heq)
              rw [hg]; rfl
            · cases hemp : s.toList.isEmpty
              · go_wp2_with (go_at_call 20; refine (hF _).mono ?_; rintro e w4 ⟨rfl, hb4⟩; have hq4 := (show InsBox w4 w.heap.size 0 0 0 ⟨#[]⟩ from hqq.block (hb4.block _ (by (try simp); omega))); have hx4 := (show InsBox w4 w1.heap.size kd 0 0 tb from hxx.block (hb4.block _ (by (try simp); omega))); have e0 := hq4.c0; have e1 := hq4.c1; have e2 := hq4.c2; have e3 := hq4.c3; have g0 := hq4.f0; have g1 := hq4.f1; have g2 := hq4.f2; have g3 := hq4.f3; have b0 := hx4.c0; have b1 := hx4.c1; have b2 := hx4.c2; have b3 := hx4.c3; have hB4 : Below w.heap.size w w4 := (bel_then hBB hb4); have HQ4 := Lib.hid hq4; clear hq4 hx4 hb4)
                refine sets_ret4 (a' := .int .i64 0) (b' := .int .i64 0) (c' := .int .i64 0) (d' := .string ⟨#[]⟩) w.heap.size HQ4.out.c0 HQ4.out.c1 HQ4.out.c2 HQ4.out.c3 (fun W9 e9 c0 c1 c2 c3 => ?_)
                refine bodyPost_ret (v := .tuple #[.agg #[.int .i64 kd, .int .i64 0, .int .i64 0, .string tb], .bool true]) (by simp [results, Tryd.results13, go_sem, c0, c1, c2, c3]) rfl ?_
                clear c0 c1 c2 c3
                subst e9
                refine ⟨?_, (by repeat (first | with_reducible exact Below.refl _ _ | with_reducible assumption | with_reducible refine bel_alloc ?_ _ | with_reducible refine bel_drew ?_ | with_reducible refine bel_drewN ?_ _ | (with_reducible refine bel_set ?_ ?_ _; rotate_left; ((try simp); (try omega)))))⟩
                have hg : parseInstr s.data.toList = (⟨kd, 0, 0, tb⟩, true) := by
                  unfold parseInstr
                  rw [HP.out, HN.out.1]
                  exact if_pos ⟨baOf_inj (HSF.out.trans (Eq.trans (b := s) (ba_ext (by rw [Lib.toList_data, Lib.toList_data] at heq; exact eq_of_beq heq)) (baOf_of s).symm)), fun e => by rw [Lib.toList_data, e] at hemp; cases hemp⟩
                rw [hg]; rfl
              · go_wp2_with (go_at_call 20; refine (hF _).mono ?_; rintro e w4 ⟨rfl, hb4⟩; have hq4 := (show InsBox w4 w.heap.size 0 0 0 ⟨#[]⟩ from hqq.block (hb4.block _ (by (try simp); omega))); have hx4 := (show InsBox w4 w1.heap.size kd 0 0 tb from hxx.block (hb4.block _ (by (try simp); omega))); have e0 := hq4.c0; have e1 := hq4.c1; have e2 := hq4.c2; have e3 := hq4.c3; have g0 := hq4.f0; have g1 := hq4.f1; have g2 := hq4.f2; have g3 := hq4.f3; have b0 := hx4.c0; have b1 := hx4.c1; have b2 := hx4.c2; have b3 := hx4.c3; have hB4 : Below w.heap.size w w4 := (bel_then hBB hb4); have HQ4 := Lib.hid hq4; clear hq4 hx4 hb4)
                refine sets_ret4 (a' := .int .i64 0) (b' := .int .i64 0) (c' := .int .i64 0) (d' := .string ⟨#[]⟩) w.heap.size HQ4.out.c0 HQ4.out.c1 HQ4.out.c2 HQ4.out.c3 (fun W9 e9 c0 c1 c2 c3 => ?_)
                refine bodyPost_ret (v := .tuple #[.agg #[.int .i64 0, .int .i64 0, .int .i64 0, .string ⟨#[]⟩], .bool false]) (by simp [results, Tryd.results13, go_sem, c0, c1, c2, c3]) rfl ?_
                clear c0 c1 c2 c3
                subst e9
                refine ⟨?_, (by repeat (first | with_reducible exact Below.refl _ _ | with_reducible assumption | with_reducible refine bel_alloc ?_ _ | with_reducible refine bel_drew ?_ | with_reducible refine bel_drewN ?_ _ | (with_reducible refine bel_set ?_ ?_ _; rotate_left; ((try simp); (try omega)))))⟩
                have hg : parseInstr s.data.toList = (insZero, false) := by
                  unfold parseInstr
                  rw [HP.out, HN.out.1]
                  exact if_neg (fun h => by
                  rw [Lib.toList_data] at hemp
                  exact h.2 (by simpa using hemp))
                rw [hg]; rfl
          · have ha := hL a (by simp)
            obtain ⟨G, hrl, -, hgl⟩ := hown.fresh (hw := by decide) (hw2 := by decide)
            have hlo := hown.lt
            obtain ⟨A8, c8, e8⟩ := hown.slice
            subst e8
            obtain ⟨g, o, vs, F1, rfl, hgF, hxa, -, hc⟩ := cL_get (hw := by decide) (hw2 := by decide) hrl (show 0 < [a].length by simp)
            obtain ⟨rfl, -⟩ := hxa
            have ra : wc.cell? ⟨g, o, none⟩ = some (.int .i64 a) := (by have h1 := (hc 0 _ rfl).1; simpa using h1)
            have hg9 := (hlo g (hgl g hgF)).1
            have hxx := hx.set1 a
            have hqq := hq.block (Below.heap_setCell wc ⟨w1.heap.size, 1, none⟩ (.int .i64 a) w.heap.size (show w.heap.size ≠ w1.heap.size by omega))
            replace hBB := bel_set hBB (p := ⟨w1.heap.size, 1, none⟩) (show w.heap.size ≤ w1.heap.size by omega) (.int .i64 a)
            have hx0 := hx.c0; have hx1 := hx.c1; have hx2 := hx.c2; have hx3 := hx.c3; have z1 := hx.f1
            clear hx hq hc hrl hgl hlo hown
            obtain ⟨sf, hsf⟩ : ∃ q, baOf (fmtL ⟨kd, a, 0, tb⟩) = q := ⟨_, rfl⟩
            have hF : ∀ W, Calls Tryd.prog 20 #[.agg #[.int .i64 kd, .int .i64 a, .int .i64 0, .string tb]] W (Gives W (.string sf)) := fun W => by rw [← hsf]; exact specFormatCells_any kd a 0 tb W (by unfold maxLen; omega)
            have HSF := Lib.hid hsf
            clear hsf
            cases heq : (sf.toList == s.toList)
            · go_wp2_with (go_at_call 20; refine (hF _).mono ?_; rintro e w4 ⟨rfl, hb4⟩; have hq4 := (show InsBox w4 w.heap.size 0 0 0 ⟨#[]⟩ from hqq.block (hb4.block _ (by (try simp); omega))); have hx4 := (show InsBox w4 w1.heap.size kd a 0 tb from hxx.block (hb4.block _ (by (try simp); omega))); have e0 := hq4.c0; have e1 := hq4.c1; have e2 := hq4.c2; have e3 := hq4.c3; have g0 := hq4.f0; have g1 := hq4.f1; have g2 := hq4.f2; have g3 := hq4.f3; have b0 := hx4.c0; have b1 := hx4.c1; have b2 := hx4.c2; have b3 := hx4.c3; have hB4 : Below w.heap.size w w4 := (bel_then hBB hb4); have HQ4 := Lib.hid hq4; clear hq4 hx4 hb4)
              refine sets_ret4 (a' := .int .i64 0) (b' := .int .i64 0) (c' := .int .i64 0) (d' := .string ⟨#[]⟩) w.heap.size HQ4.out.c0 HQ4.out.c1 HQ4.out.c2 HQ4.out.c3 (fun W9 e9 c0 c1 c2 c3 => ?_)
              refine bodyPost_ret (v := .tuple #[.agg #[.int .i64 0, .int .i64 0, .int .i64 0, .string ⟨#[]⟩], .bool false]) (by simp [results, Tryd.results13, go_sem, c0, c1, c2, c3]) rfl ?_
              clear c0 c1 c2 c3
              subst e9
              refine ⟨?_, (by repeat (first | with_reducible exact Below.refl _ _ | with_reducible assumption | with_reducible refine bel_alloc ?_ _ | with_reducible refine bel_drew ?_ | with_reducible refine bel_drewN ?_ _ | (with_reducible refine bel_set ?_ ?_ _; rotate_left; ((try simp); (try omega)))))⟩
              have hg : parseInstr s.data.toList = (insZero, false) := by
                unfold parseInstr
                rw [HP.out, HN.out.1]
                exact if_neg (fun h => by
                have e : sf = s := HSF.out.symm.trans ((congrArg baOf h.1).trans (baOf_of s))
                rw [e] at heq; simp at heq)
              rw [hg]; rfl
            · cases hemp : s.toList.isEmpty
              · go_wp2_with (go_at_call 20; refine (hF _).mono ?_; rintro e w4 ⟨rfl, hb4⟩; have hq4 := (show InsBox w4 w.heap.size 0 0 0 ⟨#[]⟩ from hqq.block (hb4.block _ (by (try simp); omega))); have hx4 := (show InsBox w4 w1.heap.size kd a 0 tb from hxx.block (hb4.block _ (by (try simp); omega))); have e0 := hq4.c0; have e1 := hq4.c1; have e2 := hq4.c2; have e3 := hq4.c3; have g0 := hq4.f0; have g1 := hq4.f1; have g2 := hq4.f2; have g3 := hq4.f3; have b0 := hx4.c0; have b1 := hx4.c1; have b2 := hx4.c2; have b3 := hx4.c3; have hB4 : Below w.heap.size w w4 := (bel_then hBB hb4); have HQ4 := Lib.hid hq4; clear hq4 hx4 hb4)
                refine sets_ret4 (a' := .int .i64 0) (b' := .int .i64 0) (c' := .int .i64 0) (d' := .string ⟨#[]⟩) w.heap.size HQ4.out.c0 HQ4.out.c1 HQ4.out.c2 HQ4.out.c3 (fun W9 e9 c0 c1 c2 c3 => ?_)
                refine bodyPost_ret (v := .tuple #[.agg #[.int .i64 kd, .int .i64 a, .int .i64 0, .string tb], .bool true]) (by simp [results, Tryd.results13, go_sem, c0, c1, c2, c3]) rfl ?_
                clear c0 c1 c2 c3
                subst e9
                refine ⟨?_, (by repeat (first | with_reducible exact Below.refl _ _ | with_reducible assumption | with_reducible refine bel_alloc ?_ _ | with_reducible refine bel_drew ?_ | with_reducible refine bel_drewN ?_ _ | (with_reducible refine bel_set ?_ ?_ _; rotate_left; ((try simp); (try omega)))))⟩
                have hg : parseInstr s.data.toList = (⟨kd, a, 0, tb⟩, true) := by
                  unfold parseInstr
                  rw [HP.out, HN.out.1]
                  exact if_pos ⟨baOf_inj (HSF.out.trans (Eq.trans (b := s) (ba_ext (by rw [Lib.toList_data, Lib.toList_data] at heq; exact eq_of_beq heq)) (baOf_of s).symm)), fun e => by rw [Lib.toList_data, e] at hemp; cases hemp⟩
                rw [hg]; rfl
              · go_wp2_with (go_at_call 20; refine (hF _).mono ?_; rintro e w4 ⟨rfl, hb4⟩; have hq4 := (show InsBox w4 w.heap.size 0 0 0 ⟨#[]⟩ from hqq.block (hb4.block _ (by (try simp); omega))); have hx4 := (show InsBox w4 w1.heap.size kd a 0 tb from hxx.block (hb4.block _ (by (try simp); omega))); have e0 := hq4.c0; have e1 := hq4.c1; have e2 := hq4.c2; have e3 := hq4.c3; have g0 := hq4.f0; have g1 := hq4.f1; have g2 := hq4.f2; have g3 := hq4.f3; have b0 := hx4.c0; have b1 := hx4.c1; have b2 := hx4.c2; have b3 := hx4.c3; have hB4 : Below w.heap.size w w4 := (bel_then hBB hb4); have HQ4 := Lib.hid hq4; clear hq4 hx4 hb4)
                refine sets_ret4 (a' := .int .i64 0) (b' := .int .i64 0) (c' := .int .i64 0) (d' := .string ⟨#[]⟩) w.heap.size HQ4.out.c0 HQ4.out.c1 HQ4.out.c2 HQ4.out.c3 (fun W9 e9 c0 c1 c2 c3 => ?_)
                refine bodyPost_ret (v := .tuple #[.agg #[.int .i64 0, .int .i64 0, .int .i64 0, .string ⟨#[]⟩], .bool false]) (by simp [results, Tryd.results13, go_sem, c0, c1, c2, c3]) rfl ?_
                clear c0 c1 c2 c3
                subst e9
                refine ⟨?_, (by repeat (first | with_reducible exact Below.refl _ _ | with_reducible assumption | with_reducible refine bel_alloc ?_ _ | with_reducible refine bel_drew ?_ | with_reducible refine bel_drewN ?_ _ | (with_reducible refine bel_set ?_ ?_ _; rotate_left; ((try simp); (try omega)))))⟩
                have hg : parseInstr s.data.toList = (insZero, false) := by
                  unfold parseInstr
                  rw [HP.out, HN.out.1]
                  exact if_neg (fun h => by
                  rw [Lib.toList_data] at hemp
                  exact h.2 (by simpa using hemp))
                rw [hg]; rfl
          · have ha := hL a (by simp)
            have hb := hL b (by simp)
            obtain ⟨G, hrl, -, hgl⟩ := hown.fresh (hw := by decide) (hw2 := by decide)
            have hlo := hown.lt
            obtain ⟨A8, c8, e8⟩ := hown.slice
            subst e8
            obtain ⟨g, o, vs, F1, rfl, hgF, hxa, -, hc⟩ := cL_get (hw := by decide) (hw2 := by decide) hrl (show 0 < (a :: b :: L).length by simp)
            obtain ⟨rfl, -⟩ := hxa
            have ra : wc.cell? ⟨g, o, none⟩ = some (.int .i64 a) := (by have h1 := (hc 0 _ rfl).1; simpa using h1)
            obtain ⟨g', o', vs', F1', e9, hgF', hxb, -, hc'⟩ := cL_get (hw := by decide) (hw2 := by decide) hrl (show 1 < (a :: b :: L).length by simp)
            simp only [Option.some.injEq, Addr.mk.injEq, and_true] at e9
            obtain ⟨rfl, rfl⟩ := e9
            obtain ⟨rfl, -⟩ := hxb
            have rb : wc.cell? ⟨g, o + 1, none⟩ = some (.int .i64 b) := (by have h1 := (hc' 0 _ rfl).1; rw [show cI.wd = 1 from rfl] at h1; simpa using h1)
            have hg9 := (hlo g (hgl g hgF)).1
            have hxx := (hx.set1 a).set2 b
            have hqq := (hq.block (Below.heap_setCell wc ⟨w1.heap.size, 1, none⟩ (.int .i64 a) w.heap.size (show w.heap.size ≠ w1.heap.size by omega))).block (Below.heap_setCell (wc.setCell ⟨w1.heap.size, 1, none⟩ (.int .i64 a)) ⟨w1.heap.size, 2, none⟩ (.int .i64 b) w.heap.size (show w.heap.size ≠ w1.heap.size by omega))
            replace hBB := bel_set (bel_set hBB (p := ⟨w1.heap.size, 1, none⟩) (show w.heap.size ≤ w1.heap.size by omega) (.int .i64 a)) (p := ⟨w1.heap.size, 2, none⟩) (show w.heap.size ≤ w1.heap.size by omega) (.int .i64 b)
            have hx0 := hx.c0; have hx1 := hx.c1; have hx2 := hx.c2; have hx3 := hx.c3; have z1 := hx.f1; have z2 := hx.f2
            have hgx : ¬ g = w1.heap.size := by omega
            obtain ⟨nl, hnl⟩ : ∃ q, L.length = q := ⟨_, rfl⟩
            simp only [List.length_cons, hnl]
            clear hx hq hc hc' hrl hgl hlo hown hnl
            obtain ⟨sf, hsf⟩ : ∃ q, baOf (fmtL ⟨kd, a, b, tb⟩) = q := ⟨_, rfl⟩
            have hF : ∀ W, Calls Tryd.prog 20 #[.agg #[.int .i64 kd, .int .i64 a, .int .i64 b, .string tb]] W (Gives W (.string sf)) := fun W => by rw [← hsf]; exact specFormatCells_any kd a b tb W (by unfold maxLen; omega)
            have HSF := Lib.hid hsf
            clear hsf
            cases heq : (sf.toList == s.toList)
            · go_wp2_with (go_at_call 20; refine (hF _).mono ?_; rintro e w4 ⟨rfl, hb4⟩; have hq4 := (show InsBox w4 w.heap.size 0 0 0 ⟨#[]⟩ from hqq.block (hb4.block _ (by (try simp); omega))); have hx4 := (show InsBox w4 w1.heap.size kd a b tb from hxx.block (hb4.block _ (by (try simp); omega))); have e0 := hq4.c0; have e1 := hq4.c1; have e2 := hq4.c2; have e3 := hq4.c3; have g0 := hq4.f0; have g1 := hq4.f1; have g2 := hq4.f2; have g3 := hq4.f3; have b0 := hx4.c0; have b1 := hx4.c1; have b2 := hx4.c2; have b3 := hx4.c3; have hB4 : Below w.heap.size w w4 := (bel_then hBB hb4); have HQ4 := Lib.hid hq4; clear hq4 hx4 hb4)
              refine sets_ret4 (a' := .int .i64 0) (b' := .int .i64 0) (c' := .int .i64 0) (d' := .string ⟨#[]⟩) w.heap.size HQ4.out.c0 HQ4.out.c1 HQ4.out.c2 HQ4.out.c3 (fun W9 e9 c0 c1 c2 c3 => ?_)
              refine bodyPost_ret (v := .tuple #[.agg #[.int .i64 0, .int .i64 0, .int .i64 0, .string ⟨#[]⟩], .bool false]) (by simp [results, Tryd.results13, go_sem, c0, c1, c2, c3]) rfl ?_
              clear c0 c1 c2 c3
              subst e9
              refine ⟨?_, (by repeat (first | with_reducible exact Below.refl _ _ | with_reducible assumption | with_reducible refine bel_alloc ?_ _ | with_reducible refine bel_drew ?_ | with_reducible refine bel_drewN ?_ _ | (with_reducible refine bel_set ?_ ?_ _; rotate_left; ((try simp); (try omega)))))⟩
              have hg : parseInstr s.data.toList = (insZero, false) := by
                unfold parseInstr
                rw [HP.out, HN.out.1]
                exact if_neg (fun h => by
                have e : sf = s := HSF.out.symm.trans ((congrArg baOf h.1).trans (baOf_of s))
                rw [e] at heq; simp at heq)
              rw [hg]; rfl
            · cases hemp : s.toList.isEmpty
              · go_wp2_with (go_at_call 20; refine (hF _).mono ?_; rintro e w4 ⟨rfl, hb4⟩; have hq4 := (show InsBox w4 w.heap.size 0 0 0 ⟨#[]⟩ from hqq.block (hb4.block _ (by (try simp); omega))); have hx4 := (show InsBox w4 w1.heap.size kd a b tb from hxx.block (hb4.block _ (by (try simp); omega))); have e0 := hq4.c0; have e1 := hq4.c1; have e2 := hq4.c2; have e3 := hq4.c3; have g0 := hq4.f0; have g1 := hq4.f1; have g2 := hq4.f2; have g3 := hq4.f3; have b0 := hx4.c0; have b1 := hx4.c1; have b2 := hx4.c2; have b3 := hx4.c3; have hB4 : Below w.heap.size w w4 := (bel_then hBB hb4); have HQ4 := Lib.hid hq4; clear hq4 hx4 hb4)
                refine sets_ret4 (a' := .int .i64 0) (b' := .int .i64 0) (c' := .int .i64 0) (d' := .string ⟨#[]⟩) w.heap.size HQ4.out.c0 HQ4.out.c1 HQ4.out.c2 HQ4.out.c3 (fun W9 e9 c0 c1 c2 c3 => ?_)
                refine bodyPost_ret (v := .tuple #[.agg #[.int .i64 kd, .int .i64 a, .int .i64 b, .string tb], .bool true]) (by simp [results, Tryd.results13, go_sem, c0, c1, c2, c3]) rfl ?_
                clear c0 c1 c2 c3
                subst e9
                refine ⟨?_, (by repeat (first | with_reducible exact Below.refl _ _ | with_reducible assumption | with_reducible refine bel_alloc ?_ _ | with_reducible refine bel_drew ?_ | with_reducible refine bel_drewN ?_ _ | (with_reducible refine bel_set ?_ ?_ _; rotate_left; ((try simp); (try omega)))))⟩
                have hg : parseInstr s.data.toList = (⟨kd, a, b, tb⟩, true) := by
                  unfold parseInstr
                  rw [HP.out, HN.out.1]
                  exact if_pos ⟨baOf_inj (HSF.out.trans (Eq.trans (b := s) (ba_ext (by rw [Lib.toList_data, Lib.toList_data] at heq; exact eq_of_beq heq)) (baOf_of s).symm)), fun e => by rw [Lib.toList_data, e] at hemp; cases hemp⟩
                rw [hg]; rfl
              · go_wp2_with (go_at_call 20; refine (hF _).mono ?_; rintro e w4 ⟨rfl, hb4⟩; have hq4 := (show InsBox w4 w.heap.size 0 0 0 ⟨#[]⟩ from hqq.block (hb4.block _ (by (try simp); omega))); have hx4 := (show InsBox w4 w1.heap.size kd a b tb from hxx.block (hb4.block _ (by (try simp); omega))); have e0 := hq4.c0; have e1 := hq4.c1; have e2 := hq4.c2; have e3 := hq4.c3; have g0 := hq4.f0; have g1 := hq4.f1; have g2 := hq4.f2; have g3 := hq4.f3; have b0 := hx4.c0; have b1 := hx4.c1; have b2 := hx4.c2; have b3 := hx4.c3; have hB4 : Below w.heap.size w w4 := (bel_then hBB hb4); have HQ4 := Lib.hid hq4; clear hq4 hx4 hb4)
                refine sets_ret4 (a' := .int .i64 0) (b' := .int .i64 0) (c' := .int .i64 0) (d' := .string ⟨#[]⟩) w.heap.size HQ4.out.c0 HQ4.out.c1 HQ4.out.c2 HQ4.out.c3 (fun W9 e9 c0 c1 c2 c3 => ?_)
                refine bodyPost_ret (v := .tuple #[.agg #[.int .i64 0, .int .i64 0, .int .i64 0, .string ⟨#[]⟩], .bool false]) (by simp [results, Tryd.results13, go_sem, c0, c1, c2, c3]) rfl ?_
                clear c0 c1 c2 c3
                subst e9
                refine ⟨?_, (by repeat (first | with_reducible exact Below.refl _ _ | with_reducible assumption | with_reducible refine bel_alloc ?_ _ | with_reducible refine bel_drew ?_ | with_reducible refine bel_drewN ?_ _ | (with_reducible refine bel_set ?_ ?_ _; rotate_left; ((try simp); (try omega)))))⟩
                have hg : parseInstr s.data.toList = (insZero, false) := by
                  unfold parseInstr
                  rw [HP.out, HN.out.1]
                  exact if_neg (fun h => by
                  rw [Lib.toList_data] at hemp
                  exact h.2 (by simpa using hemp))
                rw [hg]; rfl
end Go.Proofs.YtlicnppfgfjkgaaDoor
