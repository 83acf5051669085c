/-
  The law FnScripts: scripts are parsed from their text, line by line. The row's condition: the library's variables hold what their text lays.
-/
import Derived.Test.YtlicnppfgfjkgaaDoorZA
import Derived.Test.YtlicnppfgfjkgaaDoorZParseI
import Derived.Test.YtlicnppfgfjkgaaDoorZLinesI
import Derived.Test.YtlicnppfgfjkgaaDoorZLinesS
import Derived.Test.YtlicnppfgfjkgaaDoorZLinesSz
import Derived.Test.YtlicnppfgfjkgaaDoorZDrawLines
import Derived.Test.YtlicnppfgfjkgaaDoorZAtFn
import Derived.Test.YtlicnppfgfjkgaaDoorZCount
import Derived.Test.YtlicnppfgfjkgaaDoorZStructEq
namespace Go.Proofs.YtlicnppfgfjkgaaDoor
open Go.ChangeShapes Go.WideShapes Go.RowKit
set_option linter.unusedVariables false

theorem inzFields : (Tryd.prog.fieldsOf 25).toList.map (fun f => (f.type, f.offset, f.name == "_")) = [(3, 0, false), (3, 1, false), (3, 2, false), (9, 3, false)] := by kernel_rfl
theorem inzPlain : Tryd.prog.stoodInHeld 25 = false := by kernel_rfl
theorem inzGuard : Tryd.prog.eqGuardType Tryd.prog.depth 25 = false := by kernel_rfl
theorem inzStruct : Tryd.prog.underlying 25 = some (.struct (Tryd.prog.fieldsOf 25)) := by kernel_rfl
theorem inzEqualIn (kind kind' : Int) (r r' : Int) (n n' : Int) (text text' : ByteArray) (w : World) :
    (Op.equalIn 10000 25 (.agg #[.int .i64 kind, .int .i64 r, .int .i64 n, .string text]) (.agg #[.int .i64 kind', .int .i64 r', .int .i64 n', .string text'])).run Tryd.prog w = .ok (kind == kind' && (r == r' && (n == n' && (text.toList == text'.toList && (true))))) w := by
  rw [run_equalIn_agg (P := Tryd.prog) w 9999 _ _ _ inzStruct inzPlain]
  have hM := inzFields
  generalize (Tryd.prog.fieldsOf 25).toList = fs at hM
  obtain ⟨f0, fs, rfl, h0, hM⟩ := List.map_eq_cons_iff.1 hM
  obtain ⟨f1, fs, rfl, h1, hM⟩ := List.map_eq_cons_iff.1 hM
  obtain ⟨f2, fs, rfl, h2, hM⟩ := List.map_eq_cons_iff.1 hM
  obtain ⟨f3, fs, rfl, h3, hM⟩ := List.map_eq_cons_iff.1 hM
  obtain rfl := List.map_eq_nil_iff.1 hM
  exact eqFields_cons h0 (part_int Tryd.underlying3) rfl rfl (run_equalIn_int (P := Tryd.prog) w _ _ _ _ _ _ Tryd.underlying3) (eqFields_cons h1 (part_int Tryd.underlying3) rfl rfl (run_equalIn_int (P := Tryd.prog) w _ _ _ _ _ _ Tryd.underlying3) (eqFields_cons h2 (part_int Tryd.underlying3) rfl rfl (run_equalIn_int (P := Tryd.prog) w _ _ _ _ _ _ Tryd.underlying3) (eqFields_cons h3 (part_string Tryd.underlying9) rfl rfl (run_equalIn_string (P := Tryd.prog) w _ _ _ _ Tryd.underlying9) (eqFields_nil))))
theorem run_eql_inz (kind kind' : Int) (r r' : Int) (n n' : Int) (text text' : ByteArray) (w : World) :
    (binOp .eql 25 (.agg #[.int .i64 kind, .int .i64 r, .int .i64 n, .string text]) (.agg #[.int .i64 kind', .int .i64 r', .int .i64 n', .string text'])).run Tryd.prog w = .ok (.bool (kind == kind' && (r == r' && (n == n' && (text.toList == text'.toList && (true)))))) w := by
  rw [run_eql_struct, inzEqualIn]; rfl
theorem run_neq_inz (kind kind' : Int) (r r' : Int) (n n' : Int) (text text' : ByteArray) (w : World) :
    (binOp .neq 25 (.agg #[.int .i64 kind, .int .i64 r, .int .i64 n, .string text]) (.agg #[.int .i64 kind', .int .i64 r', .int .i64 n', .string text'])).run Tryd.prog w = .ok (.bool (!(kind == kind' && (r == r' && (n == n' && (text.toList == text'.toList && (true))))))) w := by
  rw [run_neq_struct, inzEqualIn]; rfl
theorem parse_both (x : TIns) : parseInstr (fmtL x) = bif isInstr x 16 then (x, true) else (insZero, false) := by
  cases hi : isInstr x 16 with
  | true => exact parse_fmt hi
  | false =>
    rw [fmtL_not hi]
    unfold parseInstr
    rw [if_neg (fun h => h.2 rfl)]; rfl
theorem parse_back (l : List UInt8) (h : (parseInstr l).2 = true) : fmtL (parseInstr l).1 = l := by
  unfold parseInstr at h ⊢
  split
  · rename_i hp; exact hp.1
  · rename_i hp; rw [if_neg hp] at h; cases h
theorem lines_what (l : List UInt8) : ((parseLines l).2 = -1 ∧ isScript (parseLines l).1 = true) ∨ ((parseLines l).2 ≠ -1 ∧ (parseLines l).1 = []) := by
  unfold parseLines
  split
  · exact .inl ⟨rfl, by decide⟩
  · split
    · exact .inr ⟨by simp only; omega, rfl⟩
    · cases hs : isScript (linesTo (cut 59 l) (cut 59 l).length) with
      | true => exact .inl ⟨rfl, by simpa using hs⟩
      | false => exact .inr ⟨by simp only [cond_false]; omega, rfl⟩
theorem count_le (l : List TIns) : countWrites l ≤ l.length := by
  unfold countWrites
  have := List.countP_le_length (p := fun x : TIns => isWriteK x.kind) (l := l)
  omega
set_option maxRecDepth 100000 in
set_option maxHeartbeats 8000000 in
theorem lawScripts_any (v : Value) (xs : List UInt8) (F : List Nat) (w : World) (h : cUS.rep w [v] xs F) (hG : Gd w) :
    Calls Tryd.prog 3 #[v] w (Gives w (.bool true)) := by
  have HG := Lib.hid hG
  clear hG
  obtain ⟨A, cp, rfl⟩ := cL_form h
  have HR := Lib.hid h
  clear h
  by_cases hbig : (1048576 : Int) < xs.length
  · go_enter Tryd.func3, Tryd.ntmps3
    go_wp2_with fail
    refine (big_any A xs.length cp _).mono ?_
    rintro e w1 ⟨rfl, rfl⟩
    go_wp2_with fail
    go_ret
    exact ⟨rfl, (by repeat (first | with_reducible exact Below.refl _ _ | with_reducible assumption | with_reducible refine bel_alloc ?_ _ | with_reducible refine bel_drew ?_ | with_reducible refine bel_drewN ?_ _ | (with_reducible refine bel_set ?_ ?_ _; rotate_left; ((try simp); (try omega)))))⟩
  · have hn : xs.length ≤ 1048576 := by omega
    have hd : decide ((1048576 : Int) < xs.length) = false := by simpa using hbig
    go_enter Tryd.func3, Tryd.ntmps3
    go_wp2_with fail
    refine (big_any A xs.length cp _).mono ?_
    rintro e w1 ⟨rfl, rfl⟩
    go_wp2_with fail
    refine (drawFormatInstr_any _ xs F _ (Cod.bel HR.out (by repeat (first | with_reducible exact Below.refl _ _ | with_reducible assumption | with_reducible refine bel_alloc ?_ _ | with_reducible refine bel_drew ?_ | with_reducible refine bel_drewN ?_ _ | (with_reducible refine bel_set ?_ ?_ _; rotate_left; ((try simp); (try omega)))))) hn).mono ?_
    rintro e w1 ⟨⟨k, r, n, t⟩, rfl, hx, hb1⟩
    have hB1 : Below w.heap.size w w1 := hb1
    have hz1 := hb1.size
    have hfl := fmtL_len ⟨k, r, n, t⟩
    have hfi := parse_both ⟨k, r, n, t⟩
    have hxm : t.size ≤ maxLen := hx.1.h3
    obtain ⟨sf, hsf⟩ : ∃ q, baOf (fmtL ⟨k, r, n, t⟩) = q := ⟨_, rfl⟩
    have hF := fun W (hg : Gd W) => implFormatCells_any k r n t W hxm hg.tab
    rw [hsf] at hF
    have hsz : sf.size ≤ 60 := by rw [← hsf, baOf_size]; exact hfl
    have hP := fun W (hg : Gd W) => implParseInstr_any sf W (by omega) hg
    rw [show sf.data.toList = fmtL ⟨k, r, n, t⟩ by rw [← hsf]; rfl, hfi] at hP
    have hI := fun W => implInstr_any ⟨k, r, n, t⟩ 16 W hxm
    have HSF := Lib.hid hsf
    clear hsf hfl hfi hx
    unfold TIns.val
    cases hi : isInstr ⟨k, r, n, t⟩ 16
    · rw [hi] at hP hI
      have hemp : sf.toList.isEmpty = true := by rw [Lib.toList_data, ← HSF.out, fmtL_not hi]; rfl
      simp only [cond_false, TIns.val, insZero] at hP
      have HF := Lib.hid hF
      have HP2 := Lib.hid hP
      have HI2 := Lib.hid hI
      clear hF hP hI hi
      go_wp2_with fail
      refine (HF.out _ (HG.out.bel (by repeat (first | with_reducible exact Below.refl _ _ | with_reducible assumption | with_reducible refine bel_alloc ?_ _ | with_reducible refine bel_drew ?_ | with_reducible refine bel_drewN ?_ _ | (with_reducible refine bel_set ?_ ?_ _; rotate_left; ((try simp); (try omega))))))).mono ?_
      rintro e w2 ⟨rfl, hb2⟩
      obtain ⟨hcc2, hff2, hzz2⟩ := bcell hb2
      (try simp at hzz2)
      have hs2 : w1.heap.size < w2.heap.size := by omega
      have hB2 : Below w.heap.size w w2 := bel_then (by repeat (first | with_reducible exact Below.refl _ _ | with_reducible assumption | with_reducible refine bel_alloc ?_ _ | with_reducible refine bel_drew ?_ | with_reducible refine bel_drewN ?_ _ | (with_reducible refine bel_set ?_ ?_ _; rotate_left; ((try simp); (try omega))))) hb2
      clear hb2
      go_wp2_with fail
      refine (HP2.out _ (HG.out.bel (by repeat (first | with_reducible exact Below.refl _ _ | with_reducible assumption | with_reducible refine bel_alloc ?_ _ | with_reducible refine bel_drew ?_ | with_reducible refine bel_drewN ?_ _ | (with_reducible refine bel_set ?_ ?_ _; rotate_left; ((try simp); (try omega))))))).mono ?_
      rintro e w3 ⟨rfl, hb3⟩
      obtain ⟨hcc3, hff3, hzz3⟩ := bcell hb3
      (try simp at hzz3)
      have hs3 : w1.heap.size < w3.heap.size := by omega
      have hB3 : Below w.heap.size w w3 := bel_then (by repeat (first | with_reducible exact Below.refl _ _ | with_reducible assumption | with_reducible refine bel_alloc ?_ _ | with_reducible refine bel_drew ?_ | with_reducible refine bel_drewN ?_ _ | (with_reducible refine bel_set ?_ ?_ _; rotate_left; ((try simp); (try omega))))) hb3
      clear hb3
      go_wp2_with fail
      refine (HI2.out _).mono ?_
      rintro e w4 ⟨rfl, hb4⟩
      have hB4 : Below w.heap.size w w4 := bel_then (by repeat (first | with_reducible exact Below.refl _ _ | with_reducible assumption | with_reducible refine bel_alloc ?_ _ | with_reducible refine bel_drew ?_ | with_reducible refine bel_drewN ?_ _ | (with_reducible refine bel_set ?_ ?_ _; rotate_left; ((try simp); (try omega))))) hb4
      clear hb4
      clear hcc2 hff2 hcc3 hff3
      go_wp2_with fail
      refine (drawParseInstr_any _ xs F _ (Cod.bel HR.out (by repeat (first | with_reducible exact Below.refl _ _ | with_reducible assumption | with_reducible refine bel_alloc ?_ _ | with_reducible refine bel_drew ?_ | with_reducible refine bel_drewN ?_ _ | (with_reducible refine bel_set ?_ ?_ _; rotate_left; ((try simp); (try omega)))))) hn).mono ?_
      rintro e w5 ⟨raw, rfl, hraw, hb5⟩
      have hB5 : Below w.heap.size w w5 := bel_then (by repeat (first | with_reducible exact Below.refl _ _ | with_reducible assumption | with_reducible refine bel_alloc ?_ _ | with_reducible refine bel_drew ?_ | with_reducible refine bel_drewN ?_ _ | (with_reducible refine bel_set ?_ ?_ _; rotate_left; ((try simp); (try omega))))) hb5
      clear hb5
      have hP5 := fun W (hg : Gd W) => implParseInstr_any raw W (by omega) hg
      have hS5 := fun W => specParseInstr_any raw W (by omega)
      have hok5 := parse_okL (l := raw.data.toList) (by rw [← Lib.size_eq]; omega)
      have hbk5 := parse_back raw.data.toList
      generalize (parseInstr raw.data.toList).1 = z at hP5 hS5 hok5 hbk5
      generalize (parseInstr raw.data.toList).2 = fine at hP5 hS5 hbk5
      obtain ⟨zk, zr, zn, zt⟩ := z
      have hF5 := fun W (hg : Gd W) => implFormatCells_any zk zr zn zt W hok5.h3 hg.tab
      simp only [TIns.val] at hP5 hS5
      have HP5 := Lib.hid (And.intro hP5 (And.intro hS5 (And.intro hF5 hbk5)))
      clear hP5 hS5 hF5 hbk5 hok5
      go_wp2_with fail
      refine (HP5.out.1 _ (HG.out.bel (by repeat (first | with_reducible exact Below.refl _ _ | with_reducible assumption | with_reducible refine bel_alloc ?_ _ | with_reducible refine bel_drew ?_ | with_reducible refine bel_drewN ?_ _ | (with_reducible refine bel_set ?_ ?_ _; rotate_left; ((try simp); (try omega))))))).mono ?_
      rintro e w6 ⟨rfl, hb6⟩
      have hB6 : Below w.heap.size w w6 := bel_then (by repeat (first | with_reducible exact Below.refl _ _ | with_reducible assumption | with_reducible refine bel_alloc ?_ _ | with_reducible refine bel_drew ?_ | with_reducible refine bel_drewN ?_ _ | (with_reducible refine bel_set ?_ ?_ _; rotate_left; ((try simp); (try omega))))) hb6
      clear hb6
      go_wp2_with fail
      refine (HP5.out.2.1 _).mono ?_
      rintro e w7 ⟨rfl, hb7⟩
      obtain ⟨hcc7, hff7, hzz7⟩ := bcell hb7
      (try simp at hzz7)
      have hs7 : w6.heap.size < w7.heap.size := by omega
      have hB7 : Below w.heap.size w w7 := bel_then (by repeat (first | with_reducible exact Below.refl _ _ | with_reducible assumption | with_reducible refine bel_alloc ?_ _ | with_reducible refine bel_drew ?_ | with_reducible refine bel_drewN ?_ _ | (with_reducible refine bel_set ?_ ?_ _; rotate_left; ((try simp); (try omega))))) hb7
      clear hb7
      cases fine
      · clear hcc7 hff7
        go_wp2_with fail
        refine (drawParseLines_any _ xs F _ (Cod.bel HR.out (by repeat (first | with_reducible exact Below.refl _ _ | with_reducible assumption | with_reducible refine bel_alloc ?_ _ | with_reducible refine bel_drew ?_ | with_reducible refine bel_drewN ?_ _ | (with_reducible refine bel_set ?_ ?_ _; rotate_left; ((try simp); (try omega)))))) hn).mono ?_
        rintro e w9 ⟨tx, rfl, htx, hb9⟩
        have hB9 : Below w.heap.size w w9 := bel_then (by repeat (first | with_reducible exact Below.refl _ _ | with_reducible assumption | with_reducible refine bel_alloc ?_ _ | with_reducible refine bel_drew ?_ | with_reducible refine bel_drewN ?_ _ | (with_reducible refine bel_set ?_ ?_ _; rotate_left; ((try simp); (try omega))))) hb9
        clear hb9
        have hL9 := fun W (hg : Gd W) => implParseLines_any tx W (by omega) hg
        have hM9 := fun W => specParseLines_any tx W (by omega)
        have hz9 := parseLines_sz tx
        have hw9 := lines_what tx.data.toList
        generalize (parseLines tx.data.toList).1 = ls at hL9 hM9 hz9 hw9
        generalize (parseLines tx.data.toList).2 = bd at hL9 hM9 hw9
        have H9 := Lib.hid (And.intro hL9 (And.intro hM9 hz9))
        clear hL9 hM9 hz9
        go_wp2_with fail
        refine (H9.out.1 _ (HG.out.bel (by repeat (first | with_reducible exact Below.refl _ _ | with_reducible assumption | with_reducible refine bel_alloc ?_ _ | with_reducible refine bel_drew ?_ | with_reducible refine bel_drewN ?_ _ | (with_reducible refine bel_set ?_ ?_ _; rotate_left; ((try simp); (try omega))))))).mono ?_
        rintro e wa ⟨va, Ga, rfl, hba, hra, hfa⟩
        obtain ⟨Aa, ca, rfl⟩ := cL_form hra
        have hBa : Below w.heap.size w wa := bel_then (by repeat (first | with_reducible exact Below.refl _ _ | with_reducible assumption | with_reducible refine bel_alloc ?_ _ | with_reducible refine bel_drew ?_ | with_reducible refine bel_drewN ?_ _ | (with_reducible refine bel_set ?_ ?_ _; rotate_left; ((try simp); (try omega))))) hba
        clear hba hfa
        have HRa := Lib.hid hra
        clear hra
        go_wp2_with fail
        refine (H9.out.2.1 _).mono ?_
        rintro e wb ⟨vb, Gb, rfl, hbb, hrb, -⟩
        obtain ⟨Ab, cb, rfl⟩ := cL_form hrb
        have hBb : Below w.heap.size w wb := bel_then (by repeat (first | with_reducible exact Below.refl _ _ | with_reducible assumption | with_reducible refine bel_alloc ?_ _ | with_reducible refine bel_drew ?_ | with_reducible refine bel_drewN ?_ _ | (with_reducible refine bel_set ?_ ?_ _; rotate_left; ((try simp); (try omega))))) hbb
        have hra2 := Cod.bel HRa.out (bel_then (by repeat (first | with_reducible exact Below.refl _ _ | with_reducible assumption | with_reducible refine bel_alloc ?_ _ | with_reducible refine bel_drew ?_ | with_reducible refine bel_drewN ?_ _ | (with_reducible refine bel_set ?_ ?_ _; rotate_left; ((try simp); (try omega))))) hbb)
        clear hbb hrb
        have hC : ∀ W, Below wb.heap.size wb W → Calls Tryd.prog 18 #[.slice Aa ls.length ca] W (Gives W (.int .i64 (countWrites ls))) := fun W hb => implCountWrites_any _ ls Ga W (Cod.bel hra2 hb) (by have := H9.out.2.2; omega)
        have hIs : ∀ W, Below wb.heap.size wb W → Calls Tryd.prog 17 #[.slice Aa ls.length ca] W (Gives W (.bool (isScript ls))) := fun W hb => implIsScript_any _ ls Ga W (Cod.bel hra2 hb) (by have := H9.out.2.2; omega)
        have hcl := count_le ls
        have HC := Lib.hid (And.intro hC hIs)
        clear hC hIs hra2
        rcases hw9 with ⟨rfl, hsc⟩ | ⟨hbd, rfl⟩
        · rw [hsc] at HC
          generalize ls.length = nl at *
          generalize countWrites ls = cw at *
          go_wp2_with fail
          refine (HC.out.2 _ (by repeat (first | with_reducible exact Below.refl _ _ | with_reducible assumption | with_reducible refine bel_alloc ?_ _ | with_reducible refine bel_drew ?_ | with_reducible refine bel_drewN ?_ _ | (with_reducible refine bel_set ?_ ?_ _; rotate_left; ((try simp); (try omega)))))).mono ?_
          rintro e wc ⟨rfl, hbc⟩
          have hBc : Below w.heap.size w wc := bel_then (by repeat (first | with_reducible exact Below.refl _ _ | with_reducible assumption | with_reducible refine bel_alloc ?_ _ | with_reducible refine bel_drew ?_ | with_reducible refine bel_drewN ?_ _ | (with_reducible refine bel_set ?_ ?_ _; rotate_left; ((try simp); (try omega))))) hbc
          have hBd : Below wb.heap.size wb wc := bel_then (by repeat (first | with_reducible exact Below.refl _ _ | with_reducible assumption | with_reducible refine bel_alloc ?_ _ | with_reducible refine bel_drew ?_ | with_reducible refine bel_drewN ?_ _ | (with_reducible refine bel_set ?_ ?_ _; rotate_left; ((try simp); (try omega))))) hbc
          clear hbc
          go_wp2_with fail
          refine (HC.out.1 _ (by repeat (first | with_reducible exact Below.refl _ _ | with_reducible assumption | with_reducible refine bel_alloc ?_ _ | with_reducible refine bel_drew ?_ | with_reducible refine bel_drewN ?_ _ | (with_reducible refine bel_set ?_ ?_ _; rotate_left; ((try simp); (try omega)))))).mono ?_
          rintro e wd ⟨rfl, hbd⟩
          have hBe : Below w.heap.size w wd := bel_then (by repeat (first | with_reducible exact Below.refl _ _ | with_reducible assumption | with_reducible refine bel_alloc ?_ _ | with_reducible refine bel_drew ?_ | with_reducible refine bel_drewN ?_ _ | (with_reducible refine bel_set ?_ ?_ _; rotate_left; ((try simp); (try omega))))) hbd
          go_wp2_with fail
          go_ret
          exact ⟨rfl, (by repeat (first | with_reducible exact Below.refl _ _ | with_reducible assumption | with_reducible refine bel_alloc ?_ _ | with_reducible refine bel_drew ?_ | with_reducible refine bel_drewN ?_ _ | (with_reducible refine bel_set ?_ ?_ _; rotate_left; ((try simp); (try omega)))))⟩
        · have hb1 : (bd == -1) = false := by simp [hbd]
          have hb2 : (bd != -1) = true := by simp [hbd]
          have hc0 : countWrites [] = 0 := rfl
          rw [hc0] at HC
          simp only [List.length_nil] at HC ⊢
          clear hcl hbd
          go_wp2_with fail
          refine (HC.out.1 _ (by repeat (first | with_reducible exact Below.refl _ _ | with_reducible assumption | with_reducible refine bel_alloc ?_ _ | with_reducible refine bel_drew ?_ | with_reducible refine bel_drewN ?_ _ | (with_reducible refine bel_set ?_ ?_ _; rotate_left; ((try simp); (try omega)))))).mono ?_
          rintro e wd ⟨rfl, hbd⟩
          have hBe : Below w.heap.size w wd := bel_then (by repeat (first | with_reducible exact Below.refl _ _ | with_reducible assumption | with_reducible refine bel_alloc ?_ _ | with_reducible refine bel_drew ?_ | with_reducible refine bel_drewN ?_ _ | (with_reducible refine bel_set ?_ ?_ _; rotate_left; ((try simp); (try omega))))) hbd
          go_wp2_with fail
          go_ret
          exact ⟨rfl, (by repeat (first | with_reducible exact Below.refl _ _ | with_reducible assumption | with_reducible refine bel_alloc ?_ _ | with_reducible refine bel_drew ?_ | with_reducible refine bel_drewN ?_ _ | (with_reducible refine bel_set ?_ ?_ _; rotate_left; ((try simp); (try omega)))))⟩
      · have hF6 : ∀ W, Gd W → Calls Tryd.prog 9 #[.agg #[.int .i64 zk, .int .i64 zr, .int .i64 zn, .string zt]] W (Gives W (.string raw)) := fun W hg => by have h1 := HP5.out.2.2.1 W hg; rw [HP5.out.2.2.2 rfl, baOf_of] at h1; exact h1
        have HF6 := Lib.hid hF6
        clear hF6
        go_wp2_with fail
        refine (HF6.out _ (HG.out.bel (by repeat (first | with_reducible exact Below.refl _ _ | with_reducible assumption | with_reducible refine bel_alloc ?_ _ | with_reducible refine bel_drew ?_ | with_reducible refine bel_drewN ?_ _ | (with_reducible refine bel_set ?_ ?_ _; rotate_left; ((try simp); (try omega))))))).mono ?_
        rintro e w8 ⟨rfl, hb8⟩
        have hB8 : Below w.heap.size w w8 := bel_then (by repeat (first | with_reducible exact Below.refl _ _ | with_reducible assumption | with_reducible refine bel_alloc ?_ _ | with_reducible refine bel_drew ?_ | with_reducible refine bel_drewN ?_ _ | (with_reducible refine bel_set ?_ ?_ _; rotate_left; ((try simp); (try omega))))) hb8
        clear hb8
        clear hcc7 hff7
        go_wp2_with fail
        refine (drawParseLines_any _ xs F _ (Cod.bel HR.out (by repeat (first | with_reducible exact Below.refl _ _ | with_reducible assumption | with_reducible refine bel_alloc ?_ _ | with_reducible refine bel_drew ?_ | with_reducible refine bel_drewN ?_ _ | (with_reducible refine bel_set ?_ ?_ _; rotate_left; ((try simp); (try omega)))))) hn).mono ?_
        rintro e w9 ⟨tx, rfl, htx, hb9⟩
        have hB9 : Below w.heap.size w w9 := bel_then (by repeat (first | with_reducible exact Below.refl _ _ | with_reducible assumption | with_reducible refine bel_alloc ?_ _ | with_reducible refine bel_drew ?_ | with_reducible refine bel_drewN ?_ _ | (with_reducible refine bel_set ?_ ?_ _; rotate_left; ((try simp); (try omega))))) hb9
        clear hb9
        have hL9 := fun W (hg : Gd W) => implParseLines_any tx W (by omega) hg
        have hM9 := fun W => specParseLines_any tx W (by omega)
        have hz9 := parseLines_sz tx
        have hw9 := lines_what tx.data.toList
        generalize (parseLines tx.data.toList).1 = ls at hL9 hM9 hz9 hw9
        generalize (parseLines tx.data.toList).2 = bd at hL9 hM9 hw9
        have H9 := Lib.hid (And.intro hL9 (And.intro hM9 hz9))
        clear hL9 hM9 hz9
        go_wp2_with fail
        refine (H9.out.1 _ (HG.out.bel (by repeat (first | with_reducible exact Below.refl _ _ | with_reducible assumption | with_reducible refine bel_alloc ?_ _ | with_reducible refine bel_drew ?_ | with_reducible refine bel_drewN ?_ _ | (with_reducible refine bel_set ?_ ?_ _; rotate_left; ((try simp); (try omega))))))).mono ?_
        rintro e wa ⟨va, Ga, rfl, hba, hra, hfa⟩
        obtain ⟨Aa, ca, rfl⟩ := cL_form hra
        have hBa : Below w.heap.size w wa := bel_then (by repeat (first | with_reducible exact Below.refl _ _ | with_reducible assumption | with_reducible refine bel_alloc ?_ _ | with_reducible refine bel_drew ?_ | with_reducible refine bel_drewN ?_ _ | (with_reducible refine bel_set ?_ ?_ _; rotate_left; ((try simp); (try omega))))) hba
        clear hba hfa
        have HRa := Lib.hid hra
        clear hra
        go_wp2_with fail
        refine (H9.out.2.1 _).mono ?_
        rintro e wb ⟨vb, Gb, rfl, hbb, hrb, -⟩
        obtain ⟨Ab, cb, rfl⟩ := cL_form hrb
        have hBb : Below w.heap.size w wb := bel_then (by repeat (first | with_reducible exact Below.refl _ _ | with_reducible assumption | with_reducible refine bel_alloc ?_ _ | with_reducible refine bel_drew ?_ | with_reducible refine bel_drewN ?_ _ | (with_reducible refine bel_set ?_ ?_ _; rotate_left; ((try simp); (try omega))))) hbb
        have hra2 := Cod.bel HRa.out (bel_then (by repeat (first | with_reducible exact Below.refl _ _ | with_reducible assumption | with_reducible refine bel_alloc ?_ _ | with_reducible refine bel_drew ?_ | with_reducible refine bel_drewN ?_ _ | (with_reducible refine bel_set ?_ ?_ _; rotate_left; ((try simp); (try omega))))) hbb)
        clear hbb hrb
        have hC : ∀ W, Below wb.heap.size wb W → Calls Tryd.prog 18 #[.slice Aa ls.length ca] W (Gives W (.int .i64 (countWrites ls))) := fun W hb => implCountWrites_any _ ls Ga W (Cod.bel hra2 hb) (by have := H9.out.2.2; omega)
        have hIs : ∀ W, Below wb.heap.size wb W → Calls Tryd.prog 17 #[.slice Aa ls.length ca] W (Gives W (.bool (isScript ls))) := fun W hb => implIsScript_any _ ls Ga W (Cod.bel hra2 hb) (by have := H9.out.2.2; omega)
        have hcl := count_le ls
        have HC := Lib.hid (And.intro hC hIs)
        clear hC hIs hra2
        rcases hw9 with ⟨rfl, hsc⟩ | ⟨hbd, rfl⟩
        · rw [hsc] at HC
          generalize ls.length = nl at *
          generalize countWrites ls = cw at *
          go_wp2_with fail
          refine (HC.out.2 _ (by repeat (first | with_reducible exact Below.refl _ _ | with_reducible assumption | with_reducible refine bel_alloc ?_ _ | with_reducible refine bel_drew ?_ | with_reducible refine bel_drewN ?_ _ | (with_reducible refine bel_set ?_ ?_ _; rotate_left; ((try simp); (try omega)))))).mono ?_
          rintro e wc ⟨rfl, hbc⟩
          have hBc : Below w.heap.size w wc := bel_then (by repeat (first | with_reducible exact Below.refl _ _ | with_reducible assumption | with_reducible refine bel_alloc ?_ _ | with_reducible refine bel_drew ?_ | with_reducible refine bel_drewN ?_ _ | (with_reducible refine bel_set ?_ ?_ _; rotate_left; ((try simp); (try omega))))) hbc
          have hBd : Below wb.heap.size wb wc := bel_then (by repeat (first | with_reducible exact Below.refl _ _ | with_reducible assumption | with_reducible refine bel_alloc ?_ _ | with_reducible refine bel_drew ?_ | with_reducible refine bel_drewN ?_ _ | (with_reducible refine bel_set ?_ ?_ _; rotate_left; ((try simp); (try omega))))) hbc
          clear hbc
          go_wp2_with fail
          refine (HC.out.1 _ (by repeat (first | with_reducible exact Below.refl _ _ | with_reducible assumption | with_reducible refine bel_alloc ?_ _ | with_reducible refine bel_drew ?_ | with_reducible refine bel_drewN ?_ _ | (with_reducible refine bel_set ?_ ?_ _; rotate_left; ((try simp); (try omega)))))).mono ?_
          rintro e wd ⟨rfl, hbd⟩
          have hBe : Below w.heap.size w wd := bel_then (by repeat (first | with_reducible exact Below.refl _ _ | with_reducible assumption | with_reducible refine bel_alloc ?_ _ | with_reducible refine bel_drew ?_ | with_reducible refine bel_drewN ?_ _ | (with_reducible refine bel_set ?_ ?_ _; rotate_left; ((try simp); (try omega))))) hbd
          go_wp2_with fail
          go_ret
          exact ⟨rfl, (by repeat (first | with_reducible exact Below.refl _ _ | with_reducible assumption | with_reducible refine bel_alloc ?_ _ | with_reducible refine bel_drew ?_ | with_reducible refine bel_drewN ?_ _ | (with_reducible refine bel_set ?_ ?_ _; rotate_left; ((try simp); (try omega)))))⟩
        · have hb1 : (bd == -1) = false := by simp [hbd]
          have hb2 : (bd != -1) = true := by simp [hbd]
          have hc0 : countWrites [] = 0 := rfl
          rw [hc0] at HC
          simp only [List.length_nil] at HC ⊢
          clear hcl hbd
          go_wp2_with fail
          refine (HC.out.1 _ (by repeat (first | with_reducible exact Below.refl _ _ | with_reducible assumption | with_reducible refine bel_alloc ?_ _ | with_reducible refine bel_drew ?_ | with_reducible refine bel_drewN ?_ _ | (with_reducible refine bel_set ?_ ?_ _; rotate_left; ((try simp); (try omega)))))).mono ?_
          rintro e wd ⟨rfl, hbd⟩
          have hBe : Below w.heap.size w wd := bel_then (by repeat (first | with_reducible exact Below.refl _ _ | with_reducible assumption | with_reducible refine bel_alloc ?_ _ | with_reducible refine bel_drew ?_ | with_reducible refine bel_drewN ?_ _ | (with_reducible refine bel_set ?_ ?_ _; rotate_left; ((try simp); (try omega))))) hbd
          go_wp2_with fail
          go_ret
          exact ⟨rfl, (by repeat (first | with_reducible exact Below.refl _ _ | with_reducible assumption | with_reducible refine bel_alloc ?_ _ | with_reducible refine bel_drew ?_ | with_reducible refine bel_drewN ?_ _ | (with_reducible refine bel_set ?_ ?_ _; rotate_left; ((try simp); (try omega)))))⟩
    · rw [hi] at hP hI
      have hemp : sf.toList.isEmpty = false := by rw [Lib.toList_data, ← HSF.out]; have := fmtL_ne hi; simpa [baOf] using this
      have hneq := fun W => run_neq_inz k k r r n n t t W
      simp only [cond_true, TIns.val] at hP
      have HF := Lib.hid hF
      have HP2 := Lib.hid hP
      have HI2 := Lib.hid hI
      clear hF hP hI hi
      go_wp2_with fail
      refine (HF.out _ (HG.out.bel (by repeat (first | with_reducible exact Below.refl _ _ | with_reducible assumption | with_reducible refine bel_alloc ?_ _ | with_reducible refine bel_drew ?_ | with_reducible refine bel_drewN ?_ _ | (with_reducible refine bel_set ?_ ?_ _; rotate_left; ((try simp); (try omega))))))).mono ?_
      rintro e w2 ⟨rfl, hb2⟩
      obtain ⟨hcc2, hff2, hzz2⟩ := bcell hb2
      (try simp at hzz2)
      have hs2 : w1.heap.size < w2.heap.size := by omega
      have hB2 : Below w.heap.size w w2 := bel_then (by repeat (first | with_reducible exact Below.refl _ _ | with_reducible assumption | with_reducible refine bel_alloc ?_ _ | with_reducible refine bel_drew ?_ | with_reducible refine bel_drewN ?_ _ | (with_reducible refine bel_set ?_ ?_ _; rotate_left; ((try simp); (try omega))))) hb2
      clear hb2
      go_wp2_with fail
      refine (HP2.out _ (HG.out.bel (by repeat (first | with_reducible exact Below.refl _ _ | with_reducible assumption | with_reducible refine bel_alloc ?_ _ | with_reducible refine bel_drew ?_ | with_reducible refine bel_drewN ?_ _ | (with_reducible refine bel_set ?_ ?_ _; rotate_left; ((try simp); (try omega))))))).mono ?_
      rintro e w3 ⟨rfl, hb3⟩
      obtain ⟨hcc3, hff3, hzz3⟩ := bcell hb3
      (try simp at hzz3)
      have hs3 : w1.heap.size < w3.heap.size := by omega
      have hB3 : Below w.heap.size w w3 := bel_then (by repeat (first | with_reducible exact Below.refl _ _ | with_reducible assumption | with_reducible refine bel_alloc ?_ _ | with_reducible refine bel_drew ?_ | with_reducible refine bel_drewN ?_ _ | (with_reducible refine bel_set ?_ ?_ _; rotate_left; ((try simp); (try omega))))) hb3
      clear hb3
      go_wp2_with fail
      refine (HI2.out _).mono ?_
      rintro e w4 ⟨rfl, hb4⟩
      have hB4 : Below w.heap.size w w4 := bel_then (by repeat (first | with_reducible exact Below.refl _ _ | with_reducible assumption | with_reducible refine bel_alloc ?_ _ | with_reducible refine bel_drew ?_ | with_reducible refine bel_drewN ?_ _ | (with_reducible refine bel_set ?_ ?_ _; rotate_left; ((try simp); (try omega))))) hb4
      clear hb4
      clear hcc2 hff2 hcc3 hff3
      go_wp2_with fail
      refine (drawParseInstr_any _ xs F _ (Cod.bel HR.out (by repeat (first | with_reducible exact Below.refl _ _ | with_reducible assumption | with_reducible refine bel_alloc ?_ _ | with_reducible refine bel_drew ?_ | with_reducible refine bel_drewN ?_ _ | (with_reducible refine bel_set ?_ ?_ _; rotate_left; ((try simp); (try omega)))))) hn).mono ?_
      rintro e w5 ⟨raw, rfl, hraw, hb5⟩
      have hB5 : Below w.heap.size w w5 := bel_then (by repeat (first | with_reducible exact Below.refl _ _ | with_reducible assumption | with_reducible refine bel_alloc ?_ _ | with_reducible refine bel_drew ?_ | with_reducible refine bel_drewN ?_ _ | (with_reducible refine bel_set ?_ ?_ _; rotate_left; ((try simp); (try omega))))) hb5
      clear hb5
      have hP5 := fun W (hg : Gd W) => implParseInstr_any raw W (by omega) hg
      have hS5 := fun W => specParseInstr_any raw W (by omega)
      have hok5 := parse_okL (l := raw.data.toList) (by rw [← Lib.size_eq]; omega)
      have hbk5 := parse_back raw.data.toList
      generalize (parseInstr raw.data.toList).1 = z at hP5 hS5 hok5 hbk5
      generalize (parseInstr raw.data.toList).2 = fine at hP5 hS5 hbk5
      obtain ⟨zk, zr, zn, zt⟩ := z
      have hF5 := fun W (hg : Gd W) => implFormatCells_any zk zr zn zt W hok5.h3 hg.tab
      simp only [TIns.val] at hP5 hS5
      have HP5 := Lib.hid (And.intro hP5 (And.intro hS5 (And.intro hF5 hbk5)))
      clear hP5 hS5 hF5 hbk5 hok5
      go_wp2_with fail
      refine (HP5.out.1 _ (HG.out.bel (by repeat (first | with_reducible exact Below.refl _ _ | with_reducible assumption | with_reducible refine bel_alloc ?_ _ | with_reducible refine bel_drew ?_ | with_reducible refine bel_drewN ?_ _ | (with_reducible refine bel_set ?_ ?_ _; rotate_left; ((try simp); (try omega))))))).mono ?_
      rintro e w6 ⟨rfl, hb6⟩
      have hB6 : Below w.heap.size w w6 := bel_then (by repeat (first | with_reducible exact Below.refl _ _ | with_reducible assumption | with_reducible refine bel_alloc ?_ _ | with_reducible refine bel_drew ?_ | with_reducible refine bel_drewN ?_ _ | (with_reducible refine bel_set ?_ ?_ _; rotate_left; ((try simp); (try omega))))) hb6
      clear hb6
      go_wp2_with fail
      refine (HP5.out.2.1 _).mono ?_
      rintro e w7 ⟨rfl, hb7⟩
      obtain ⟨hcc7, hff7, hzz7⟩ := bcell hb7
      (try simp at hzz7)
      have hs7 : w6.heap.size < w7.heap.size := by omega
      have hB7 : Below w.heap.size w w7 := bel_then (by repeat (first | with_reducible exact Below.refl _ _ | with_reducible assumption | with_reducible refine bel_alloc ?_ _ | with_reducible refine bel_drew ?_ | with_reducible refine bel_drewN ?_ _ | (with_reducible refine bel_set ?_ ?_ _; rotate_left; ((try simp); (try omega))))) hb7
      clear hb7
      cases fine
      · clear hcc7 hff7
        go_wp2_with fail
        refine (drawParseLines_any _ xs F _ (Cod.bel HR.out (by repeat (first | with_reducible exact Below.refl _ _ | with_reducible assumption | with_reducible refine bel_alloc ?_ _ | with_reducible refine bel_drew ?_ | with_reducible refine bel_drewN ?_ _ | (with_reducible refine bel_set ?_ ?_ _; rotate_left; ((try simp); (try omega)))))) hn).mono ?_
        rintro e w9 ⟨tx, rfl, htx, hb9⟩
        have hB9 : Below w.heap.size w w9 := bel_then (by repeat (first | with_reducible exact Below.refl _ _ | with_reducible assumption | with_reducible refine bel_alloc ?_ _ | with_reducible refine bel_drew ?_ | with_reducible refine bel_drewN ?_ _ | (with_reducible refine bel_set ?_ ?_ _; rotate_left; ((try simp); (try omega))))) hb9
        clear hb9
        have hL9 := fun W (hg : Gd W) => implParseLines_any tx W (by omega) hg
        have hM9 := fun W => specParseLines_any tx W (by omega)
        have hz9 := parseLines_sz tx
        have hw9 := lines_what tx.data.toList
        generalize (parseLines tx.data.toList).1 = ls at hL9 hM9 hz9 hw9
        generalize (parseLines tx.data.toList).2 = bd at hL9 hM9 hw9
        have H9 := Lib.hid (And.intro hL9 (And.intro hM9 hz9))
        clear hL9 hM9 hz9
        go_wp2_with fail
        refine (H9.out.1 _ (HG.out.bel (by repeat (first | with_reducible exact Below.refl _ _ | with_reducible assumption | with_reducible refine bel_alloc ?_ _ | with_reducible refine bel_drew ?_ | with_reducible refine bel_drewN ?_ _ | (with_reducible refine bel_set ?_ ?_ _; rotate_left; ((try simp); (try omega))))))).mono ?_
        rintro e wa ⟨va, Ga, rfl, hba, hra, hfa⟩
        obtain ⟨Aa, ca, rfl⟩ := cL_form hra
        have hBa : Below w.heap.size w wa := bel_then (by repeat (first | with_reducible exact Below.refl _ _ | with_reducible assumption | with_reducible refine bel_alloc ?_ _ | with_reducible refine bel_drew ?_ | with_reducible refine bel_drewN ?_ _ | (with_reducible refine bel_set ?_ ?_ _; rotate_left; ((try simp); (try omega))))) hba
        clear hba hfa
        have HRa := Lib.hid hra
        clear hra
        go_wp2_with fail
        refine (H9.out.2.1 _).mono ?_
        rintro e wb ⟨vb, Gb, rfl, hbb, hrb, -⟩
        obtain ⟨Ab, cb, rfl⟩ := cL_form hrb
        have hBb : Below w.heap.size w wb := bel_then (by repeat (first | with_reducible exact Below.refl _ _ | with_reducible assumption | with_reducible refine bel_alloc ?_ _ | with_reducible refine bel_drew ?_ | with_reducible refine bel_drewN ?_ _ | (with_reducible refine bel_set ?_ ?_ _; rotate_left; ((try simp); (try omega))))) hbb
        have hra2 := Cod.bel HRa.out (bel_then (by repeat (first | with_reducible exact Below.refl _ _ | with_reducible assumption | with_reducible refine bel_alloc ?_ _ | with_reducible refine bel_drew ?_ | with_reducible refine bel_drewN ?_ _ | (with_reducible refine bel_set ?_ ?_ _; rotate_left; ((try simp); (try omega))))) hbb)
        clear hbb hrb
        have hC : ∀ W, Below wb.heap.size wb W → Calls Tryd.prog 18 #[.slice Aa ls.length ca] W (Gives W (.int .i64 (countWrites ls))) := fun W hb => implCountWrites_any _ ls Ga W (Cod.bel hra2 hb) (by have := H9.out.2.2; omega)
        have hIs : ∀ W, Below wb.heap.size wb W → Calls Tryd.prog 17 #[.slice Aa ls.length ca] W (Gives W (.bool (isScript ls))) := fun W hb => implIsScript_any _ ls Ga W (Cod.bel hra2 hb) (by have := H9.out.2.2; omega)
        have hcl := count_le ls
        have HC := Lib.hid (And.intro hC hIs)
        clear hC hIs hra2
        rcases hw9 with ⟨rfl, hsc⟩ | ⟨hbd, rfl⟩
        · rw [hsc] at HC
          generalize ls.length = nl at *
          generalize countWrites ls = cw at *
          go_wp2_with fail
          refine (HC.out.2 _ (by repeat (first | with_reducible exact Below.refl _ _ | with_reducible assumption | with_reducible refine bel_alloc ?_ _ | with_reducible refine bel_drew ?_ | with_reducible refine bel_drewN ?_ _ | (with_reducible refine bel_set ?_ ?_ _; rotate_left; ((try simp); (try omega)))))).mono ?_
          rintro e wc ⟨rfl, hbc⟩
          have hBc : Below w.heap.size w wc := bel_then (by repeat (first | with_reducible exact Below.refl _ _ | with_reducible assumption | with_reducible refine bel_alloc ?_ _ | with_reducible refine bel_drew ?_ | with_reducible refine bel_drewN ?_ _ | (with_reducible refine bel_set ?_ ?_ _; rotate_left; ((try simp); (try omega))))) hbc
          have hBd : Below wb.heap.size wb wc := bel_then (by repeat (first | with_reducible exact Below.refl _ _ | with_reducible assumption | with_reducible refine bel_alloc ?_ _ | with_reducible refine bel_drew ?_ | with_reducible refine bel_drewN ?_ _ | (with_reducible refine bel_set ?_ ?_ _; rotate_left; ((try simp); (try omega))))) hbc
          clear hbc
          go_wp2_with fail
          refine (HC.out.1 _ (by repeat (first | with_reducible exact Below.refl _ _ | with_reducible assumption | with_reducible refine bel_alloc ?_ _ | with_reducible refine bel_drew ?_ | with_reducible refine bel_drewN ?_ _ | (with_reducible refine bel_set ?_ ?_ _; rotate_left; ((try simp); (try omega)))))).mono ?_
          rintro e wd ⟨rfl, hbd⟩
          have hBe : Below w.heap.size w wd := bel_then (by repeat (first | with_reducible exact Below.refl _ _ | with_reducible assumption | with_reducible refine bel_alloc ?_ _ | with_reducible refine bel_drew ?_ | with_reducible refine bel_drewN ?_ _ | (with_reducible refine bel_set ?_ ?_ _; rotate_left; ((try simp); (try omega))))) hbd
          go_wp2_with fail
          go_ret
          exact ⟨rfl, (by repeat (first | with_reducible exact Below.refl _ _ | with_reducible assumption | with_reducible refine bel_alloc ?_ _ | with_reducible refine bel_drew ?_ | with_reducible refine bel_drewN ?_ _ | (with_reducible refine bel_set ?_ ?_ _; rotate_left; ((try simp); (try omega)))))⟩
        · have hb1 : (bd == -1) = false := by simp [hbd]
          have hb2 : (bd != -1) = true := by simp [hbd]
          have hc0 : countWrites [] = 0 := rfl
          rw [hc0] at HC
          simp only [List.length_nil] at HC ⊢
          clear hcl hbd
          go_wp2_with fail
          refine (HC.out.1 _ (by repeat (first | with_reducible exact Below.refl _ _ | with_reducible assumption | with_reducible refine bel_alloc ?_ _ | with_reducible refine bel_drew ?_ | with_reducible refine bel_drewN ?_ _ | (with_reducible refine bel_set ?_ ?_ _; rotate_left; ((try simp); (try omega)))))).mono ?_
          rintro e wd ⟨rfl, hbd⟩
          have hBe : Below w.heap.size w wd := bel_then (by repeat (first | with_reducible exact Below.refl _ _ | with_reducible assumption | with_reducible refine bel_alloc ?_ _ | with_reducible refine bel_drew ?_ | with_reducible refine bel_drewN ?_ _ | (with_reducible refine bel_set ?_ ?_ _; rotate_left; ((try simp); (try omega))))) hbd
          go_wp2_with fail
          go_ret
          exact ⟨rfl, (by repeat (first | with_reducible exact Below.refl _ _ | with_reducible assumption | with_reducible refine bel_alloc ?_ _ | with_reducible refine bel_drew ?_ | with_reducible refine bel_drewN ?_ _ | (with_reducible refine bel_set ?_ ?_ _; rotate_left; ((try simp); (try omega)))))⟩
      · have hF6 : ∀ W, Gd W → Calls Tryd.prog 9 #[.agg #[.int .i64 zk, .int .i64 zr, .int .i64 zn, .string zt]] W (Gives W (.string raw)) := fun W hg => by have h1 := HP5.out.2.2.1 W hg; rw [HP5.out.2.2.2 rfl, baOf_of] at h1; exact h1
        have HF6 := Lib.hid hF6
        clear hF6
        go_wp2_with fail
        refine (HF6.out _ (HG.out.bel (by repeat (first | with_reducible exact Below.refl _ _ | with_reducible assumption | with_reducible refine bel_alloc ?_ _ | with_reducible refine bel_drew ?_ | with_reducible refine bel_drewN ?_ _ | (with_reducible refine bel_set ?_ ?_ _; rotate_left; ((try simp); (try omega))))))).mono ?_
        rintro e w8 ⟨rfl, hb8⟩
        have hB8 : Below w.heap.size w w8 := bel_then (by repeat (first | with_reducible exact Below.refl _ _ | with_reducible assumption | with_reducible refine bel_alloc ?_ _ | with_reducible refine bel_drew ?_ | with_reducible refine bel_drewN ?_ _ | (with_reducible refine bel_set ?_ ?_ _; rotate_left; ((try simp); (try omega))))) hb8
        clear hb8
        clear hcc7 hff7
        go_wp2_with fail
        refine (drawParseLines_any _ xs F _ (Cod.bel HR.out (by repeat (first | with_reducible exact Below.refl _ _ | with_reducible assumption | with_reducible refine bel_alloc ?_ _ | with_reducible refine bel_drew ?_ | with_reducible refine bel_drewN ?_ _ | (with_reducible refine bel_set ?_ ?_ _; rotate_left; ((try simp); (try omega)))))) hn).mono ?_
        rintro e w9 ⟨tx, rfl, htx, hb9⟩
        have hB9 : Below w.heap.size w w9 := bel_then (by repeat (first | with_reducible exact Below.refl _ _ | with_reducible assumption | with_reducible refine bel_alloc ?_ _ | with_reducible refine bel_drew ?_ | with_reducible refine bel_drewN ?_ _ | (with_reducible refine bel_set ?_ ?_ _; rotate_left; ((try simp); (try omega))))) hb9
        clear hb9
        have hL9 := fun W (hg : Gd W) => implParseLines_any tx W (by omega) hg
        have hM9 := fun W => specParseLines_any tx W (by omega)
        have hz9 := parseLines_sz tx
        have hw9 := lines_what tx.data.toList
        generalize (parseLines tx.data.toList).1 = ls at hL9 hM9 hz9 hw9
        generalize (parseLines tx.data.toList).2 = bd at hL9 hM9 hw9
        have H9 := Lib.hid (And.intro hL9 (And.intro hM9 hz9))
        clear hL9 hM9 hz9
        go_wp2_with fail
        refine (H9.out.1 _ (HG.out.bel (by repeat (first | with_reducible exact Below.refl _ _ | with_reducible assumption | with_reducible refine bel_alloc ?_ _ | with_reducible refine bel_drew ?_ | with_reducible refine bel_drewN ?_ _ | (with_reducible refine bel_set ?_ ?_ _; rotate_left; ((try simp); (try omega))))))).mono ?_
        rintro e wa ⟨va, Ga, rfl, hba, hra, hfa⟩
        obtain ⟨Aa, ca, rfl⟩ := cL_form hra
        have hBa : Below w.heap.size w wa := bel_then (by repeat (first | with_reducible exact Below.refl _ _ | with_reducible assumption | with_reducible refine bel_alloc ?_ _ | with_reducible refine bel_drew ?_ | with_reducible refine bel_drewN ?_ _ | (with_reducible refine bel_set ?_ ?_ _; rotate_left; ((try simp); (try omega))))) hba
        clear hba hfa
        have HRa := Lib.hid hra
        clear hra
        go_wp2_with fail
        refine (H9.out.2.1 _).mono ?_
        rintro e wb ⟨vb, Gb, rfl, hbb, hrb, -⟩
        obtain ⟨Ab, cb, rfl⟩ := cL_form hrb
        have hBb : Below w.heap.size w wb := bel_then (by repeat (first | with_reducible exact Below.refl _ _ | with_reducible assumption | with_reducible refine bel_alloc ?_ _ | with_reducible refine bel_drew ?_ | with_reducible refine bel_drewN ?_ _ | (with_reducible refine bel_set ?_ ?_ _; rotate_left; ((try simp); (try omega))))) hbb
        have hra2 := Cod.bel HRa.out (bel_then (by repeat (first | with_reducible exact Below.refl _ _ | with_reducible assumption | with_reducible refine bel_alloc ?_ _ | with_reducible refine bel_drew ?_ | with_reducible refine bel_drewN ?_ _ | (with_reducible refine bel_set ?_ ?_ _; rotate_left; ((try simp); (try omega))))) hbb)
        clear hbb hrb
        have hC : ∀ W, Below wb.heap.size wb W → Calls Tryd.prog 18 #[.slice Aa ls.length ca] W (Gives W (.int .i64 (countWrites ls))) := fun W hb => implCountWrites_any _ ls Ga W (Cod.bel hra2 hb) (by have := H9.out.2.2; omega)
        have hIs : ∀ W, Below wb.heap.size wb W → Calls Tryd.prog 17 #[.slice Aa ls.length ca] W (Gives W (.bool (isScript ls))) := fun W hb => implIsScript_any _ ls Ga W (Cod.bel hra2 hb) (by have := H9.out.2.2; omega)
        have hcl := count_le ls
        have HC := Lib.hid (And.intro hC hIs)
        clear hC hIs hra2
        rcases hw9 with ⟨rfl, hsc⟩ | ⟨hbd, rfl⟩
        · rw [hsc] at HC
          generalize ls.length = nl at *
          generalize countWrites ls = cw at *
          go_wp2_with fail
          refine (HC.out.2 _ (by repeat (first | with_reducible exact Below.refl _ _ | with_reducible assumption | with_reducible refine bel_alloc ?_ _ | with_reducible refine bel_drew ?_ | with_reducible refine bel_drewN ?_ _ | (with_reducible refine bel_set ?_ ?_ _; rotate_left; ((try simp); (try omega)))))).mono ?_
          rintro e wc ⟨rfl, hbc⟩
          have hBc : Below w.heap.size w wc := bel_then (by repeat (first | with_reducible exact Below.refl _ _ | with_reducible assumption | with_reducible refine bel_alloc ?_ _ | with_reducible refine bel_drew ?_ | with_reducible refine bel_drewN ?_ _ | (with_reducible refine bel_set ?_ ?_ _; rotate_left; ((try simp); (try omega))))) hbc
          have hBd : Below wb.heap.size wb wc := bel_then (by repeat (first | with_reducible exact Below.refl _ _ | with_reducible assumption | with_reducible refine bel_alloc ?_ _ | with_reducible refine bel_drew ?_ | with_reducible refine bel_drewN ?_ _ | (with_reducible refine bel_set ?_ ?_ _; rotate_left; ((try simp); (try omega))))) hbc
          clear hbc
          go_wp2_with fail
          refine (HC.out.1 _ (by repeat (first | with_reducible exact Below.refl _ _ | with_reducible assumption | with_reducible refine bel_alloc ?_ _ | with_reducible refine bel_drew ?_ | with_reducible refine bel_drewN ?_ _ | (with_reducible refine bel_set ?_ ?_ _; rotate_left; ((try simp); (try omega)))))).mono ?_
          rintro e wd ⟨rfl, hbd⟩
          have hBe : Below w.heap.size w wd := bel_then (by repeat (first | with_reducible exact Below.refl _ _ | with_reducible assumption | with_reducible refine bel_alloc ?_ _ | with_reducible refine bel_drew ?_ | with_reducible refine bel_drewN ?_ _ | (with_reducible refine bel_set ?_ ?_ _; rotate_left; ((try simp); (try omega))))) hbd
          go_wp2_with fail
          go_ret
          exact ⟨rfl, (by repeat (first | with_reducible exact Below.refl _ _ | with_reducible assumption | with_reducible refine bel_alloc ?_ _ | with_reducible refine bel_drew ?_ | with_reducible refine bel_drewN ?_ _ | (with_reducible refine bel_set ?_ ?_ _; rotate_left; ((try simp); (try omega)))))⟩
        · have hb1 : (bd == -1) = false := by simp [hbd]
          have hb2 : (bd != -1) = true := by simp [hbd]
          have hc0 : countWrites [] = 0 := rfl
          rw [hc0] at HC
          simp only [List.length_nil] at HC ⊢
          clear hcl hbd
          go_wp2_with fail
          refine (HC.out.1 _ (by repeat (first | with_reducible exact Below.refl _ _ | with_reducible assumption | with_reducible refine bel_alloc ?_ _ | with_reducible refine bel_drew ?_ | with_reducible refine bel_drewN ?_ _ | (with_reducible refine bel_set ?_ ?_ _; rotate_left; ((try simp); (try omega)))))).mono ?_
          rintro e wd ⟨rfl, hbd⟩
          have hBe : Below w.heap.size w wd := bel_then (by repeat (first | with_reducible exact Below.refl _ _ | with_reducible assumption | with_reducible refine bel_alloc ?_ _ | with_reducible refine bel_drew ?_ | with_reducible refine bel_drewN ?_ _ | (with_reducible refine bel_set ?_ ?_ _; rotate_left; ((try simp); (try omega))))) hbd
          go_wp2_with fail
          go_ret
          exact ⟨rfl, (by repeat (first | with_reducible exact Below.refl _ _ | with_reducible assumption | with_reducible refine bel_alloc ?_ _ | with_reducible refine bel_drew ?_ | with_reducible refine bel_drewN ?_ _ | (with_reducible refine bel_set ?_ ?_ _; rotate_left; ((try simp); (try omega)))))⟩
set_option maxRecDepth 100000 in
theorem lawScripts_walk (H : Type) (enc : TypeId × Value → H) (W : World) (base : Nat) (args : Array Value) (ds : List (DataW H)) (p : List MemPlace)
    (hval : ∀ (j : Nat) t v, Tryd.f3.params[j]? = some t → args[j]? = some v → Value.okWide Tryd.prog W .any base t v)
    (hA : DataW.TrodAll enc Tryd.prog W 0 (fun _ => true) true Tryd.f3.params.toList args.toList ds p) (hf : W.noneFrozen p)
    (hL : laidMetH Tryd.prog Rows.fnScriptsRow.laid W) (hsh : W.ShapedOpen Tryd.prog) :
    Calls Tryd.prog 3 args W (Gives W (.bool true)) := by
  rw [Tryd.params3] at hA hval
  obtain ⟨v0, vs0, d0, ds0, q0, s0, hargs, rfl, rfl, k0, t0⟩ := trodAll_cons hA
  obtain ⟨rfl, rfl, rfl⟩ := trodAll_nil t0
  obtain rfl : args = #[v0] := by cases args; simp_all
  obtain ⟨x0, F0, hx0⟩ := opens_US.slice_ Tryd.underlying22 (hval 0 _ _ rfl rfl) k0 (noneFrozen_mono hf fun y hy => by simp [hy])
  rw [MakeChecks.laidMetH_plain _ _ _ (by kernel_rfl)] at hL
  exact lawScripts_any v0 x0 F0 W hx0 (gd_of hL hsh)

set_option maxRecDepth 100000 in
theorem lawScripts_lifted (os : Os) (started : os.Started) (H : Type) (enc : TypeId × Value → H) :
    ReturnsInHanded {} Tryd.checked os 3 .any (fun w args => (Rows.fnScriptsSpec.pre enc Tryd.prog Tryd.f3 Rows.fnScriptsRow.domain false w args ∧ laidMetH Tryd.prog Rows.fnScriptsRow.laid w) ∧ sizedMet enc Tryd.prog Tryd.f3 (OpenSpec.ofChange Rows.fnScriptsSpec) false w args)
      (Rows.fnScriptsSpec.post enc Tryd.prog Tryd.f3 false true false false) := by
  refine door_lift (C := Tryd.checked) (X := fun w _ => laidMetH Tryd.prog Rows.fnScriptsRow.laid w) (fun _ _ _ hh h => h.of_heap hh) door_own started (by kernel_rfl) Tryd.func3
    (ChangeSpec.witness_shaped (enc := enc) (C := Tryd.checked) (os := os) (X := fun w _ => laidMetH Tryd.prog Rows.fnScriptsRow.laid w) false (World.laidAll Tryd.prog os Rows.fnScriptsRow.laid) #[.slice none 0 0] 16 (World.laidAll_os _ _ _)
      (World.shaped_of_ZipB (by kernel_rfl) (by kernel_rfl)) (by kernel_rfl) (by kernel_rfl) (by kernel_rfl)
      (by rw [MakeChecks.laidMetH_plain _ _ _ (by kernel_rfl)]; exact laidMet_laidAll _ (by kernel_rfl) (by kernel_rfl))) ?_
  intro W base args ds gs before hval hW hL hsh
  have hW' := hW
  obtain ⟨p, q, hA, hV, rfl, hfz, hnd⟩ := hW
  refine (lawScripts_walk H enc W base args ds p hval hA (noneFrozen_mono hfz fun y hy => by simp [hy]) hL hsh).mono fun e W' ⟨he, hb⟩ => ⟨_, he, ?_⟩
  exact law_post (by kernel_rfl) rfl (by kernel_rfl) Tryd.underlying4 (by kernel_rfl) (fun ds h => by
    match ds, h with
    | [d0], _ => exact ⟨rfl, rfl, rfl⟩) hW' hb
theorem lawScripts_over : Rows.fnScriptsRow.holds Tryd.pinned (OpenSpec.ofChange Rows.fnScriptsSpec) :=
  OpenClaim.holds_of_wide 3 Tryd.f3 rfl rfl rfl rfl rfl rfl rfl ⟨rfl, rfl, rfl, rfl, rfl⟩ rfl rfl rfl rfl rfl (by kernel_rfl) Tryd.func3 (by kernel_rfl)
    (of_decide_eq_true (by kernel_rfl)) (by unfold Func.isWrapper; first | (rw [if_neg (of_decide_eq_false (by kernel_rfl))]; exact ⟨rfl, rfl⟩) | (rw [if_pos (of_decide_eq_true (by kernel_rfl))]; kernel_rfl))
    (fun os started H enc _ => lawScripts_lifted os started H enc)
/-- THE STATEMENT -/
theorem lawScripts_holds : Rows.FnScriptsCardSaid :=
  Claim7.holds_tied_plain_at .later [] [.data, .data, .data, .data, .sentinel, .sentinel, .pinned] true Rows.fnScriptsCard.stood.harness true lawScripts_over (fun _ h => by cases h) (by kernel_rfl) (fun _ h => by cases h) fnScripts_row_tie rfl ⟨rfl, rfl⟩ (by kernel_rfl) rfl
    (fun f fn hf hfn => by
      obtain rfl : f = 3 := Option.some.inj ((show Tryd.prog.funcNamed Rows.fnScriptsRow.func = some 3 by kernel_rfl).symm.trans hf) |>.symm
      obtain rfl : fn = Tryd.f3 := (Option.some.inj (Tryd.func3.symm.trans hfn)).symm
      exact ⟨by kernel_rfl, fun j t ht => by
        have hm : t ∈ Tryd.f3.params.toList := by simpa using Array.mem_of_getElem? ht
        have hall : (Tryd.f3.params.toList.all fun u => !Tryd.prog.wantsStandIn u) = true := by kernel_rfl
        exact (show Tryd.prog.wantsStandIn t = false by simpa using List.all_eq_true.1 hall t hm)⟩)
    (by kernel_rfl)

end Go.Proofs.YtlicnppfgfjkgaaDoor
