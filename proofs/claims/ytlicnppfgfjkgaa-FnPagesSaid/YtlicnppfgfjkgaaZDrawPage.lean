/-
  BeginPage of the reference; where the draw of a page stands. No conditions but the sizes of the law.
-/
import Derived.Test.YtlicnppfgfjkgaaZLoadFile
import Derived.Test.YtlicnppfgfjkgaaZNewMach
import Derived.Test.YtlicnppfgfjkgaaZDrawScr
import Derived.Test.YtlicnppfgfjkgaaZDrawUsed
import Derived.Test.YtlicnppfgfjkgaaZDrawW
namespace Go.Proofs.Ytlicnppfgfjkgaa
open Go.ChangeShapes Go.WideShapes Go.RowKit
set_option linter.unusedVariables false

theorem Only.belwP {F : List Nat} {a b c : World} (h : Only F a b) (k : Below b.heap.size b c) : Only F a c :=
  ⟨k.os.trans h.os, k.tape.trans h.tape, k.output.trans h.output, Nat.le_trans h.size k.size, fun j hj hn => (k.block j (Nat.lt_of_lt_of_le hj h.size)).trans (h.block j hj hn)⟩
def zeroPage : TPage := ⟨0, ⟨#[]⟩, ⟨#[]⟩, 0, [], ⟨[], 0, [], 0, false, false⟩⟩
def beginPage (id : Int) (site top : ByteArray) (ver : Int) (l : List TIns) : TPage × Bool := bif isPage ⟨id, site, top, ver, [], newMachine l⟩ then (⟨id, site, top, ver, [], newMachine l⟩, true) else (zeroPage, false)
theorem rows_nil {α : Type} {c : Cod α} {hw : 0 < c.wd} {hw2 : c.wd ≤ 32} (w : World) : (cL c hw hw2).rep w [.slice none 0 0] [] [] := ⟨none, 0, rfl, Nat.le_refl _, by decide, .inl ⟨rfl, rfl⟩⟩
theorem zeroMach (w : World) : cMach.rep w [.slice none 0 0, .int .i64 0, .slice none 0 0, .int .i64 0, .bool false, .bool false] ⟨[], 0, [], 0, false, false⟩ ([] ++ []) :=
  TMach.mk_ (x := ⟨[], 0, [], 0, false, false⟩) ⟨by decide, by decide⟩ (rows_nil w) (rows_nil w)
theorem PageV.zero (B : Nat) (w : World) : PageV B w zeroPage none 0 none 0 none 0 [] :=
  PageV.empty (x := zeroPage) none (zeroMach w) (Fresh.nil _) ⟨by decide, by decide, by decide, by decide, by decide, by decide⟩ rfl
set_option maxRecDepth 100000 in
set_option maxHeartbeats 8000000 in
theorem specBeginPage_any (id : Int) (site top : ByteArray) (ver : Int) (v : Value) (l : List TIns) (F : List Nat) (w : World) (hid : 0 ≤ id ∧ id ≤ 1000000000001) (hst : site.size ≤ 1000) (htp : top.size ≤ 1000) (hvr : 0 ≤ ver ∧ ver ≤ 1000000000001) (h : cInsS.rep w [v] l F) (hn : cInsS.sz l ≤ 10000) :
    Calls Try.prog 157 #[.int .i64 id, .string site, .string top, .int .i64 ver, v] w (GivesPg2 w (beginPage id site top ver l).1 (.bool (beginPage id site top ver l).2)) := by
  obtain ⟨A, cp, rfl⟩ := cL_form h
  have HE := Lib.hid (show beginPage id site top ver l = bif isPage ⟨id, site, top, ver, [], newMachine l⟩ then (⟨id, site, top, ver, [], newMachine l⟩, true) else (zeroPage, false) from rfl)
  go_enter Try.func157, Try.ntmps157
  go_wp2_with fail
  refine (specNewMachine_any _ l _ _ (by exact Cod.bel h (by repeat (first | with_reducible exact Below.refl _ _ | with_reducible assumption | with_reducible refine bel_alloc ?_ _ | with_reducible refine bel_drew ?_ | with_reducible refine bel_drewN ?_ _ | (with_reducible refine bel_set ?_ ?_ _; rotate_left; ((try simp); (try omega)))))) (by omega)).mono ?_
  have hms := newMachine_sz l
  obtain ⟨mach, hm⟩ : ∃ m, newMachine l = m := ⟨_, rfl⟩
  rw [hm] at hms HE ⊢
  clear hm
  rintro e w1 ⟨vs1, F1, rfl, hb1, hr1, hf1⟩
  obtain ⟨B5, d5, B7, d7, rfl⟩ := mach_formA hr1
  have hmo := (TMach.out hr1).choose_spec.choose_spec.choose_spec.choose_spec.2.2.1
  have hQ : Blk w1 w.heap.size 41 #[.int .i64 0, .string ⟨#[]⟩, .string ⟨#[]⟩, .int .i64 0, .slice none 0 0, .slice none 0 0, .int .i64 0, .slice none 0 0, .int .i64 0, .bool false, .bool false] := Blk.bel (Blk.new w _ _) hb1
  have hB1 : Below w.heap.size w w1 := bel_then (by repeat (first | with_reducible exact Below.refl _ _ | with_reducible assumption | with_reducible refine bel_alloc ?_ _ | with_reducible refine bel_drew ?_ | with_reducible refine bel_drewN ?_ _ | (with_reducible refine bel_set ?_ ?_ _; rotate_left; ((try simp); (try omega))))) hb1
  have hz1 := hb1.size
  (try simp at hz1)
  go_upto_region 2 with (fail)
  obtain ⟨ob, hob⟩ : ∃ ob, w1.heap.size = ob := ⟨_, rfl⟩
  generalize hW : World.alloc w1 _ = W
  have hbW : Below w1.heap.size w1 W := by rw [← hW]; exact bel_oneP _ _
  have hO : Blk W w1.heap.size 41 #[.int .i64 id, .string site, .string top, .int .i64 ver, .slice none 0 0, .slice B5 mach.script.length d5, .int .i64 mach.pc, .slice B7 mach.regs.length d7, .int .i64 mach.steps, .bool mach.done, .bool mach.wait] := by rw [← hW]; exact Blk.new w1 _ _
  have hWs : w1.heap.size < W.heap.size := by rw [← hW]; simp
  have hPV : PageV (w.heap.size + 1) W ⟨id, site, top, ver, [], mach⟩ none 0 B5 d5 B7 d7 F1 := PageV.empty (x := ⟨id, site, top, ver, [], mach⟩) none (Cod.bel hr1 hbW) (hf1.mono (by (try simp))) ⟨by simp only; omega, by unfold maxLen; simp only; omega, by unfold maxLen; simp only; omega, by simp only; omega, hmo.h1, hmo.h3⟩ rfl
  have hBW : Below w.heap.size w W := bel_then hB1 hbW
  have HQ := Lib.hid (hQ.bel hbW)
  rw [hob] at hO hWs hz1 ⊢
  have HPV := Lib.hid hPV
  have HO := Lib.hid hO
  have hsz : cPage.sz ⟨id, site, top, ver, [], mach⟩ ≤ 1048576 := by rw [page_sz]; show site.size + (top.size + (0 + cMach.sz mach)) ≤ _; omega
  clear hW hbW hr1 hf1 hb1 hB1 hQ hob hPV hmo hms
  have o0 : W.cell? ⟨ob, 0, none⟩ = some (.int .i64 id) := hO.cell 0
  have o1 : W.cell? ⟨ob, 1, none⟩ = some (.string site) := hO.cell 1
  have o2 : W.cell? ⟨ob, 2, none⟩ = some (.string top) := hO.cell 2
  have o3 : W.cell? ⟨ob, 3, none⟩ = some (.int .i64 ver) := hO.cell 3
  have o4 : W.cell? ⟨ob, 4, none⟩ = some (.slice none 0 0) := hO.cell 4
  have o5 : W.cell? ⟨ob, 5, none⟩ = some (.slice B5 mach.script.length d5) := hO.cell 5
  have o6 : W.cell? ⟨ob, 6, none⟩ = some (.int .i64 mach.pc) := hO.cell 6
  have o7 : W.cell? ⟨ob, 7, none⟩ = some (.slice B7 mach.regs.length d7) := hO.cell 7
  have o8 : W.cell? ⟨ob, 8, none⟩ = some (.int .i64 mach.steps) := hO.cell 8
  have o9 : W.cell? ⟨ob, 9, none⟩ = some (.bool mach.done) := hO.cell 9
  have o10 : W.cell? ⟨ob, 10, none⟩ = some (.bool mach.wait) := hO.cell 10
  obtain ⟨G, hr, -, -⟩ := HPV.out.rep
  have HR := Lib.hid hr
  clear hr
  have hsw : w.heap.size < W.heap.size := by omega
  cases e1 : isPage ⟨id, site, top, ver, [], mach⟩
  ·
    go_wp2_with fail
    refine (specIsPage_any _ ⟨id, site, top, ver, [], mach⟩ _ _ (by exact HR.out) hsz).mono ?_
    rw [e1]
    rintro e w3 ⟨rfl, hb3⟩
    have hQ3 := HQ.out.bel hb3
    have hO3 := HO.out.bel hb3
    clear o0 o1 o2 o3 o4 o5 o6 o7 o8 o9 o10 hO
    have o0 : w3.cell? ⟨ob, 0, none⟩ = some (.int .i64 id) := hO3.cell 0
    have o1 : w3.cell? ⟨ob, 1, none⟩ = some (.string site) := hO3.cell 1
    have o2 : w3.cell? ⟨ob, 2, none⟩ = some (.string top) := hO3.cell 2
    have o3 : w3.cell? ⟨ob, 3, none⟩ = some (.int .i64 ver) := hO3.cell 3
    have o4 : w3.cell? ⟨ob, 4, none⟩ = some (.slice none 0 0) := hO3.cell 4
    have o5 : w3.cell? ⟨ob, 5, none⟩ = some (.slice B5 mach.script.length d5) := hO3.cell 5
    have o6 : w3.cell? ⟨ob, 6, none⟩ = some (.int .i64 mach.pc) := hO3.cell 6
    have o7 : w3.cell? ⟨ob, 7, none⟩ = some (.slice B7 mach.regs.length d7) := hO3.cell 7
    have o8 : w3.cell? ⟨ob, 8, none⟩ = some (.int .i64 mach.steps) := hO3.cell 8
    have o9 : w3.cell? ⟨ob, 9, none⟩ = some (.bool mach.done) := hO3.cell 9
    have o10 : w3.cell? ⟨ob, 10, none⟩ = some (.bool mach.wait) := hO3.cell 10
    have hBw3 : Below w.heap.size w w3 := bel_then hBW hb3
    have q0 : w3.cell? ⟨w.heap.size, 0, none⟩ = some (.int .i64 0) := hQ3.cell 0
    have f0 : w3.frozen? ⟨w.heap.size, 0, none⟩ = false := hQ3.frozen 0
    have q1 : w3.cell? ⟨w.heap.size, 1, none⟩ = some (.string ⟨#[]⟩) := hQ3.cell 1
    have f1 : w3.frozen? ⟨w.heap.size, 1, none⟩ = false := hQ3.frozen 1
    have q2 : w3.cell? ⟨w.heap.size, 2, none⟩ = some (.string ⟨#[]⟩) := hQ3.cell 2
    have f2 : w3.frozen? ⟨w.heap.size, 2, none⟩ = false := hQ3.frozen 2
    have q3 : w3.cell? ⟨w.heap.size, 3, none⟩ = some (.int .i64 0) := hQ3.cell 3
    have f3 : w3.frozen? ⟨w.heap.size, 3, none⟩ = false := hQ3.frozen 3
    have q4 : w3.cell? ⟨w.heap.size, 4, none⟩ = some (.slice none 0 0) := hQ3.cell 4
    have f4 : w3.frozen? ⟨w.heap.size, 4, none⟩ = false := hQ3.frozen 4
    have q5 : w3.cell? ⟨w.heap.size, 5, none⟩ = some (.slice none 0 0) := hQ3.cell 5
    have f5 : w3.frozen? ⟨w.heap.size, 5, none⟩ = false := hQ3.frozen 5
    have q6 : w3.cell? ⟨w.heap.size, 6, none⟩ = some (.int .i64 0) := hQ3.cell 6
    have f6 : w3.frozen? ⟨w.heap.size, 6, none⟩ = false := hQ3.frozen 6
    have q7 : w3.cell? ⟨w.heap.size, 7, none⟩ = some (.slice none 0 0) := hQ3.cell 7
    have f7 : w3.frozen? ⟨w.heap.size, 7, none⟩ = false := hQ3.frozen 7
    have q8 : w3.cell? ⟨w.heap.size, 8, none⟩ = some (.int .i64 0) := hQ3.cell 8
    have f8 : w3.frozen? ⟨w.heap.size, 8, none⟩ = false := hQ3.frozen 8
    have q9 : w3.cell? ⟨w.heap.size, 9, none⟩ = some (.bool false) := hQ3.cell 9
    have f9 : w3.frozen? ⟨w.heap.size, 9, none⟩ = false := hQ3.frozen 9
    have q10 : w3.cell? ⟨w.heap.size, 10, none⟩ = some (.bool false) := hQ3.cell 10
    have f10 : w3.frozen? ⟨w.heap.size, 10, none⟩ = false := hQ3.frozen 10
    go_wp2_with fail
    refine sets_ret11 hQ3 rfl (fun W9 e9 hb9 => ?_)
    have c0 : W9.cell? ⟨w.heap.size, 0, none⟩ = some (.int .i64 0) := hb9.cell 0
    have c1 : W9.cell? ⟨w.heap.size, 1, none⟩ = some (.string ⟨#[]⟩) := hb9.cell 1
    have c2 : W9.cell? ⟨w.heap.size, 2, none⟩ = some (.string ⟨#[]⟩) := hb9.cell 2
    have c3 : W9.cell? ⟨w.heap.size, 3, none⟩ = some (.int .i64 0) := hb9.cell 3
    have c4 : W9.cell? ⟨w.heap.size, 4, none⟩ = some (.slice none 0 0) := hb9.cell 4
    have c5 : W9.cell? ⟨w.heap.size, 5, none⟩ = some (.slice none 0 0) := hb9.cell 5
    have c6 : W9.cell? ⟨w.heap.size, 6, none⟩ = some (.int .i64 0) := hb9.cell 6
    have c7 : W9.cell? ⟨w.heap.size, 7, none⟩ = some (.slice none 0 0) := hb9.cell 7
    have c8 : W9.cell? ⟨w.heap.size, 8, none⟩ = some (.int .i64 0) := hb9.cell 8
    have c9 : W9.cell? ⟨w.heap.size, 9, none⟩ = some (.bool false) := hb9.cell 9
    have c10 : W9.cell? ⟨w.heap.size, 10, none⟩ = some (.bool false) := hb9.cell 10
    refine bodyPost_ret (v := .tuple #[.agg #[.int .i64 0, .string ⟨#[]⟩, .string ⟨#[]⟩, .int .i64 0, .slice none 0 0, .slice none 0 0, .int .i64 0, .slice none 0 0, .int .i64 0, .bool false, .bool false], .bool false]) (by simp [results, Try.results157, go_sem, c0, c1, c2, c3, c4, c5, c6, c7, c8, c9, c10]) rfl ?_
    subst e9
    rw [show beginPage id site top ver l = (zeroPage, false) from by rw [HE.out, e1]; rfl]
    exact ⟨none, 0, none, 0, none, 0, [], rfl, (by repeat (first | with_reducible exact Below.refl _ _ | with_reducible assumption | with_reducible refine bel_alloc ?_ _ | with_reducible refine bel_drew ?_ | with_reducible refine bel_drewN ?_ _ | (with_reducible refine bel_set ?_ ?_ _; rotate_left; ((try simp); (try omega))))), PageV.zero _ _⟩
  ·
    go_wp2_with fail
    refine (specIsPage_any _ ⟨id, site, top, ver, [], mach⟩ _ _ (by exact HR.out) hsz).mono ?_
    rw [e1]
    rintro e w3 ⟨rfl, hb3⟩
    have hQ3 := HQ.out.bel hb3
    have hO3 := HO.out.bel hb3
    clear o0 o1 o2 o3 o4 o5 o6 o7 o8 o9 o10 hO
    have o0 : w3.cell? ⟨ob, 0, none⟩ = some (.int .i64 id) := hO3.cell 0
    have o1 : w3.cell? ⟨ob, 1, none⟩ = some (.string site) := hO3.cell 1
    have o2 : w3.cell? ⟨ob, 2, none⟩ = some (.string top) := hO3.cell 2
    have o3 : w3.cell? ⟨ob, 3, none⟩ = some (.int .i64 ver) := hO3.cell 3
    have o4 : w3.cell? ⟨ob, 4, none⟩ = some (.slice none 0 0) := hO3.cell 4
    have o5 : w3.cell? ⟨ob, 5, none⟩ = some (.slice B5 mach.script.length d5) := hO3.cell 5
    have o6 : w3.cell? ⟨ob, 6, none⟩ = some (.int .i64 mach.pc) := hO3.cell 6
    have o7 : w3.cell? ⟨ob, 7, none⟩ = some (.slice B7 mach.regs.length d7) := hO3.cell 7
    have o8 : w3.cell? ⟨ob, 8, none⟩ = some (.int .i64 mach.steps) := hO3.cell 8
    have o9 : w3.cell? ⟨ob, 9, none⟩ = some (.bool mach.done) := hO3.cell 9
    have o10 : w3.cell? ⟨ob, 10, none⟩ = some (.bool mach.wait) := hO3.cell 10
    have hBw3 : Below w.heap.size w w3 := bel_then hBW hb3
    have q0 : w3.cell? ⟨w.heap.size, 0, none⟩ = some (.int .i64 0) := hQ3.cell 0
    have f0 : w3.frozen? ⟨w.heap.size, 0, none⟩ = false := hQ3.frozen 0
    have q1 : w3.cell? ⟨w.heap.size, 1, none⟩ = some (.string ⟨#[]⟩) := hQ3.cell 1
    have f1 : w3.frozen? ⟨w.heap.size, 1, none⟩ = false := hQ3.frozen 1
    have q2 : w3.cell? ⟨w.heap.size, 2, none⟩ = some (.string ⟨#[]⟩) := hQ3.cell 2
    have f2 : w3.frozen? ⟨w.heap.size, 2, none⟩ = false := hQ3.frozen 2
    have q3 : w3.cell? ⟨w.heap.size, 3, none⟩ = some (.int .i64 0) := hQ3.cell 3
    have f3 : w3.frozen? ⟨w.heap.size, 3, none⟩ = false := hQ3.frozen 3
    have q4 : w3.cell? ⟨w.heap.size, 4, none⟩ = some (.slice none 0 0) := hQ3.cell 4
    have f4 : w3.frozen? ⟨w.heap.size, 4, none⟩ = false := hQ3.frozen 4
    have q5 : w3.cell? ⟨w.heap.size, 5, none⟩ = some (.slice none 0 0) := hQ3.cell 5
    have f5 : w3.frozen? ⟨w.heap.size, 5, none⟩ = false := hQ3.frozen 5
    have q6 : w3.cell? ⟨w.heap.size, 6, none⟩ = some (.int .i64 0) := hQ3.cell 6
    have f6 : w3.frozen? ⟨w.heap.size, 6, none⟩ = false := hQ3.frozen 6
    have q7 : w3.cell? ⟨w.heap.size, 7, none⟩ = some (.slice none 0 0) := hQ3.cell 7
    have f7 : w3.frozen? ⟨w.heap.size, 7, none⟩ = false := hQ3.frozen 7
    have q8 : w3.cell? ⟨w.heap.size, 8, none⟩ = some (.int .i64 0) := hQ3.cell 8
    have f8 : w3.frozen? ⟨w.heap.size, 8, none⟩ = false := hQ3.frozen 8
    have q9 : w3.cell? ⟨w.heap.size, 9, none⟩ = some (.bool false) := hQ3.cell 9
    have f9 : w3.frozen? ⟨w.heap.size, 9, none⟩ = false := hQ3.frozen 9
    have q10 : w3.cell? ⟨w.heap.size, 10, none⟩ = some (.bool false) := hQ3.cell 10
    have f10 : w3.frozen? ⟨w.heap.size, 10, none⟩ = false := hQ3.frozen 10
    go_wp2_with fail
    refine sets_ret11 hQ3 rfl (fun W9 e9 hb9 => ?_)
    have c0 : W9.cell? ⟨w.heap.size, 0, none⟩ = some (.int .i64 id) := hb9.cell 0
    have c1 : W9.cell? ⟨w.heap.size, 1, none⟩ = some (.string site) := hb9.cell 1
    have c2 : W9.cell? ⟨w.heap.size, 2, none⟩ = some (.string top) := hb9.cell 2
    have c3 : W9.cell? ⟨w.heap.size, 3, none⟩ = some (.int .i64 ver) := hb9.cell 3
    have c4 : W9.cell? ⟨w.heap.size, 4, none⟩ = some (.slice none 0 0) := hb9.cell 4
    have c5 : W9.cell? ⟨w.heap.size, 5, none⟩ = some (.slice B5 mach.script.length d5) := hb9.cell 5
    have c6 : W9.cell? ⟨w.heap.size, 6, none⟩ = some (.int .i64 mach.pc) := hb9.cell 6
    have c7 : W9.cell? ⟨w.heap.size, 7, none⟩ = some (.slice B7 mach.regs.length d7) := hb9.cell 7
    have c8 : W9.cell? ⟨w.heap.size, 8, none⟩ = some (.int .i64 mach.steps) := hb9.cell 8
    have c9 : W9.cell? ⟨w.heap.size, 9, none⟩ = some (.bool mach.done) := hb9.cell 9
    have c10 : W9.cell? ⟨w.heap.size, 10, none⟩ = some (.bool mach.wait) := hb9.cell 10
    refine bodyPost_ret (v := .tuple #[.agg #[.int .i64 id, .string site, .string top, .int .i64 ver, .slice none 0 0, .slice B5 mach.script.length d5, .int .i64 mach.pc, .slice B7 mach.regs.length d7, .int .i64 mach.steps, .bool mach.done, .bool mach.wait], .bool true]) (by simp [results, Try.results157, go_sem, c0, c1, c2, c3, c4, c5, c6, c7, c8, c9, c10]) rfl ?_
    subst e9
    rw [show beginPage id site top ver l = (⟨id, site, top, ver, [], mach⟩, true) from by rw [HE.out, e1]; rfl]
    exact ⟨none, 0, B5, d5, B7, d7, F1, rfl, (by repeat (first | with_reducible exact Below.refl _ _ | with_reducible assumption | with_reducible refine bel_alloc ?_ _ | with_reducible refine bel_drew ?_ | with_reducible refine bel_drewN ?_ _ | (with_reducible refine bel_set ?_ ?_ _; rotate_left; ((try simp); (try omega))))), ((HPV.out.bel hb3).keepB (by repeat (first | with_reducible exact Keep.refl _ _ | with_reducible assumption | with_reducible refine Keep.alloc ?_ _ | with_reducible refine Keep.drew ?_ | with_reducible refine Keep.drewN ?_ _ | (with_reducible refine Keep.set_ ?_ ?_ _; rotate_left; ((try simp); (try omega)))))).mono (by omega)⟩
/-- where the draw of a page stands: the cursor p, the page's box xb, the result's box -/
structure PgSt (p : Nat) (w0 : World) (xb : Nat) (W : World) (x : TPage) (A4 : Option Addr) (c4 : Nat) (A5 : Option Addr) (c5 : Nat) (A7 : Option Addr) (c7 : Nat) (F : List Nat) : Prop where
  b : Blk W xb 41 #[.int .i64 x.id, .string x.site, .string x.top, .int .i64 x.ver, .slice A4 x.loaded.length c4, .slice A5 x.mach.script.length c5, .int .i64 x.mach.pc, .slice A7 x.mach.regs.length c7, .int .i64 x.mach.steps, .bool x.mach.done, .bool x.mach.wait]
  q : Blk W w0.heap.size 41 #[.int .i64 0, .string ⟨#[]⟩, .string ⟨#[]⟩, .int .i64 0, .slice none 0 0, .slice none 0 0, .int .i64 0, .slice none 0 0, .int .i64 0, .bool false, .bool false]
  v : PageV (w0.heap.size + 1) W x A4 c4 A5 c5 A7 c7 F
  ne : ∀ b, (ownB (.slice A4 x.loaded.length c4) = some b ∨ b ∈ F) → b ≠ xb
  cur : Cur W p
  only : Only [p] w0 W
  lt : p < w0.heap.size ∧ w0.heap.size < xb ∧ xb < W.heap.size
section
variable {p : Nat} {w0 W W' : World} {xb : Nat} {x : TPage} {A4 : Option Addr} {c4 : Nat} {A5 : Option Addr} {c5 : Nat} {A7 : Option Addr} {c7 : Nat} {F : List Nat}
theorem PgSt.turn (h : PgSt p w0 xb W x A4 c4 A5 c5 A7 c7 F) (hO : Only [p] W W') (hc : Cur W' p) : PgSt p w0 xb W' x A4 c4 A5 c5 A7 c7 F := by
  obtain ⟨l1, l2, l3⟩ := h.lt
  exact ⟨h.b.only hO (by simp; omega), h.q.only hO (by simp; omega), h.v.only hO (by omega), h.ne, hc, h.only.trans hO, l1, l2, Nat.lt_of_lt_of_le l3 hO.size⟩
theorem PgSt.bel (h : PgSt p w0 xb W x A4 c4 A5 c5 A7 c7 F) (hb : Below W.heap.size W W') : PgSt p w0 xb W' x A4 c4 A5 c5 A7 c7 F :=
  h.turn (Only.belwP (Only.refl _ _) hb) (h.cur.bel hb)
set_option maxHeartbeats 2000000 in
/-- a new page, made by a call, stored in the box -/
theorem PgSt.put (h : PgSt p w0 xb W x A4 c4 A5 c5 A7 c7 F) {y : TPage} {B : Nat} {A4 : Option Addr} {c4 : Nat} {A5 : Option Addr} {c5 : Nat} {A7 : Option Addr} {c7 : Nat} {F : List Nat} (hv : PageV B W y A4 c4 A5 c5 A7 c7 F) (hB : xb < B) :
    PgSt p w0 xb (((((((((((W.setCell ⟨xb, 0, none⟩ (.int .i64 y.id)).setCell ⟨xb, 1, none⟩ (.string y.site)).setCell ⟨xb, 2, none⟩ (.string y.top)).setCell ⟨xb, 3, none⟩ (.int .i64 y.ver)).setCell ⟨xb, 4, none⟩ (.slice A4 y.loaded.length c4)).setCell ⟨xb, 5, none⟩ (.slice A5 y.mach.script.length c5)).setCell ⟨xb, 6, none⟩ (.int .i64 y.mach.pc)).setCell ⟨xb, 7, none⟩ (.slice A7 y.mach.regs.length c7)).setCell ⟨xb, 8, none⟩ (.int .i64 y.mach.steps)).setCell ⟨xb, 9, none⟩ (.bool y.mach.done)).setCell ⟨xb, 10, none⟩ (.bool y.mach.wait)) y A4 c4 A5 c5 A7 c7 F := by
  obtain ⟨l1, l2, l3⟩ := h.lt
  have hne : ∀ b, (ownB (.slice A4 y.loaded.length c4) = some b ∨ b ∈ F) → b ≠ xb := fun b hb => by have := (hv.lt b hb).1; omega
  have hk : Keep (xb + 1) W (((((((((((W.setCell ⟨xb, 0, none⟩ (.int .i64 y.id)).setCell ⟨xb, 1, none⟩ (.string y.site)).setCell ⟨xb, 2, none⟩ (.string y.top)).setCell ⟨xb, 3, none⟩ (.int .i64 y.ver)).setCell ⟨xb, 4, none⟩ (.slice A4 y.loaded.length c4)).setCell ⟨xb, 5, none⟩ (.slice A5 y.mach.script.length c5)).setCell ⟨xb, 6, none⟩ (.int .i64 y.mach.pc)).setCell ⟨xb, 7, none⟩ (.slice A7 y.mach.regs.length c7)).setCell ⟨xb, 8, none⟩ (.int .i64 y.mach.steps)).setCell ⟨xb, 9, none⟩ (.bool y.mach.done)).setCell ⟨xb, 10, none⟩ (.bool y.mach.wait)) := by repeat (first | with_reducible exact Keep.refl _ _ | (with_reducible refine Keep.set_ ?_ (show xb < xb + 1 by omega) _))
  have ho : Only [p] w0 (((((((((((W.setCell ⟨xb, 0, none⟩ (.int .i64 y.id)).setCell ⟨xb, 1, none⟩ (.string y.site)).setCell ⟨xb, 2, none⟩ (.string y.top)).setCell ⟨xb, 3, none⟩ (.int .i64 y.ver)).setCell ⟨xb, 4, none⟩ (.slice A4 y.loaded.length c4)).setCell ⟨xb, 5, none⟩ (.slice A5 y.mach.script.length c5)).setCell ⟨xb, 6, none⟩ (.int .i64 y.mach.pc)).setCell ⟨xb, 7, none⟩ (.slice A7 y.mach.regs.length c7)).setCell ⟨xb, 8, none⟩ (.int .i64 y.mach.steps)).setCell ⟨xb, 9, none⟩ (.bool y.mach.done)).setCell ⟨xb, 10, none⟩ (.bool y.mach.wait)) := by repeat (first | with_reducible exact h.only | (with_reducible refine Only.setNew ?_ (show w0.heap.size ≤ xb by omega) _))
  have hc : Cur (((((((((((W.setCell ⟨xb, 0, none⟩ (.int .i64 y.id)).setCell ⟨xb, 1, none⟩ (.string y.site)).setCell ⟨xb, 2, none⟩ (.string y.top)).setCell ⟨xb, 3, none⟩ (.int .i64 y.ver)).setCell ⟨xb, 4, none⟩ (.slice A4 y.loaded.length c4)).setCell ⟨xb, 5, none⟩ (.slice A5 y.mach.script.length c5)).setCell ⟨xb, 6, none⟩ (.int .i64 y.mach.pc)).setCell ⟨xb, 7, none⟩ (.slice A7 y.mach.regs.length c7)).setCell ⟨xb, 8, none⟩ (.int .i64 y.mach.steps)).setCell ⟨xb, 9, none⟩ (.bool y.mach.done)).setCell ⟨xb, 10, none⟩ (.bool y.mach.wait)) p := by repeat (first | with_reducible exact h.cur | (with_reducible refine Cur.set ?_ (show p < xb by omega) _))
  have hq : Blk (((((((((((W.setCell ⟨xb, 0, none⟩ (.int .i64 y.id)).setCell ⟨xb, 1, none⟩ (.string y.site)).setCell ⟨xb, 2, none⟩ (.string y.top)).setCell ⟨xb, 3, none⟩ (.int .i64 y.ver)).setCell ⟨xb, 4, none⟩ (.slice A4 y.loaded.length c4)).setCell ⟨xb, 5, none⟩ (.slice A5 y.mach.script.length c5)).setCell ⟨xb, 6, none⟩ (.int .i64 y.mach.pc)).setCell ⟨xb, 7, none⟩ (.slice A7 y.mach.regs.length c7)).setCell ⟨xb, 8, none⟩ (.int .i64 y.mach.steps)).setCell ⟨xb, 9, none⟩ (.bool y.mach.done)).setCell ⟨xb, 10, none⟩ (.bool y.mach.wait)) w0.heap.size 41 #[.int .i64 0, .string ⟨#[]⟩, .string ⟨#[]⟩, .int .i64 0, .slice none 0 0, .slice none 0 0, .int .i64 0, .slice none 0 0, .int .i64 0, .bool false, .bool false] := by
    unfold Blk
    repeat (rw [Below.heap_setCell _ _ _ _ (show w0.heap.size ≠ xb by omega)])
    exact h.q
  exact ⟨h.b.set11 rfl _ _ _ _ _ _ _ _ _ _ _, hq, (hv.keep fun b hb => hk.block b (by have := (hv.lt b hb).1; omega) (hv.lt b hb).2).mono (by omega), hne, hc, ho, l1, l2, by simpa using l3⟩
end
end Go.Proofs.Ytlicnppfgfjkgaa
