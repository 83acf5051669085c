/-
  The draws of an instruction, of an instruction's text. No conditions but the input's length.
-/
import Derived.Test.YtlicnppfgfjkgaaDoorZDrawAny
import Derived.Test.YtlicnppfgfjkgaaDoorZFmtInsS
namespace Go.Proofs.YtlicnppfgfjkgaaDoor
open Go.ChangeShapes Go.WideShapes Go.RowKit
set_option linter.unusedVariables false

theorem decDigits_len4 {n : Int} (h : 0 ≤ n ∧ n ≤ 1000) : (Lib.itoa n).length ≤ 13 := itoa_len h.1 h.2
theorem fmtL_len (x : TIns) : (fmtL x).length ≤ 60 := by
  cases hi : isInstr x 16 with
  | false => rw [fmtL_not hi]; simp
  | true =>
    have hg := good_of hi
    have h1 := itoa_len hg.r0 (by have := hg.r3; omega)
    have h2 := itoa_len hg.n0 hg.n1
    have h3 := wordL_len x.kind
    have h4 : x.text.data.toList.length ≤ 8 := by
      by_cases hk : x.kind = 5 ∨ x.kind = 6 ∨ x.kind = 7 ∨ x.kind = 8
      · have := (isName_size (hg.named hk)).2; rwa [Lib.size_eq] at this
      · rw [hg.bare hk]; simp
    unfold fmtL
    rw [hi]
    simp only [cond_true, piecesOf, joinWith]
    clear hg hi
    generalize x.text.data.toList = a at *
    generalize wordL x.kind = b at *
    generalize Lib.itoa x.r = c at *
    generalize Lib.itoa x.n = d at *
    (repeat' split) <;> simp <;> omega
theorem drawFormatInstr_any (v : Value) (xs : List UInt8) (F : List Nat) (w : World) (h : cUS.rep w [v] xs F) (hn : xs.length ≤ 1048576) :
    Calls Tryd.prog 8 #[v] w fun e w' => ∃ x : TIns, e = .returned x.val ∧ SmallIns x ∧ Below w.heap.size w w' := by
  go_enter Tryd.func8, Tryd.ntmps8
  go_wp2_with fail
  refine (l1New_any v xs F _ (Cod.bel h (by repeat (first | with_reducible exact Below.refl _ _ | with_reducible assumption | with_reducible refine bel_alloc ?_ _ | with_reducible refine bel_drew ?_ | with_reducible refine bel_drewN ?_ _ | (with_reducible refine bel_set ?_ ?_ _; rotate_left; ((try simp); (try omega)))))) hn).mono ?_
  rintro e w1 ⟨rfl, hb1, hc1⟩
  have q1 : InsBox w1 w.heap.size 0 0 0 ⟨#[]⟩ := (InsBox.new w _ 0 0 0 ⟨#[]⟩).block (hb1.block w.heap.size (by simp))
  have hB1 : Below w.heap.size w w1 := bel_then (by repeat (first | with_reducible exact Below.refl _ _ | with_reducible assumption | with_reducible refine bel_alloc ?_ _ | with_reducible refine bel_drew ?_ | with_reducible refine bel_drewN ?_ _ | (with_reducible refine bel_set ?_ ?_ _; rotate_left; ((try simp); (try omega))))) hb1
  have hz1 := hb1.size
  (try simp at hz1 hc1)
  clear hb1
  go_wp2_with fail
  refine (l13Any_any _ _ hc1).mono ?_
  rintro e w2 ⟨v2, rfl, ⟨⟨k, r, n, t⟩, rfl, hx⟩, ho2, hc2⟩
  have hz2 := ho2.size
  have q2 : InsBox w2 w.heap.size 0 0 0 ⟨#[]⟩ := q1.block (ho2.block w.heap.size (by omega) (by simp))
  have hB2 : Below w.heap.size w w2 := ⟨ho2.os.trans hB1.os, ho2.tape.trans hB1.tape, ho2.output.trans hB1.output, by omega, fun b hb => (ho2.block b (by omega) (by simp; omega)).trans (hB1.block b hb)⟩
  have HQ := Lib.hid (And.intro q2 hx)
  have e0 := q2.c0; have e1 := q2.c1; have e2 := q2.c2; have e3 := q2.c3
  have g0 := q2.f0; have g1 := q2.f1; have g2 := q2.f2; have g3 := q2.f3
  clear q1 q2 hx ho2
  unfold TIns.val
  go_wp2_with fail
  refine sets_ret4 (a' := .int .i64 0) (b' := .int .i64 0) (c' := .int .i64 0) (d' := .string ⟨#[]⟩) w.heap.size HQ.out.1.c0 HQ.out.1.c1 HQ.out.1.c2 HQ.out.1.c3 (fun W9 e9 c0 c1 c2 c3 => ?_)
  refine bodyPost_ret (v := .agg #[.int .i64 k, .int .i64 r, .int .i64 n, .string t]) (by simp [results, Tryd.results8, go_sem, c0, c1, c2, c3]) rfl ?_
  clear c0 c1 c2 c3
  subst e9
  exact ⟨⟨k, r, n, t⟩, rfl, HQ.out.2, (by repeat (first | with_reducible exact Below.refl _ _ | with_reducible assumption | with_reducible refine bel_alloc ?_ _ | with_reducible refine bel_drew ?_ | with_reducible refine bel_drewN ?_ _ | (with_reducible refine bel_set ?_ ?_ _; rotate_left; ((try simp); (try omega)))))⟩
set_option maxRecDepth 100000 in
set_option maxHeartbeats 4000000 in
theorem drawParseInstr_any (v : Value) (xs : List UInt8) (F : List Nat) (w : World) (h : cUS.rep w [v] xs F) (hn : xs.length ≤ 1048576) :
    Calls Tryd.prog 12 #[v] w fun e w' => ∃ s : ByteArray, e = .returned (.string s) ∧ s.size ≤ 100 ∧ Below w.heap.size w w' := by
  go_enter Tryd.func12, Tryd.ntmps12
  go_wp2_with fail
  refine (l1New_any v xs F _ h hn).mono ?_
  rintro e w1 ⟨rfl, hb1, hc1⟩
  have hz1 := hb1.size
  have hon : ∀ W, Only [w.heap.size] w1 W → Below w.heap.size w W := fun W ho => ⟨ho.os.trans hb1.os, ho.tape.trans hb1.tape, ho.output.trans hb1.output, by have := ho.size; omega, fun b hb => (ho.block b (by omega) (by simp; omega)).trans (hb1.block b hb)⟩
  go_wp2_with fail
  refine (l1Once_any _ 3 _ hc1 (by omega)).mono ?_
  rintro e w2 ⟨v2, rfl, ⟨b, rfl⟩, ho2, hc2⟩
  have hz2 := ho2.size
  have hcl := hc2.lt
  cases b
  · go_wp2_with fail
    refine (l13Any_any _ _ hc2).mono ?_
    rintro e w3 ⟨v3, rfl, ⟨⟨k, r, n, t⟩, rfl, hx⟩, ho3, hc3⟩
    have hB3 := hon w3 (ho2.trans ho3)
    unfold TIns.val
    go_wp2_with fail
    refine (specFormatCells_any k r n t _ hx.1.h3).mono ?_
    rintro e w4 ⟨rfl, hb4⟩
    go_wp2_with fail
    go_ret
    exact ⟨_, rfl, by rw [baOf_size]; have := fmtL_len ⟨k, r, n, t⟩; omega, bel_then hB3 hb4⟩
  · go_wp2_with fail
    refine (l1Str_any _ _ [⟨#[]⟩, ⟨#[101, 110, 100, 32]⟩, ⟨#[115, 101, 116, 32, 48]⟩, ⟨#[115, 101, 116, 32, 48, 32, 49, 32, 97]⟩, ⟨#[115, 101, 116, 32, 48, 48, 32, 49]⟩, ⟨#[103, 111, 116, 111, 32, 49, 55]⟩, ⟨#[103, 111, 116, 111, 32, 48, 32, 49]⟩, ⟨#[102, 101, 116, 99, 104, 32, 48, 32, 49]⟩, ⟨#[102, 101, 116, 99, 104, 32, 48]⟩, ⟨#[103, 101, 116, 32, 48, 32, 97]⟩, ⟨#[103, 101, 116, 32, 48, 32, 49, 32, 97, 32, 98]⟩, ⟨#[83, 101, 116, 32, 48, 32, 49]⟩, ⟨#[101, 110, 100, 32, 48]⟩] _ _ (hc2.alloc _) (by exact rowStr _ _ [⟨#[]⟩, ⟨#[101, 110, 100, 32]⟩, ⟨#[115, 101, 116, 32, 48]⟩, ⟨#[115, 101, 116, 32, 48, 32, 49, 32, 97]⟩, ⟨#[115, 101, 116, 32, 48, 48, 32, 49]⟩, ⟨#[103, 111, 116, 111, 32, 49, 55]⟩, ⟨#[103, 111, 116, 111, 32, 48, 32, 49]⟩, ⟨#[102, 101, 116, 99, 104, 32, 48, 32, 49]⟩, ⟨#[102, 101, 116, 99, 104, 32, 48]⟩, ⟨#[103, 101, 116, 32, 48, 32, 97]⟩, ⟨#[103, 101, 116, 32, 48, 32, 49, 32, 97, 32, 98]⟩, ⟨#[83, 101, 116, 32, 48, 32, 49]⟩, ⟨#[101, 110, 100, 32, 48]⟩] 13 rfl (by simp) (by decide) (by decide)) (by simp) (by simp; omega)).mono ?_
    rintro e w3 ⟨v3, rfl, ⟨x, rfl, hx⟩, ho3, hc3⟩
    have hB3 := hon w3 (ho2.trans ((Only.alloc (Only.refl _ _) _).trans ho3))
    go_wp2_with fail
    go_ret
    exact ⟨_, rfl, (by decide : ∀ x ∈ ([⟨#[]⟩, ⟨#[101, 110, 100, 32]⟩, ⟨#[115, 101, 116, 32, 48]⟩, ⟨#[115, 101, 116, 32, 48, 32, 49, 32, 97]⟩, ⟨#[115, 101, 116, 32, 48, 48, 32, 49]⟩, ⟨#[103, 111, 116, 111, 32, 49, 55]⟩, ⟨#[103, 111, 116, 111, 32, 48, 32, 49]⟩, ⟨#[102, 101, 116, 99, 104, 32, 48, 32, 49]⟩, ⟨#[102, 101, 116, 99, 104, 32, 48]⟩, ⟨#[103, 101, 116, 32, 48, 32, 97]⟩, ⟨#[103, 101, 116, 32, 48, 32, 49, 32, 97, 32, 98]⟩, ⟨#[83, 101, 116, 32, 48, 32, 49]⟩, ⟨#[101, 110, 100, 32, 48]⟩] : List ByteArray), x.size ≤ 100) x hx, hB3⟩
end Go.Proofs.YtlicnppfgfjkgaaDoor
