/-
  The draw of an instruction. No conditions.
-/
import Derived.Test.YtlicnppfgfjkgaaZDrawW
import Derived.Test.YtlicnppfgfjkgaaZA
import Derived.Test.YtlicnppfgfjkgaaZSetRet
import Derived.Test.YtlicnppfgfjkgaaZInsBox
import Derived.Deep.CutRange
namespace Go.Proofs.Ytlicnppfgfjkgaa
open Go.ChangeShapes Go.WideShapes Go.RowKit
set_option linter.unusedVariables false

def SmallIns (x : TIns) : Prop := x.Ok ∧ x.text.size ≤ 100
theorem small_mk {k r n : Int} {t : ByteArray} (h0 : -1000 ≤ k ∧ k ≤ 1000) (h1 : -1000 ≤ r ∧ r ≤ 1000) (h2 : -10000 ≤ n ∧ n ≤ 10000) (h3 : t.size ≤ 100) : SmallIns ⟨k, r, n, t⟩ :=
  ⟨⟨by simp only; omega, by simp only; omega, by simp only; omega, by unfold maxLen; simp only; omega⟩, h3⟩
set_option maxHeartbeats 2000000 in
theorem l5Name_any (p : Nat) (w : World) (h : Cur w p) :
    Calls Try.prog 156 #[.pointer (some ⟨p, 0, none⟩)] w (Draws p w fun v _ => ∃ x : ByteArray, v = .string x ∧ x.size ≤ 100) := by
  have hpl := h.lt
  go_enter Try.func156, Try.ntmps156
  go_wp2_with fail
  refine (l1Str_any p _ [⟨#[97]⟩, ⟨#[98]⟩, ⟨#[99]⟩, ⟨#[100, 111, 110, 101]⟩, ⟨#[116, 105, 116, 108, 101]⟩] _ _ (h.alloc _) (by exact rowStr w _ [⟨#[97]⟩, ⟨#[98]⟩, ⟨#[99]⟩, ⟨#[100, 111, 110, 101]⟩, ⟨#[116, 105, 116, 108, 101]⟩] 5 rfl (by simp) (by decide) (by decide)) (by simp) (by simp; omega)).mono ?_
  rintro e w1 ⟨v, rfl, ⟨x, rfl, hx⟩, ho, hc⟩
  go_wp2_with fail
  go_ret
  exact ⟨_, rfl, ⟨_, rfl, (by decide : ∀ x ∈ ([⟨#[97]⟩, ⟨#[98]⟩, ⟨#[99]⟩, ⟨#[100, 111, 110, 101]⟩, ⟨#[116, 105, 116, 108, 101]⟩] : List ByteArray), x.size ≤ 100) x hx⟩, (Only.alloc (Only.refl _ _) _).trans ho, hc⟩
/-- where the draw stands: the cursor p, the instruction's box xb, the result's box qb -/
structure ISt (p : Nat) (w0 : World) (xb : Nat) (W : World) (k r n : Int) (t : ByteArray) : Prop where
  x : InsBox W xb k r n t
  q : InsBox W w0.heap.size 0 0 0 ⟨#[]⟩
  cur : Cur W p
  only : Only [p] w0 W
  lt : p < w0.heap.size ∧ w0.heap.size < xb ∧ xb < W.heap.size
section
variable {p : Nat} {w0 W W' : World} {xb : Nat} {k r n : Int} {t : ByteArray}
theorem ISt.turn (h : ISt p w0 xb W k r n t) (hO : Only [p] W W') (hc : Cur W' p) : ISt p w0 xb W' k r n t := by
  obtain ⟨l1, l2, l3⟩ := h.lt
  exact ⟨h.x.block (hO.block _ l3 (by simp; omega)), h.q.block (hO.block _ (by omega) (by simp; omega)), hc, h.only.trans hO, l1, l2, Nat.lt_of_lt_of_le l3 hO.size⟩
theorem ISt.alloc (h : ISt p w0 xb W k r n t) (o : Obj) : ISt p w0 xb (W.alloc o) k r n t := by
  obtain ⟨l1, l2, l3⟩ := h.lt
  have hb := bel_alloc (Below.refl W.heap.size W) o
  exact ⟨h.x.block (hb.block _ l3), h.q.block (hb.block _ (by omega)), h.cur.alloc _, h.only.alloc _, l1, l2, by simp; omega⟩
theorem ISt.put (h : ISt p w0 xb W k r n t) (i : Nat) (v : Value) {k' r' n' : Int} {t' : ByteArray} (hx : InsBox (W.setCell ⟨xb, i, none⟩ v) xb k' r' n' t') : ISt p w0 xb (W.setCell ⟨xb, i, none⟩ v) k' r' n' t' := by
  obtain ⟨l1, l2, l3⟩ := h.lt
  exact ⟨hx, h.q.block (Below.heap_setCell _ _ _ _ (show w0.heap.size ≠ xb by omega)), h.cur.set (q := ⟨xb, i, none⟩) (show p < xb by omega) _, h.only.setNew (show w0.heap.size ≤ xb by omega) _, l1, l2, by simpa using l3⟩
end
set_option maxRecDepth 100000 in
set_option maxHeartbeats 8000000 in
theorem l13Instr_any (p : Nat) (lines : Int) (w : World) (h : Cur w p) (hl : 0 ≤ lines ∧ lines ≤ 100) :
    Calls Try.prog 121 #[.pointer (some ⟨p, 0, none⟩), .int .i64 lines] w (Draws p w fun v _ => ∃ x : TIns, v = x.val ∧ SmallIns x) := by
  have hpl := h.lt
  go_enter Try.func121, Try.ntmps121
  go_wp2_with fail
  refine (l1Below_any p 9 _ (h.alloc _) (by omega)).mono ?_
  rintro e w1 ⟨v, rfl, ⟨r0, rfl, hr0, hr1⟩, ho1, hc1⟩
  have hz1 := ho1.size
  (try simp at hz1)
  have q1 : InsBox w1 w.heap.size 0 0 0 ⟨#[]⟩ := (InsBox.new w _ 0 0 0 ⟨#[]⟩).block (ho1.block w.heap.size (by simp) (by simp; omega))
  have hO1 : Only [p] w w1 := (show Only [p] w _ from (by repeat (first | with_reducible exact Only.refl _ _ | with_reducible assumption | with_reducible refine Only.alloc ?_ _ | with_reducible refine Only.drew ?_ | with_reducible refine Only.drewN ?_ _ | (with_reducible refine Only.setNew ?_ ?_ _; rotate_left; ((try simp); (try omega)))))).trans ho1
  have H1 := Lib.hid (And.intro q1 hO1)
  clear q1 hO1 ho1
  go_wp2_with fail
  refine (l1Below_any p 4 _ hc1 (by omega)).mono ?_
  rintro e w2 ⟨v, rfl, ⟨r1, rfl, hs0, hs1⟩, ho2, hc2⟩
  have hz2 := ho2.size
  have q2 : InsBox w2 w.heap.size 0 0 0 ⟨#[]⟩ := H1.out.1.block (ho2.block w.heap.size (by omega) (by simp; omega))
  have hO2 : Only [p] w w2 := H1.out.2.trans ho2
  have H1b := Lib.hid (And.intro q2 (And.intro hO2 hc2))
  clear q2 hO2 ho2 hc2 hc1 H1
  obtain ⟨k, hk⟩ : ∃ k, 1 + r0 = k := ⟨_, rfl⟩
  have hk9 : k = 1 ∨ k = 2 ∨ k = 3 ∨ k = 4 ∨ k = 5 ∨ k = 6 ∨ k = 7 ∨ k = 8 ∨ k = 9 := by omega
  go_upto_region 2 with (fail)
  generalize hW : World.alloc w2 _ = w3
  have hst : ISt p w w2.heap.size w3 k r1 0 ⟨#[]⟩ := by
    rw [← hW, ← hk]
    exact ⟨InsBox.new w2 _ _ _ _ _, H1b.out.1.block (Below.block (bel_alloc (Below.refl _ _) _) _ (by omega)), H1b.out.2.2.alloc _, H1b.out.2.1.alloc _, hpl, by omega, by simp⟩
  have H2 := Lib.hid hst
  clear hW hst H1b
  generalize w2.heap.size = xb at *
  rcases hk9 with hk | hk | hk | hk | hk | hk | hk | hk | hk
  · subst hk
    have hx0 := H2.out.x.c0
    go_wp2_with fail
    refine (l1Below_any p 6 _ H2.out.cur (by omega)).mono ?_
    rintro e wa1 ⟨v, rfl, ⟨n1, rfl, hn0, hn1⟩, ho, hc⟩
    have HA1 := Lib.hid (ISt.turn H2.out ho hc)
    clear ho hc
    have hp1 := HA1.out.lt
    have y10 := HA1.out.x.c0; have y11 := HA1.out.x.c1; have y12 := HA1.out.x.c2; have y13 := HA1.out.x.c3
    have y1z0 := HA1.out.x.f0; have y1z1 := HA1.out.x.f1; have y1z2 := HA1.out.x.f2; have y1z3 := HA1.out.x.f3
    have HB1 := Lib.hid (ISt.put HA1.out 2 (.int .i64 n1) (HA1.out.x.set2 n1))
    have e0 := HB1.out.q.c0; have e1 := HB1.out.q.c1; have e2 := HB1.out.q.c2; have e3 := HB1.out.q.c3
    have g0 := HB1.out.q.f0; have g1 := HB1.out.q.f1; have g2 := HB1.out.q.f2; have g3 := HB1.out.q.f3
    have b0 := HB1.out.x.c0; have b1 := HB1.out.x.c1; have b2 := HB1.out.x.c2; have b3 := HB1.out.x.c3
    have hlt := HB1.out.lt
    go_wp2_with fail
    refine sets_ret4 (a' := .int .i64 0) (b' := .int .i64 0) (c' := .int .i64 0) (d' := .string ⟨#[]⟩) w.heap.size HB1.out.q.c0 HB1.out.q.c1 HB1.out.q.c2 HB1.out.q.c3 (fun W9 e9 c0 c1 c2 c3 => ?_)
    refine bodyPost_ret (v := .agg #[.int .i64 1, .int .i64 r1, .int .i64 n1, .string ⟨#[]⟩]) (by simp [results, Try.results121, go_sem, c0, c1, c2, c3]) rfl ?_
    clear c0 c1 c2 c3
    subst e9
    have hcu := HB1.out.cur
    have hon := HB1.out.only
    exact ⟨_, rfl, ⟨⟨1, r1, n1, ⟨#[]⟩⟩, rfl, small_mk (by omega) (by omega) (by omega) (by decide)⟩, (by repeat (first | with_reducible exact Only.refl _ _ | with_reducible assumption | with_reducible refine Only.alloc ?_ _ | with_reducible refine Only.drew ?_ | with_reducible refine Only.drewN ?_ _ | (with_reducible refine Only.setNew ?_ ?_ _; rotate_left; ((try simp); (try omega))))), (by repeat (first | with_reducible assumption | with_reducible refine Cur.alloc ?_ _ | with_reducible refine Cur.drew ?_ | with_reducible refine Cur.drewN ?_ _ | (with_reducible refine Cur.set ?_ ?_ _; rotate_left; ((try simp); (try omega)))))⟩
  · subst hk
    have hx0 := H2.out.x.c0
    go_wp2_with fail
    refine (l1Below_any p 4 _ H2.out.cur (by omega)).mono ?_
    rintro e wa1 ⟨v, rfl, ⟨n1, rfl, hn0, hn1⟩, ho, hc⟩
    have HA1 := Lib.hid (ISt.turn H2.out ho hc)
    clear ho hc
    have hp1 := HA1.out.lt
    have y10 := HA1.out.x.c0; have y11 := HA1.out.x.c1; have y12 := HA1.out.x.c2; have y13 := HA1.out.x.c3
    have y1z0 := HA1.out.x.f0; have y1z1 := HA1.out.x.f1; have y1z2 := HA1.out.x.f2; have y1z3 := HA1.out.x.f3
    have HB1 := Lib.hid (ISt.put HA1.out 2 (.int .i64 n1) (HA1.out.x.set2 n1))
    have e0 := HB1.out.q.c0; have e1 := HB1.out.q.c1; have e2 := HB1.out.q.c2; have e3 := HB1.out.q.c3
    have g0 := HB1.out.q.f0; have g1 := HB1.out.q.f1; have g2 := HB1.out.q.f2; have g3 := HB1.out.q.f3
    have b0 := HB1.out.x.c0; have b1 := HB1.out.x.c1; have b2 := HB1.out.x.c2; have b3 := HB1.out.x.c3
    have hlt := HB1.out.lt
    go_wp2_with fail
    refine sets_ret4 (a' := .int .i64 0) (b' := .int .i64 0) (c' := .int .i64 0) (d' := .string ⟨#[]⟩) w.heap.size HB1.out.q.c0 HB1.out.q.c1 HB1.out.q.c2 HB1.out.q.c3 (fun W9 e9 c0 c1 c2 c3 => ?_)
    refine bodyPost_ret (v := .agg #[.int .i64 2, .int .i64 r1, .int .i64 n1, .string ⟨#[]⟩]) (by simp [results, Try.results121, go_sem, c0, c1, c2, c3]) rfl ?_
    clear c0 c1 c2 c3
    subst e9
    have hcu := HB1.out.cur
    have hon := HB1.out.only
    exact ⟨_, rfl, ⟨⟨2, r1, n1, ⟨#[]⟩⟩, rfl, small_mk (by omega) (by omega) (by omega) (by decide)⟩, (by repeat (first | with_reducible exact Only.refl _ _ | with_reducible assumption | with_reducible refine Only.alloc ?_ _ | with_reducible refine Only.drew ?_ | with_reducible refine Only.drewN ?_ _ | (with_reducible refine Only.setNew ?_ ?_ _; rotate_left; ((try simp); (try omega))))), (by repeat (first | with_reducible assumption | with_reducible refine Cur.alloc ?_ _ | with_reducible refine Cur.drew ?_ | with_reducible refine Cur.drewN ?_ _ | (with_reducible refine Cur.set ?_ ?_ _; rotate_left; ((try simp); (try omega)))))⟩
  · subst hk
    have hx0 := H2.out.x.c0
    go_wp2_with fail
    refine (l1Below_any p (lines + 1) _ H2.out.cur (by omega)).mono ?_
    rintro e wa1 ⟨v, rfl, ⟨n1, rfl, hn0, hn1⟩, ho, hc⟩
    have HA1 := Lib.hid (ISt.turn H2.out ho hc)
    clear ho hc
    have hp1 := HA1.out.lt
    have y10 := HA1.out.x.c0; have y11 := HA1.out.x.c1; have y12 := HA1.out.x.c2; have y13 := HA1.out.x.c3
    have y1z0 := HA1.out.x.f0; have y1z1 := HA1.out.x.f1; have y1z2 := HA1.out.x.f2; have y1z3 := HA1.out.x.f3
    have HB1 := Lib.hid (ISt.put HA1.out 2 (.int .i64 n1) (HA1.out.x.set2 n1))
    have e0 := HB1.out.q.c0; have e1 := HB1.out.q.c1; have e2 := HB1.out.q.c2; have e3 := HB1.out.q.c3
    have g0 := HB1.out.q.f0; have g1 := HB1.out.q.f1; have g2 := HB1.out.q.f2; have g3 := HB1.out.q.f3
    have b0 := HB1.out.x.c0; have b1 := HB1.out.x.c1; have b2 := HB1.out.x.c2; have b3 := HB1.out.x.c3
    have hlt := HB1.out.lt
    go_wp2_with fail
    refine sets_ret4 (a' := .int .i64 0) (b' := .int .i64 0) (c' := .int .i64 0) (d' := .string ⟨#[]⟩) w.heap.size HB1.out.q.c0 HB1.out.q.c1 HB1.out.q.c2 HB1.out.q.c3 (fun W9 e9 c0 c1 c2 c3 => ?_)
    refine bodyPost_ret (v := .agg #[.int .i64 3, .int .i64 r1, .int .i64 n1, .string ⟨#[]⟩]) (by simp [results, Try.results121, go_sem, c0, c1, c2, c3]) rfl ?_
    clear c0 c1 c2 c3
    subst e9
    have hcu := HB1.out.cur
    have hon := HB1.out.only
    exact ⟨_, rfl, ⟨⟨3, r1, n1, ⟨#[]⟩⟩, rfl, small_mk (by omega) (by omega) (by omega) (by decide)⟩, (by repeat (first | with_reducible exact Only.refl _ _ | with_reducible assumption | with_reducible refine Only.alloc ?_ _ | with_reducible refine Only.drew ?_ | with_reducible refine Only.drewN ?_ _ | (with_reducible refine Only.setNew ?_ ?_ _; rotate_left; ((try simp); (try omega))))), (by repeat (first | with_reducible assumption | with_reducible refine Cur.alloc ?_ _ | with_reducible refine Cur.drew ?_ | with_reducible refine Cur.drewN ?_ _ | (with_reducible refine Cur.set ?_ ?_ _; rotate_left; ((try simp); (try omega)))))⟩
  · subst hk
    have hx0 := H2.out.x.c0
    go_wp2_with fail
    refine (l1Below_any p (lines + 1) _ H2.out.cur (by omega)).mono ?_
    rintro e wa1 ⟨v, rfl, ⟨n1, rfl, hn0, hn1⟩, ho, hc⟩
    have HA1 := Lib.hid (ISt.turn H2.out ho hc)
    clear ho hc
    have hp1 := HA1.out.lt
    have y10 := HA1.out.x.c0; have y11 := HA1.out.x.c1; have y12 := HA1.out.x.c2; have y13 := HA1.out.x.c3
    have y1z0 := HA1.out.x.f0; have y1z1 := HA1.out.x.f1; have y1z2 := HA1.out.x.f2; have y1z3 := HA1.out.x.f3
    have HB1 := Lib.hid (ISt.put HA1.out 2 (.int .i64 n1) (HA1.out.x.set2 n1))
    have HB2 := Lib.hid (ISt.put HB1.out 1 (.int .i64 0) (HB1.out.x.set1 0))
    have e0 := HB2.out.q.c0; have e1 := HB2.out.q.c1; have e2 := HB2.out.q.c2; have e3 := HB2.out.q.c3
    have g0 := HB2.out.q.f0; have g1 := HB2.out.q.f1; have g2 := HB2.out.q.f2; have g3 := HB2.out.q.f3
    have b0 := HB2.out.x.c0; have b1 := HB2.out.x.c1; have b2 := HB2.out.x.c2; have b3 := HB2.out.x.c3
    have hlt := HB2.out.lt
    go_wp2_with fail
    refine sets_ret4 (a' := .int .i64 0) (b' := .int .i64 0) (c' := .int .i64 0) (d' := .string ⟨#[]⟩) w.heap.size HB2.out.q.c0 HB2.out.q.c1 HB2.out.q.c2 HB2.out.q.c3 (fun W9 e9 c0 c1 c2 c3 => ?_)
    refine bodyPost_ret (v := .agg #[.int .i64 4, .int .i64 0, .int .i64 n1, .string ⟨#[]⟩]) (by simp [results, Try.results121, go_sem, c0, c1, c2, c3]) rfl ?_
    clear c0 c1 c2 c3
    subst e9
    have hcu := HB2.out.cur
    have hon := HB2.out.only
    exact ⟨_, rfl, ⟨⟨4, 0, n1, ⟨#[]⟩⟩, rfl, small_mk (by omega) (by omega) (by omega) (by decide)⟩, (by repeat (first | with_reducible exact Only.refl _ _ | with_reducible assumption | with_reducible refine Only.alloc ?_ _ | with_reducible refine Only.drew ?_ | with_reducible refine Only.drewN ?_ _ | (with_reducible refine Only.setNew ?_ ?_ _; rotate_left; ((try simp); (try omega))))), (by repeat (first | with_reducible assumption | with_reducible refine Cur.alloc ?_ _ | with_reducible refine Cur.drew ?_ | with_reducible refine Cur.drewN ?_ _ | (with_reducible refine Cur.set ?_ ?_ _; rotate_left; ((try simp); (try omega)))))⟩
  · subst hk
    have hx0 := H2.out.x.c0
    go_wp2_with fail
    refine (l1Str_any p _ [⟨#[105, 110, 100, 101, 120]⟩, ⟨#[115, 116, 121, 108, 101]⟩, ⟨#[100, 97, 116, 97]⟩] _ _ (H2.out.cur.alloc _) (by exact rowStr _ _ [⟨#[105, 110, 100, 101, 120]⟩, ⟨#[115, 116, 121, 108, 101]⟩, ⟨#[100, 97, 116, 97]⟩] 3 rfl (by simp) (by decide) (by decide)) (by simp) (by have := H2.out.lt; simp; omega)).mono ?_
    rintro e wa1 ⟨v, rfl, ⟨tx, rfl, htx⟩, ho, hc⟩
    have HA1 := Lib.hid (ISt.turn (ISt.alloc H2.out _) ho hc)
    clear ho hc
    have hp1 := HA1.out.lt
    have y10 := HA1.out.x.c0; have y11 := HA1.out.x.c1; have y12 := HA1.out.x.c2; have y13 := HA1.out.x.c3
    have y1z0 := HA1.out.x.f0; have y1z1 := HA1.out.x.f1; have y1z2 := HA1.out.x.f2; have y1z3 := HA1.out.x.f3
    have HB1 := Lib.hid (ISt.put HA1.out 3 (.string tx) (HA1.out.x.set3 tx))
    have e0 := HB1.out.q.c0; have e1 := HB1.out.q.c1; have e2 := HB1.out.q.c2; have e3 := HB1.out.q.c3
    have g0 := HB1.out.q.f0; have g1 := HB1.out.q.f1; have g2 := HB1.out.q.f2; have g3 := HB1.out.q.f3
    have b0 := HB1.out.x.c0; have b1 := HB1.out.x.c1; have b2 := HB1.out.x.c2; have b3 := HB1.out.x.c3
    have hlt := HB1.out.lt
    go_wp2_with fail
    refine sets_ret4 (a' := .int .i64 0) (b' := .int .i64 0) (c' := .int .i64 0) (d' := .string ⟨#[]⟩) w.heap.size HB1.out.q.c0 HB1.out.q.c1 HB1.out.q.c2 HB1.out.q.c3 (fun W9 e9 c0 c1 c2 c3 => ?_)
    refine bodyPost_ret (v := .agg #[.int .i64 5, .int .i64 r1, .int .i64 0, .string tx]) (by simp [results, Try.results121, go_sem, c0, c1, c2, c3]) rfl ?_
    clear c0 c1 c2 c3
    subst e9
    have hcu := HB1.out.cur
    have hon := HB1.out.only
    exact ⟨_, rfl, ⟨⟨5, r1, 0, tx⟩, rfl, small_mk (by omega) (by omega) (by omega) ((by decide : ∀ x ∈ ([⟨#[105, 110, 100, 101, 120]⟩, ⟨#[115, 116, 121, 108, 101]⟩, ⟨#[100, 97, 116, 97]⟩] : List ByteArray), x.size ≤ 100) tx htx)⟩, (by repeat (first | with_reducible exact Only.refl _ _ | with_reducible assumption | with_reducible refine Only.alloc ?_ _ | with_reducible refine Only.drew ?_ | with_reducible refine Only.drewN ?_ _ | (with_reducible refine Only.setNew ?_ ?_ _; rotate_left; ((try simp); (try omega))))), (by repeat (first | with_reducible assumption | with_reducible refine Cur.alloc ?_ _ | with_reducible refine Cur.drew ?_ | with_reducible refine Cur.drewN ?_ _ | (with_reducible refine Cur.set ?_ ?_ _; rotate_left; ((try simp); (try omega)))))⟩
  · subst hk
    have hx0 := H2.out.x.c0
    go_wp2_with fail
    refine (l1Below_any p 4 _ H2.out.cur (by omega)).mono ?_
    rintro e wa1 ⟨v, rfl, ⟨n1, rfl, hn0, hn1⟩, ho, hc⟩
    have HA1 := Lib.hid (ISt.turn H2.out ho hc)
    clear ho hc
    have hp1 := HA1.out.lt
    have y10 := HA1.out.x.c0; have y11 := HA1.out.x.c1; have y12 := HA1.out.x.c2; have y13 := HA1.out.x.c3
    have y1z0 := HA1.out.x.f0; have y1z1 := HA1.out.x.f1; have y1z2 := HA1.out.x.f2; have y1z3 := HA1.out.x.f3
    have HB1 := Lib.hid (ISt.put HA1.out 2 (.int .i64 n1) (HA1.out.x.set2 n1))
    go_wp2_with fail
    refine (l5Name_any p _ HB1.out.cur).mono ?_
    rintro e wa2 ⟨v, rfl, ⟨tx, rfl, htx⟩, ho, hc⟩
    have HA2 := Lib.hid (ISt.turn HB1.out ho hc)
    clear ho hc
    have hp2 := HA2.out.lt
    have y20 := HA2.out.x.c0; have y21 := HA2.out.x.c1; have y22 := HA2.out.x.c2; have y23 := HA2.out.x.c3
    have y2z0 := HA2.out.x.f0; have y2z1 := HA2.out.x.f1; have y2z2 := HA2.out.x.f2; have y2z3 := HA2.out.x.f3
    have HB2 := Lib.hid (ISt.put HA2.out 3 (.string tx) (HA2.out.x.set3 tx))
    have e0 := HB2.out.q.c0; have e1 := HB2.out.q.c1; have e2 := HB2.out.q.c2; have e3 := HB2.out.q.c3
    have g0 := HB2.out.q.f0; have g1 := HB2.out.q.f1; have g2 := HB2.out.q.f2; have g3 := HB2.out.q.f3
    have b0 := HB2.out.x.c0; have b1 := HB2.out.x.c1; have b2 := HB2.out.x.c2; have b3 := HB2.out.x.c3
    have hlt := HB2.out.lt
    go_wp2_with fail
    refine sets_ret4 (a' := .int .i64 0) (b' := .int .i64 0) (c' := .int .i64 0) (d' := .string ⟨#[]⟩) w.heap.size HB2.out.q.c0 HB2.out.q.c1 HB2.out.q.c2 HB2.out.q.c3 (fun W9 e9 c0 c1 c2 c3 => ?_)
    refine bodyPost_ret (v := .agg #[.int .i64 6, .int .i64 r1, .int .i64 n1, .string tx]) (by simp [results, Try.results121, go_sem, c0, c1, c2, c3]) rfl ?_
    clear c0 c1 c2 c3
    subst e9
    have hcu := HB2.out.cur
    have hon := HB2.out.only
    exact ⟨_, rfl, ⟨⟨6, r1, n1, tx⟩, rfl, small_mk (by omega) (by omega) (by omega) htx⟩, (by repeat (first | with_reducible exact Only.refl _ _ | with_reducible assumption | with_reducible refine Only.alloc ?_ _ | with_reducible refine Only.drew ?_ | with_reducible refine Only.drewN ?_ _ | (with_reducible refine Only.setNew ?_ ?_ _; rotate_left; ((try simp); (try omega))))), (by repeat (first | with_reducible assumption | with_reducible refine Cur.alloc ?_ _ | with_reducible refine Cur.drew ?_ | with_reducible refine Cur.drewN ?_ _ | (with_reducible refine Cur.set ?_ ?_ _; rotate_left; ((try simp); (try omega)))))⟩
  · subst hk
    have hx0 := H2.out.x.c0
    go_wp2_with fail
    refine (l1Below_any p 4 _ H2.out.cur (by omega)).mono ?_
    rintro e wa1 ⟨v, rfl, ⟨n1, rfl, hn0, hn1⟩, ho, hc⟩
    have HA1 := Lib.hid (ISt.turn H2.out ho hc)
    clear ho hc
    have hp1 := HA1.out.lt
    have y10 := HA1.out.x.c0; have y11 := HA1.out.x.c1; have y12 := HA1.out.x.c2; have y13 := HA1.out.x.c3
    have y1z0 := HA1.out.x.f0; have y1z1 := HA1.out.x.f1; have y1z2 := HA1.out.x.f2; have y1z3 := HA1.out.x.f3
    have HB1 := Lib.hid (ISt.put HA1.out 2 (.int .i64 n1) (HA1.out.x.set2 n1))
    go_wp2_with fail
    refine (l5Name_any p _ HB1.out.cur).mono ?_
    rintro e wa2 ⟨v, rfl, ⟨tx, rfl, htx⟩, ho, hc⟩
    have HA2 := Lib.hid (ISt.turn HB1.out ho hc)
    clear ho hc
    have hp2 := HA2.out.lt
    have y20 := HA2.out.x.c0; have y21 := HA2.out.x.c1; have y22 := HA2.out.x.c2; have y23 := HA2.out.x.c3
    have y2z0 := HA2.out.x.f0; have y2z1 := HA2.out.x.f1; have y2z2 := HA2.out.x.f2; have y2z3 := HA2.out.x.f3
    have HB2 := Lib.hid (ISt.put HA2.out 3 (.string tx) (HA2.out.x.set3 tx))
    have e0 := HB2.out.q.c0; have e1 := HB2.out.q.c1; have e2 := HB2.out.q.c2; have e3 := HB2.out.q.c3
    have g0 := HB2.out.q.f0; have g1 := HB2.out.q.f1; have g2 := HB2.out.q.f2; have g3 := HB2.out.q.f3
    have b0 := HB2.out.x.c0; have b1 := HB2.out.x.c1; have b2 := HB2.out.x.c2; have b3 := HB2.out.x.c3
    have hlt := HB2.out.lt
    go_wp2_with fail
    refine sets_ret4 (a' := .int .i64 0) (b' := .int .i64 0) (c' := .int .i64 0) (d' := .string ⟨#[]⟩) w.heap.size HB2.out.q.c0 HB2.out.q.c1 HB2.out.q.c2 HB2.out.q.c3 (fun W9 e9 c0 c1 c2 c3 => ?_)
    refine bodyPost_ret (v := .agg #[.int .i64 7, .int .i64 r1, .int .i64 n1, .string tx]) (by simp [results, Try.results121, go_sem, c0, c1, c2, c3]) rfl ?_
    clear c0 c1 c2 c3
    subst e9
    have hcu := HB2.out.cur
    have hon := HB2.out.only
    exact ⟨_, rfl, ⟨⟨7, r1, n1, tx⟩, rfl, small_mk (by omega) (by omega) (by omega) htx⟩, (by repeat (first | with_reducible exact Only.refl _ _ | with_reducible assumption | with_reducible refine Only.alloc ?_ _ | with_reducible refine Only.drew ?_ | with_reducible refine Only.drewN ?_ _ | (with_reducible refine Only.setNew ?_ ?_ _; rotate_left; ((try simp); (try omega))))), (by repeat (first | with_reducible assumption | with_reducible refine Cur.alloc ?_ _ | with_reducible refine Cur.drew ?_ | with_reducible refine Cur.drewN ?_ _ | (with_reducible refine Cur.set ?_ ?_ _; rotate_left; ((try simp); (try omega)))))⟩
  · subst hk
    have hx0 := H2.out.x.c0
    go_wp2_with fail
    refine (l1Below_any p 4 _ H2.out.cur (by omega)).mono ?_
    rintro e wa1 ⟨v, rfl, ⟨n1, rfl, hn0, hn1⟩, ho, hc⟩
    have HA1 := Lib.hid (ISt.turn H2.out ho hc)
    clear ho hc
    have hp1 := HA1.out.lt
    have y10 := HA1.out.x.c0; have y11 := HA1.out.x.c1; have y12 := HA1.out.x.c2; have y13 := HA1.out.x.c3
    have y1z0 := HA1.out.x.f0; have y1z1 := HA1.out.x.f1; have y1z2 := HA1.out.x.f2; have y1z3 := HA1.out.x.f3
    have HB1 := Lib.hid (ISt.put HA1.out 2 (.int .i64 n1) (HA1.out.x.set2 n1))
    go_wp2_with fail
    refine (l5Name_any p _ HB1.out.cur).mono ?_
    rintro e wa2 ⟨v, rfl, ⟨tx, rfl, htx⟩, ho, hc⟩
    have HA2 := Lib.hid (ISt.turn HB1.out ho hc)
    clear ho hc
    have hp2 := HA2.out.lt
    have y20 := HA2.out.x.c0; have y21 := HA2.out.x.c1; have y22 := HA2.out.x.c2; have y23 := HA2.out.x.c3
    have y2z0 := HA2.out.x.f0; have y2z1 := HA2.out.x.f1; have y2z2 := HA2.out.x.f2; have y2z3 := HA2.out.x.f3
    have HB2 := Lib.hid (ISt.put HA2.out 3 (.string tx) (HA2.out.x.set3 tx))
    have e0 := HB2.out.q.c0; have e1 := HB2.out.q.c1; have e2 := HB2.out.q.c2; have e3 := HB2.out.q.c3
    have g0 := HB2.out.q.f0; have g1 := HB2.out.q.f1; have g2 := HB2.out.q.f2; have g3 := HB2.out.q.f3
    have b0 := HB2.out.x.c0; have b1 := HB2.out.x.c1; have b2 := HB2.out.x.c2; have b3 := HB2.out.x.c3
    have hlt := HB2.out.lt
    go_wp2_with fail
    refine sets_ret4 (a' := .int .i64 0) (b' := .int .i64 0) (c' := .int .i64 0) (d' := .string ⟨#[]⟩) w.heap.size HB2.out.q.c0 HB2.out.q.c1 HB2.out.q.c2 HB2.out.q.c3 (fun W9 e9 c0 c1 c2 c3 => ?_)
    refine bodyPost_ret (v := .agg #[.int .i64 8, .int .i64 r1, .int .i64 n1, .string tx]) (by simp [results, Try.results121, go_sem, c0, c1, c2, c3]) rfl ?_
    clear c0 c1 c2 c3
    subst e9
    have hcu := HB2.out.cur
    have hon := HB2.out.only
    exact ⟨_, rfl, ⟨⟨8, r1, n1, tx⟩, rfl, small_mk (by omega) (by omega) (by omega) htx⟩, (by repeat (first | with_reducible exact Only.refl _ _ | with_reducible assumption | with_reducible refine Only.alloc ?_ _ | with_reducible refine Only.drew ?_ | with_reducible refine Only.drewN ?_ _ | (with_reducible refine Only.setNew ?_ ?_ _; rotate_left; ((try simp); (try omega))))), (by repeat (first | with_reducible assumption | with_reducible refine Cur.alloc ?_ _ | with_reducible refine Cur.drew ?_ | with_reducible refine Cur.drewN ?_ _ | (with_reducible refine Cur.set ?_ ?_ _; rotate_left; ((try simp); (try omega)))))⟩
  · subst hk
    have hx0 := H2.out.x.c0
    have hp9 := H2.out.lt
    have y90 := H2.out.x.c0; have y91 := H2.out.x.c1; have y92 := H2.out.x.c2; have y93 := H2.out.x.c3
    have y9z0 := H2.out.x.f0; have y9z1 := H2.out.x.f1; have y9z2 := H2.out.x.f2; have y9z3 := H2.out.x.f3
    have HB1 := Lib.hid (ISt.put H2.out 1 (.int .i64 0) (H2.out.x.set1 0))
    have e0 := HB1.out.q.c0; have e1 := HB1.out.q.c1; have e2 := HB1.out.q.c2; have e3 := HB1.out.q.c3
    have g0 := HB1.out.q.f0; have g1 := HB1.out.q.f1; have g2 := HB1.out.q.f2; have g3 := HB1.out.q.f3
    have b0 := HB1.out.x.c0; have b1 := HB1.out.x.c1; have b2 := HB1.out.x.c2; have b3 := HB1.out.x.c3
    have hlt := HB1.out.lt
    go_wp2_with fail
    refine sets_ret4 (a' := .int .i64 0) (b' := .int .i64 0) (c' := .int .i64 0) (d' := .string ⟨#[]⟩) w.heap.size HB1.out.q.c0 HB1.out.q.c1 HB1.out.q.c2 HB1.out.q.c3 (fun W9 e9 c0 c1 c2 c3 => ?_)
    refine bodyPost_ret (v := .agg #[.int .i64 9, .int .i64 0, .int .i64 0, .string ⟨#[]⟩]) (by simp [results, Try.results121, go_sem, c0, c1, c2, c3]) rfl ?_
    clear c0 c1 c2 c3
    subst e9
    have hcu := HB1.out.cur
    have hon := HB1.out.only
    exact ⟨_, rfl, ⟨⟨9, 0, 0, ⟨#[]⟩⟩, rfl, small_mk (by omega) (by omega) (by omega) (by decide)⟩, (by repeat (first | with_reducible exact Only.refl _ _ | with_reducible assumption | with_reducible refine Only.alloc ?_ _ | with_reducible refine Only.drew ?_ | with_reducible refine Only.drewN ?_ _ | (with_reducible refine Only.setNew ?_ ?_ _; rotate_left; ((try simp); (try omega))))), (by repeat (first | with_reducible assumption | with_reducible refine Cur.alloc ?_ _ | with_reducible refine Cur.drew ?_ | with_reducible refine Cur.drewN ?_ _ | (with_reducible refine Cur.set ?_ ?_ _; rotate_left; ((try simp); (try omega)))))⟩
end Go.Proofs.Ytlicnppfgfjkgaa
