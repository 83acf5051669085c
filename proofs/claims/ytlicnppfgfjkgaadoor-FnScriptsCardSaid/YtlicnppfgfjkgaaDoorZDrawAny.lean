/-
  The draw of an instruction, of any kind. No conditions.
-/
import Derived.Test.YtlicnppfgfjkgaaDoorZDrawIns
namespace Go.Proofs.YtlicnppfgfjkgaaDoor
open Go.ChangeShapes Go.WideShapes Go.RowKit
set_option linter.unusedVariables false

set_option maxRecDepth 100000 in
set_option maxHeartbeats 8000000 in
theorem l13Any_any (p : Nat) (w : World) (h : Cur w p) :
    Calls Tryd.prog 27 #[.pointer (some ⟨p, 0, none⟩)] w (Draws p w fun v _ => ∃ x : TIns, v = x.val ∧ SmallIns x) := by
  have hpl := h.lt
  go_enter Tryd.func27, Tryd.ntmps27
  go_wp2_with fail
  refine (l13Instr_any p 5 _ (h.alloc _) (by omega)).mono ?_
  rintro e w1 ⟨v, rfl, ⟨⟨k, r, n, t⟩, rfl, hx⟩, ho1, hc1⟩
  have HX := Lib.hid hx
  have hz1 := ho1.size
  (try simp at hz1)
  have q1 : InsBox w1 w.heap.size 0 0 0 ⟨#[]⟩ := (InsBox.new w _ 0 0 0 ⟨#[]⟩).block (ho1.block w.heap.size (by simp) (by simp; omega))
  have hO1 : Only [p] w w1 := (show Only [p] w _ from (by repeat (first | with_reducible exact Only.refl _ _ | with_reducible assumption | with_reducible refine Only.alloc ?_ _ | with_reducible refine Only.drew ?_ | with_reducible refine Only.drewN ?_ _ | (with_reducible refine Only.setNew ?_ ?_ _; rotate_left; ((try simp); (try omega)))))).trans ho1
  have H1 := Lib.hid (And.intro q1 (And.intro hO1 hc1))
  clear q1 hO1 ho1 hx hc1
  unfold TIns.val
  go_upto_region 2 with (fail)
  generalize hW : World.alloc w1 _ = w3
  have hst : ISt p w w1.heap.size w3 k r n t := by
    rw [← hW]
    exact ⟨InsBox.new w1 _ _ _ _ _, H1.out.1.block (Below.block (bel_alloc (Below.refl _ _) _) _ (by omega)), H1.out.2.2.alloc _, H1.out.2.1.alloc _, hpl, by omega, by simp⟩
  clear hW H1
  generalize w1.heap.size = xb at *
  go_wp2_with fail
  refine (l1Below_any p 10 _ hst.cur (by omega)).mono ?_
  rintro e w4 ⟨v, rfl, ⟨q, rfl, hq0, hq1⟩, ho4, hc4⟩
  have H2 := Lib.hid (hst.turn ho4 hc4)
  clear hst ho4 hc4
  have hj : q = 0 ∨ q = 1 ∨ q = 2 ∨ q = 3 ∨ ((q == 0) = false ∧ (q == 1) = false ∧ (q == 2) = false ∧ (q == 3) = false) := by
    by_cases h0 : q = 0
    · exact .inl h0
    by_cases h1 : q = 1
    · exact .inr (.inl h1)
    by_cases h2 : q = 2
    · exact .inr (.inr (.inl h2))
    by_cases h3 : q = 3
    · exact .inr (.inr (.inr (.inl h3)))
    · exact .inr (.inr (.inr (.inr (by simp [h0, h1, h2, h3]))))
  rcases hj with hj | hj | hj | hj | hj
  · subst hj
    go_wp2_with fail
    refine (l1Int_any p _ [0, 10] _ _ (H2.out.cur.alloc _) (by exact rowInt _ _ [0, 10] 2 rfl (by simp) (by decide) (by decide)) (by simp) (by have := H2.out.lt; simp; omega)).mono ?_
    rintro e wa ⟨v, rfl, ⟨z, rfl, hz⟩, ho, hc⟩
    have hzr : -10 ≤ z ∧ z ≤ 2000 := by simp at hz; omega
    have HA := Lib.hid (ISt.turn (ISt.alloc H2.out _) ho hc)
    clear ho hc hz
    have hpA := HA.out.lt
    have y0 := HA.out.x.c0; have y1 := HA.out.x.c1; have y2 := HA.out.x.c2; have y3 := HA.out.x.c3
    have yz0 := HA.out.x.f0; have yz1 := HA.out.x.f1; have yz2 := HA.out.x.f2; have yz3 := HA.out.x.f3
    have HB := Lib.hid (ISt.put HA.out 0 (.int .i64 z) (HA.out.x.set0 z))
    have e0 := HB.out.q.c0; have e1 := HB.out.q.c1; have e2 := HB.out.q.c2; have e3 := HB.out.q.c3
    have g0 := HB.out.q.f0; have g1 := HB.out.q.f1; have g2 := HB.out.q.f2; have g3 := HB.out.q.f3
    have b0 := HB.out.x.c0; have b1 := HB.out.x.c1; have b2 := HB.out.x.c2; have b3 := HB.out.x.c3
    have hlt := HB.out.lt
    go_wp2_with fail
    refine sets_ret4 (a' := .int .i64 0) (b' := .int .i64 0) (c' := .int .i64 0) (d' := .string ⟨#[]⟩) w.heap.size HB.out.q.c0 HB.out.q.c1 HB.out.q.c2 HB.out.q.c3 (fun W9 e9 c0 c1 c2 c3 => ?_)
    refine bodyPost_ret (v := .agg #[.int .i64 z, .int .i64 r, .int .i64 n, .string t]) (by simp [results, Tryd.results27, go_sem, c0, c1, c2, c3]) rfl ?_
    clear c0 c1 c2 c3
    subst e9
    have hcu := HB.out.cur
    have hon := HB.out.only
    have hxs := HX.out
    exact ⟨_, rfl, ⟨⟨z, r, n, t⟩, rfl, ⟨⟨⟨by show (-9223372036854775808 : Int) ≤ z; omega, by show z ≤ (9223372036854775807 : Int); omega⟩, hxs.1.h1, hxs.1.h2, hxs.1.h3⟩, hxs.2⟩⟩, (by repeat (first | with_reducible exact Only.refl _ _ | with_reducible assumption | with_reducible refine Only.alloc ?_ _ | with_reducible refine Only.drew ?_ | with_reducible refine Only.drewN ?_ _ | (with_reducible refine Only.setNew ?_ ?_ _; rotate_left; ((try simp); (try omega))))), (by repeat (first | with_reducible assumption | with_reducible refine Cur.alloc ?_ _ | with_reducible refine Cur.drew ?_ | with_reducible refine Cur.drewN ?_ _ | (with_reducible refine Cur.set ?_ ?_ _; rotate_left; ((try simp); (try omega)))))⟩
  · subst hj
    go_wp2_with fail
    refine (l1Int_any p _ [-1, 4, 1] _ _ (H2.out.cur.alloc _) (by exact rowInt _ _ [-1, 4, 1] 3 rfl (by simp) (by decide) (by decide)) (by simp) (by have := H2.out.lt; simp; omega)).mono ?_
    rintro e wa ⟨v, rfl, ⟨z, rfl, hz⟩, ho, hc⟩
    have hzr : -10 ≤ z ∧ z ≤ 2000 := by simp at hz; omega
    have HA := Lib.hid (ISt.turn (ISt.alloc H2.out _) ho hc)
    clear ho hc hz
    have hpA := HA.out.lt
    have y0 := HA.out.x.c0; have y1 := HA.out.x.c1; have y2 := HA.out.x.c2; have y3 := HA.out.x.c3
    have yz0 := HA.out.x.f0; have yz1 := HA.out.x.f1; have yz2 := HA.out.x.f2; have yz3 := HA.out.x.f3
    have HB := Lib.hid (ISt.put HA.out 1 (.int .i64 z) (HA.out.x.set1 z))
    have e0 := HB.out.q.c0; have e1 := HB.out.q.c1; have e2 := HB.out.q.c2; have e3 := HB.out.q.c3
    have g0 := HB.out.q.f0; have g1 := HB.out.q.f1; have g2 := HB.out.q.f2; have g3 := HB.out.q.f3
    have b0 := HB.out.x.c0; have b1 := HB.out.x.c1; have b2 := HB.out.x.c2; have b3 := HB.out.x.c3
    have hlt := HB.out.lt
    go_wp2_with fail
    refine sets_ret4 (a' := .int .i64 0) (b' := .int .i64 0) (c' := .int .i64 0) (d' := .string ⟨#[]⟩) w.heap.size HB.out.q.c0 HB.out.q.c1 HB.out.q.c2 HB.out.q.c3 (fun W9 e9 c0 c1 c2 c3 => ?_)
    refine bodyPost_ret (v := .agg #[.int .i64 k, .int .i64 z, .int .i64 n, .string t]) (by simp [results, Tryd.results27, go_sem, c0, c1, c2, c3]) rfl ?_
    clear c0 c1 c2 c3
    subst e9
    have hcu := HB.out.cur
    have hon := HB.out.only
    have hxs := HX.out
    exact ⟨_, rfl, ⟨⟨k, z, n, t⟩, rfl, ⟨⟨hxs.1.h0, ⟨by show (-9223372036854775808 : Int) ≤ z; omega, by show z ≤ (9223372036854775807 : Int); omega⟩, hxs.1.h2, hxs.1.h3⟩, hxs.2⟩⟩, (by repeat (first | with_reducible exact Only.refl _ _ | with_reducible assumption | with_reducible refine Only.alloc ?_ _ | with_reducible refine Only.drew ?_ | with_reducible refine Only.drewN ?_ _ | (with_reducible refine Only.setNew ?_ ?_ _; rotate_left; ((try simp); (try omega))))), (by repeat (first | with_reducible assumption | with_reducible refine Cur.alloc ?_ _ | with_reducible refine Cur.drew ?_ | with_reducible refine Cur.drewN ?_ _ | (with_reducible refine Cur.set ?_ ?_ _; rotate_left; ((try simp); (try omega)))))⟩
  · subst hj
    go_wp2_with fail
    refine (l1Int_any p _ [-1, 16, 17, 100, 101, 1000, 1001] _ _ (H2.out.cur.alloc _) (by exact rowInt _ _ [-1, 16, 17, 100, 101, 1000, 1001] 7 rfl (by simp) (by decide) (by decide)) (by simp) (by have := H2.out.lt; simp; omega)).mono ?_
    rintro e wa ⟨v, rfl, ⟨z, rfl, hz⟩, ho, hc⟩
    have hzr : -10 ≤ z ∧ z ≤ 2000 := by simp at hz; omega
    have HA := Lib.hid (ISt.turn (ISt.alloc H2.out _) ho hc)
    clear ho hc hz
    have hpA := HA.out.lt
    have y0 := HA.out.x.c0; have y1 := HA.out.x.c1; have y2 := HA.out.x.c2; have y3 := HA.out.x.c3
    have yz0 := HA.out.x.f0; have yz1 := HA.out.x.f1; have yz2 := HA.out.x.f2; have yz3 := HA.out.x.f3
    have HB := Lib.hid (ISt.put HA.out 2 (.int .i64 z) (HA.out.x.set2 z))
    have e0 := HB.out.q.c0; have e1 := HB.out.q.c1; have e2 := HB.out.q.c2; have e3 := HB.out.q.c3
    have g0 := HB.out.q.f0; have g1 := HB.out.q.f1; have g2 := HB.out.q.f2; have g3 := HB.out.q.f3
    have b0 := HB.out.x.c0; have b1 := HB.out.x.c1; have b2 := HB.out.x.c2; have b3 := HB.out.x.c3
    have hlt := HB.out.lt
    go_wp2_with fail
    refine sets_ret4 (a' := .int .i64 0) (b' := .int .i64 0) (c' := .int .i64 0) (d' := .string ⟨#[]⟩) w.heap.size HB.out.q.c0 HB.out.q.c1 HB.out.q.c2 HB.out.q.c3 (fun W9 e9 c0 c1 c2 c3 => ?_)
    refine bodyPost_ret (v := .agg #[.int .i64 k, .int .i64 r, .int .i64 z, .string t]) (by simp [results, Tryd.results27, go_sem, c0, c1, c2, c3]) rfl ?_
    clear c0 c1 c2 c3
    subst e9
    have hcu := HB.out.cur
    have hon := HB.out.only
    have hxs := HX.out
    exact ⟨_, rfl, ⟨⟨k, r, z, t⟩, rfl, ⟨⟨hxs.1.h0, hxs.1.h1, ⟨by show (-9223372036854775808 : Int) ≤ z; omega, by show z ≤ (9223372036854775807 : Int); omega⟩, hxs.1.h3⟩, hxs.2⟩⟩, (by repeat (first | with_reducible exact Only.refl _ _ | with_reducible assumption | with_reducible refine Only.alloc ?_ _ | with_reducible refine Only.drew ?_ | with_reducible refine Only.drewN ?_ _ | (with_reducible refine Only.setNew ?_ ?_ _; rotate_left; ((try simp); (try omega))))), (by repeat (first | with_reducible assumption | with_reducible refine Cur.alloc ?_ _ | with_reducible refine Cur.drew ?_ | with_reducible refine Cur.drewN ?_ _ | (with_reducible refine Cur.set ?_ ?_ _; rotate_left; ((try simp); (try omega)))))⟩
  · subst hj
    go_wp2_with fail
    refine (l1Str_any p _ [⟨#[]⟩, ⟨#[81]⟩, ⟨#[110, 97, 109, 101]⟩, ⟨#[97, 32, 98]⟩] _ _ (H2.out.cur.alloc _) (by exact rowStr _ _ [⟨#[]⟩, ⟨#[81]⟩, ⟨#[110, 97, 109, 101]⟩, ⟨#[97, 32, 98]⟩] 4 rfl (by simp) (by decide) (by decide)) (by simp) (by have := H2.out.lt; simp; omega)).mono ?_
    rintro e wa ⟨v, rfl, ⟨z, rfl, hz⟩, ho, hc⟩
    have hzr : z.size ≤ 100 := (by decide : ∀ x ∈ ([⟨#[]⟩, ⟨#[81]⟩, ⟨#[110, 97, 109, 101]⟩, ⟨#[97, 32, 98]⟩] : List ByteArray), x.size ≤ 100) z hz
    have HA := Lib.hid (ISt.turn (ISt.alloc H2.out _) ho hc)
    clear ho hc hz
    have hpA := HA.out.lt
    have y0 := HA.out.x.c0; have y1 := HA.out.x.c1; have y2 := HA.out.x.c2; have y3 := HA.out.x.c3
    have yz0 := HA.out.x.f0; have yz1 := HA.out.x.f1; have yz2 := HA.out.x.f2; have yz3 := HA.out.x.f3
    have HB := Lib.hid (ISt.put HA.out 3 (.string z) (HA.out.x.set3 z))
    have e0 := HB.out.q.c0; have e1 := HB.out.q.c1; have e2 := HB.out.q.c2; have e3 := HB.out.q.c3
    have g0 := HB.out.q.f0; have g1 := HB.out.q.f1; have g2 := HB.out.q.f2; have g3 := HB.out.q.f3
    have b0 := HB.out.x.c0; have b1 := HB.out.x.c1; have b2 := HB.out.x.c2; have b3 := HB.out.x.c3
    have hlt := HB.out.lt
    go_wp2_with fail
    refine sets_ret4 (a' := .int .i64 0) (b' := .int .i64 0) (c' := .int .i64 0) (d' := .string ⟨#[]⟩) w.heap.size HB.out.q.c0 HB.out.q.c1 HB.out.q.c2 HB.out.q.c3 (fun W9 e9 c0 c1 c2 c3 => ?_)
    refine bodyPost_ret (v := .agg #[.int .i64 k, .int .i64 r, .int .i64 n, .string z]) (by simp [results, Tryd.results27, go_sem, c0, c1, c2, c3]) rfl ?_
    clear c0 c1 c2 c3
    subst e9
    have hcu := HB.out.cur
    have hon := HB.out.only
    have hxs := HX.out
    exact ⟨_, rfl, ⟨⟨k, r, n, z⟩, rfl, ⟨⟨hxs.1.h0, hxs.1.h1, hxs.1.h2, (by unfold maxLen; simp only; omega)⟩, hzr⟩⟩, (by repeat (first | with_reducible exact Only.refl _ _ | with_reducible assumption | with_reducible refine Only.alloc ?_ _ | with_reducible refine Only.drew ?_ | with_reducible refine Only.drewN ?_ _ | (with_reducible refine Only.setNew ?_ ?_ _; rotate_left; ((try simp); (try omega))))), (by repeat (first | with_reducible assumption | with_reducible refine Cur.alloc ?_ _ | with_reducible refine Cur.drew ?_ | with_reducible refine Cur.drewN ?_ _ | (with_reducible refine Cur.set ?_ ?_ _; rotate_left; ((try simp); (try omega)))))⟩
  · obtain ⟨b0, b1, b2, b3⟩ := hj
    have y0 := H2.out.x.c0; have y1 := H2.out.x.c1; have y2 := H2.out.x.c2; have y3 := H2.out.x.c3
    have yz0 := H2.out.x.f0; have yz1 := H2.out.x.f1; have yz2 := H2.out.x.f2; have yz3 := H2.out.x.f3
    have e0 := H2.out.q.c0; have e1 := H2.out.q.c1; have e2 := H2.out.q.c2; have e3 := H2.out.q.c3
    have g0 := H2.out.q.f0; have g1 := H2.out.q.f1; have g2 := H2.out.q.f2; have g3 := H2.out.q.f3
    have b0 := H2.out.x.c0; have b1 := H2.out.x.c1; have b2 := H2.out.x.c2; have b3 := H2.out.x.c3
    have hlt := H2.out.lt
    go_wp2_with fail
    refine sets_ret4 (a' := .int .i64 0) (b' := .int .i64 0) (c' := .int .i64 0) (d' := .string ⟨#[]⟩) w.heap.size H2.out.q.c0 H2.out.q.c1 H2.out.q.c2 H2.out.q.c3 (fun W9 e9 c0 c1 c2 c3 => ?_)
    refine bodyPost_ret (v := .agg #[.int .i64 k, .int .i64 r, .int .i64 n, .string t]) (by simp [results, Tryd.results27, go_sem, c0, c1, c2, c3]) rfl ?_
    clear c0 c1 c2 c3
    subst e9
    have hcu := H2.out.cur
    have hon := H2.out.only
    have hxs := HX.out
    exact ⟨_, rfl, ⟨⟨k, r, n, t⟩, rfl, ⟨⟨hxs.1.h0, hxs.1.h1, hxs.1.h2, hxs.1.h3⟩, hxs.2⟩⟩, (by repeat (first | with_reducible exact Only.refl _ _ | with_reducible assumption | with_reducible refine Only.alloc ?_ _ | with_reducible refine Only.drew ?_ | with_reducible refine Only.drewN ?_ _ | (with_reducible refine Only.setNew ?_ ?_ _; rotate_left; ((try simp); (try omega))))), (by repeat (first | with_reducible assumption | with_reducible refine Cur.alloc ?_ _ | with_reducible refine Cur.drew ?_ | with_reducible refine Cur.drewN ?_ _ | (with_reducible refine Cur.set ?_ ?_ _; rotate_left; ((try simp); (try omega)))))⟩
end Go.Proofs.YtlicnppfgfjkgaaDoor
