/-
  The draw of a site, of any kind. No conditions.
-/
import Derived.Test.YtlicnppfgfjkgaaZSiteBox
import Derived.Test.YtlicnppfgfjkgaaZB
import Derived.Deep.CutRange
namespace Go.Proofs.Ytlicnppfgfjkgaa
open Go.ChangeShapes Go.WideShapes Go.RowKit
set_option linter.unusedVariables false

theorem infoStrD : (Try.prog.info? 9).map (fun i => (i.zero, i.size, i.bytes)) = some (some (.string ByteArray.empty), 1, 16) := by kernel_rfl
set_option maxRecDepth 100000 in
set_option maxHeartbeats 8000000 in
theorem l16Any_any (p : Nat) (w : World) (h : Cur w p) :
    Calls Try.prog 113 #[.pointer (some ⟨p, 0, none⟩)] w (Draws p w fun v w' => ∃ (x : TSite) (v2 : Value), v = .agg #[.string x.name, .int .i64 x.ver, v2, .bool x.shared] ∧ Own cS 9 w.heap.size w' v2 x.files [] ∧ SmallSite x) := by
  obtain ⟨i0, hi0, hz0, hz1, hz2⟩ := info_parts infoStrD
  have hpl := h.lt
  go_enter Try.func113, Try.ntmps113
  go_wp2_with fail
  refine (l15Site_any p _ (h.alloc _)).mono ?_
  rintro e w1 ⟨v, rfl, ⟨nm, rfl, hnm⟩, ho1, hc1⟩
  have hz1' := ho1.size
  (try simp at hz1')
  have q1 : SiteBox w1 w.heap.size ⟨#[]⟩ 0 (.slice none 0 0) false := (SiteBox.new w _ ⟨#[]⟩ 0 (.slice none 0 0) false).block (ho1.block w.heap.size (by simp) (by simp; omega))
  have hO1 : Only [p] w w1 := (show Only [p] w _ from (by repeat (first | with_reducible exact Only.refl _ _ | with_reducible assumption | with_reducible refine Only.alloc ?_ _ | with_reducible refine Only.drew ?_ | with_reducible refine Only.drewN ?_ _ | (with_reducible refine Only.setNew ?_ ?_ _; rotate_left; ((try simp); (try omega)))))).trans ho1
  have H1 := Lib.hid (And.intro q1 hO1)
  clear q1 hO1 ho1
  go_wp2_with fail
  refine (l16Site_any p nm _ hc1).mono ?_
  rintro e w2 ⟨v, rfl, ⟨ver, v2, xs, sh, rfl, hv1, hv2, hown, hsm⟩, ho2, hc2⟩
  obtain ⟨A, cp, e2⟩ := hown.slice
  have hxl := hsm.1
  obtain ⟨n, hxn⟩ : ∃ n, xs.length = n := ⟨_, rfl⟩
  rw [hxn] at e2 hxl
  subst e2
  have HN := Lib.hid (And.intro hxn hsm)
  have hz2' := ho2.size
  have H1b := Lib.hid (And.intro (H1.out.1.block (ho2.block w.heap.size (by omega) (by simp; omega))) (And.intro (H1.out.2.trans ho2) (And.intro hc2 (And.intro (hown.mono (show w.heap.size + 1 ≤ w1.heap.size by omega)) (fun g hg => (hown.lt g hg))))))
  clear ho2 hown hsm hxn H1 hc2
  go_upto_region 2 with (fail)
  generalize hW : World.alloc w2 _ = w3
  have hst : SSt p w w2.heap.size w3 nm ver (.slice A n cp) xs sh := by
    rw [← hW]
    have hb := bel_alloc (Below.refl w2.heap.size w2) (.cells #[.string nm, .int .i64 ver, .slice A n cp, .bool sh] 59)
    exact ⟨SiteBox.new w2 _ _ _ _ _, H1b.out.1.block (hb.block _ (by omega)), (H1b.out.2.2.2.1.mono (Nat.le_succ _)).bel hb, fun g hg => ⟨by have := (H1b.out.2.2.2.2 g hg).2; omega, by have := (H1b.out.2.2.2.2 g hg).1; omega⟩, H1b.out.2.2.1.alloc _, H1b.out.2.1.alloc _, hpl, by omega, by simp⟩
  have HS := Lib.hid hst
  clear hW hst H1b
  generalize w2.heap.size = xb at *
  go_wp2_with fail
  refine (l1Below_any p 12 _ HS.out.cur (by omega)).mono ?_
  rintro e w4 ⟨v, rfl, ⟨q, rfl, hq0, hq1⟩, ho4, hc4⟩
  have H2 := Lib.hid (HS.out.turn ho4 hc4)
  clear HS ho4 hc4
  have hlt := H2.out.lt
  have hj : q = 0 ∨ q = 1 ∨ q = 2 ∨ ((q == 0) = false ∧ (q == 1) = false ∧ (q == 2) = false) := by
    by_cases h0 : q = 0
    · exact .inl h0
    by_cases h1 : q = 1
    · exact .inr (.inl h1)
    by_cases h2 : q = 2
    · exact .inr (.inr (.inl h2))
    · exact .inr (.inr (.inr (by simp [h0, h1, h2])))
  rcases hj with hj | hj | hj | hj
  · subst hj
    have x0 := H2.out.x.c0; have x1 := H2.out.x.c1; have x2 := H2.out.x.c2; have x3 := H2.out.x.c3
    have z0 := H2.out.x.fz 0; have z1 := H2.out.x.fz 1; have z2 := H2.out.x.fz 2; have z3 := H2.out.x.fz 3
    go_wp2_with fail
    refine (l1Int_any p _ [-1, 0, 1000000000000, 1000000000001] _ _ (H2.out.cur.alloc _) (by exact rowInt _ _ [-1, 0, 1000000000000, 1000000000001] 4 rfl (by simp) (by decide) (by decide)) (by simp) (by simp; omega)).mono ?_
    rintro e wa ⟨v, rfl, ⟨z, rfl, hz⟩, ho, hc⟩
    have hzr : -1 ≤ z ∧ z ≤ 1000000000001 := by simp at hz; omega
    have HA := Lib.hid (SSt.turn (SSt.alloc H2.out _) ho hc)
    clear ho hc hz x0 x1 x2 x3 z0 z1 z2 z3
    have x0 := HA.out.x.c0; have x1 := HA.out.x.c1; have x2 := HA.out.x.c2; have x3 := HA.out.x.c3
    have z0 := HA.out.x.fz 0; have z1 := HA.out.x.fz 1; have z2 := HA.out.x.fz 2; have z3 := HA.out.x.fz 3
    have HB := Lib.hid (SSt.put HA.out 1 (.int .i64 z) (HA.out.x.set1 z))
    have e0 := HB.out.q.c0; have e1 := HB.out.q.c1; have e2 := HB.out.q.c2; have e3 := HB.out.q.c3
    have g0 := HB.out.q.fz 0; have g1 := HB.out.q.fz 1; have g2 := HB.out.q.fz 2; have g3 := HB.out.q.fz 3
    have b0 := HB.out.x.c0; have b1 := HB.out.x.c1; have b2 := HB.out.x.c2; have b3 := HB.out.x.c3
    have hlt9 := HB.out.lt
    go_wp2_with fail
    refine sets_ret4 (a' := .string ⟨#[]⟩) (b' := .int .i64 0) (c' := .slice none 0 0) (d' := .bool false) w.heap.size HB.out.q.c0 HB.out.q.c1 HB.out.q.c2 HB.out.q.c3 (fun W9 e9 c0 c1 c2 c3 => ?_)
    refine bodyPost_ret (v := .agg #[.string nm, .int .i64 z, .slice A n cp, .bool sh]) (by simp [results, Try.results113, go_sem, c0, c1, c2, c3]) rfl ?_
    clear c0 c1 c2 c3
    subst e9
    have hcu := HB.out.cur
    have hon := HB.out.only
    have hne : ∀ i : Nat, ownB (.slice A n cp) ≠ some (⟨w.heap.size, i, none⟩ : Addr).block := fun i e => (HB.out.ne _ e).2 rfl
    exact ⟨_, rfl, ⟨⟨nm, z, xs, sh⟩, _, rfl, (((HB.out.own.set_ (hne 0) _).set_ (hne 1) _).set_ (hne 2) _).set_ (hne 3) _, ⟨hnm, hzr, ⟨Nat.le_trans HN.out.2.1 (by decide), HN.out.2.2⟩⟩⟩, (by repeat (first | with_reducible exact Only.refl _ _ | with_reducible assumption | with_reducible refine Only.alloc ?_ _ | with_reducible refine Only.drew ?_ | with_reducible refine Only.drewN ?_ _ | (with_reducible refine Only.setNew ?_ ?_ _; rotate_left; ((try simp); (try omega))))), (by repeat (first | with_reducible assumption | with_reducible refine Cur.alloc ?_ _ | with_reducible refine Cur.drew ?_ | with_reducible refine Cur.drewN ?_ _ | (with_reducible refine Cur.set ?_ ?_ _; rotate_left; ((try simp); (try omega)))))⟩
  · subst hj
    have x0 := H2.out.x.c0; have x1 := H2.out.x.c1; have x2 := H2.out.x.c2; have x3 := H2.out.x.c3
    have z0 := H2.out.x.fz 0; have z1 := H2.out.x.fz 1; have z2 := H2.out.x.fz 2; have z3 := H2.out.x.fz 3
    have hpw : p < w4.heap.size := by omega
    have hrow : cStS.rep (w4.alloc (.cells #[.string ⟨#[97]⟩, .string ⟨#[122, 111, 111]⟩, .string ⟨#[81]⟩] 9)) [.slice (some ⟨w4.heap.size, 0, none⟩) 3 3] [⟨#[97]⟩, ⟨#[122, 111, 111]⟩, ⟨#[81]⟩] [w4.heap.size] := rowStr w4 9 [⟨#[97]⟩, ⟨#[122, 111, 111]⟩, ⟨#[81]⟩] 3 rfl (by simp) (by decide) (by decide)
    have hcu0 := H2.out.cur
    have hS : ∀ w9, Only [p] w4 w9 → w9.cell? ⟨xb, 2, none⟩ = some (.slice A n cp) := fun w9 hb => (World.cell?_of_block (a := ⟨xb, 2, none⟩) (hb.block xb (by omega) (by simp; omega))).trans x2
    go_wp2_with fail
    refine wp_regionT (S := (fun w9 => w9.cell? ⟨xb, 2, none⟩ = some (.slice A n cp))) [6, 7, 8] (by kernel_rfl) (by (try dsimp only); exact hS _ (by repeat (first | with_reducible exact Only.refl _ _ | with_reducible assumption | with_reducible refine Only.alloc ?_ _ | with_reducible refine Only.drew ?_ | with_reducible refine Only.drewN ?_ _ | (with_reducible refine Only.setNew ?_ ?_ _; rotate_left; ((try simp); (try omega)))))) (fun hHeld => ?_)
    refine takeT_read (i := 0) 9 18 (v := ?v0) rfl rfl (by kernel_rfl) (by kernel_rfl) (by kernel_rfl) (by kernel_rfl) (by kernel_rfl) (by kernel_rfl) (fun _ _ _ h => h) (by rfl) ?hy0 (by assumption) ?rest0
    case hy0 => (intro w hSw; (try dsimp only at hSw); go_simp; (try with_reducible rfl))
    try simp only [Act.put, List.setIfInBounds_toArray, List.set_cons_zero, List.set_cons_succ]
    refine takeT_read (i := 1) 9 19 (v := ?v1) rfl rfl (by kernel_rfl) (by kernel_rfl) (by kernel_rfl) (by kernel_rfl) (by kernel_rfl) (by kernel_rfl) (fun _ _ _ h => h) (by rfl) ?hy1 (by assumption) ?rest1
    case hy1 => (intro w hSw; (try dsimp only at hSw); go_simp; (try with_reducible rfl))
    try simp only [Act.put, List.setIfInBounds_toArray, List.set_cons_zero, List.set_cons_succ]
    refine takeT_read (i := 2) 9 20 (v := ?v2) rfl rfl (by kernel_rfl) (by kernel_rfl) (by kernel_rfl) (by kernel_rfl) (by kernel_rfl) (by kernel_rfl) (fun _ _ _ h => h) (by rfl) ?hy2 (by assumption) ?rest2
    case hy2 => (intro w hSw; (try dsimp only at hSw); go_simp; (try with_reducible rfl))
    try simp only [Act.put, List.setIfInBounds_toArray, List.set_cons_zero, List.set_cons_succ]
    refine stepT 3 (by kernel_rfl) rfl (fun K hK => ?_)
    first | (go_at_call 69; refine (l1Str_any p _ [⟨#[97]⟩, ⟨#[122, 111, 111]⟩, ⟨#[81]⟩] _ _ (by repeat (first | with_reducible assumption | with_reducible refine Cur.alloc ?_ _ | with_reducible refine Cur.drew ?_ | with_reducible refine Cur.drewN ?_ _ | (with_reducible refine Cur.set ?_ ?_ _; rotate_left; ((try simp); (try omega))))) (by exact Cod.bel hrow (by repeat (first | with_reducible exact Below.refl _ _ | with_reducible assumption | with_reducible refine bel_alloc ?_ _ | with_reducible refine bel_drew ?_ | with_reducible refine bel_drewN ?_ _ | (with_reducible refine bel_set ?_ ?_ _; rotate_left; ((try simp); (try omega)))))) (by simp) (by (try simp); omega)).mono ?_; rintro e w5 ⟨v, rfl, ⟨s, rfl, hs⟩, ho5, hc5⟩; have hoW5 : Only [p] w4 w5 := (show Only [p] w4 _ from (by repeat (first | with_reducible exact Only.refl _ _ | with_reducible assumption | with_reducible refine Only.alloc ?_ _ | with_reducible refine Only.drew ?_ | with_reducible refine Only.drewN ?_ _ | (with_reducible refine Only.setNew ?_ ?_ _; rotate_left; ((try simp); (try omega)))))).trans ho5; have H5 := Lib.hid (H2.out.turn hoW5 hc5); have hz5 := hoW5.size; have hss : s.size ≤ 100 := ((by decide : ∀ x ∈ ([⟨#[97]⟩, ⟨#[122, 111, 111]⟩, ⟨#[81]⟩] : List ByteArray), x.size ≤ 100) s hs); have hlt5 := H5.out.lt) | go_simp
    refine hK.out _ _ ?_ (fun hHeld => ?_)
    · (try dsimp only)
      exact hS _ (by repeat (first | with_reducible exact Only.refl _ _ | with_reducible assumption | with_reducible refine Only.alloc ?_ _ | with_reducible refine Only.drew ?_ | with_reducible refine Only.drewN ?_ _ | (with_reducible refine Only.setNew ?_ ?_ _; rotate_left; ((try simp); (try omega)))))
    clear hK K
    refine stepT 4 (by kernel_rfl) rfl (fun K hK => ?_)
    go_simp
    (go_at_call 69; refine (l1Str_any p _ [⟨#[97]⟩, ⟨#[122, 111, 111]⟩, ⟨#[81]⟩] _ _ (by repeat (first | with_reducible assumption | with_reducible refine Cur.alloc ?_ _ | with_reducible refine Cur.drew ?_ | with_reducible refine Cur.drewN ?_ _ | (with_reducible refine Cur.set ?_ ?_ _; rotate_left; ((try simp); (try omega))))) (by exact Cod.bel hrow (by repeat (first | with_reducible exact Below.refl _ _ | with_reducible assumption | with_reducible refine bel_alloc ?_ _ | with_reducible refine bel_drew ?_ | with_reducible refine bel_drewN ?_ _ | (with_reducible refine bel_set ?_ ?_ _; rotate_left; ((try simp); (try omega)))))) (by simp) (by (try simp); omega)).mono ?_; rintro e w5 ⟨v, rfl, ⟨s, rfl, hs⟩, ho5, hc5⟩; have hoW5 : Only [p] w4 w5 := (show Only [p] w4 _ from (by repeat (first | with_reducible exact Only.refl _ _ | with_reducible assumption | with_reducible refine Only.alloc ?_ _ | with_reducible refine Only.drew ?_ | with_reducible refine Only.drewN ?_ _ | (with_reducible refine Only.setNew ?_ ?_ _; rotate_left; ((try simp); (try omega)))))).trans ho5; have H5 := Lib.hid (H2.out.turn hoW5 hc5); have hz5 := hoW5.size; have hss : s.size ≤ 100 := ((by decide : ∀ x ∈ ([⟨#[97]⟩, ⟨#[122, 111, 111]⟩, ⟨#[81]⟩] : List ByteArray), x.size ≤ 100) s hs); have hlt5 := H5.out.lt)
    try go_wp2_with fail
    refine hK.out _ _ ?_ (fun hHeld => ?_)
    · (try dsimp only)
      exact hS _ (by repeat (first | with_reducible exact Only.refl _ _ | with_reducible assumption | with_reducible refine Only.alloc ?_ _ | with_reducible refine Only.drew ?_ | with_reducible refine Only.drewN ?_ _ | (with_reducible refine Only.setNew ?_ ?_ _; rotate_left; ((try simp); (try omega)))))
    clear hK K
    refine stepT 5 (by kernel_rfl) rfl (fun K hK => ?_)
    first | (go_at_call 69; refine (l1Str_any p _ [⟨#[97]⟩, ⟨#[122, 111, 111]⟩, ⟨#[81]⟩] _ _ (by repeat (first | with_reducible assumption | with_reducible refine Cur.alloc ?_ _ | with_reducible refine Cur.drew ?_ | with_reducible refine Cur.drewN ?_ _ | (with_reducible refine Cur.set ?_ ?_ _; rotate_left; ((try simp); (try omega))))) (by exact Cod.bel hrow (by repeat (first | with_reducible exact Below.refl _ _ | with_reducible assumption | with_reducible refine bel_alloc ?_ _ | with_reducible refine bel_drew ?_ | with_reducible refine bel_drewN ?_ _ | (with_reducible refine bel_set ?_ ?_ _; rotate_left; ((try simp); (try omega)))))) (by simp) (by (try simp); omega)).mono ?_; rintro e w5 ⟨v, rfl, ⟨s, rfl, hs⟩, ho5, hc5⟩; have hoW5 : Only [p] w4 w5 := (show Only [p] w4 _ from (by repeat (first | with_reducible exact Only.refl _ _ | with_reducible assumption | with_reducible refine Only.alloc ?_ _ | with_reducible refine Only.drew ?_ | with_reducible refine Only.drewN ?_ _ | (with_reducible refine Only.setNew ?_ ?_ _; rotate_left; ((try simp); (try omega)))))).trans ho5; have H5 := Lib.hid (H2.out.turn hoW5 hc5); have hz5 := hoW5.size; have hss : s.size ≤ 100 := ((by decide : ∀ x ∈ ([⟨#[97]⟩, ⟨#[122, 111, 111]⟩, ⟨#[81]⟩] : List ByteArray), x.size ≤ 100) s hs); have hlt5 := H5.out.lt) | go_simp
    refine hK.out _ _ ?_ (fun hHeld => ?_)
    · (try dsimp only)
      exact hS _ (by repeat (first | with_reducible exact Only.refl _ _ | with_reducible assumption | with_reducible refine Only.alloc ?_ _ | with_reducible refine Only.drew ?_ | with_reducible refine Only.drewN ?_ _ | (with_reducible refine Only.setNew ?_ ?_ _; rotate_left; ((try simp); (try omega)))))
    clear hK K
    refine stepT_end 6 (by kernel_rfl) rfl (by kernel_rfl) (fun K hK => ?_)
    (refine step_app (c := cS) (B := w.heap.size) (xs := xs) (ys := [s]) (Fi := []) (Fy := []) _ rfl _ _ _ rfl i0 _ _ Try.underlying57 hi0 hz0 hz1 hz2 rfl (by decide) rfl (H5.out.own.bel (by repeat (first | with_reducible exact Below.refl _ _ | with_reducible assumption | with_reducible refine bel_alloc ?_ _ | with_reducible refine bel_drew ?_ | with_reducible refine bel_drewN ?_ _ | (with_reducible refine bel_set ?_ ?_ _; rotate_left; ((try simp); (try omega)))))) (.slice (some ⟨w5.heap.size, 0, none⟩) 1 1) rfl (AppSrc.bel (src_new (w := w5) (vs := #[.string s]) 9 _ rfl ⟨rfl, rfl, by unfold maxLen; omega⟩) (by repeat (first | with_reducible exact Below.refl _ _ | with_reducible assumption | with_reducible refine bel_alloc ?_ _ | with_reducible refine bel_drew ?_ | with_reducible refine bel_drewN ?_ _ | (with_reducible refine bel_set ?_ ?_ _; rotate_left; ((try simp); (try omega)))))) (by have := HN.out.1; unfold maxLen; simp; omega) (by have := HN.out.1; simp; omega) (by (try simp); (try omega)) (by simp) ?_; intro v2 w6 ho6 hg6 hat6; obtain ⟨A6, c6, e6⟩ := ho6.slice; rw [List.length_append, List.length_singleton, HN.out.1] at e6; subst e6; have h6 := ((H5.out.alloc _).x.block (hg6.block xb (by (try simp); omega) (fun e => (H5.out.ne xb e.symm).1 rfl))); have y2 := h6.c2; have yz2 := h6.fz 2)
    refine hK.out _ _ ?_
    clear hK K
    refine stepT_end 7 (by kernel_rfl) rfl (by kernel_rfl) (fun K hK => ?_)
    go_simp
    refine hK.out _ _ ?_
    clear hK K
    refine stepT_end 8 (by kernel_rfl) rfl (by kernel_rfl) (fun K hK => ?_)
    go_simp
    refine hK.out _ _ ?_
    clear hK K
    refine doneT (by kernel_rfl) ?_ _
    have HB := Lib.hid (SSt.app (H5.out.alloc _) hg6 ho6 hat6)
    clear ho6 hg6 hat6 h6 y2 yz2 hS hrow
    have e0 := HB.out.q.c0; have e1 := HB.out.q.c1; have e2 := HB.out.q.c2; have e3 := HB.out.q.c3
    have g0 := HB.out.q.fz 0; have g1 := HB.out.q.fz 1; have g2 := HB.out.q.fz 2; have g3 := HB.out.q.fz 3
    have b0 := HB.out.x.c0; have b1 := HB.out.x.c1; have b2 := HB.out.x.c2; have b3 := HB.out.x.c3
    have hlt9 := HB.out.lt
    go_wp2_with fail
    refine sets_ret4 (a' := .string ⟨#[]⟩) (b' := .int .i64 0) (c' := .slice none 0 0) (d' := .bool false) w.heap.size HB.out.q.c0 HB.out.q.c1 HB.out.q.c2 HB.out.q.c3 (fun W9 e9 c0 c1 c2 c3 => ?_)
    refine bodyPost_ret (v := .agg #[.string nm, .int .i64 ver, .slice A6 (n + 1) c6, .bool sh]) (by simp [results, Try.results113, go_sem, c0, c1, c2, c3]) rfl ?_
    clear c0 c1 c2 c3
    subst e9
    have hcu := HB.out.cur
    have hon := HB.out.only
    have hne : ∀ i : Nat, ownB (.slice A6 (n + 1) c6) ≠ some (⟨w.heap.size, i, none⟩ : Addr).block := fun i e => (HB.out.ne _ e).2 rfl
    exact ⟨_, rfl, ⟨⟨nm, ver, xs ++ [s], sh⟩, _, rfl, (((HB.out.own.set_ (hne 0) _).set_ (hne 1) _).set_ (hne 2) _).set_ (hne 3) _, ⟨hnm, ⟨by show (-1 : Int) ≤ ver; omega, by show ver ≤ (1000000000001 : Int); omega⟩, by have := HN.out.1; simp; omega, fun f hf => by rcases List.mem_append.1 hf with hf | hf; exact HN.out.2.2 f hf; rw [List.mem_singleton.1 hf]; exact hss⟩⟩, (by repeat (first | with_reducible exact Only.refl _ _ | with_reducible assumption | with_reducible refine Only.alloc ?_ _ | with_reducible refine Only.drew ?_ | with_reducible refine Only.drewN ?_ _ | (with_reducible refine Only.setNew ?_ ?_ _; rotate_left; ((try simp); (try omega))))), (by repeat (first | with_reducible assumption | with_reducible refine Cur.alloc ?_ _ | with_reducible refine Cur.drew ?_ | with_reducible refine Cur.drewN ?_ _ | (with_reducible refine Cur.set ?_ ?_ _; rotate_left; ((try simp); (try omega)))))⟩
  · subst hj
    have x0 := H2.out.x.c0; have x1 := H2.out.x.c1; have x2 := H2.out.x.c2; have x3 := H2.out.x.c3
    have z0 := H2.out.x.fz 0; have z1 := H2.out.x.fz 1; have z2 := H2.out.x.fz 2; have z3 := H2.out.x.fz 3
    have HB := Lib.hid (SSt.put H2.out 0 (.string ⟨#[]⟩) (H2.out.x.set0 ⟨#[]⟩))
    have e0 := HB.out.q.c0; have e1 := HB.out.q.c1; have e2 := HB.out.q.c2; have e3 := HB.out.q.c3
    have g0 := HB.out.q.fz 0; have g1 := HB.out.q.fz 1; have g2 := HB.out.q.fz 2; have g3 := HB.out.q.fz 3
    have b0 := HB.out.x.c0; have b1 := HB.out.x.c1; have b2 := HB.out.x.c2; have b3 := HB.out.x.c3
    have hlt9 := HB.out.lt
    go_wp2_with fail
    refine sets_ret4 (a' := .string ⟨#[]⟩) (b' := .int .i64 0) (c' := .slice none 0 0) (d' := .bool false) w.heap.size HB.out.q.c0 HB.out.q.c1 HB.out.q.c2 HB.out.q.c3 (fun W9 e9 c0 c1 c2 c3 => ?_)
    refine bodyPost_ret (v := .agg #[.string ⟨#[]⟩, .int .i64 ver, .slice A n cp, .bool sh]) (by simp [results, Try.results113, go_sem, c0, c1, c2, c3]) rfl ?_
    clear c0 c1 c2 c3
    subst e9
    have hcu := HB.out.cur
    have hon := HB.out.only
    have hne : ∀ i : Nat, ownB (.slice A n cp) ≠ some (⟨w.heap.size, i, none⟩ : Addr).block := fun i e => (HB.out.ne _ e).2 rfl
    exact ⟨_, rfl, ⟨⟨⟨#[]⟩, ver, xs, sh⟩, _, rfl, (((HB.out.own.set_ (hne 0) _).set_ (hne 1) _).set_ (hne 2) _).set_ (hne 3) _, ⟨Nat.zero_le _, ⟨by show (-1 : Int) ≤ ver; omega, by show ver ≤ (1000000000001 : Int); omega⟩, ⟨Nat.le_trans HN.out.2.1 (by decide), HN.out.2.2⟩⟩⟩, (by repeat (first | with_reducible exact Only.refl _ _ | with_reducible assumption | with_reducible refine Only.alloc ?_ _ | with_reducible refine Only.drew ?_ | with_reducible refine Only.drewN ?_ _ | (with_reducible refine Only.setNew ?_ ?_ _; rotate_left; ((try simp); (try omega))))), (by repeat (first | with_reducible assumption | with_reducible refine Cur.alloc ?_ _ | with_reducible refine Cur.drew ?_ | with_reducible refine Cur.drewN ?_ _ | (with_reducible refine Cur.set ?_ ?_ _; rotate_left; ((try simp); (try omega)))))⟩
  · obtain ⟨j0, j1, j2⟩ := hj
    have x0 := H2.out.x.c0; have x1 := H2.out.x.c1; have x2 := H2.out.x.c2; have x3 := H2.out.x.c3
    have z0 := H2.out.x.fz 0; have z1 := H2.out.x.fz 1; have z2 := H2.out.x.fz 2; have z3 := H2.out.x.fz 3
    have e0 := H2.out.q.c0; have e1 := H2.out.q.c1; have e2 := H2.out.q.c2; have e3 := H2.out.q.c3
    have g0 := H2.out.q.fz 0; have g1 := H2.out.q.fz 1; have g2 := H2.out.q.fz 2; have g3 := H2.out.q.fz 3
    have hlt9 := H2.out.lt
    go_wp2_with fail
    refine sets_ret4 (a' := .string ⟨#[]⟩) (b' := .int .i64 0) (c' := .slice none 0 0) (d' := .bool false) w.heap.size H2.out.q.c0 H2.out.q.c1 H2.out.q.c2 H2.out.q.c3 (fun W9 e9 c0 c1 c2 c3 => ?_)
    refine bodyPost_ret (v := .agg #[.string nm, .int .i64 ver, .slice A n cp, .bool sh]) (by simp [results, Try.results113, go_sem, c0, c1, c2, c3]) rfl ?_
    clear c0 c1 c2 c3
    subst e9
    have hcu := H2.out.cur
    have hon := H2.out.only
    have hne : ∀ i : Nat, ownB (.slice A n cp) ≠ some (⟨w.heap.size, i, none⟩ : Addr).block := fun i e => (H2.out.ne _ e).2 rfl
    exact ⟨_, rfl, ⟨⟨nm, ver, xs, sh⟩, _, rfl, (((H2.out.own.set_ (hne 0) _).set_ (hne 1) _).set_ (hne 2) _).set_ (hne 3) _, ⟨hnm, ⟨by show (-1 : Int) ≤ ver; omega, by show ver ≤ (1000000000001 : Int); omega⟩, ⟨Nat.le_trans HN.out.2.1 (by decide), HN.out.2.2⟩⟩⟩, (by repeat (first | with_reducible exact Only.refl _ _ | with_reducible assumption | with_reducible refine Only.alloc ?_ _ | with_reducible refine Only.drew ?_ | with_reducible refine Only.drewN ?_ _ | (with_reducible refine Only.setNew ?_ ?_ _; rotate_left; ((try simp); (try omega))))), (by repeat (first | with_reducible assumption | with_reducible refine Cur.alloc ?_ _ | with_reducible refine Cur.drew ?_ | with_reducible refine Cur.drewN ?_ _ | (with_reducible refine Cur.set ?_ ?_ _; rotate_left; ((try simp); (try omega)))))⟩
end Go.Proofs.Ytlicnppfgfjkgaa
