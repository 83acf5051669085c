/-
  The draw of a set of caches: states, l17Set. No conditions.
-/
import Derived.Test.YtlicnppfgfjkgaaZA
import Derived.Test.YtlicnppfgfjkgaaZOpenS
import Derived.Test.YtlicnppfgfjkgaaZStoreI
import Derived.Test.YtlicnppfgfjkgaaZRegP
import Derived.Deep.CutRange
namespace Go.Proofs.Ytlicnppfgfjkgaa
open Go.ChangeShapes Go.WideShapes Go.RowKit
set_option linter.unusedVariables false

theorem Only.belw {F : List Nat} {a b c : World} (h : Only F a b) (k : Below b.heap.size b c) : Only F a c :=
  ⟨k.os.trans h.os, k.tape.trans h.tape, k.output.trans h.output, Nat.le_trans h.size k.size, fun j hj hn => (k.block j (Nat.lt_of_lt_of_le hj h.size)).trans (h.block j hj hn)⟩
theorem smallResp_sz {x : TResp} (h : SmallResp x) : cResp.sz x ≤ 256 := by
  unfold SmallResp at h
  have h1 : cResp.sz x = 0 + (0 + (0 + (cU.szs x.body + 0))) := rfl
  have h2 := szs_le cU 0 x.body (fun _ _ => Nat.le_refl _)
  omega
/-- where the draw of a set stands: the cursor p, the set's box xb, the result's box -/
structure CSt (p : Nat) (w0 : World) (xb : Nat) (W : World) (s : TCSet) (A : Option Addr) (cp : Nat) (G : List Nat) : Prop where
  x : W.cell? ⟨xb, 0, none⟩ = some (.slice A s.caches.length cp)
  xz : W.frozen? ⟨xb, 0, none⟩ = false
  q : W.cell? ⟨w0.heap.size, 0, none⟩ = some (.slice none 0 0)
  qz : W.frozen? ⟨w0.heap.size, 0, none⟩ = false
  rep : cCachesO.rep W [.slice A s.caches.length cp] s.caches G
  fr : Fresh w0.heap.size G
  ne : ∀ b, b ∈ G → b ≠ xb ∧ b ≠ w0.heap.size
  cur : Cur W p
  only : Only [p] w0 W
  lt : p < w0.heap.size ∧ w0.heap.size < xb ∧ xb < W.heap.size
section
variable {p : Nat} {w0 W W' : World} {xb : Nat} {s s2 : TCSet} {A A2 : Option Addr} {cp cp2 : Nat} {G G2 : List Nat}
theorem CSt.np (h : CSt p w0 xb W s A cp G) : p ∉ G := fun hm => by have := h.fr.1 p hm; have := h.lt.1; omega
theorem CSt.turn (h : CSt p w0 xb W s A cp G) (hO : Only [p] W W') (hc : Cur W' p) : CSt p w0 xb W' s A cp G := by
  obtain ⟨l1, l2, l3⟩ := h.lt
  have b1 := hO.block xb l3 (by simp; omega)
  have b2 := hO.block w0.heap.size (by omega) (by simp; omega)
  exact ⟨(World.cell?_of_block b1).trans h.x, (World.frozen?_of_block b1).trans h.xz, (World.cell?_of_block b2).trans h.q, (World.frozen?_of_block b2).trans h.qz, Turn.rep (Turn.mk hO) h.np h.rep, h.fr, h.ne, hc, h.only.trans hO, l1, l2, Nat.lt_of_lt_of_le l3 hO.size⟩
theorem CSt.bel (h : CSt p w0 xb W s A cp G) (hb : Below W.heap.size W W') : CSt p w0 xb W' s A cp G :=
  h.turn (Only.belw (Only.refl _ _) hb) (h.cur.bel hb)
theorem CSt.weakr (h : CSt p w0 xb W s A cp G) : ∃ F, cCSet.rep W [.slice A s.caches.length cp] s F ∧ (∀ b, b ∈ F → b ∈ G) ∧ Fresh w0.heap.size F := by
  obtain ⟨F, h1, h2⟩ := weak_cset.2 (show cCSetO.rep W [.slice A s.caches.length cp] s G from TCSet.mkO h.rep)
  exact ⟨F, h1, fun b hb => h2.subset hb, fun b hb => h.fr.1 b (h2.subset hb), h2.nodup h.fr.2⟩
/-- a new set, made by a call, stored in the box -/
theorem CSt.put (h : CSt p w0 xb W s A cp G) (hb : Below W.heap.size W W') (hr : cCachesO.rep W' [.slice A2 s2.caches.length cp2] s2.caches G2) (hf : Fresh W.heap.size G2) : CSt p w0 xb (W'.setCell ⟨xb, 0, none⟩ (.slice A2 s2.caches.length cp2)) s2 A2 cp2 G2 := by
  obtain ⟨l1, l2, l3⟩ := h.lt
  have h1 := h.bel hb
  obtain ⟨k1, k2, k3⟩ := h1.lt
  have hn : ∀ b, b ∈ G2 → b ≠ xb ∧ b ≠ w0.heap.size := fun b hm => by have := hf.1 b hm; exact ⟨by omega, by omega⟩
  exact ⟨cell?_set_same h1.x, by rw [frozen?_set]; exact h1.xz, setNeC (by omega) h1.q, by rw [frozen?_set]; exact h1.qz, Cod.keep _ hr (fun b hm => Below.heap_setCell _ _ _ _ (hn b hm).1), hf.mono (by omega), hn, h1.cur.set (q := ⟨xb, 0, none⟩) (show p < xb by omega) _, h1.only.setNew (show w0.heap.size ≤ xb by omega) _, l1, l2, by simpa using k3⟩
end
set_option maxRecDepth 100000 in
set_option maxHeartbeats 8000000 in
theorem l17Set_any (p : Nat) (w : World) (h : Cur w p) :
    Calls Try.prog 136 #[.pointer (some ⟨p, 0, none⟩)] w (Draws p w fun v w' => ∃ (s : TCSet) (A : Option Addr) (cp : Nat) (G : List Nat), v = .agg #[.slice A s.caches.length cp] ∧ cCachesO.rep w' [.slice A s.caches.length cp] s.caches G ∧ Fresh w.heap.size G ∧ (∀ b, b ∈ G → b ≠ w.heap.size) ∧ cCSet.sz s ≤ 100000) := by
  have hpl := h.lt
  go_enter Try.func136, Try.ntmps136
  go_upto_region 2 with (fail)
  generalize hW : World.alloc _ _ = W
  have hst : CSt p w (w.heap.size + 1) W ⟨[]⟩ none 0 [] := by
    rw [← hW]
    clear hW
    exact ⟨by go_simp, by go_simp, by go_simp, by go_simp, ⟨_, [], rfl, Own.empty none, by simp [ownL, ownB]⟩, Fresh.nil _, fun b hb => by simp at hb, (by repeat (first | with_reducible assumption | with_reducible refine Cur.alloc ?_ _ | with_reducible refine Cur.drew ?_ | with_reducible refine Cur.drewN ?_ _ | (with_reducible refine Cur.set ?_ ?_ _; rotate_left; ((try simp); (try omega))))), (by repeat (first | with_reducible exact Only.refl _ _ | with_reducible assumption | with_reducible refine Only.alloc ?_ _ | with_reducible refine Only.drew ?_ | with_reducible refine Only.drewN ?_ _ | (with_reducible refine Only.setNew ?_ ?_ _; rotate_left; ((try simp); (try omega))))), hpl, by omega, by simp⟩
  have HS := Lib.hid hst
  clear hW hst
  generalize w.heap.size + 1 = xb at *
  go_wp2_with fail
  refine (l1Below_any p _ _ HS.out.cur (by omega)).mono ?_
  rintro e w1 ⟨v, rfl, ⟨r, rfl, hr0, hr1⟩, ho1, hc1⟩
  have H1 := Lib.hid (HS.out.turn ho1 hc1)
  clear HS ho1 hc1
  go_wp2_with fail
  go_loopw [4] (fun i wr => ∃ k : Int, i = .int .i64 k ∧ 0 ≤ k ∧ k ≤ 2 ∧ ∃ s A cp G, CSt p w xb wr s A cp G ∧ cCSet.sz s + 9000 * k.toNat ≤ 18000) (fun i _ => (intOf i).toNat)
  case atStart => exact ⟨r, rfl, hr0, by omega, _, _, _, _, H1.out, by show 0 + 9000 * r.toNat ≤ 18000; omega⟩
  case round =>
    obtain ⟨k, rfl, hk0, hk2, s, A, cp, G, hst, hsz⟩ := hrel
    have HS := Lib.hid hst
    have hlt := hst.lt
    clear hst
    by_cases hpos : 0 < k
    · obtain ⟨FS, hwk, hwG, -⟩ := HS.out.weakr
      have hpF : p ∉ FS := fun hm => HS.out.np (hwG p hm)
      have HWK := Lib.hid (And.intro hwk hpF)
      clear hwk hwG hpF
      have hcu := HS.out.cur
      have hx0 := HS.out.x
      have hS : ∀ w9, Only [p] wr w9 → w9.cell? ⟨xb, 0, none⟩ = some (.slice A s.caches.length cp) := fun w9 hb => (World.cell?_of_block (a := ⟨xb, 0, none⟩) (hb.block xb (by omega) (by simp; omega))).trans HS.out.x
      go_upto_region 5 with (fail)
      refine wp_regionT (S := (fun w9 => w9.cell? ⟨xb, 0, none⟩ = some (.slice A s.caches.length cp))) [5, 6, 7, 8] (by kernel_rfl) (by (try dsimp only); exact hS _ (by repeat (first | with_reducible exact Only.refl _ _ | with_reducible assumption | with_reducible refine Only.alloc ?_ _ | with_reducible refine Only.drew ?_ | with_reducible refine Only.drewN ?_ _ | (with_reducible refine Only.setNew ?_ ?_ _; rotate_left; ((try simp); (try omega)))))) (fun hHeld => ?_)
      refine takeT_read (i := 0) 9 14 (v := ?v0) rfl rfl (by kernel_rfl) (by kernel_rfl) (by kernel_rfl) (by kernel_rfl) (by kernel_rfl) (by kernel_rfl) (fun _ _ _ h => h) (by rfl) ?hy0 (by assumption) ?rest0
      case hy0 => (intro w hSw; (try dsimp only at hSw); go_simp; (try with_reducible rfl))
      try simp only [Act.put, List.setIfInBounds_toArray, List.set_cons_zero, List.set_cons_succ]
      refine takeT_read (i := 1) 9 15 (v := ?v1) rfl rfl (by kernel_rfl) (by kernel_rfl) (by kernel_rfl) (by kernel_rfl) (by kernel_rfl) (by kernel_rfl) (fun _ _ _ h => h) (by rfl) ?hy1 (by assumption) ?rest1
      case hy1 => (intro w hSw; (try dsimp only at hSw); go_simp; (try with_reducible rfl))
      try simp only [Act.put, List.setIfInBounds_toArray, List.set_cons_zero, List.set_cons_succ]
      refine stepT 2 (by kernel_rfl) rfl (fun K hK => ?_)
      go_simp
      (first | (go_at_call 68; refine (l1Below_any p 4 _ (by repeat (first | with_reducible assumption | with_reducible refine Cur.alloc ?_ _ | with_reducible refine Cur.drew ?_ | with_reducible refine Cur.drewN ?_ _ | (with_reducible refine Cur.set ?_ ?_ _; rotate_left; ((try simp); (try omega))))) (by omega)).mono ?_; rintro e w3 ⟨u, rfl, ⟨q, rfl, hq0, hq1⟩, ho3, hc3⟩; have hoW3 : Only [p] wr w3 := (show Only [p] wr _ from (by repeat (first | with_reducible exact Only.refl _ _ | with_reducible assumption | with_reducible refine Only.alloc ?_ _ | with_reducible refine Only.drew ?_ | with_reducible refine Only.drewN ?_ _ | (with_reducible refine Only.setNew ?_ ?_ _; rotate_left; ((try simp); (try omega)))))).trans ho3; have HS3 := Lib.hid (HS.out.turn hoW3 hc3); have hz3 := hoW3.size; have HWK3 := Lib.hid (Turn.rep (Turn.mk hoW3) HWK.out.2 HWK.out.1); have hv9 : -9223372036854775808 ≤ 1 + q ∧ 1 + q ≤ 9223372036854775807 := (by omega); have hw1 : IntKind.i64.wrap (1 + q) = 1 + q := IntWalk.i64_in _ hv9; clear ho3) | (go_at_call 46; refine (specOpenCacheO_any _ s FS (1 + q) _ (by exact Cod.bel HWK3.out (by repeat (first | with_reducible exact Below.refl _ _ | with_reducible assumption | with_reducible refine bel_alloc ?_ _ | with_reducible refine bel_drew ?_ | with_reducible refine bel_drewN ?_ _ | (with_reducible refine bel_set ?_ ?_ _; rotate_left; ((try simp); (try omega)))))) (by omega) hv9).mono ?_; have hosz := openCache_sz s (1 + q); rintro e w5 ⟨vs5, G5, rfl, hb5, hr5, hf5⟩; obtain ⟨A5, c5, rfl, n5⟩ := TCSet.outO hr5; have hB5 : Below w3.heap.size w3 w5 := bel_then (by repeat (first | with_reducible exact Below.refl _ _ | with_reducible assumption | with_reducible refine bel_alloc ?_ _ | with_reducible refine bel_drew ?_ | with_reducible refine bel_drewN ?_ _ | (with_reducible refine bel_set ?_ ?_ _; rotate_left; ((try simp); (try omega))))) hb5; have hoW5 : Only [p] wr w5 := hoW3.belw hB5; have y0 := hS _ hoW5; have HX5 := Lib.hid (HS3.out.bel hB5); have y1 := HX5.out.xz; have H5 := Lib.hid (And.intro n5 (hf5.mono (show w3.heap.size ≤ _ by (try simp); (try omega)))); clear hb5 hr5 hf5 n5))
      try go_wp2_with fail
      refine hK.out _ _ ?_ (fun hHeld => ?_)
      · (try dsimp only)
        exact hS _ (by repeat (first | with_reducible exact Only.refl _ _ | with_reducible assumption | with_reducible refine Only.alloc ?_ _ | with_reducible refine Only.drew ?_ | with_reducible refine Only.drewN ?_ _ | (with_reducible refine Only.setNew ?_ ?_ _; rotate_left; ((try simp); (try omega)))))
      clear hK K
      refine takeT_read (i := 3) 9 17 (v := ?v3) rfl rfl (by kernel_rfl) (by kernel_rfl) (by kernel_rfl) (by kernel_rfl) (by kernel_rfl) (by kernel_rfl) (fun _ _ _ h => h) (by rfl) ?hy3 (by assumption) ?rest3
      case hy3 => (intro w hSw; (try dsimp only at hSw); go_simp; (try with_reducible rfl))
      refine stepT 4 (by kernel_rfl) rfl (fun K hK => ?_)
      go_simp
      (first | (go_at_call 68; refine (l1Below_any p 4 _ (by repeat (first | with_reducible assumption | with_reducible refine Cur.alloc ?_ _ | with_reducible refine Cur.drew ?_ | with_reducible refine Cur.drewN ?_ _ | (with_reducible refine Cur.set ?_ ?_ _; rotate_left; ((try simp); (try omega))))) (by omega)).mono ?_; rintro e w3 ⟨u, rfl, ⟨q, rfl, hq0, hq1⟩, ho3, hc3⟩; have hoW3 : Only [p] wr w3 := (show Only [p] wr _ from (by repeat (first | with_reducible exact Only.refl _ _ | with_reducible assumption | with_reducible refine Only.alloc ?_ _ | with_reducible refine Only.drew ?_ | with_reducible refine Only.drewN ?_ _ | (with_reducible refine Only.setNew ?_ ?_ _; rotate_left; ((try simp); (try omega)))))).trans ho3; have HS3 := Lib.hid (HS.out.turn hoW3 hc3); have hz3 := hoW3.size; have HWK3 := Lib.hid (Turn.rep (Turn.mk hoW3) HWK.out.2 HWK.out.1); have hv9 : -9223372036854775808 ≤ 1 + q ∧ 1 + q ≤ 9223372036854775807 := (by omega); have hw1 : IntKind.i64.wrap (1 + q) = 1 + q := IntWalk.i64_in _ hv9; clear ho3) | (go_at_call 46; refine (specOpenCacheO_any _ s FS (1 + q) _ (by exact Cod.bel HWK3.out (by repeat (first | with_reducible exact Below.refl _ _ | with_reducible assumption | with_reducible refine bel_alloc ?_ _ | with_reducible refine bel_drew ?_ | with_reducible refine bel_drewN ?_ _ | (with_reducible refine bel_set ?_ ?_ _; rotate_left; ((try simp); (try omega)))))) (by omega) hv9).mono ?_; have hosz := openCache_sz s (1 + q); rintro e w5 ⟨vs5, G5, rfl, hb5, hr5, hf5⟩; obtain ⟨A5, c5, rfl, n5⟩ := TCSet.outO hr5; have hB5 : Below w3.heap.size w3 w5 := bel_then (by repeat (first | with_reducible exact Below.refl _ _ | with_reducible assumption | with_reducible refine bel_alloc ?_ _ | with_reducible refine bel_drew ?_ | with_reducible refine bel_drewN ?_ _ | (with_reducible refine bel_set ?_ ?_ _; rotate_left; ((try simp); (try omega))))) hb5; have hoW5 : Only [p] wr w5 := hoW3.belw hB5; have y0 := hS _ hoW5; have HX5 := Lib.hid (HS3.out.bel hB5); have y1 := HX5.out.xz; have H5 := Lib.hid (And.intro n5 (hf5.mono (show w3.heap.size ≤ _ by (try simp); (try omega)))); clear hb5 hr5 hf5 n5))
      try go_wp2_with fail
      refine hK.out _ _ ?_ (fun hHeld => ?_)
      · (try dsimp only)
        exact hS _ (by repeat (first | with_reducible exact Only.refl _ _ | with_reducible assumption | with_reducible refine Only.alloc ?_ _ | with_reducible refine Only.drew ?_ | with_reducible refine Only.drewN ?_ _ | (with_reducible refine Only.setNew ?_ ?_ _; rotate_left; ((try simp); (try omega)))))
      clear hK K
      refine stepT_end 5 (by kernel_rfl) rfl (by kernel_rfl) (fun K hK => ?_)
      go_simp
      refine hK.out _ _ ?_
      clear hK K
      refine takeT_pure (i := 6) 19 (v := ?v6) rfl rfl (by kernel_rfl) (by kernel_rfl) (by kernel_rfl) (by kernel_rfl) (fun _ _ _ h => h) (by rfl) ?hy6 ?rest6
      case hy6 => (intro w; go_simp; (try with_reducible rfl))
      refine takeT_pure (i := 7) 20 (v := ?v7) rfl rfl (by kernel_rfl) (by kernel_rfl) (by kernel_rfl) (by kernel_rfl) (fun _ _ _ h => h) (by rfl) ?hy7 ?rest7
      case hy7 => (intro w; go_simp; (try with_reducible rfl))
      refine stepT_end 8 (by kernel_rfl) rfl (by kernel_rfl) (fun K hK => ?_)
      go_simp
      refine hK.out _ _ ?_
      clear hK K
      refine doneT (by kernel_rfl) ?_ _
      go_wp2_with fail
      go_roundw
      case rel => exact ⟨k - 1, by go_num, by omega, by omega, _, A5, c5, G5, HS3.out.put hB5 H5.out.1 H5.out.2, by omega⟩
      case measure => simp [intOf]; omega
    · have hsz0 : cCSet.sz s ≤ 18000 := by omega
      clear hsz
      go_wp2_with fail
      refine (l1Below_any p _ _ HS.out.cur (by omega)).mono ?_
      rintro e w2 ⟨v, rfl, ⟨r2, rfl, hr20, hr21⟩, ho2, hc2⟩
      have H2 := Lib.hid (HS.out.turn ho2 hc2)
      clear HS ho2 hc2
      go_wp2_with fail
      go_loopw [5] (fun i wr => ∃ k : Int, i = .int .i64 k ∧ 0 ≤ k ∧ k ≤ 4 ∧ ∃ s A cp G, CSt p w xb wr s A cp G ∧ cCSet.sz s + 9000 * k.toNat ≤ 54000) (fun i _ => (intOf i).toNat)
      case atStart => exact ⟨r2, rfl, hr20, by omega, _, _, _, _, H2.out, by omega⟩
      case round =>
        clear hlt hsz0 H2 hpos hk0 hk2
        obtain ⟨k, rfl, hk0, hk2, s, A, cp, G, hst, hsz⟩ := hrel
        have HS := Lib.hid hst
        have hlt := hst.lt
        clear hst
        by_cases hpos : 0 < k
        · obtain ⟨FS, hwk, hwG, -⟩ := HS.out.weakr
          have hpF : p ∉ FS := fun hm => HS.out.np (hwG p hm)
          have HWK := Lib.hid (And.intro hwk hpF)
          clear hwk hwG hpF
          have hcu := HS.out.cur
          have hx0 := HS.out.x
          have hS : ∀ w9, Only [p] wr w9 → w9.cell? ⟨xb, 0, none⟩ = some (.slice A s.caches.length cp) := fun w9 hb => (World.cell?_of_block (a := ⟨xb, 0, none⟩) (hb.block xb (by omega) (by simp; omega))).trans HS.out.x
          go_upto_region 9 with (fail)
          refine wp_regionT (S := (fun w9 => w9.cell? ⟨xb, 0, none⟩ = some (.slice A s.caches.length cp))) [11, 12, 13, 14] (by kernel_rfl) (by (try dsimp only); exact hS _ (by repeat (first | with_reducible exact Only.refl _ _ | with_reducible assumption | with_reducible refine Only.alloc ?_ _ | with_reducible refine Only.drew ?_ | with_reducible refine Only.drewN ?_ _ | (with_reducible refine Only.setNew ?_ ?_ _; rotate_left; ((try simp); (try omega)))))) (fun hHeld => ?_)
          refine takeT_read (i := 0) 15 28 (v := ?x2_v0) rfl rfl (by kernel_rfl) (by kernel_rfl) (by kernel_rfl) (by kernel_rfl) (by kernel_rfl) (by kernel_rfl) (fun _ _ _ h => h) (by rfl) ?x2_hy0 (by assumption) ?x2_rest0
          case x2_hy0 => (intro w hSw; (try dsimp only at hSw); go_simp; (try with_reducible rfl))
          try simp only [Act.put, List.setIfInBounds_toArray, List.set_cons_zero, List.set_cons_succ]
          refine takeT_read (i := 1) 15 29 (v := ?x2_v1) rfl rfl (by kernel_rfl) (by kernel_rfl) (by kernel_rfl) (by kernel_rfl) (by kernel_rfl) (by kernel_rfl) (fun _ _ _ h => h) (by rfl) ?x2_hy1 (by assumption) ?x2_rest1
          case x2_hy1 => (intro w hSw; (try dsimp only at hSw); go_simp; (try with_reducible rfl))
          try simp only [Act.put, List.setIfInBounds_toArray, List.set_cons_zero, List.set_cons_succ]
          refine takeT_read (i := 4) 15 32 (v := ?x2_v4) rfl rfl (by kernel_rfl) (by kernel_rfl) (by kernel_rfl) (by kernel_rfl) (by kernel_rfl) (by kernel_rfl) (fun _ _ _ h => h) (by rfl) ?x2_hy4 (by assumption) ?x2_rest4
          case x2_hy4 => (intro w hSw; (try dsimp only at hSw); go_simp; (try with_reducible rfl))
          try simp only [Act.put, List.setIfInBounds_toArray, List.set_cons_zero, List.set_cons_succ]
          refine takeT_read (i := 6) 15 34 (v := ?x2_v6) rfl rfl (by kernel_rfl) (by kernel_rfl) (by kernel_rfl) (by kernel_rfl) (by kernel_rfl) (by kernel_rfl) (fun _ _ _ h => h) (by rfl) ?x2_hy6 (by assumption) ?x2_rest6
          case x2_hy6 => (intro w hSw; (try dsimp only at hSw); go_simp; (try with_reducible rfl))
          try simp only [Act.put, List.setIfInBounds_toArray, List.set_cons_zero, List.set_cons_succ]
          refine takeT_read (i := 8) 15 36 (v := ?x2_v8) rfl rfl (by kernel_rfl) (by kernel_rfl) (by kernel_rfl) (by kernel_rfl) (by kernel_rfl) (by kernel_rfl) (fun _ _ _ h => h) (by rfl) ?x2_hy8 (by assumption) ?x2_rest8
          case x2_hy8 => (intro w hSw; (try dsimp only at hSw); go_simp; (try with_reducible rfl))
          try simp only [Act.put, List.setIfInBounds_toArray, List.set_cons_zero, List.set_cons_succ]
          refine stepT 2 (by kernel_rfl) rfl (fun K hK => ?_)
          go_simp
          (first | (go_at_call 68; refine (l1Below_any p 4 _ (by repeat (first | with_reducible assumption | with_reducible refine Cur.alloc ?_ _ | with_reducible refine Cur.drew ?_ | with_reducible refine Cur.drewN ?_ _ | (with_reducible refine Cur.set ?_ ?_ _; rotate_left; ((try simp); (try omega))))) (by omega)).mono ?_; rintro e w3 ⟨u, rfl, ⟨q, rfl, hq0, hq1⟩, ho3, hc3⟩; have hoW3 : Only [p] wr w3 := (show Only [p] wr _ from (by repeat (first | with_reducible exact Only.refl _ _ | with_reducible assumption | with_reducible refine Only.alloc ?_ _ | with_reducible refine Only.drew ?_ | with_reducible refine Only.drewN ?_ _ | (with_reducible refine Only.setNew ?_ ?_ _; rotate_left; ((try simp); (try omega)))))).trans ho3; have hz3 := hoW3.size; have hv9 : -9223372036854775808 ≤ 1 + q ∧ 1 + q ≤ 9223372036854775807 := (by omega); have hw1 : IntKind.i64.wrap (1 + q) = 1 + q := IntWalk.i64_in _ hv9; clear ho3) | (go_at_call 75; refine (l15Site_any p _ (by repeat (first | with_reducible assumption | with_reducible refine Cur.alloc ?_ _ | with_reducible refine Cur.drew ?_ | with_reducible refine Cur.drewN ?_ _ | (with_reducible refine Cur.set ?_ ?_ _; rotate_left; ((try simp); (try omega)))))).mono ?_; rintro e w4 ⟨u, rfl, ⟨st, rfl, hst⟩, ho4, hc4⟩; have hoW4 : Only [p] wr w4 := (show Only [p] wr _ from (by repeat (first | with_reducible exact Only.refl _ _ | with_reducible assumption | with_reducible refine Only.alloc ?_ _ | with_reducible refine Only.drew ?_ | with_reducible refine Only.drewN ?_ _ | (with_reducible refine Only.setNew ?_ ?_ _; rotate_left; ((try simp); (try omega)))))).trans ho4; have hz4 := hoW4.size; clear ho4) | (go_at_call 131; refine (l15Path_any p _ (by repeat (first | with_reducible assumption | with_reducible refine Cur.alloc ?_ _ | with_reducible refine Cur.drew ?_ | with_reducible refine Cur.drewN ?_ _ | (with_reducible refine Cur.set ?_ ?_ _; rotate_left; ((try simp); (try omega)))))).mono ?_; rintro e w6 ⟨u, rfl, ⟨pa, rfl, hpa⟩, ho6, hc6⟩; have hoW6 : Only [p] wr w6 := (show Only [p] wr _ from (by repeat (first | with_reducible exact Only.refl _ _ | with_reducible assumption | with_reducible refine Only.alloc ?_ _ | with_reducible refine Only.drew ?_ | with_reducible refine Only.drewN ?_ _ | (with_reducible refine Only.setNew ?_ ?_ _; rotate_left; ((try simp); (try omega)))))).trans ho6; have hz6 := hoW6.size; clear ho6) | (go_at_call 91; refine (l15Response_any p _ (by repeat (first | with_reducible assumption | with_reducible refine Cur.alloc ?_ _ | with_reducible refine Cur.drew ?_ | with_reducible refine Cur.drewN ?_ _ | (with_reducible refine Cur.set ?_ ?_ _; rotate_left; ((try simp); (try omega)))))).mono ?_; rintro e w7 ⟨u, rfl, ⟨vs7, y, F7, rfl, hr7, hsm7, -⟩, ho7, hc7⟩; have hoW7 : Only [p] wr w7 := (show Only [p] wr _ from (by repeat (first | with_reducible exact Only.refl _ _ | with_reducible assumption | with_reducible refine Only.alloc ?_ _ | with_reducible refine Only.drew ?_ | with_reducible refine Only.drewN ?_ _ | (with_reducible refine Only.setNew ?_ ?_ _; rotate_left; ((try simp); (try omega)))))).trans ho7; have HS3 := Lib.hid (HS.out.turn hoW7 hc7); have hz7 := hoW7.size; have hysz := smallResp_sz hsm7; have HWK3 := Lib.hid (Turn.rep (Turn.mk hoW7) HWK.out.2 HWK.out.1); obtain ⟨u7, _, rfl, rfl, -, n7⟩ := TResp.outA hr7; obtain ⟨Y7, d7, hy7⟩ := cL_form n7; subst hy7; clear ho7 n7) | (go_at_call 38; refine (specStoreResponseO_any _ s FS (1 + q) st pa _ y _ _ (by exact Cod.bel HWK3.out (by repeat (first | with_reducible exact Below.refl _ _ | with_reducible assumption | with_reducible refine bel_alloc ?_ _ | with_reducible refine bel_drew ?_ | with_reducible refine bel_drewN ?_ _ | (with_reducible refine bel_set ?_ ?_ _; rotate_left; ((try simp); (try omega)))))) (by omega) hv9 (by unfold maxLen; omega) (by unfold maxLen; omega) (by exact Cod.bel hr7 (by repeat (first | with_reducible exact Below.refl _ _ | with_reducible assumption | with_reducible refine bel_alloc ?_ _ | with_reducible refine bel_drew ?_ | with_reducible refine bel_drewN ?_ _ | (with_reducible refine bel_set ?_ ?_ _; rotate_left; ((try simp); (try omega)))))) (by omega)).mono ?_; have hosz := storeResponse_sz s (1 + q) st pa y; rintro e w5 ⟨vs5, G5, rfl, hb5, hr5, hf5⟩; obtain ⟨A5, c5, rfl, n5⟩ := TCSet.outO hr5; have hB5 : Below w7.heap.size w7 w5 := bel_then (by repeat (first | with_reducible exact Below.refl _ _ | with_reducible assumption | with_reducible refine bel_alloc ?_ _ | with_reducible refine bel_drew ?_ | with_reducible refine bel_drewN ?_ _ | (with_reducible refine bel_set ?_ ?_ _; rotate_left; ((try simp); (try omega))))) hb5; have hoW5 : Only [p] wr w5 := hoW7.belw hB5; have y0 := hS _ hoW5; have HX5 := Lib.hid (HS3.out.bel hB5); have y1 := HX5.out.xz; have H5 := Lib.hid (And.intro n5 (hf5.mono (show w7.heap.size ≤ _ by (try simp); (try omega)))); clear hb5 hr5 hf5 n5))
          try go_wp2_with fail
          refine hK.out _ _ ?_ (fun hHeld => ?_)
          · (try dsimp only)
            exact hS _ (by repeat (first | with_reducible exact Only.refl _ _ | with_reducible assumption | with_reducible refine Only.alloc ?_ _ | with_reducible refine Only.drew ?_ | with_reducible refine Only.drewN ?_ _ | (with_reducible refine Only.setNew ?_ ?_ _; rotate_left; ((try simp); (try omega)))))
          clear hK K
          refine takeT_read (i := 3) 15 31 (v := ?x2_v3) rfl rfl (by kernel_rfl) (by kernel_rfl) (by kernel_rfl) (by kernel_rfl) (by kernel_rfl) (by kernel_rfl) (fun _ _ _ h => h) (by rfl) ?x2_hy3 (by assumption) ?x2_rest3
          case x2_hy3 => (intro w hSw; (try dsimp only at hSw); go_simp; (try with_reducible rfl))
          refine stepT 5 (by kernel_rfl) rfl (fun K hK => ?_)
          go_simp
          (first | (go_at_call 68; refine (l1Below_any p 4 _ (by repeat (first | with_reducible assumption | with_reducible refine Cur.alloc ?_ _ | with_reducible refine Cur.drew ?_ | with_reducible refine Cur.drewN ?_ _ | (with_reducible refine Cur.set ?_ ?_ _; rotate_left; ((try simp); (try omega))))) (by omega)).mono ?_; rintro e w3 ⟨u, rfl, ⟨q, rfl, hq0, hq1⟩, ho3, hc3⟩; have hoW3 : Only [p] wr w3 := (show Only [p] wr _ from (by repeat (first | with_reducible exact Only.refl _ _ | with_reducible assumption | with_reducible refine Only.alloc ?_ _ | with_reducible refine Only.drew ?_ | with_reducible refine Only.drewN ?_ _ | (with_reducible refine Only.setNew ?_ ?_ _; rotate_left; ((try simp); (try omega)))))).trans ho3; have hz3 := hoW3.size; have hv9 : -9223372036854775808 ≤ 1 + q ∧ 1 + q ≤ 9223372036854775807 := (by omega); have hw1 : IntKind.i64.wrap (1 + q) = 1 + q := IntWalk.i64_in _ hv9; clear ho3) | (go_at_call 75; refine (l15Site_any p _ (by repeat (first | with_reducible assumption | with_reducible refine Cur.alloc ?_ _ | with_reducible refine Cur.drew ?_ | with_reducible refine Cur.drewN ?_ _ | (with_reducible refine Cur.set ?_ ?_ _; rotate_left; ((try simp); (try omega)))))).mono ?_; rintro e w4 ⟨u, rfl, ⟨st, rfl, hst⟩, ho4, hc4⟩; have hoW4 : Only [p] wr w4 := (show Only [p] wr _ from (by repeat (first | with_reducible exact Only.refl _ _ | with_reducible assumption | with_reducible refine Only.alloc ?_ _ | with_reducible refine Only.drew ?_ | with_reducible refine Only.drewN ?_ _ | (with_reducible refine Only.setNew ?_ ?_ _; rotate_left; ((try simp); (try omega)))))).trans ho4; have hz4 := hoW4.size; clear ho4) | (go_at_call 131; refine (l15Path_any p _ (by repeat (first | with_reducible assumption | with_reducible refine Cur.alloc ?_ _ | with_reducible refine Cur.drew ?_ | with_reducible refine Cur.drewN ?_ _ | (with_reducible refine Cur.set ?_ ?_ _; rotate_left; ((try simp); (try omega)))))).mono ?_; rintro e w6 ⟨u, rfl, ⟨pa, rfl, hpa⟩, ho6, hc6⟩; have hoW6 : Only [p] wr w6 := (show Only [p] wr _ from (by repeat (first | with_reducible exact Only.refl _ _ | with_reducible assumption | with_reducible refine Only.alloc ?_ _ | with_reducible refine Only.drew ?_ | with_reducible refine Only.drewN ?_ _ | (with_reducible refine Only.setNew ?_ ?_ _; rotate_left; ((try simp); (try omega)))))).trans ho6; have hz6 := hoW6.size; clear ho6) | (go_at_call 91; refine (l15Response_any p _ (by repeat (first | with_reducible assumption | with_reducible refine Cur.alloc ?_ _ | with_reducible refine Cur.drew ?_ | with_reducible refine Cur.drewN ?_ _ | (with_reducible refine Cur.set ?_ ?_ _; rotate_left; ((try simp); (try omega)))))).mono ?_; rintro e w7 ⟨u, rfl, ⟨vs7, y, F7, rfl, hr7, hsm7, -⟩, ho7, hc7⟩; have hoW7 : Only [p] wr w7 := (show Only [p] wr _ from (by repeat (first | with_reducible exact Only.refl _ _ | with_reducible assumption | with_reducible refine Only.alloc ?_ _ | with_reducible refine Only.drew ?_ | with_reducible refine Only.drewN ?_ _ | (with_reducible refine Only.setNew ?_ ?_ _; rotate_left; ((try simp); (try omega)))))).trans ho7; have HS3 := Lib.hid (HS.out.turn hoW7 hc7); have hz7 := hoW7.size; have hysz := smallResp_sz hsm7; have HWK3 := Lib.hid (Turn.rep (Turn.mk hoW7) HWK.out.2 HWK.out.1); obtain ⟨u7, _, rfl, rfl, -, n7⟩ := TResp.outA hr7; obtain ⟨Y7, d7, hy7⟩ := cL_form n7; subst hy7; clear ho7 n7) | (go_at_call 38; refine (specStoreResponseO_any _ s FS (1 + q) st pa _ y _ _ (by exact Cod.bel HWK3.out (by repeat (first | with_reducible exact Below.refl _ _ | with_reducible assumption | with_reducible refine bel_alloc ?_ _ | with_reducible refine bel_drew ?_ | with_reducible refine bel_drewN ?_ _ | (with_reducible refine bel_set ?_ ?_ _; rotate_left; ((try simp); (try omega)))))) (by omega) hv9 (by unfold maxLen; omega) (by unfold maxLen; omega) (by exact Cod.bel hr7 (by repeat (first | with_reducible exact Below.refl _ _ | with_reducible assumption | with_reducible refine bel_alloc ?_ _ | with_reducible refine bel_drew ?_ | with_reducible refine bel_drewN ?_ _ | (with_reducible refine bel_set ?_ ?_ _; rotate_left; ((try simp); (try omega)))))) (by omega)).mono ?_; have hosz := storeResponse_sz s (1 + q) st pa y; rintro e w5 ⟨vs5, G5, rfl, hb5, hr5, hf5⟩; obtain ⟨A5, c5, rfl, n5⟩ := TCSet.outO hr5; have hB5 : Below w7.heap.size w7 w5 := bel_then (by repeat (first | with_reducible exact Below.refl _ _ | with_reducible assumption | with_reducible refine bel_alloc ?_ _ | with_reducible refine bel_drew ?_ | with_reducible refine bel_drewN ?_ _ | (with_reducible refine bel_set ?_ ?_ _; rotate_left; ((try simp); (try omega))))) hb5; have hoW5 : Only [p] wr w5 := hoW7.belw hB5; have y0 := hS _ hoW5; have HX5 := Lib.hid (HS3.out.bel hB5); have y1 := HX5.out.xz; have H5 := Lib.hid (And.intro n5 (hf5.mono (show w7.heap.size ≤ _ by (try simp); (try omega)))); clear hb5 hr5 hf5 n5))
          try go_wp2_with fail
          refine hK.out _ _ ?_ (fun hHeld => ?_)
          · (try dsimp only)
            exact hS _ (by repeat (first | with_reducible exact Only.refl _ _ | with_reducible assumption | with_reducible refine Only.alloc ?_ _ | with_reducible refine Only.drew ?_ | with_reducible refine Only.drewN ?_ _ | (with_reducible refine Only.setNew ?_ ?_ _; rotate_left; ((try simp); (try omega)))))
          clear hK K
          refine stepT 7 (by kernel_rfl) rfl (fun K hK => ?_)
          go_simp
          (first | (go_at_call 68; refine (l1Below_any p 4 _ (by repeat (first | with_reducible assumption | with_reducible refine Cur.alloc ?_ _ | with_reducible refine Cur.drew ?_ | with_reducible refine Cur.drewN ?_ _ | (with_reducible refine Cur.set ?_ ?_ _; rotate_left; ((try simp); (try omega))))) (by omega)).mono ?_; rintro e w3 ⟨u, rfl, ⟨q, rfl, hq0, hq1⟩, ho3, hc3⟩; have hoW3 : Only [p] wr w3 := (show Only [p] wr _ from (by repeat (first | with_reducible exact Only.refl _ _ | with_reducible assumption | with_reducible refine Only.alloc ?_ _ | with_reducible refine Only.drew ?_ | with_reducible refine Only.drewN ?_ _ | (with_reducible refine Only.setNew ?_ ?_ _; rotate_left; ((try simp); (try omega)))))).trans ho3; have hz3 := hoW3.size; have hv9 : -9223372036854775808 ≤ 1 + q ∧ 1 + q ≤ 9223372036854775807 := (by omega); have hw1 : IntKind.i64.wrap (1 + q) = 1 + q := IntWalk.i64_in _ hv9; clear ho3) | (go_at_call 75; refine (l15Site_any p _ (by repeat (first | with_reducible assumption | with_reducible refine Cur.alloc ?_ _ | with_reducible refine Cur.drew ?_ | with_reducible refine Cur.drewN ?_ _ | (with_reducible refine Cur.set ?_ ?_ _; rotate_left; ((try simp); (try omega)))))).mono ?_; rintro e w4 ⟨u, rfl, ⟨st, rfl, hst⟩, ho4, hc4⟩; have hoW4 : Only [p] wr w4 := (show Only [p] wr _ from (by repeat (first | with_reducible exact Only.refl _ _ | with_reducible assumption | with_reducible refine Only.alloc ?_ _ | with_reducible refine Only.drew ?_ | with_reducible refine Only.drewN ?_ _ | (with_reducible refine Only.setNew ?_ ?_ _; rotate_left; ((try simp); (try omega)))))).trans ho4; have hz4 := hoW4.size; clear ho4) | (go_at_call 131; refine (l15Path_any p _ (by repeat (first | with_reducible assumption | with_reducible refine Cur.alloc ?_ _ | with_reducible refine Cur.drew ?_ | with_reducible refine Cur.drewN ?_ _ | (with_reducible refine Cur.set ?_ ?_ _; rotate_left; ((try simp); (try omega)))))).mono ?_; rintro e w6 ⟨u, rfl, ⟨pa, rfl, hpa⟩, ho6, hc6⟩; have hoW6 : Only [p] wr w6 := (show Only [p] wr _ from (by repeat (first | with_reducible exact Only.refl _ _ | with_reducible assumption | with_reducible refine Only.alloc ?_ _ | with_reducible refine Only.drew ?_ | with_reducible refine Only.drewN ?_ _ | (with_reducible refine Only.setNew ?_ ?_ _; rotate_left; ((try simp); (try omega)))))).trans ho6; have hz6 := hoW6.size; clear ho6) | (go_at_call 91; refine (l15Response_any p _ (by repeat (first | with_reducible assumption | with_reducible refine Cur.alloc ?_ _ | with_reducible refine Cur.drew ?_ | with_reducible refine Cur.drewN ?_ _ | (with_reducible refine Cur.set ?_ ?_ _; rotate_left; ((try simp); (try omega)))))).mono ?_; rintro e w7 ⟨u, rfl, ⟨vs7, y, F7, rfl, hr7, hsm7, -⟩, ho7, hc7⟩; have hoW7 : Only [p] wr w7 := (show Only [p] wr _ from (by repeat (first | with_reducible exact Only.refl _ _ | with_reducible assumption | with_reducible refine Only.alloc ?_ _ | with_reducible refine Only.drew ?_ | with_reducible refine Only.drewN ?_ _ | (with_reducible refine Only.setNew ?_ ?_ _; rotate_left; ((try simp); (try omega)))))).trans ho7; have HS3 := Lib.hid (HS.out.turn hoW7 hc7); have hz7 := hoW7.size; have hysz := smallResp_sz hsm7; have HWK3 := Lib.hid (Turn.rep (Turn.mk hoW7) HWK.out.2 HWK.out.1); obtain ⟨u7, _, rfl, rfl, -, n7⟩ := TResp.outA hr7; obtain ⟨Y7, d7, hy7⟩ := cL_form n7; subst hy7; clear ho7 n7) | (go_at_call 38; refine (specStoreResponseO_any _ s FS (1 + q) st pa _ y _ _ (by exact Cod.bel HWK3.out (by repeat (first | with_reducible exact Below.refl _ _ | with_reducible assumption | with_reducible refine bel_alloc ?_ _ | with_reducible refine bel_drew ?_ | with_reducible refine bel_drewN ?_ _ | (with_reducible refine bel_set ?_ ?_ _; rotate_left; ((try simp); (try omega)))))) (by omega) hv9 (by unfold maxLen; omega) (by unfold maxLen; omega) (by exact Cod.bel hr7 (by repeat (first | with_reducible exact Below.refl _ _ | with_reducible assumption | with_reducible refine bel_alloc ?_ _ | with_reducible refine bel_drew ?_ | with_reducible refine bel_drewN ?_ _ | (with_reducible refine bel_set ?_ ?_ _; rotate_left; ((try simp); (try omega)))))) (by omega)).mono ?_; have hosz := storeResponse_sz s (1 + q) st pa y; rintro e w5 ⟨vs5, G5, rfl, hb5, hr5, hf5⟩; obtain ⟨A5, c5, rfl, n5⟩ := TCSet.outO hr5; have hB5 : Below w7.heap.size w7 w5 := bel_then (by repeat (first | with_reducible exact Below.refl _ _ | with_reducible assumption | with_reducible refine bel_alloc ?_ _ | with_reducible refine bel_drew ?_ | with_reducible refine bel_drewN ?_ _ | (with_reducible refine bel_set ?_ ?_ _; rotate_left; ((try simp); (try omega))))) hb5; have hoW5 : Only [p] wr w5 := hoW7.belw hB5; have y0 := hS _ hoW5; have HX5 := Lib.hid (HS3.out.bel hB5); have y1 := HX5.out.xz; have H5 := Lib.hid (And.intro n5 (hf5.mono (show w7.heap.size ≤ _ by (try simp); (try omega)))); clear hb5 hr5 hf5 n5))
          try go_wp2_with fail
          refine hK.out _ _ ?_ (fun hHeld => ?_)
          · (try dsimp only)
            exact hS _ (by repeat (first | with_reducible exact Only.refl _ _ | with_reducible assumption | with_reducible refine Only.alloc ?_ _ | with_reducible refine Only.drew ?_ | with_reducible refine Only.drewN ?_ _ | (with_reducible refine Only.setNew ?_ ?_ _; rotate_left; ((try simp); (try omega)))))
          clear hK K
          refine stepT 9 (by kernel_rfl) rfl (fun K hK => ?_)
          go_simp
          (first | (go_at_call 68; refine (l1Below_any p 4 _ (by repeat (first | with_reducible assumption | with_reducible refine Cur.alloc ?_ _ | with_reducible refine Cur.drew ?_ | with_reducible refine Cur.drewN ?_ _ | (with_reducible refine Cur.set ?_ ?_ _; rotate_left; ((try simp); (try omega))))) (by omega)).mono ?_; rintro e w3 ⟨u, rfl, ⟨q, rfl, hq0, hq1⟩, ho3, hc3⟩; have hoW3 : Only [p] wr w3 := (show Only [p] wr _ from (by repeat (first | with_reducible exact Only.refl _ _ | with_reducible assumption | with_reducible refine Only.alloc ?_ _ | with_reducible refine Only.drew ?_ | with_reducible refine Only.drewN ?_ _ | (with_reducible refine Only.setNew ?_ ?_ _; rotate_left; ((try simp); (try omega)))))).trans ho3; have hz3 := hoW3.size; have hv9 : -9223372036854775808 ≤ 1 + q ∧ 1 + q ≤ 9223372036854775807 := (by omega); have hw1 : IntKind.i64.wrap (1 + q) = 1 + q := IntWalk.i64_in _ hv9; clear ho3) | (go_at_call 75; refine (l15Site_any p _ (by repeat (first | with_reducible assumption | with_reducible refine Cur.alloc ?_ _ | with_reducible refine Cur.drew ?_ | with_reducible refine Cur.drewN ?_ _ | (with_reducible refine Cur.set ?_ ?_ _; rotate_left; ((try simp); (try omega)))))).mono ?_; rintro e w4 ⟨u, rfl, ⟨st, rfl, hst⟩, ho4, hc4⟩; have hoW4 : Only [p] wr w4 := (show Only [p] wr _ from (by repeat (first | with_reducible exact Only.refl _ _ | with_reducible assumption | with_reducible refine Only.alloc ?_ _ | with_reducible refine Only.drew ?_ | with_reducible refine Only.drewN ?_ _ | (with_reducible refine Only.setNew ?_ ?_ _; rotate_left; ((try simp); (try omega)))))).trans ho4; have hz4 := hoW4.size; clear ho4) | (go_at_call 131; refine (l15Path_any p _ (by repeat (first | with_reducible assumption | with_reducible refine Cur.alloc ?_ _ | with_reducible refine Cur.drew ?_ | with_reducible refine Cur.drewN ?_ _ | (with_reducible refine Cur.set ?_ ?_ _; rotate_left; ((try simp); (try omega)))))).mono ?_; rintro e w6 ⟨u, rfl, ⟨pa, rfl, hpa⟩, ho6, hc6⟩; have hoW6 : Only [p] wr w6 := (show Only [p] wr _ from (by repeat (first | with_reducible exact Only.refl _ _ | with_reducible assumption | with_reducible refine Only.alloc ?_ _ | with_reducible refine Only.drew ?_ | with_reducible refine Only.drewN ?_ _ | (with_reducible refine Only.setNew ?_ ?_ _; rotate_left; ((try simp); (try omega)))))).trans ho6; have hz6 := hoW6.size; clear ho6) | (go_at_call 91; refine (l15Response_any p _ (by repeat (first | with_reducible assumption | with_reducible refine Cur.alloc ?_ _ | with_reducible refine Cur.drew ?_ | with_reducible refine Cur.drewN ?_ _ | (with_reducible refine Cur.set ?_ ?_ _; rotate_left; ((try simp); (try omega)))))).mono ?_; rintro e w7 ⟨u, rfl, ⟨vs7, y, F7, rfl, hr7, hsm7, -⟩, ho7, hc7⟩; have hoW7 : Only [p] wr w7 := (show Only [p] wr _ from (by repeat (first | with_reducible exact Only.refl _ _ | with_reducible assumption | with_reducible refine Only.alloc ?_ _ | with_reducible refine Only.drew ?_ | with_reducible refine Only.drewN ?_ _ | (with_reducible refine Only.setNew ?_ ?_ _; rotate_left; ((try simp); (try omega)))))).trans ho7; have HS3 := Lib.hid (HS.out.turn hoW7 hc7); have hz7 := hoW7.size; have hysz := smallResp_sz hsm7; have HWK3 := Lib.hid (Turn.rep (Turn.mk hoW7) HWK.out.2 HWK.out.1); obtain ⟨u7, _, rfl, rfl, -, n7⟩ := TResp.outA hr7; obtain ⟨Y7, d7, hy7⟩ := cL_form n7; subst hy7; clear ho7 n7) | (go_at_call 38; refine (specStoreResponseO_any _ s FS (1 + q) st pa _ y _ _ (by exact Cod.bel HWK3.out (by repeat (first | with_reducible exact Below.refl _ _ | with_reducible assumption | with_reducible refine bel_alloc ?_ _ | with_reducible refine bel_drew ?_ | with_reducible refine bel_drewN ?_ _ | (with_reducible refine bel_set ?_ ?_ _; rotate_left; ((try simp); (try omega)))))) (by omega) hv9 (by unfold maxLen; omega) (by unfold maxLen; omega) (by exact Cod.bel hr7 (by repeat (first | with_reducible exact Below.refl _ _ | with_reducible assumption | with_reducible refine bel_alloc ?_ _ | with_reducible refine bel_drew ?_ | with_reducible refine bel_drewN ?_ _ | (with_reducible refine bel_set ?_ ?_ _; rotate_left; ((try simp); (try omega)))))) (by omega)).mono ?_; have hosz := storeResponse_sz s (1 + q) st pa y; rintro e w5 ⟨vs5, G5, rfl, hb5, hr5, hf5⟩; obtain ⟨A5, c5, rfl, n5⟩ := TCSet.outO hr5; have hB5 : Below w7.heap.size w7 w5 := bel_then (by repeat (first | with_reducible exact Below.refl _ _ | with_reducible assumption | with_reducible refine bel_alloc ?_ _ | with_reducible refine bel_drew ?_ | with_reducible refine bel_drewN ?_ _ | (with_reducible refine bel_set ?_ ?_ _; rotate_left; ((try simp); (try omega))))) hb5; have hoW5 : Only [p] wr w5 := hoW7.belw hB5; have y0 := hS _ hoW5; have HX5 := Lib.hid (HS3.out.bel hB5); have y1 := HX5.out.xz; have H5 := Lib.hid (And.intro n5 (hf5.mono (show w7.heap.size ≤ _ by (try simp); (try omega)))); clear hb5 hr5 hf5 n5))
          try go_wp2_with fail
          refine hK.out _ _ ?_ (fun hHeld => ?_)
          · (try dsimp only)
            exact hS _ (by repeat (first | with_reducible exact Only.refl _ _ | with_reducible assumption | with_reducible refine Only.alloc ?_ _ | with_reducible refine Only.drew ?_ | with_reducible refine Only.drewN ?_ _ | (with_reducible refine Only.setNew ?_ ?_ _; rotate_left; ((try simp); (try omega)))))
          clear hK K
          refine stepT 10 (by kernel_rfl) rfl (fun K hK => ?_)
          go_simp
          (first | (go_at_call 68; refine (l1Below_any p 4 _ (by repeat (first | with_reducible assumption | with_reducible refine Cur.alloc ?_ _ | with_reducible refine Cur.drew ?_ | with_reducible refine Cur.drewN ?_ _ | (with_reducible refine Cur.set ?_ ?_ _; rotate_left; ((try simp); (try omega))))) (by omega)).mono ?_; rintro e w3 ⟨u, rfl, ⟨q, rfl, hq0, hq1⟩, ho3, hc3⟩; have hoW3 : Only [p] wr w3 := (show Only [p] wr _ from (by repeat (first | with_reducible exact Only.refl _ _ | with_reducible assumption | with_reducible refine Only.alloc ?_ _ | with_reducible refine Only.drew ?_ | with_reducible refine Only.drewN ?_ _ | (with_reducible refine Only.setNew ?_ ?_ _; rotate_left; ((try simp); (try omega)))))).trans ho3; have hz3 := hoW3.size; have hv9 : -9223372036854775808 ≤ 1 + q ∧ 1 + q ≤ 9223372036854775807 := (by omega); have hw1 : IntKind.i64.wrap (1 + q) = 1 + q := IntWalk.i64_in _ hv9; clear ho3) | (go_at_call 75; refine (l15Site_any p _ (by repeat (first | with_reducible assumption | with_reducible refine Cur.alloc ?_ _ | with_reducible refine Cur.drew ?_ | with_reducible refine Cur.drewN ?_ _ | (with_reducible refine Cur.set ?_ ?_ _; rotate_left; ((try simp); (try omega)))))).mono ?_; rintro e w4 ⟨u, rfl, ⟨st, rfl, hst⟩, ho4, hc4⟩; have hoW4 : Only [p] wr w4 := (show Only [p] wr _ from (by repeat (first | with_reducible exact Only.refl _ _ | with_reducible assumption | with_reducible refine Only.alloc ?_ _ | with_reducible refine Only.drew ?_ | with_reducible refine Only.drewN ?_ _ | (with_reducible refine Only.setNew ?_ ?_ _; rotate_left; ((try simp); (try omega)))))).trans ho4; have hz4 := hoW4.size; clear ho4) | (go_at_call 131; refine (l15Path_any p _ (by repeat (first | with_reducible assumption | with_reducible refine Cur.alloc ?_ _ | with_reducible refine Cur.drew ?_ | with_reducible refine Cur.drewN ?_ _ | (with_reducible refine Cur.set ?_ ?_ _; rotate_left; ((try simp); (try omega)))))).mono ?_; rintro e w6 ⟨u, rfl, ⟨pa, rfl, hpa⟩, ho6, hc6⟩; have hoW6 : Only [p] wr w6 := (show Only [p] wr _ from (by repeat (first | with_reducible exact Only.refl _ _ | with_reducible assumption | with_reducible refine Only.alloc ?_ _ | with_reducible refine Only.drew ?_ | with_reducible refine Only.drewN ?_ _ | (with_reducible refine Only.setNew ?_ ?_ _; rotate_left; ((try simp); (try omega)))))).trans ho6; have hz6 := hoW6.size; clear ho6) | (go_at_call 91; refine (l15Response_any p _ (by repeat (first | with_reducible assumption | with_reducible refine Cur.alloc ?_ _ | with_reducible refine Cur.drew ?_ | with_reducible refine Cur.drewN ?_ _ | (with_reducible refine Cur.set ?_ ?_ _; rotate_left; ((try simp); (try omega)))))).mono ?_; rintro e w7 ⟨u, rfl, ⟨vs7, y, F7, rfl, hr7, hsm7, -⟩, ho7, hc7⟩; have hoW7 : Only [p] wr w7 := (show Only [p] wr _ from (by repeat (first | with_reducible exact Only.refl _ _ | with_reducible assumption | with_reducible refine Only.alloc ?_ _ | with_reducible refine Only.drew ?_ | with_reducible refine Only.drewN ?_ _ | (with_reducible refine Only.setNew ?_ ?_ _; rotate_left; ((try simp); (try omega)))))).trans ho7; have HS3 := Lib.hid (HS.out.turn hoW7 hc7); have hz7 := hoW7.size; have hysz := smallResp_sz hsm7; have HWK3 := Lib.hid (Turn.rep (Turn.mk hoW7) HWK.out.2 HWK.out.1); obtain ⟨u7, _, rfl, rfl, -, n7⟩ := TResp.outA hr7; obtain ⟨Y7, d7, hy7⟩ := cL_form n7; subst hy7; clear ho7 n7) | (go_at_call 38; refine (specStoreResponseO_any _ s FS (1 + q) st pa _ y _ _ (by exact Cod.bel HWK3.out (by repeat (first | with_reducible exact Below.refl _ _ | with_reducible assumption | with_reducible refine bel_alloc ?_ _ | with_reducible refine bel_drew ?_ | with_reducible refine bel_drewN ?_ _ | (with_reducible refine bel_set ?_ ?_ _; rotate_left; ((try simp); (try omega)))))) (by omega) hv9 (by unfold maxLen; omega) (by unfold maxLen; omega) (by exact Cod.bel hr7 (by repeat (first | with_reducible exact Below.refl _ _ | with_reducible assumption | with_reducible refine bel_alloc ?_ _ | with_reducible refine bel_drew ?_ | with_reducible refine bel_drewN ?_ _ | (with_reducible refine bel_set ?_ ?_ _; rotate_left; ((try simp); (try omega)))))) (by omega)).mono ?_; have hosz := storeResponse_sz s (1 + q) st pa y; rintro e w5 ⟨vs5, G5, rfl, hb5, hr5, hf5⟩; obtain ⟨A5, c5, rfl, n5⟩ := TCSet.outO hr5; have hB5 : Below w7.heap.size w7 w5 := bel_then (by repeat (first | with_reducible exact Below.refl _ _ | with_reducible assumption | with_reducible refine bel_alloc ?_ _ | with_reducible refine bel_drew ?_ | with_reducible refine bel_drewN ?_ _ | (with_reducible refine bel_set ?_ ?_ _; rotate_left; ((try simp); (try omega))))) hb5; have hoW5 : Only [p] wr w5 := hoW7.belw hB5; have y0 := hS _ hoW5; have HX5 := Lib.hid (HS3.out.bel hB5); have y1 := HX5.out.xz; have H5 := Lib.hid (And.intro n5 (hf5.mono (show w7.heap.size ≤ _ by (try simp); (try omega)))); clear hb5 hr5 hf5 n5))
          try go_wp2_with fail
          refine hK.out _ _ ?_ (fun hHeld => ?_)
          · (try dsimp only)
            exact hS _ (by repeat (first | with_reducible exact Only.refl _ _ | with_reducible assumption | with_reducible refine Only.alloc ?_ _ | with_reducible refine Only.drew ?_ | with_reducible refine Only.drewN ?_ _ | (with_reducible refine Only.setNew ?_ ?_ _; rotate_left; ((try simp); (try omega)))))
          clear hK K
          refine stepT_end 11 (by kernel_rfl) rfl (by kernel_rfl) (fun K hK => ?_)
          go_simp
          refine hK.out _ _ ?_
          clear hK K
          refine takeT_pure (i := 12) 39 (v := ?x2_v12) rfl rfl (by kernel_rfl) (by kernel_rfl) (by kernel_rfl) (by kernel_rfl) (fun _ _ _ h => h) (by rfl) ?x2_hy12 ?x2_rest12
          case x2_hy12 => (intro w; go_simp; (try with_reducible rfl))
          refine takeT_pure (i := 13) 40 (v := ?x2_v13) rfl rfl (by kernel_rfl) (by kernel_rfl) (by kernel_rfl) (by kernel_rfl) (fun _ _ _ h => h) (by rfl) ?x2_hy13 ?x2_rest13
          case x2_hy13 => (intro w; go_simp; (try with_reducible rfl))
          refine stepT_end 14 (by kernel_rfl) rfl (by kernel_rfl) (fun K hK => ?_)
          go_simp
          refine hK.out _ _ ?_
          clear hK K
          refine doneT (by kernel_rfl) ?_ _
          go_wp2_with fail
          go_roundw
          case rel => exact ⟨k - 1, by go_num, by omega, by omega, _, A5, c5, G5, HS3.out.put hB5 H5.out.1 H5.out.2, by omega⟩
          case measure => simp [intOf]; omega
        · have hx0 := HS.out.x
          have hxz := HS.out.xz
          have hq0 := HS.out.q
          have hqz := HS.out.qz
          go_wp2_with fail
          refine bodyPost_ret (v := .agg #[.slice A s.caches.length cp]) (by simp [results, Try.results136, go_sem, *]) rfl ?_
          have hon := HS.out.only
          have hcu := HS.out.cur
          exact ⟨_, rfl, ⟨s, A, cp, rfl, G, Cod.keep _ HS.out.rep (fun b hb => Below.heap_setCell _ _ _ _ (HS.out.ne b hb).2), HS.out.fr, fun b hb => (HS.out.ne b hb).2, by omega⟩, hon.setNew (Nat.le_refl _) _, hcu.set (show p < w.heap.size from hpl) _⟩
end Go.Proofs.Ytlicnppfgfjkgaa
