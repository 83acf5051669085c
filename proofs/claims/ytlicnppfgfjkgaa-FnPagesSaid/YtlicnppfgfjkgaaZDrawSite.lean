/-
  The draw of a site. No conditions.
-/
import Derived.Test.YtlicnppfgfjkgaaZDrawW
import Derived.Test.YtlicnppfgfjkgaaZA
import Derived.Test.YtlicnppfgfjkgaaZSetRet
import Derived.Test.YtlicnppfgfjkgaaZRegT
import Derived.Test.YtlicnppfgfjkgaaZRelease
namespace Go.Proofs.Ytlicnppfgfjkgaa
open Go.ChangeShapes Go.WideShapes Go.RowKit
set_option linter.unusedVariables false

def SmallFiles (xs : List ByteArray) : Prop := xs.length ≤ 6 ∧ ∀ x, x ∈ xs → x.size ≤ 100
def files4 : List ByteArray := [⟨#[99, 111, 100, 101]⟩, ⟨#[100, 97, 116, 97]⟩, ⟨#[105, 110, 100, 101, 120]⟩, ⟨#[115, 116, 121, 108, 101]⟩]
theorem files4_small : ∀ x, x ∈ files4 → x.size ≤ 100 := by decide
theorem Own.turn {α : Type} {c : Cod α} {e : TypeId} {B p : Nat} {w w' : World} {v : Value} {xs : List α} (h : Own c e B w v xs []) (ht : Turn p w w') (hp : p < B) : Own c e B w' v xs [] :=
  h.keep (fun g hg => ht.block g (h.lt g hg).2 (by have := (h.lt g hg).1; simp; omega)) (fun b hb => by simp at hb)
/-- a site drawn: its row of files is the call's own -/
def SiteDrawn (p B : Nat) (nm : ByteArray) (v : Value) (w' : World) : Prop := ∃ (ver : Int) (v2 : Value) (xs : List ByteArray) (sh : Bool), v = .agg #[.string nm, .int .i64 ver, v2, .bool sh] ∧ 1 ≤ ver ∧ ver ≤ 5 ∧ Own cS 9 B w' v2 xs [] ∧ SmallFiles xs
theorem Flat.reps_own {α : Type} {c : Cod α} (hf : Flat c) {e : TypeId} {B : Nat} {w : World} {v : Value} {xs : List α} {F : List Nat} (h : Own c e B w v xs F) : F = [] := by
  rcases h with ⟨-, h, -⟩ | ⟨us, -, hr⟩
  · exact h
  · exact hf.reps hr
/-- the front of a row of the call's own -/
theorem Own.front {α : Type} {c : Cod α} {e : TypeId} {B : Nat} {w : World} {A : Option Addr} {n cp : Nat} {xs : List α} (hf : Flat c) (h : Own c e B w (.slice A n cp) xs []) {k : Nat} (hk : k ≤ xs.length) (hn : 0 < xs.length) : Own c e B w (.slice A k cp) (xs.take k) [] := by
  rcases h.form with ⟨rfl, -⟩ | ⟨g, cap, cur, us, hv, hB, hh, hnc, hcm, hsz, ht, ho, hr⟩
  · simp at hn
  · simp only [Value.slice.injEq] at hv
    obtain ⟨rfl, rfl, rfl⟩ := hv
    rw [← List.take_append_drop k xs] at hr
    obtain ⟨u1, u2, G1, G2, hus, hG, r1, r2⟩ := Cod.reps_cut hr
    obtain rfl := hf.reps r1
    have hl1 := Cod.reps_len r1
    rw [List.length_take, Nat.min_eq_left hk] at hl1
    have hkl : k * c.wd ≤ xs.length * c.wd := Nat.mul_le_mul_right _ hk
    have htk : cur.toList.take (k * c.wd) = u1 := by
      have : (cur.toList.take (xs.length * c.wd)).take (k * c.wd) = u1 := by rw [ht, hus, ← hl1]; simp
      rwa [List.take_take, Nat.min_eq_left hkl] at this
    exact .inr ⟨u1, ⟨by rw [hl1, List.length_take, Nat.min_eq_left hk], .inr ⟨g, cap + 1, cur, by rw [List.length_take, Nat.min_eq_left hk], hB, hh, by rw [List.length_take]; omega, hcm, hsz, by rw [List.length_take, Nat.min_eq_left hk]; exact htk⟩⟩, r1⟩
theorem setNe4 {W : World} {b c i j : Nat} {v u : Value} (h : b ≠ c) (k : W.cell? ⟨c, j, none⟩ = some u) : (W.setCell ⟨b, i, none⟩ v).cell? ⟨c, j, none⟩ = some u :=
  (World.cell?_setCell_other W ⟨b, i, none⟩ ⟨c, j, none⟩ v (fun e => h (by injection e))).trans k
set_option maxRecDepth 100000 in
set_option maxHeartbeats 8000000 in
theorem l16Site_any (p : Nat) (nm : ByteArray) (w : World) (h : Cur w p) :
    Calls Try.prog 152 #[.pointer (some ⟨p, 0, none⟩), .string nm] w (Draws p w (SiteDrawn p w.heap.size nm)) := by
  have hpl := h.lt
  go_enter Try.func152, Try.ntmps152
  go_wp2_with fail
  refine (l1Below_any p _ _ (h.alloc _) (by omega)).mono ?_
  rintro e w1 ⟨v, rfl, ⟨r, rfl, hr0, hr1⟩, ho1, hc1⟩
  obtain ⟨hcc1, hff1, hzz1⟩ := ocell ho1
  (try simp at hzz1)
  have hT1 := Turn.mk ho1
  have hs1 : w.heap.size < w1.heap.size := by omega
  have hn0 : ¬ w.heap.size = p := by omega
  have hn4 : ¬ w1.heap.size = p := by omega
  have hown : Own cS 9 w.heap.size (w1.alloc (.cells (files4.map Value.string).toArray 9)) (.slice (some ⟨w1.heap.size, 0, none⟩) 4 4) files4 [] :=
    (Own.of_new (c := cS) 9 4 rfl (by decide) (by decide) rfl (repsStr _ files4 (fun x hx => by have := files4_small x hx; unfold maxLen; omega))).mono (by omega)
  have HO1 := Lib.hid hown
  clear ho1 hown
  go_wp2_with fail
  refine (l1Once_any p _ _ (hc1.alloc _) (by omega)).mono ?_
  rintro e w2 ⟨v, rfl, ⟨sh, rfl⟩, ho2, hc2⟩
  obtain ⟨hcc2, hff2, hzz2⟩ := ocellA ho2
  have hT2 := Turn.mk ho2
  have HO2 := Lib.hid (HO1.out.turn ho2 (by omega))
  have hs2 : w.heap.size < w2.heap.size ∧ w1.heap.size < w2.heap.size := by omega
  have hn1 : ¬ w2.heap.size = p := by omega
  have hn2 : ¬ w2.heap.size = w.heap.size := by omega
  have hn3 : ¬ w.heap.size = w2.heap.size := by omega
  clear ho2
  go_wp2_with fail
  refine (l1Once_any p _ _ (by repeat (first | with_reducible assumption | with_reducible refine Cur.alloc ?_ _ | with_reducible refine Cur.drew ?_ | with_reducible refine Cur.drewN ?_ _ | (with_reducible refine Cur.set ?_ ?_ _; rotate_left; ((try simp); (try omega))))) (by omega)).mono ?_
  rintro e w3 ⟨v, rfl, ⟨cut, rfl⟩, ho3, hc3⟩
  obtain ⟨hcc3, hff3, hzz3⟩ := ocell ho3
  (try simp at hzz3)
  have hT3 := Turn.mk ho3
  have HO3 := Lib.hid ((HO2.out.bel (bel_alloc (Below.refl _ _) _)).turn ho3 (by omega))
  have hs3 : w.heap.size < w3.heap.size ∧ w1.heap.size < w3.heap.size ∧ w2.heap.size < w3.heap.size := by omega
  clear ho3
  cases cut
  · go_wp2_with fail
    refine sets_ret4 (a' := .string ⟨#[]⟩) (b' := .int .i64 0) (c' := .slice none 0 0) (d' := .bool false) w.heap.size (by go_simp) (by go_simp) (by go_simp) (by go_simp) (fun W9 e9 c0 c1 c2 c3 => ?_)
    refine bodyPost_ret (v := .agg #[.string nm, .int .i64 (1 + r), .slice (some ⟨w1.heap.size, 0, none⟩) 4 4, .bool sh]) (by simp [results, Try.results152, go_sem, c0, c1, c2, c3]) rfl ?_
    clear c0 c1 c2 c3
    subst e9
    have hne : ∀ i : Nat, ownB (.slice (some ⟨w1.heap.size, 0, none⟩) 4 4) ≠ some (⟨w.heap.size, i, none⟩ : Addr).block := fun i e => by simp [ownB] at e; omega
    exact ⟨_, rfl, ⟨1 + r, _, files4, sh, rfl, by omega, by omega, (((HO3.out.set_ (hne 0) _).set_ (hne 1) _).set_ (hne 2) _).set_ (hne 3) _, by decide, files4_small⟩, (by repeat (first | with_reducible exact Only.refl _ _ | with_reducible refine Only.alloc ?_ _ | with_reducible refine Only.drew ?_ | with_reducible refine Only.drewN ?_ _ | (with_reducible refine Only.setNew ?_ ?_ _; rotate_left; ((try simp); (try omega))) | (with_reducible refine Turn.only (by with_reducible assumption) ?_))), (by repeat (first | with_reducible assumption | with_reducible refine Cur.alloc ?_ _ | with_reducible refine Cur.drew ?_ | with_reducible refine Cur.drewN ?_ _ | (with_reducible refine Cur.set ?_ ?_ _; rotate_left; ((try simp); (try omega)))))⟩
  · have y0 : w3.cell? ⟨w2.heap.size, 0, none⟩ = some (.string nm) := by go_simp
    have y1 : w3.cell? ⟨w2.heap.size, 1, none⟩ = some (.int .i64 (1 + r)) := by go_simp
    have y2 : w3.cell? ⟨w2.heap.size, 2, none⟩ = some (.slice (some ⟨w1.heap.size, 0, none⟩) 4 4) := by go_simp
    have y3 : w3.cell? ⟨w2.heap.size, 3, none⟩ = some (.bool sh) := by go_simp
    have z2 : w3.frozen? ⟨w2.heap.size, 2, none⟩ = false := by go_simp
    have x0 : w3.cell? ⟨w.heap.size, 0, none⟩ = some (.string ⟨#[]⟩) := by go_simp
    have x1 : w3.cell? ⟨w.heap.size, 1, none⟩ = some (.int .i64 0) := by go_simp
    have x2 : w3.cell? ⟨w.heap.size, 2, none⟩ = some (.slice none 0 0) := by go_simp
    have x3 : w3.cell? ⟨w.heap.size, 3, none⟩ = some (.bool false) := by go_simp
    have u0 : w3.frozen? ⟨w.heap.size, 0, none⟩ = false := by go_simp
    have u1 : w3.frozen? ⟨w.heap.size, 1, none⟩ = false := by go_simp
    have u2 : w3.frozen? ⟨w.heap.size, 2, none⟩ = false := by go_simp
    have u3 : w3.frozen? ⟨w.heap.size, 3, none⟩ = false := by go_simp
    clear hcc1 hff1 hcc2 hff2 hcc3 hff3
    have hS : ∀ w9, Only [p] w3 w9 → w9.cell? ⟨w2.heap.size, 2, none⟩ = some (.slice (some ⟨w1.heap.size, 0, none⟩) 4 4) := fun w9 hb => (World.cell?_of_block (a := ⟨w2.heap.size, 2, none⟩) (hb.block w2.heap.size (by omega) (by simp; omega))).trans y2
    go_wp2_with fail
    refine wp_regionT (S := (fun w9 => w9.cell? ⟨w2.heap.size, 2, none⟩ = some (.slice (some ⟨w1.heap.size, 0, none⟩) 4 4))) [7] (by kernel_rfl) (by (try dsimp only); exact hS _ (by repeat (first | with_reducible exact Only.refl _ _ | with_reducible assumption | with_reducible refine Only.alloc ?_ _ | with_reducible refine Only.drew ?_ | with_reducible refine Only.drewN ?_ _ | (with_reducible refine Only.setNew ?_ ?_ _; rotate_left; ((try simp); (try omega)))))) (fun hHeld => ?_)
    refine takeT_read (i := 0) 8 16 (v := ?v0) rfl rfl (by kernel_rfl) (by kernel_rfl) (by kernel_rfl) (by kernel_rfl) (by kernel_rfl) (by kernel_rfl) (fun _ _ _ h => h) (by rfl) ?hy0 (by assumption) ?rest0
    case hy0 => (intro w hSw; (try dsimp only at hSw); go_simp; (try with_reducible rfl))
    try simp only [Act.put, List.setIfInBounds_toArray, List.set_cons_zero, List.set_cons_succ]
    refine takeT_read (i := 1) 8 17 (v := ?v1) rfl rfl (by kernel_rfl) (by kernel_rfl) (by kernel_rfl) (by kernel_rfl) (by kernel_rfl) (by kernel_rfl) (fun _ _ _ h => h) (by rfl) ?hy1 (by assumption) ?rest1
    case hy1 => (intro w hSw; (try dsimp only at hSw); go_simp; (try with_reducible rfl))
    try simp only [Act.put, List.setIfInBounds_toArray, List.set_cons_zero, List.set_cons_succ]
    refine takeT_read (i := 2) 8 18 (v := ?v2) rfl rfl (by kernel_rfl) (by kernel_rfl) (by kernel_rfl) (by kernel_rfl) (by kernel_rfl) (by kernel_rfl) (fun _ _ _ h => h) (by rfl) ?hy2 (by assumption) ?rest2
    case hy2 => (intro w hSw; (try dsimp only at hSw); go_simp; (try with_reducible rfl))
    try simp only [Act.put, List.setIfInBounds_toArray, List.set_cons_zero, List.set_cons_succ]
    refine stepT 3 (by kernel_rfl) rfl (fun K hK => ?_)
    go_simp
    (go_at_call 68; refine (l1Below_any p _ _ (by repeat (first | with_reducible assumption | with_reducible refine Cur.alloc ?_ _ | with_reducible refine Cur.drew ?_ | with_reducible refine Cur.drewN ?_ _ | (with_reducible refine Cur.set ?_ ?_ _; rotate_left; ((try simp); (try omega))))) (by omega)).mono ?_; rintro e w4 ⟨v, rfl, ⟨q, rfl, hq0, hq1⟩, ho4, hc4⟩; obtain ⟨k, rfl⟩ : ∃ k : Nat, q = k := ⟨q.toNat, by omega⟩; have hoW4 : Only [p] w3 w4 := (show Only [p] w3 _ from (by repeat (first | with_reducible exact Only.refl _ _ | with_reducible assumption | with_reducible refine Only.alloc ?_ _ | with_reducible refine Only.drew ?_ | with_reducible refine Only.drewN ?_ _ | (with_reducible refine Only.setNew ?_ ?_ _; rotate_left; ((try simp); (try omega)))))).trans ho4; have hb4 := hoW4.block w2.heap.size (by omega) (by simp; omega); have hb5 := hoW4.block w.heap.size (by omega) (by simp; omega); have Y0 : w4.cell? ⟨w2.heap.size, 0, none⟩ = _ := (World.cell?_of_block hb4).trans y0; have Y1 : w4.cell? ⟨w2.heap.size, 1, none⟩ = _ := (World.cell?_of_block hb4).trans y1; have Y2 : w4.cell? ⟨w2.heap.size, 2, none⟩ = _ := (World.cell?_of_block hb4).trans y2; have Y3 : w4.cell? ⟨w2.heap.size, 3, none⟩ = _ := (World.cell?_of_block hb4).trans y3; have Z2 : w4.frozen? ⟨w2.heap.size, 2, none⟩ = false := (World.frozen?_of_block hb4).trans z2; have X0 : w4.cell? ⟨w.heap.size, 0, none⟩ = _ := (World.cell?_of_block hb5).trans x0; have X1 : w4.cell? ⟨w.heap.size, 1, none⟩ = _ := (World.cell?_of_block hb5).trans x1; have X2 : w4.cell? ⟨w.heap.size, 2, none⟩ = _ := (World.cell?_of_block hb5).trans x2; have X3 : w4.cell? ⟨w.heap.size, 3, none⟩ = _ := (World.cell?_of_block hb5).trans x3; have U0 : w4.frozen? ⟨w.heap.size, 0, none⟩ = false := (World.frozen?_of_block hb5).trans u0; have U1 : w4.frozen? ⟨w.heap.size, 1, none⟩ = false := (World.frozen?_of_block hb5).trans u1; have U2 : w4.frozen? ⟨w.heap.size, 2, none⟩ = false := (World.frozen?_of_block hb5).trans u2; have U3 : w4.frozen? ⟨w.heap.size, 3, none⟩ = false := (World.frozen?_of_block hb5).trans u3; have HO4 := Lib.hid (HO3.out.turn hoW4 (by omega)); have hT4 := Turn.mk hoW4; have hwk : IntKind.i64.wrap (1 + (k : Int)) = 1 + k := IntWalk.i64_in _ (by omega); have hwn : (1 + (k : Int)).toNat = 1 + k := (by omega); have hk4 : k < 4 := (by omega); have hk5 : 0 ≤ 1 + (k : Int) := (by omega); have hk6 : 1 + (k : Int) ≤ 4 := (by omega); clear hb4 hb5)
    try go_wp2_with fail
    refine hK.out _ _ ?_ (fun hHeld => ?_)
    · (try dsimp only)
      exact hS _ (by repeat (first | with_reducible exact Only.refl _ _ | with_reducible assumption | with_reducible refine Only.alloc ?_ _ | with_reducible refine Only.drew ?_ | with_reducible refine Only.drewN ?_ _ | (with_reducible refine Only.setNew ?_ ?_ _; rotate_left; ((try simp); (try omega)))))
    clear hK K
    refine takeT_read (i := 4) 8 20 (v := ?v4) rfl rfl (by kernel_rfl) (by kernel_rfl) (by kernel_rfl) (by kernel_rfl) (by kernel_rfl) (by kernel_rfl) (fun _ _ _ h => h) (by rfl) ?hy4 (by assumption) ?rest4
    case hy4 => (intro w hSw; (try dsimp only at hSw); go_simp; (try with_reducible rfl))
    refine takeT_read (i := 5) 8 21 (v := ?v5) rfl rfl (by kernel_rfl) (by kernel_rfl) (by kernel_rfl) (by kernel_rfl) (by kernel_rfl) (by kernel_rfl) (fun _ _ _ h => h) (by rfl) ?hy5 (by assumption) ?rest5
    case hy5 => (intro w hSw; (try dsimp only at hSw); go_simp; (try with_reducible rfl))
    refine takeT_read (i := 6) 8 22 (v := ?v6) rfl rfl (by kernel_rfl) (by kernel_rfl) (by kernel_rfl) (by kernel_rfl) (by kernel_rfl) (by kernel_rfl) (fun _ _ _ h => h) (by rfl) ?hy6 (by assumption) ?rest6
    case hy6 => (intro w hSw; (try dsimp only at hSw); go_simp; (try with_reducible rfl))
    refine stepT_end 7 (by kernel_rfl) rfl (by kernel_rfl) (fun K hK => ?_)
    go_simp
    refine hK.out _ _ ?_
    clear hK K
    refine doneT (by kernel_rfl) ?_ _
    have HOC := Lib.hid (HO4.out.front flat_S (k := 1 + k) (by show 1 + k ≤ 4; omega) (by decide))
    clear hwk hwn
    go_wp2_with fail
    refine sets_ret4 (a' := .string ⟨#[]⟩) (b' := .int .i64 0) (c' := .slice none 0 0) (d' := .bool false) w.heap.size (setNe4 (by omega) X0) (setNe4 (by omega) X1) (setNe4 (by omega) X2) (setNe4 (by omega) X3) (fun W9 e9 c0 c1 c2 c3 => ?_)
    refine bodyPost_ret (v := .agg #[.string nm, .int .i64 (1 + r), .slice (some ⟨w1.heap.size, 0, none⟩) (1 + k) 4, .bool sh]) (by simp [results, Try.results152, go_sem, c0, c1, c2, c3]) rfl ?_
    clear c0 c1 c2 c3
    subst e9
    have hne : ∀ b i : Nat, b ≠ w1.heap.size → ownB (.slice (some ⟨w1.heap.size, 0, none⟩) (1 + k) 4) ≠ some (⟨b, i, none⟩ : Addr).block := fun b i hb e => by simp [ownB] at e; omega
    exact ⟨_, rfl, ⟨1 + r, _, files4.take (1 + k), sh, rfl, by omega, by omega, ((((HOC.out.set_ (hne _ 2 (by omega)) _).set_ (hne _ 0 (by omega)) _).set_ (hne _ 1 (by omega)) _).set_ (hne _ 2 (by omega)) _).set_ (hne _ 3 (by omega)) _, ⟨by have := List.length_take_le (1 + k) files4; omega, fun x hx => files4_small x (List.mem_of_mem_take hx)⟩⟩, (by repeat (first | with_reducible exact Only.refl _ _ | with_reducible refine Only.alloc ?_ _ | with_reducible refine Only.drew ?_ | with_reducible refine Only.drewN ?_ _ | (with_reducible refine Only.setNew ?_ ?_ _; rotate_left; ((try simp); (try omega))) | (with_reducible refine Turn.only (by with_reducible assumption) ?_))), (by repeat (first | with_reducible assumption | with_reducible refine Cur.alloc ?_ _ | with_reducible refine Cur.drew ?_ | with_reducible refine Cur.drewN ?_ _ | (with_reducible refine Cur.set ?_ ?_ _; rotate_left; ((try simp); (try omega)))))⟩
end Go.Proofs.Ytlicnppfgfjkgaa
