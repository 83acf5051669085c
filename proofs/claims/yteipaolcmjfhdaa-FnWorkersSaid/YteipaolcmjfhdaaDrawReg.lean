/-
  The draws of a registration and of the versions used. No conditions.
-/
import Derived.Test.YteipaolcmjfhdaaDraw
import Derived.Test.YteipaolcmjfhdaaTReg
import Derived.Test.YteipaolcmjfhdaaUpd
namespace Go.Proofs.Yteipaolcmjfhdaa
open Go.ChangeShapes Go.WideShapes Go.RowKit
set_option linter.unusedVariables false

theorem set4 {W : World} {q : Nat} {a b c d a' b' c' d' : Value} (k0 : W.cell? ⟨q, 0, none⟩ = some a') (k1 : W.cell? ⟨q, 1, none⟩ = some b') (k2 : W.cell? ⟨q, 2, none⟩ = some c') (k3 : W.cell? ⟨q, 3, none⟩ = some d') :
    ∃ W4, ((((W.setCell ⟨q, 0, none⟩ a).setCell ⟨q, 1, none⟩ b).setCell ⟨q, 2, none⟩ c).setCell ⟨q, 3, none⟩ d) = W4 ∧ W4.cell? ⟨q, 0, none⟩ = some a ∧ W4.cell? ⟨q, 1, none⟩ = some b ∧ W4.cell? ⟨q, 2, none⟩ = some c ∧ W4.cell? ⟨q, 3, none⟩ = some d := by
  have ne : ∀ (w : World) (i j : Nat) (v : Value), i ≠ j → (w.setCell ⟨q, i, none⟩ v).cell? ⟨q, j, none⟩ = w.cell? ⟨q, j, none⟩ := fun w i j v h => World.cell?_setCell_other w ⟨q, i, none⟩ ⟨q, j, none⟩ v (fun e => h (by injection e))
  refine ⟨_, rfl, ?_, ?_, ?_, ?_⟩
  · rw [ne _ 3 0 _ (by decide), ne _ 2 0 _ (by decide), ne _ 1 0 _ (by decide)]; exact cell?_set_same k0
  · rw [ne _ 3 1 _ (by decide), ne _ 2 1 _ (by decide)]; exact cell?_set_same ((ne _ 0 1 _ (by decide)).trans k1)
  · rw [ne _ 3 2 _ (by decide)]; exact cell?_set_same ((ne _ 1 2 _ (by decide)).trans ((ne _ 0 2 _ (by decide)).trans k2))
  · exact cell?_set_same ((ne _ 2 3 _ (by decide)).trans ((ne _ 1 3 _ (by decide)).trans ((ne _ 0 3 _ (by decide)).trans k3)))
theorem alloc_old {W W' : World} {o : Obj} {b k : Nat} (h : W'.cell? ⟨b, k, none⟩ = (W.alloc o).cell? ⟨b, k, none⟩) (hb : b < W.heap.size) : W'.cell? ⟨b, k, none⟩ = W.cell? ⟨b, k, none⟩ := h.trans ((bel_alloc (Below.refl W.heap.size W) o).cell (p := ⟨b, k, none⟩) hb)
theorem alloc_oldF {W W' : World} {o : Obj} {b k : Nat} (h : W'.frozen? ⟨b, k, none⟩ = (W.alloc o).frozen? ⟨b, k, none⟩) (hb : b < W.heap.size) : W'.frozen? ⟨b, k, none⟩ = W.frozen? ⟨b, k, none⟩ := h.trans ((bel_alloc (Below.refl W.heap.size W) o).frozen (p := ⟨b, k, none⟩) hb)
theorem reg_ok {s : ByteArray} {i1 i2 i3 : Int} (hs : s.size ≤ maxLen) (h1 : -9223372036854775808 ≤ i1 ∧ i1 ≤ 9223372036854775807) (h2 : -9223372036854775808 ≤ i2 ∧ i2 ≤ 9223372036854775807) (h3 : -9223372036854775808 ≤ i3 ∧ i3 ≤ 9223372036854775807) : TReg.Ok ⟨s, i1, i2, i3⟩ := ⟨hs, h1, h2, h3⟩
theorem reg_ret {Q : Ending → World → Prop} {a : Act} {W : World} (q : Nat) {s : ByteArray} {i1 i2 i3 : Int} {a' b' c' d' : Value} (h2 : a.tmps[2]?.getD undef = .pointer (some ⟨q, 0, none⟩)) (hd : a.defers = [])
    (k0 : W.cell? ⟨q, 0, none⟩ = some a') (k1 : W.cell? ⟨q, 1, none⟩ = some b') (k2 : W.cell? ⟨q, 2, none⟩ = some c') (k3 : W.cell? ⟨q, 3, none⟩ = some d')
    (h : Q (.returned (TReg.val ⟨s, i1, i2, i3⟩)) ((((W.setCell ⟨q, 0, none⟩ (.string s)).setCell ⟨q, 1, none⟩ (.int .i64 i1)).setCell ⟨q, 2, none⟩ (.int .i64 i2)).setCell ⟨q, 3, none⟩ (.int .i64 i3))) :
    bodyPost Try.prog Try.f90 Q Exit.ret a ((((W.setCell ⟨q, 0, none⟩ (.string s)).setCell ⟨q, 1, none⟩ (.int .i64 i1)).setCell ⟨q, 2, none⟩ (.int .i64 i2)).setCell ⟨q, 3, none⟩ (.int .i64 i3)) := by
  obtain ⟨W4, e, c0, c1, c2, c3⟩ := set4 (a := .string s) (b := .int .i64 i1) (c := .int .i64 i2) (d := .int .i64 i3) k0 k1 k2 k3
  rw [e] at h ⊢
  exact bodyPost_ret (v := TReg.val ⟨s, i1, i2, i3⟩) (by simp [results, Try.results90, go_sem, *, TReg.val]) hd h
set_option maxRecDepth 100000 in
set_option maxHeartbeats 8000000 in
theorem l18Reg_any (p : Nat) (w : World) (h : Cur w p) :
    Calls Try.prog 90 #[.pointer (some ⟨p, 0, none⟩)] w (Draws p w fun v _ => ∃ x : TReg, v = x.val ∧ x.Ok ∧ x.site.size ≤ 100) := by
  have hpl := h.lt
  go_enter Try.func90, Try.ntmps90
  go_wp2_with fail
  refine (l15Site_any p _ (h.alloc _)).mono ?_
  rintro e w1 ⟨v, rfl, ⟨st, rfl, hst⟩, ho1, hc1⟩
  obtain ⟨hcc1, hff1, hzz1⟩ := ocell ho1
  (try simp at hzz1)
  have hO1 : Only [p] w w1 := (Only.alloc (Only.refl _ _) _).trans ho1
  have hs0 : w.heap.size < w1.heap.size := by omega
  have hn0 : ¬ w.heap.size = p := by omega
  have hn1 : ¬ w1.heap.size = p := by omega
  have hn2 : ¬ w1.heap.size = w.heap.size := by omega
  have hn3 : ¬ w.heap.size = w1.heap.size := by omega
  have hpw : p < w.heap.size := hpl
  have hstm : st.size ≤ maxLen := by unfold maxLen; omega
  have hpw1 : p < w1.heap.size := by omega
  clear ho1
  go_wp2_with (first
    | (go_at_call 126; refine (l1Once_any p _ _ (by repeat (first | with_reducible assumption | with_reducible refine Cur.alloc ?_ _ | with_reducible refine Cur.drew ?_ | with_reducible refine Cur.drewN ?_ _ | (with_reducible refine Cur.set ?_ ?_ _; rotate_left; ((try simp); (try omega))))) (by omega)).mono ?_; rintro e wk ⟨v, rfl, ⟨b, rfl⟩, ho, hc⟩; obtain ⟨hcc, hff, hzz⟩ := ocell ho; (try simp at hzz); have hsz0 : w.heap.size < wk.heap.size := (by omega); have hsz1 : w1.heap.size < wk.heap.size := (by omega); have hO : Only [p] w wk := (Only.then_ (by repeat (first | with_reducible exact Only.refl _ _ | with_reducible assumption | with_reducible refine Only.alloc ?_ _ | with_reducible refine Only.drew ?_ | with_reducible refine Only.drewN ?_ _ | (with_reducible refine Only.setNew ?_ ?_ _; rotate_left; ((try simp); (try omega))))) ho); clear ho)
    | (go_at_call 124; refine (l1Below_any p _ _ (by repeat (first | with_reducible assumption | with_reducible refine Cur.alloc ?_ _ | with_reducible refine Cur.drew ?_ | with_reducible refine Cur.drewN ?_ _ | (with_reducible refine Cur.set ?_ ?_ _; rotate_left; ((try simp); (try omega))))) (by omega)).mono ?_; rintro e wk ⟨v, rfl, ⟨r, rfl, hr0, hr1⟩, ho, hc⟩; obtain ⟨hcc, hff, hzz⟩ := ocell ho; (try simp at hzz); have hsz0 : w.heap.size < wk.heap.size := (by omega); have hsz1 : w1.heap.size < wk.heap.size := (by omega); have hO : Only [p] w wk := (Only.then_ (by repeat (first | with_reducible exact Only.refl _ _ | with_reducible assumption | with_reducible refine Only.alloc ?_ _ | with_reducible refine Only.drew ?_ | with_reducible refine Only.drewN ?_ _ | (with_reducible refine Only.setNew ?_ ?_ _; rotate_left; ((try simp); (try omega))))) ho); clear ho)
    | (go_at_call 91; refine (l1Int_any p _ [-1, 1, 9, 1000000000001] _ _ (by repeat (first | with_reducible assumption | with_reducible refine Cur.alloc ?_ _ | with_reducible refine Cur.drew ?_ | with_reducible refine Cur.drewN ?_ _ | (with_reducible refine Cur.set ?_ ?_ _; rotate_left; ((try simp); (try omega))))) (by exact rowInt _ _ [-1, 1, 9, 1000000000001] 4 rfl (by simp) (by decide) (by decide)) (by simp) (by simp; omega)).mono ?_; rintro e wk ⟨v, rfl, ⟨r, rfl, hr⟩, ho, hc⟩; have hr0 : -1 ≤ r ∧ r ≤ 1000000000001 := (by simp at hr; omega); obtain ⟨hcc, hff, hzz⟩ := ocell ho; (try simp at hzz); have ky0 := alloc_old (b := w1.heap.size) (k := 0) (hcc _ _ (by simp; omega) hn1) (by omega); have ky1 := alloc_old (b := w1.heap.size) (k := 1) (hcc _ _ (by simp; omega) hn1) (by omega); have ky2 := alloc_old (b := w1.heap.size) (k := 2) (hcc _ _ (by simp; omega) hn1) (by omega); have ky3 := alloc_old (b := w1.heap.size) (k := 3) (hcc _ _ (by simp; omega) hn1) (by omega); have fy0 := alloc_oldF (b := w1.heap.size) (k := 0) (hff _ _ (by simp; omega) hn1) (by omega); have fy1 := alloc_oldF (b := w1.heap.size) (k := 1) (hff _ _ (by simp; omega) hn1) (by omega); have fy2 := alloc_oldF (b := w1.heap.size) (k := 2) (hff _ _ (by simp; omega) hn1) (by omega); have fy3 := alloc_oldF (b := w1.heap.size) (k := 3) (hff _ _ (by simp; omega) hn1) (by omega); have kx0 := alloc_old (b := w.heap.size) (k := 0) (hcc _ _ (by simp; omega) hn0) (by omega); have kx1 := alloc_old (b := w.heap.size) (k := 1) (hcc _ _ (by simp; omega) hn0) (by omega); have kx2 := alloc_old (b := w.heap.size) (k := 2) (hcc _ _ (by simp; omega) hn0) (by omega); have kx3 := alloc_old (b := w.heap.size) (k := 3) (hcc _ _ (by simp; omega) hn0) (by omega); have fx0 := alloc_oldF (b := w.heap.size) (k := 0) (hff _ _ (by simp; omega) hn0) (by omega); have fx1 := alloc_oldF (b := w.heap.size) (k := 1) (hff _ _ (by simp; omega) hn0) (by omega); have fx2 := alloc_oldF (b := w.heap.size) (k := 2) (hff _ _ (by simp; omega) hn0) (by omega); have fx3 := alloc_oldF (b := w.heap.size) (k := 3) (hff _ _ (by simp; omega) hn0) (by omega); clear hcc hff; simp [go_sem, *] at ky0 ky1 ky2 ky3 kx0 kx1 kx2 kx3 fy0 fy1 fy2 fy3 fx0 fx1 fx2 fx3; have hsz0 : w.heap.size < wk.heap.size := (by omega); have hsz1 : w1.heap.size < wk.heap.size := (by omega); have hO : Only [p] w wk := (Only.then_ (by repeat (first | with_reducible exact Only.refl _ _ | with_reducible assumption | with_reducible refine Only.alloc ?_ _ | with_reducible refine Only.drew ?_ | with_reducible refine Only.drewN ?_ _ | (with_reducible refine Only.setNew ?_ ?_ _; rotate_left; ((try simp); (try omega))))) ho); clear ho hr))
  all_goals
    refine reg_ret w.heap.size (a' := .string ⟨#[]⟩) (b' := .int .i64 0) (c' := .int .i64 0) (d' := .int .i64 0) ?_ ?_ ?_ ?_ ?_ ?_ ?_
    · rfl
    · rfl
    · go_simp
    · go_simp
    · go_simp
    · go_simp
    exact ⟨_, rfl, ⟨_, rfl, reg_ok (by first | exact hstm | decide) (by omega) (by omega) (by omega), by first | exact hst | exact (by decide : (⟨#[]⟩ : ByteArray).size ≤ 100)⟩, (by repeat (first | with_reducible exact Only.refl _ _ | with_reducible assumption | with_reducible refine Only.alloc ?_ _ | with_reducible refine Only.drew ?_ | with_reducible refine Only.drewN ?_ _ | (with_reducible refine Only.setNew ?_ ?_ _; rotate_left; ((try simp); (try omega))))), (by repeat (first | with_reducible assumption | with_reducible refine Cur.alloc ?_ _ | with_reducible refine Cur.drew ?_ | with_reducible refine Cur.drewN ?_ _ | (with_reducible refine Cur.set ?_ ?_ _; rotate_left; ((try simp); (try omega)))))⟩
end Go.Proofs.Yteipaolcmjfhdaa
