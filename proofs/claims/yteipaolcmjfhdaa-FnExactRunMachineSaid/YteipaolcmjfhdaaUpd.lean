/-
  A row of a slice written in place, and lists marked from the front. No conditions.
-/
import Derived.Test.YteipaolcmjfhdaaMem
namespace Go.Proofs.Yteipaolcmjfhdaa
open Go.RowKit

theorem cell?_set_same {w : World} {a : Addr} {u v : Value} (h : w.cell? a = some u) : (w.setCell a v).cell? a = some v := by
  obtain ⟨b, o, sp⟩ := a
  have hs : sp = none := by simpa using World.cell?_spot h
  subst hs
  unfold World.cell? at h ⊢
  cases hh : w.heap[b]? with
  | none => simp [hh] at h
  | some x =>
    cases x with
    | cells c e fz =>
      simp only [hh] at h
      have ho : o < c.size := (Array.getElem?_eq_some_iff.1 (by simpa using h)).1
      simp [World.setCell, Array.getElem?_modify, hh, ho]
    | map _ _ => simp [hh] at h
    | _ => simp [hh] at h
theorem frozen?_set (w : World) (a b : Addr) (v : Value) : (w.setCell a v).frozen? b = w.frozen? b := by
  unfold World.frozen? World.setCell
  by_cases h : b.block = a.block
  · simp only [Array.getElem?_modify, h]
    cases hh : w.heap[a.block]? with
    | none => simp
    | some x => cases x <;> simp
  · simp only [Array.getElem?_modify]
    rw [if_neg (by omega)]

/-- A row of cells in block g that is being rewritten; Fi: the blocks that the row leads to. -/
structure RS (w0 w : World) (g lo : Nat) (cells : List Value) (Fi : List Nat) : Prop where
  glt : g < w0.heap.size
  only : Only (g :: Fi) w0 w
  out : ∀ off, (off < lo ∨ lo + cells.length ≤ off) → w.cell? ⟨g, off, none⟩ = w0.cell? ⟨g, off, none⟩
  frz : ∀ off, w.frozen? ⟨g, off, none⟩ = w0.frozen? ⟨g, off, none⟩
  cell : ∀ j v, cells[j]? = some v → w.cell? ⟨g, lo + j, none⟩ = some v

section
variable {w0 w w' : World} {g lo : Nat} {cells : List Value} {Fi : List Nat}
theorem RS.set (h : RS w0 w g lo cells Fi) {j : Nat} (hj : j < cells.length) (v : Value) : RS w0 (w.setCell ⟨g, lo + j, none⟩ v) g lo (cells.set j v) Fi := by
  have h0 : w.cell? ⟨g, lo + j, none⟩ = some cells[j] := h.cell j _ (List.getElem?_eq_getElem hj)
  refine ⟨h.glt, h.only.set_ (p := ⟨g, lo + j, none⟩) (by simp) v, fun off hoff => ?_, fun off => ?_, fun i u hu => ?_⟩
  · rw [List.length_set] at hoff
    rw [World.cell?_setCell_other w ⟨g, lo + j, none⟩ ⟨g, off, none⟩ v (fun e => by injection e with _ e; omega)]
    exact h.out off hoff
  · rw [frozen?_set]; exact h.frz off
  · by_cases hij : i = j
    · subst hij
      rw [List.getElem?_set_self hj] at hu
      injection hu with hu
      subst hu
      exact cell?_set_same h0
    · rw [List.getElem?_set_ne (by omega)] at hu
      rw [World.cell?_setCell_other w ⟨g, lo + j, none⟩ ⟨g, lo + i, none⟩ v (fun e => by injection e with _ e; omega)]
      exact h.cell i u hu
theorem RS.set0 (h : RS w0 w g lo cells Fi) (hj : 0 < cells.length) (v : Value) : RS w0 (w.setCell ⟨g, lo, none⟩ v) g lo (cells.set 0 v) Fi := h.set hj v
theorem RS.bel (h : RS w0 w g lo cells Fi) (hb : Below w.heap.size w w') : RS w0 w' g lo cells Fi := by
  have hg : g < w.heap.size := Nat.lt_of_lt_of_le h.glt h.only.size
  exact ⟨h.glt, h.only.trans (.of_below hb), fun off ho => (hb.cell (p := ⟨g, off, none⟩) hg).trans (h.out off ho), fun off => (hb.frozen (p := ⟨g, off, none⟩) hg).trans (h.frz off), fun j v hv => (hb.cell (p := ⟨g, lo + j, none⟩) hg).trans (h.cell j v hv)⟩
theorem RS.sub (h : RS w0 w g lo cells Fi) {G : List Nat} (ho : Only G w w') (hG : ∀ x, x ∈ G → x ∈ Fi) (hg : g ∉ Fi) : RS w0 w' g lo cells Fi := by
  have hgl : g < w.heap.size := Nat.lt_of_lt_of_le h.glt h.only.size
  have hb : w'.heap[g]? = w.heap[g]? := ho.block g hgl (fun hm => hg (hG g hm))
  exact ⟨h.glt, h.only.trans (ho.mono fun x hx => List.mem_cons_of_mem _ (hG x hx)), fun off ho => (World.cell?_of_block (w := w) (a := ⟨g, off, none⟩) hb).trans (h.out off ho),
    fun off => (World.frozen?_of_block (w := w) (a := ⟨g, off, none⟩) hb).trans (h.frz off), fun j v hv => (World.cell?_of_block (w := w) (a := ⟨g, lo + j, none⟩) hb).trans (h.cell j v hv)⟩
end

section
variable {α : Type} {c : Cod α} {hw : 0 < c.wd} {hw2 : c.wd ≤ 32} {w : World} {A : Option Addr} {n cp : Nat} {xs : List α} {F : List Nat}

theorem cL_upd (h : (cL c hw hw2).rep w [.slice A n cp] xs F) (hnd : F.Nodup) {i : Nat} (hi : i < xs.length) :
    ∃ g o vs Fi, A = some ⟨g, o, none⟩ ∧ g ∈ F ∧ g ∉ Fi ∧ (∀ b, b ∈ Fi → b ∈ F) ∧ Fi.Nodup ∧ c.rep w vs xs[i] Fi ∧ RS w w g (o + i * c.wd) vs Fi ∧
      (∀ j, j < c.wd → w.frozen? ⟨g, o + i * c.wd + j, none⟩ = false) ∧
      ∀ w' vs' y', RS w w' g (o + i * c.wd) vs' Fi → c.rep w' vs' y' Fi → (cL c hw hw2).rep w' [.slice A n cp] (xs.set i y') F := by
  obtain ⟨A', cp', hv, hl, hm, hr⟩ := h
  simp only [List.cons.injEq, Value.slice.injEq, and_true] at hv
  obtain ⟨rfl, rfl, rfl⟩ := hv
  rcases hr with ⟨rfl, _⟩ | ⟨hne, g, o, Fs, us, rfl, rfl, hc, hr⟩
  · simp at hi
  · have hsp : xs = xs.take i ++ xs[i] :: xs.drop (i + 1) := by rw [← List.drop_eq_getElem_cons hi, List.take_append_drop]
    have hr' : c.reps w us (xs.take i ++ xs[i] :: xs.drop (i + 1)) Fs := by rw [← hsp]; exact hr
    obtain ⟨u1, u2, G1, G2, rfl, rfl, r1, v1, v2, H1, H2, rfl, rfl, hx, r2⟩ := Cod.reps_cut hr'
    have hu1 := Cod.reps_len r1
    rw [List.length_take, Nat.min_eq_left (by omega)] at hu1
    have hv1 := c.len hx
    have hglt : g < w.heap.size := hc.lt (by intro e; have := congrArg List.length e; simp [hu1, hv1] at this; omega)
    have hnd' := List.nodup_cons.1 hnd
    have hndF := List.nodup_append.1 hnd'.2
    have hndH := List.nodup_append.1 hndF.2.1
    have hgH : g ∉ H1 := fun hm => hnd'.1 (by simp [hm])
    have hcv : CellsAt w g (o + i * c.wd) v1 := by
      have := hc.right.left
      rwa [hu1] at this
    refine ⟨g, o, v1, H1, rfl, by simp, hgH, fun b hb => by simp [hb], hndH.1, hx, ⟨hglt, Only.refl _ _, fun _ _ => rfl, fun _ => rfl, fun j v hj => (hcv j v hj).1⟩, fun j hj => (hcv j _ (List.getElem?_eq_getElem (by omega))).2, ?_⟩
    intro w' vs' y' hrs hy
    have hvl := c.len hy
    have hlen : (xs.set i y').length = xs.length := List.length_set
    have hset : xs.set i y' = xs.take i ++ y' :: xs.drop (i + 1) := List.set_eq_take_append_cons_drop.trans (by rw [if_pos hi])
    have hkeep : ∀ b, b ∈ G1 ∨ b ∈ H2 → b < w.heap.size → w'.heap[b]? = w.heap[b]? := fun b hb hlt => hrs.only.block b hlt (by
      intro hm
      rcases List.mem_cons.1 hm with rfl | hm
      · exact hnd'.1 (by rcases hb with hb | hb <;> simp [hb])
      · rcases hb with hb | hb
        · exact hndF.2.2 b hb b (by simp [hm]) rfl
        · exact hndH.2.2 b hm b hb rfl)
    refine ⟨some ⟨g, o, none⟩, cp, by rw [hlen], by rw [hlen]; exact hl, hm, .inr ⟨by intro e; have := congrArg List.length e; rw [hlen] at this; simp at this; exact hne this, g, o, G1 ++ (H1 ++ H2), u1 ++ (vs' ++ v2), rfl, rfl, ?_, ?_⟩⟩
    · intro j u hu
      by_cases h1 : j < i * c.wd
      · rw [List.getElem?_append_left (by omega)] at hu
        have h2 := hc j u (by rw [List.getElem?_append_left (by omega)]; exact hu)
        exact ⟨(hrs.out (o + j) (.inl (by omega))).trans h2.1, (hrs.frz _).trans h2.2⟩
      · rw [List.getElem?_append_right (by omega)] at hu
        by_cases h3 : j - u1.length < vs'.length
        · rw [List.getElem?_append_left h3] at hu
          have h4 := hrs.cell _ _ hu
          have h5 := (hcv (j - u1.length) _ (List.getElem?_eq_getElem (by omega))).2
          rw [show o + i * c.wd + (j - u1.length) = o + j by omega] at h4 h5
          exact ⟨h4, (hrs.frz _).trans h5⟩
        · have h2 := hc j u (by rw [List.getElem?_append_right (by omega), List.getElem?_append_right (by omega)]; rw [List.getElem?_append_right (by omega)] at hu; rw [hvl, ← hv1] at hu; exact hu)
          exact ⟨(hrs.out (o + j) (.inr (by omega))).trans h2.1, (hrs.frz _).trans h2.2⟩
    · rw [hset]
      refine Cod.reps_app (Cod.reps_keep r1 fun b hb => hkeep b (.inl hb) (Cod.reps_lt r1 b hb)) ⟨vs', v2, H1, H2, rfl, rfl, hy, Cod.reps_keep r2 fun b hb => hkeep b (.inr hb) (Cod.reps_lt r2 b hb)⟩
end

theorem Cod.set_ {α : Type} {c : Cod α} {w : World} {vs : List Value} {x : α} {F : List Nat} (h : c.rep w vs x F) {g : Nat} (hg : g ∉ F) (i : Nat) (v : Value) : c.rep (w.setCell ⟨g, i, none⟩ v) vs x F :=
  c.keep h fun b hb => Below.heap_setCell _ _ _ _ (fun e => hg (by subst e; exact hb))
theorem mark_byte (k : Int) : (((UInt8.ofNat (k % 256).toNat).toNat : Nat) : Int) = k % 256 := by
  rw [UInt8.toNat_ofNat']; omega

/-! ### Lists marked from the front -/
section
variable {α : Type} (c : Cod α)
def Cod.mkTo (k : Int) (xs : List α) (i : Nat) : List α := c.mks k (xs.take i) ++ xs.drop i
theorem Cod.mkTo_zero (k : Int) (xs : List α) : c.mkTo k xs 0 = xs := by simp [Cod.mkTo, Cod.mks]
theorem Cod.mkTo_end (k : Int) (xs : List α) : c.mkTo k xs xs.length = c.mks k xs := by simp [Cod.mkTo]
theorem Cod.mkTo_len (k : Int) (xs : List α) (i : Nat) : (c.mkTo k xs i).length = xs.length := by
  simp only [Cod.mkTo, List.length_append, Cod.mks_len, List.length_take, List.length_drop]; omega
theorem Cod.mkTo_get (k : Int) (xs : List α) (i : Nat) (hi : i < xs.length) (h : i < (c.mkTo k xs i).length) : (c.mkTo k xs i)[i] = xs[i] := by
  simp only [Cod.mkTo]
  rw [List.getElem_append_right (by rw [Cod.mks_len, List.length_take]; omega)]
  simp only [Cod.mks_len, List.length_take, Nat.min_eq_left (Nat.le_of_lt hi), Nat.sub_self]
  rw [List.getElem_drop]; simp
theorem Cod.mkTo_set (k : Int) (xs : List α) (i : Nat) (hi : i < xs.length) : (c.mkTo k xs i).set i (c.mrk (k + c.cns (xs.take i)) xs[i]) = c.mkTo k xs (i + 1) := by
  simp only [Cod.mkTo]
  have hl : (c.mks k (xs.take i)).length = i := by rw [Cod.mks_len, List.length_take, Nat.min_eq_left (Nat.le_of_lt hi)]
  rw [List.set_append_right _ _ (by omega), hl, Nat.sub_self, List.drop_eq_getElem_cons hi, List.set_cons_zero, List.take_succ_eq_append_getElem hi, Cod.mks_app, List.append_assoc]
  simp [Cod.mks]
theorem Cod.cns_succ (xs : List α) (i : Nat) (hi : i < xs.length) : c.cns (xs.take (i + 1)) = c.cns (xs.take i) + c.cn xs[i] := by
  rw [List.take_succ_eq_append_getElem hi, Cod.cns_app]; simp [Cod.cns]
theorem Cod.cns_take_le (xs : List α) (i : Nat) : c.cns (xs.take i) ≤ c.cns xs := by
  conv => rhs; rw [← List.take_append_drop i xs, Cod.cns_app]
  omega
theorem Cod.mks_get (k : Int) : ∀ (xs : List α) (i : Nat) (hi : i < xs.length) (h : i < (c.mks k xs).length), (c.mks k xs)[i] = c.mrk (k + c.cns (xs.take i)) xs[i] := by
  intro xs i hi h
  have h1 : c.mks k xs = c.mks k (xs.take i) ++ c.mks (k + c.cns (xs.take i)) (xs.drop i) := by rw [← Cod.mks_app, List.take_append_drop]
  have hl : (c.mks k (xs.take i)).length = i := by rw [Cod.mks_len, List.length_take, Nat.min_eq_left (Nat.le_of_lt hi)]
  simp only [h1]
  rw [List.getElem_append_right (by omega)]
  simp only [hl, Nat.sub_self, List.drop_eq_getElem_cons hi, Cod.mks, List.getElem_cons_zero]
end

end Go.Proofs.Yteipaolcmjfhdaa
