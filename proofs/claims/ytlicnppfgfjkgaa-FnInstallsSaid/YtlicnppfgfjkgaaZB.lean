/-
  Words, codecs and types of this seat in one text. No conditions.
-/
import Derived.Test.YtlicnppfgfjkgaaZA
import Derived.LoopTactic
import Derived.StillTailTactics
namespace Go.Proofs.Ytlicnppfgfjkgaa
open Go.RowKit
set_option linter.unusedVariables false

section
variable {α : Type} {c : Cod α} {e : TypeId} {B : Nat} {w w' : World} {v : Value} {xs : List α} {Fi : List Nat}
theorem Own.raise (h : Own c e 0 w v xs Fi) (hB : ∀ g, ownB v = some g → B ≤ g) : Own c e B w v xs Fi := by
  rcases h.form with h | ⟨g, cap, cur, us, rfl, h0, hh, hn, hm, hs, ht, ho, hr⟩
  · exact .inl h
  · exact .inr ⟨us, ⟨ho.1, .inr ⟨g, cap + 1, cur, rfl, hB g rfl, hh, hn, hm, hs, ht⟩⟩, hr⟩
theorem Own.norm (h : Own c e B w v xs Fi) : ownB v = none → Fi = [] := by
  intro hv
  rcases h.form with ⟨-, h, -⟩ | ⟨g, cap, cur, us, rfl, -⟩
  · exact h
  · simp [ownB] at hv
end

def ownL (v : Value) : List Nat := match ownB v with | some g => [g] | none => []
theorem mem_ownL {v : Value} {b : Nat} : b ∈ ownL v ↔ ownB v = some b := by
  unfold ownL
  cases h : ownB v with
  | none => simp
  | some g => simp [eq_comm]

/-- A slice that is a row of the call's own, from its block's start on, the room behind it too. -/
def cO {α : Type} (c : Cod α) (e : TypeId) (hw2 : c.wd ≤ 32) : Cod (List α) where
  wd := 1
  rep := fun w vs xs F => ∃ v Fi, vs = [v] ∧ Own c e 0 w v xs Fi ∧ F = ownL v ++ Fi
  sz := c.szs
  mrk := c.mks
  cn := c.cns
  mkcn := c.mks_cns
  cnle := fun xs => Nat.le_trans (Cod.cns_le c hw2 xs) (by omega)
  len := fun ⟨_, _, h, _⟩ => by rw [h]; rfl
  keep := fun ⟨v, Fi, h, ho, hF⟩ hb => ⟨v, Fi, h, ho.keep (fun g hg => hb g (by rw [hF]; simp [mem_ownL, hg])) (fun b hm => hb b (by rw [hF]; simp [hm])), hF⟩
  lt := fun ⟨v, Fi, h, ho, hF⟩ b hb => by
    rw [hF, List.mem_append, mem_ownL] at hb
    rcases hb with hb | hb
    · exact (ho.lt b hb).2
    · exact ho.inner_lt b hb
  ones := fun ⟨v, Fi, h, ho, hF⟩ u hu => by
    rw [h] at hu; simp at hu; subst hu
    obtain ⟨A, cp, rfl⟩ := ho.slice
    rfl

theorem cO_form {α : Type} {c : Cod α} {e : TypeId} {hw2 : c.wd ≤ 32} {w : World} {v : Value} {xs : List α} {F : List Nat} (h : (cO c e hw2).rep w [v] xs F) : ∃ A cp, v = .slice A xs.length cp := by
  obtain ⟨v', Fi, hv, ho, -⟩ := h
  simp only [List.cons.injEq, and_true] at hv
  subst hv
  exact ho.slice
theorem cO_lt {α : Type} {c : Cod α} {e : TypeId} {hw2 : c.wd ≤ 32} {w : World} {v : List Value} {xs : List α} {F : List Nat} (h : (cO c e hw2).rep w v xs F) : ∀ b, b ∈ F → b < w.heap.size := (cO c e hw2).lt h
theorem cO_own {α : Type} {c : Cod α} {e : TypeId} {hw2 : c.wd ≤ 32} {w : World} {v : Value} {xs : List α} {F : List Nat} {B : Nat} (h : (cO c e hw2).rep w [v] xs F) (hf : Fresh B F) :
    ∃ Fi, F = ownL v ++ Fi ∧ Own c e B w v xs Fi ∧ Fresh B Fi ∧ (∀ g, ownB v = some g → g ∉ Fi) ∧ ∀ g, ownB v = some g → B ≤ g := by
  obtain ⟨v', Fi, hv, ho, rfl⟩ := h
  simp only [List.cons.injEq, and_true] at hv
  subst hv
  have hB : ∀ g, ownB v = some g → B ≤ g := fun g hg => hf.1 g (by simp [mem_ownL, hg])
  have hnd := List.nodup_append.1 hf.2
  exact ⟨Fi, rfl, ho.raise hB, ⟨fun b hb => hf.1 b (by simp [hb]), hnd.2.1⟩, fun g hg hm => hnd.2.2 g (mem_ownL.2 hg) g hm rfl, hB⟩
theorem Own.toO {α : Type} {c : Cod α} {e : TypeId} {hw2 : c.wd ≤ 32} {w : World} {v : Value} {xs : List α} {Fi : List Nat} {B : Nat} (h : Own c e B w v xs Fi) (hf : Fresh B Fi) (hd : ∀ g, ownB v = some g → g ∉ Fi) :
    (cO c e hw2).rep w [v] xs (ownL v ++ Fi) ∧ Fresh B (ownL v ++ Fi) := by
  refine ⟨⟨v, Fi, rfl, h.mono (Nat.zero_le _), rfl⟩, fun b hb => ?_, List.nodup_append.2 ⟨?_, hf.2, fun a ha b hb hab => ?_⟩⟩
  · rcases List.mem_append.1 hb with hb | hb
    · exact (h.lt b (mem_ownL.1 hb)).1
    · exact hf.1 b hb
  · unfold ownL; split <;> simp
  · subst hab; exact hd a (mem_ownL.1 ha) hb

/-! ### What a codec says less -/
def Weak {α : Type} (c d : Cod α) : Prop := c.wd = d.wd ∧ ∀ {w vs x F}, c.rep w vs x F → ∃ G, d.rep w vs x G ∧ G.Sublist F
theorem Weak.refl {α : Type} (c : Cod α) : Weak c c := ⟨rfl, fun h => ⟨_, h, List.Sublist.refl _⟩⟩
theorem Weak.reps {α : Type} {c d : Cod α} (k : Weak c d) {w : World} : ∀ {us : List Value} {xs : List α} {F : List Nat}, c.reps w us xs F → ∃ G, d.reps w us xs G ∧ G.Sublist F
  | us, [], F, h => ⟨[], ⟨h.1, rfl⟩, by rw [h.2]; exact List.Sublist.refl _⟩
  | us, x :: xs, F, ⟨v1, v2, F1, F2, h, hF, h1, h2⟩ => by
    obtain ⟨G1, k1, s1⟩ := k.2 h1
    obtain ⟨G2, k2, s2⟩ := Weak.reps k h2
    exact ⟨G1 ++ G2, ⟨v1, v2, G1, G2, h, rfl, k1, k2⟩, by rw [hF]; exact s1.append s2⟩
theorem Weak.list {α : Type} {c d : Cod α} (k : Weak c d) {hw : 0 < c.wd} {hw2 : c.wd ≤ 32} {kw : 0 < d.wd} {kw2 : d.wd ≤ 32} : Weak (cL c hw hw2) (cL d kw kw2) := by
  refine ⟨rfl, ?_⟩
  rintro w vs xs F ⟨A, cp, hv, hl, hm, ⟨rfl, rfl⟩ | ⟨hne, g, o, Fs, us, hA, rfl, hc, hr⟩⟩
  · exact ⟨[], ⟨A, cp, hv, hl, hm, .inl ⟨rfl, rfl⟩⟩, List.Sublist.refl _⟩
  · obtain ⟨G, h1, h2⟩ := k.reps hr
    exact ⟨g :: G, ⟨A, cp, hv, hl, hm, .inr ⟨hne, g, o, G, us, hA, rfl, hc, h1⟩⟩, h2.cons_cons g⟩
theorem Weak.own {α : Type} {c d : Cod α} (k : Weak c d) {e : TypeId} {hw2 : c.wd ≤ 32} {kw : 0 < d.wd} {kw2 : d.wd ≤ 32} : Weak (cO c e hw2) (cL d kw kw2) := by
  refine ⟨rfl, ?_⟩
  rintro w vs xs F ⟨v, Fi, rfl, ho, rfl⟩
  rcases ho.form with ⟨rfl, rfl, A, rfl⟩ | ⟨g, cap, cur, us, rfl, h0, hh, hn, hm, hs, ht, ho', hr⟩
  · exact ⟨[], ⟨A, 0, rfl, Nat.le_refl _, by decide, .inl ⟨rfl, rfl⟩⟩, List.nil_sublist _⟩
  · obtain ⟨G, h1, h2⟩ := k.reps hr
    cases xs with
    | nil => exact ⟨[], ⟨_, cap + 1, rfl, hn, hm, .inl ⟨rfl, rfl⟩⟩, List.nil_sublist _⟩
    | cons x xs =>
      refine ⟨g :: G, ⟨_, cap + 1, rfl, hn, hm, .inr ⟨by simp, g, 0, G, us, rfl, rfl, fun j u hu => ?_, h1⟩⟩, ?_⟩
      · have hj := (List.getElem?_eq_some_iff.1 hu).1
        rw [ho'.1] at hj
        rw [Nat.zero_add]
        exact ⟨(ho'.cellAt j hj).trans hu, ho'.frozenAt j⟩
      · show (g :: G).Sublist ([g] ++ Fi)
        exact h2.cons_cons g
theorem Weak.pair {α β : Type} {c d : Cod α} {c' d' : Cod β} (k : Weak c d) (k' : Weak c' d') : Weak (cP c c') (cP d d') := by
  refine ⟨by show c.wd + c'.wd = _; rw [k.1, k'.1]; rfl, ?_⟩
  rintro w vs x F ⟨v1, v2, F1, F2, h, rfl, h1, h2⟩
  obtain ⟨G1, k1, s1⟩ := k.2 h1
  obtain ⟨G2, k2, s2⟩ := k'.2 h2
  exact ⟨G1 ++ G2, ⟨v1, v2, G1, G2, h, rfl, k1, k2⟩, s1.append s2⟩
theorem Weak.map {α σ : Type} {c d : Cod α} (k : Weak c d) {f : σ → α} {g : α → σ} {hg hg' : ∀ a, f (g a) = a} : Weak (cM c f g hg) (cM d f g hg') := ⟨k.1, fun h => k.2 h⟩
theorem Weak.fresh {α : Type} {c d : Cod α} (k : Weak c d) {w : World} {vs : List Value} {x : α} {F : List Nat} {B : Nat} (h : c.rep w vs x F) (hf : Fresh B F) : ∃ G, d.rep w vs x G ∧ Fresh B G ∧ ∀ b, b ∈ G → b ∈ F := by
  obtain ⟨G, h1, h2⟩ := k.2 h
  exact ⟨G, h1, ⟨fun b hb => hf.1 b (h2.subset hb), h2.nodup hf.2⟩, fun b hb => h2.subset hb⟩
theorem GivesR.weak {α : Type} {c d : Cod α} (k : Weak c d) {w w' : World} {x : α} {e : Ending} (h : GivesR c w x e w') : GivesR d w x e w' := by
  obtain ⟨vs, F, he, hb, hr, hf⟩ := h
  obtain ⟨G, h1, h2, -⟩ := k.fresh hr hf
  exact ⟨vs, G, he, hb, h1, h2⟩

/-! ### A box that holds a row, while a loop appends to it -/
/-- The cell o of the box xb of the world V holds a row of the call's own (blocks from V's end on) that reads as es; of what was there in V only that cell has turned. -/
structure BoxAt {α : Type} (c : Cod α) (T : TypeId) (V wr : World) (xb o : Nat) (es : List α) (vE : Value) (Fi : List Nat) : Prop where
  cell : wr.cell? ⟨xb, o, none⟩ = some vE
  own : Own c T V.heap.size wr vE es Fi
  fresh : Fresh V.heap.size Fi
  ne : ∀ g, ownB vE = some g → g ∉ Fi
  only : Only [xb] V wr
  fz : ∀ i, wr.frozen? ⟨xb, i, none⟩ = V.frozen? ⟨xb, i, none⟩
  oth : ∀ i, i ≠ o → wr.cell? ⟨xb, i, none⟩ = V.cell? ⟨xb, i, none⟩
def BoxRow {α : Type} (c : Cod α) (T : TypeId) (V wr : World) (xb o : Nat) (es : List α) : Prop := ∃ vE Fi, BoxAt c T V wr xb o es vE Fi
/-- what the append left, ahead of the store; and what the store will leave -/
structure BoxAfter {α : Type} (c : Cod α) (T : TypeId) (V W4 w2 : World) (xb o : Nat) (es : List α) (vE v2 : Value) : Prop where
  cell : w2.cell? ⟨xb, o, none⟩ = some vE
  fz : ∀ i, w2.frozen? ⟨xb, i, none⟩ = V.frozen? ⟨xb, i, none⟩
  size : W4.heap.size ≤ w2.heap.size
  row : BoxRow c T V (w2.setCell ⟨xb, o, none⟩ v2) xb o es

section
variable {α : Type} {c : Cod α} {T : TypeId} {V wr W4 w2 : World} {xb o : Nat} {es ys : List α} {vE v2 : Value} {Fi G : List Nat}
theorem BoxRow.start {A : Option Addr} (h : V.cell? ⟨xb, o, none⟩ = some (.slice A 0 0)) : BoxRow c T V V xb o [] :=
  ⟨_, [], h, Own.empty _, Fresh.nil _, by simp [ownB], Only.refl _ _, fun _ => rfl, fun _ _ => rfl⟩
theorem cell_lt {a : Addr} {v : Value} (h : V.cell? a = some v) : a.block < V.heap.size := World.block_lt_of_cell? V a h
theorem boxAfter (hx : xb < V.heap.size) (H : BoxAt c T V wr xb o es vE Fi) (hb : Below wr.heap.size wr W4) (hG : Fresh wr.heap.size G) (hGl : ∀ b, b ∈ G → b < W4.heap.size)
    (ho2 : Own c T V.heap.size w2 v2 (es ++ ys) (Fi ++ G)) (hg2 : W4.grownBy w2 (ownB vE)) (hat2 : ∀ g, ownB v2 = some g → ownB vE = some g ∨ W4.heap.size ≤ g) :
    BoxAfter c T V W4 w2 xb o (es ++ ys) vE v2 := by
  obtain ⟨hX, hown, hFi, hEF, hO, hfz, hoth⟩ := H
  have hVr := hO.size
  have hs4 := hb.size
  have hs2 := hg2.size
  have hxr : xb < wr.heap.size := Nat.lt_of_lt_of_le hx hVr
  have hne : ownB vE ≠ some xb := fun e => by have := (hown.lt _ e).1; omega
  have hk : w2.heap[xb]? = wr.heap[xb]? := (hg2.block xb (Nat.lt_of_lt_of_le hxr hb.size) (fun e => hne e.symm)).trans (hb.block xb hxr)
  have hX2 : w2.cell? ⟨xb, o, none⟩ = some vE := (World.cell?_of_block hk).trans hX
  have hf2 : ∀ i, w2.frozen? ⟨xb, i, none⟩ = wr.frozen? ⟨xb, i, none⟩ := fun i => World.frozen?_of_block hk
  have hc2 : ∀ i, w2.cell? ⟨xb, i, none⟩ = wr.cell? ⟨xb, i, none⟩ := fun i => World.cell?_of_block hk
  have hx2 : ownB v2 ≠ some xb := fun e => by have := (ho2.lt _ e).1; omega
  have hFG : ∀ b, b ∈ Fi ++ G → V.heap.size ≤ b ∧ b < W4.heap.size := fun b hm => by
    rcases List.mem_append.1 hm with hm | hm
    · have h1 := hFi.1 b hm; have h2 := hown.inner_lt b hm; omega
    · have h1 := hG.1 b hm; have h2 := hGl b hm; omega
  refine ⟨hX2, fun i => (hf2 i).trans (hfz i), hs2, v2, Fi ++ G, cell?_set_same hX2, ho2.keep (fun g hg => Below.heap_setCell _ _ _ _ (fun e => hx2 (hg.trans (congrArg some e)))) (fun b hm => Below.heap_setCell _ _ _ _ (fun e => by have := hFG b hm; have e' : b = xb := e; omega)), ⟨fun b hm => (hFG b hm).1, List.nodup_append.2 ⟨hFi.2, hG.2, fun a ha b hm e => by have h1 := hown.inner_lt a ha; have h2 := hG.1 b hm; omega⟩⟩, fun g hg hm => ?_, ?_, fun i => (frozen?_set _ _ _ _).trans ((hf2 i).trans (hfz i)), fun i hi => ?_⟩
  · rcases hat2 g hg with h1 | h1
    · rcases List.mem_append.1 hm with hm | hm
      · exact hEF g h1 hm
      · have h2 := (hown.lt g h1).2; have h3 := hG.1 g hm; omega
    · have h2 := hFG g hm; omega
  · have hgb : Below V.heap.size W4 w2 := Below.grown (Below.refl _ _) hg2 (Nat.le_trans hVr hs4) (fun b hb => (hown.lt b hb).1)
    refine Only.set_ ⟨hgb.os.trans (hb.os.trans hO.os), hgb.tape.trans (hb.tape.trans hO.tape), hgb.output.trans (hb.output.trans hO.output), by omega, fun b hbl hn => ?_⟩ (by simp) _
    refine (hg2.block b (by omega) (fun e => by have := (hown.lt b e.symm).1; omega)).trans ((hb.block b (by omega)).trans (hO.block b hbl hn))
  · rw [World.cell?_setCell_other w2 ⟨xb, o, none⟩ ⟨xb, i, none⟩ _ (fun e => by injection e with _ e; omega)]
    exact (hc2 i).trans (hoth i hi)

variable {P : Program}
theorem wpList_box {ops : Array Oper} {rest : List Oper} {op : Oper} {a : Act} {Q : Exit → Act → World → Prop} (hgd : op.guard = none) (s x' : Operand) (t : TypeId)
    (hop : op.op = .call { callee := .builtin .append, args := #[s, x'], argTypes := #[t, t] })
    (i : TypeInfo) (z : Value) (bytes : Nat) (ht : P.underlying t = some (.slice T)) (hi : P.info? T = some i) (hz : i.zero = some z)
    (hsize : i.size = c.wd) (hby : i.bytes = bytes) (hzs : z.cells.size = c.wd) (hw : 0 < c.wd)
    (hs : a.eval s = vE) (x : Value) (hx' : a.eval x' = x) (hxb : xb < V.heap.size) (H : BoxAt c T V wr xb o es vE Fi) (hb : Below wr.heap.size wr W4) (hG : Fresh wr.heap.size G) (hGl : ∀ b, b ∈ G → b < W4.heap.size)
    (hsrc : AppSrc c W4 x ys G) (m : Nat) (hm : (es ++ ys).length = m)
    (h63 : m ≤ maxLen) (hbytes : m * bytes ≤ 140737488355328)
    (h : ∀ A2 c2 w2, BoxAfter c T V W4 w2 xb o (es ++ ys) vE (.slice A2 m c2) → wpList P ops Q rest (a.put op.dst (.slice A2 m c2)) w2) : wpList P ops Q (op :: rest) a W4 := by
  have hVr := H.only.size
  have hs4 := hb.size
  have hm' : es.length + ys.length = m := by rw [← hm, List.length_append]
  refine wpList_app (c := c) (B := V.heap.size) W4 hgd s x' t hop i z bytes ht hi hz hsize hby hzs hw hs (H.own.bel hb) x hx' hsrc (by omega) (by rw [hm']; exact hbytes) (Nat.le_trans hVr hs4) (fun g hg => ⟨H.ne g hg, fun hm => by have h1 := (H.own.lt g hg).2; have h2 := hG.1 g hm; omega⟩) (fun v' w' h2 h3 h4 => ?_)
  obtain ⟨A2, c2, rfl⟩ := h2.slice
  rw [hm] at h2 h4 ⊢
  exact h A2 c2 w' (boxAfter hxb H hb hG hGl h2 h3 h4)
theorem step_box {ops : Array Oper} {op : Oper} {a : Act} {K : Act → World → Prop} {Q : Exit → Act → World → Prop} {E : Prop} (hgd : op.guard = none) (s x' : Operand) (t : TypeId)
    (hop : op.op = .call { callee := .builtin .append, args := #[s, x'], argTypes := #[t, t] })
    (i : TypeInfo) (z : Value) (bytes : Nat) (ht : P.underlying t = some (.slice T)) (hi : P.info? T = some i) (hz : i.zero = some z)
    (hsize : i.size = c.wd) (hby : i.bytes = bytes) (hzs : z.cells.size = c.wd) (hw : 0 < c.wd)
    (hs : a.eval s = vE) (x : Value) (hx' : a.eval x' = x) (hxb : xb < V.heap.size) (H : BoxAt c T V wr xb o es vE Fi) (hb : Below wr.heap.size wr W4) (hG : Fresh wr.heap.size G) (hGl : ∀ b, b ∈ G → b < W4.heap.size)
    (hsrc : AppSrc c W4 x ys G) (m : Nat) (hm : (es ++ ys).length = m)
    (h63 : m ≤ maxLen) (hbytes : m * bytes ≤ 140737488355328)
    (h : ∀ A2 c2 w2, BoxAfter c T V W4 w2 xb o (es ++ ys) vE (.slice A2 m c2) → K (a.put op.dst (.slice A2 m c2)) w2) :
    if Region.wanted op (yielded ops a.tmps) = true then Oper.wp P op a W4 K Q else E := by
  have hVr := H.only.size
  have hs4 := hb.size
  have hm' : es.length + ys.length = m := by rw [← hm, List.length_append]
  refine step_app (c := c) (B := V.heap.size) W4 hgd s x' t hop i z bytes ht hi hz hsize hby hzs hw hs (H.own.bel hb) x hx' hsrc (by omega) (by rw [hm']; exact hbytes) (Nat.le_trans hVr hs4) (fun g hg => ⟨H.ne g hg, fun hm => by have h1 := (H.own.lt g hg).2; have h2 := hG.1 g hm; omega⟩) (fun v' w' h2 h3 h4 => ?_)
  obtain ⟨A2, c2, rfl⟩ := h2.slice
  rw [hm] at h2 h4 ⊢
  exact h A2 c2 w' (boxAfter hxb H hb hG hGl h2 h3 h4)
end

theorem AppSrc.bel {α : Type} {c : Cod α} {w w' : World} {x : Value} {ys : List α} {Fy : List Nat} (h : AppSrc c w x ys Fy) (hb : Below w.heap.size w w') : AppSrc c w' x ys Fy := by
  obtain ⟨A, d, news, hx, hr, hA⟩ := h
  refine ⟨A, d, news, hx, Cod.reps_bel hr hb, fun hp => ?_⟩
  obtain ⟨ad, h1, h2⟩ := hA hp
  exact ⟨ad, h1, fun j u hu => (hb.cell (cell_lt (h2 j u hu))).trans (h2 j u hu)⟩
/-- one cell with a row behind it -/
theorem src_cells {α : Type} {c : Cod α} {w : World} {vs : List Value} {x : α} {F : List Nat} {g : Nat} (h : c.rep w vs x F) (hc : ∀ j u, vs[j]? = some u → w.cell? ⟨g, j, none⟩ = some u) : AppSrc c w (.slice (some ⟨g, 0, none⟩) 1 1) [x] F :=
  ⟨some ⟨g, 0, none⟩, 1, vs, rfl, Cod.reps_one h, fun _ => ⟨_, rfl, fun j u hu => by rw [Addr.add_lit, Nat.zero_add]; exact hc j u hu⟩⟩
theorem src_new {α : Type} {c : Cod α} {w : World} {vs : Array Value} {x : α} {F : List Nat} (T : TypeId) (g : Nat) (hg : w.heap.size = g) (h : c.rep w vs.toList x F) : AppSrc c (w.alloc (.cells vs T)) (.slice (some ⟨g, 0, none⟩) 1 1) [x] F := by
  subst hg
  exact src_cells (Cod.bel h (bel_alloc (Below.refl _ _) _)) (fun j u hu => by rw [(Blk.new w T vs).cell]; simpa using hu)
end Go.Proofs.Ytlicnppfgfjkgaa
namespace Go.Proofs.Ytlicnppfgfjkgaa
open Go.ChangeShapes Go.WideShapes Go.RowKit
set_option linter.unusedVariables false

def cCachedO : Cod (List TCached) := cO cCached 129 (by decide)
def cCacheO : Cod TCache := cM (cP cI cCachedO) (fun x => (x.ver, x.entries)) (fun a => ⟨a.1, a.2⟩) (fun _ => rfl)
def cCachesO : Cod (List TCache) := cO cCacheO 125 (by decide)
def cCSetO : Cod TCSet := cM cCachesO (fun x => x.caches) (fun a => ⟨a⟩) (fun _ => rfl)

theorem weak_cache : Weak cCacheO cCache := Weak.map (Weak.pair (Weak.refl _) (Weak.own (Weak.refl _)))
theorem weak_caches : Weak cCachesO cCacheS := Weak.own weak_cache
theorem weak_cset : Weak cCSetO cCSet := Weak.map weak_caches

theorem TCache.outO {w : World} {vs : List Value} {x : TCache} {F : List Nat} (h : cCacheO.rep w vs x F) :
    ∃ A cp, vs = [Value.int .i64 x.ver, .slice A x.entries.length cp] ∧ x.Ok ∧ cCachedO.rep w [.slice A x.entries.length cp] x.entries F := by
  obtain ⟨a0, b0, G0, H0, rfl, rfl, ⟨rfl, rfl, h0⟩, h1⟩ := h
  obtain ⟨v, Fi, rfl, ho, rfl⟩ := h1
  obtain ⟨A, cp, rfl⟩ := ho.slice
  exact ⟨A, cp, rfl, ⟨h0⟩, ⟨_, Fi, rfl, ho, rfl⟩⟩
theorem TCache.mkO {w : World} {x : TCache} {v1 : Value} {F1 : List Nat} (h : x.Ok) (k1 : cCachedO.rep w [v1] x.entries F1) : cCacheO.rep w [Value.int .i64 x.ver, v1] x F1 :=
  ⟨[_], _, [], F1, rfl, by simp, ⟨rfl, rfl, h.h0⟩, k1⟩
theorem TCSet.outO {w : World} {vs : Array Value} {x : TCSet} {F : List Nat} (h : cCSetO.rep w vs.toList x F) :
    ∃ A cp, vs = #[.slice A x.caches.length cp] ∧ cCachesO.rep w [.slice A x.caches.length cp] x.caches F := by
  obtain ⟨v, Fi, hv, ho, rfl⟩ := h
  obtain ⟨A, cp, rfl⟩ := ho.slice
  exact ⟨A, cp, Array.toList_inj.1 hv, ⟨_, Fi, rfl, ho, rfl⟩⟩
theorem TCSet.mkO {w : World} {x : TCSet} {v0 : Value} {F0 : List Nat} (k0 : cCachesO.rep w [v0] x.caches F0) : cCSetO.rep w [v0] x F0 := k0
end Go.Proofs.Ytlicnppfgfjkgaa
namespace Go.Proofs.Ytlicnppfgfjkgaa
open Go.ChangeShapes Go.WideShapes Go.RowKit
set_option linter.unusedVariables false

def findCache (s : TCSet) (v : Int) : Int := idxP (fun c => c.ver == v) s.caches
set_option maxRecDepth 100000 in
set_option maxHeartbeats 1000000 in
theorem indexCache_any (A : Option Addr) (cp : Nat) (b : Nat) (xs : List TCache) (v : Int) (F : List Nat) (w : World) (h : cCacheS.rep w [.slice A xs.length cp] xs F) (hv : w.cell? ⟨b, 0, none⟩ = some (.int .i64 v)) (hb : b < w.heap.size) :
    Calls Try.prog 105 #[.slice A xs.length cp, .func (.func 106) #[] #[.pointer (some ⟨b, 0, none⟩)]] w (Gives w (.int .i64 (idxP (fun c => c.ver == v) xs))) := by
  obtain ⟨-, hcp, hm⟩ := cL_len h
  obtain ⟨n, hxn⟩ : ∃ n, xs.length = n := ⟨_, rfl⟩
  have HN := Lib.hid hxn
  rw [hxn] at hcp ⊢
  clear hxn
  unfold maxLen at hm
  go_enter Try.func105, Try.ntmps105
  go_wp2
  go_loopw [8] (fun i wr => ∃ k : Nat, k ≤ n ∧ i = .int .i64 k ∧ noneTo (fun c : TCache => c.ver == v) xs k = true ∧ Below w.heap.size w wr) (fun i _ => n - (intOf i).toNat)
  case atStart => exact ⟨0, Nat.zero_le _, rfl, noneTo_zero _ _, Below.refl _ _⟩
  case round =>
    obtain ⟨k, hk, rfl, hno, hB⟩ := hrel
    have HO := Lib.hid hno
    clear hno
    have hvr : wr.cell? ⟨b, 0, none⟩ = some (.int .i64 v) := (hB.cell (p := ⟨b, 0, none⟩) hb).trans hv
    have hbr : b < wr.heap.size := Nat.lt_of_lt_of_le hb hB.size
    have hbne : ¬ b = wr.heap.size := by omega
    by_cases hlt : k < n
    · have hkx : k < xs.length := by rw [HN.out]; exact hlt
      obtain ⟨g, o, vs, F1, rfl, hgF, hx, -, hc⟩ := cL_get (hw := by decide) (hw2 := by decide) (Cod.bel h hB) hkx
      obtain ⟨v1, F2, rfl, -, hok, m1⟩ := TCache.out hx
      have q0 : wr.cell? ⟨g, o + k * 2, none⟩ = some _ := (hc 0 _ rfl).1
      have q1 : wr.cell? ⟨g, o + k * 2 + 1, none⟩ = some _ := (hc 1 _ rfl).1
      clear hc hx
      cases he : (xs[k].ver == v)
      · have HI := Lib.hid he
        go_wp2
        go_roundw
        case rel => exact ⟨k + 1, by omega, by go_num, noneTo_succ _ xs k hkx HO.out HI.out, (by repeat (first | with_reducible exact Below.refl _ _ | with_reducible assumption | with_reducible refine bel_alloc ?_ _ | with_reducible refine bel_drew ?_ | with_reducible refine bel_drewN ?_ _ | (with_reducible refine bel_set ?_ ?_ _; rotate_left; ((try simp); (try omega)))))⟩
        case measure => simp [intOf]; omega
      · have HI := Lib.hid (idxP_hit (fun c : TCache => c.ver == v) xs k hkx HO.out he)
        go_wp2
        go_ret
        exact ⟨ret_int HI.out.symm, (by repeat (first | with_reducible exact Below.refl _ _ | with_reducible assumption | with_reducible refine bel_alloc ?_ _ | with_reducible refine bel_drew ?_ | with_reducible refine bel_drewN ?_ _ | (with_reducible refine bel_set ?_ ?_ _; rotate_left; ((try simp); (try omega)))))⟩
    · obtain rfl : k = n := by omega
      have HI := Lib.hid (idxP_miss (fun c : TCache => c.ver == v) xs (by rw [HN.out]; exact HO.out))
      go_wp2
      go_ret
      exact ⟨ret_int HI.out.symm, (by repeat (first | with_reducible exact Below.refl _ _ | with_reducible assumption | with_reducible refine bel_alloc ?_ _ | with_reducible refine bel_drew ?_ | with_reducible refine bel_drewN ?_ _ | (with_reducible refine bel_set ?_ ?_ _; rotate_left; ((try simp); (try omega)))))⟩
set_option maxRecDepth 100000 in
set_option maxHeartbeats 1000000 in
theorem implFindCache_any (vs : Array Value) (x : TCSet) (F : List Nat) (v : Int) (w : World) (h : cCSet.rep w vs.toList x F) (hn : cCSet.sz x ≤ 1048576) (_hv : -9223372036854775808 ≤ v ∧ v ≤ 9223372036854775807) :
    Calls Try.prog 44 #[.agg vs, .int .i64 v] w (Gives w (.int .i64 (findCache x v))) := by
  obtain ⟨v0, F0, rfl, -, hok, m0⟩ := TCSet.outA h
  clear h
  obtain ⟨A, cp, rfl⟩ := cL_form m0
  go_enter Try.func44, Try.ntmps44
  go_wp2_with fail
  refine (indexCache_any A cp (w.heap.size + 1) x.caches v _ _ (by exact Cod.bel m0 (by repeat (first | with_reducible exact Below.refl _ _ | with_reducible assumption | with_reducible refine bel_alloc ?_ _ | with_reducible refine bel_drew ?_ | with_reducible refine bel_drewN ?_ _ | (with_reducible refine bel_set ?_ ?_ _; rotate_left; ((try simp); (try omega)))))) (by go_simp) (by simp)).mono ?_
  rintro e w1 ⟨rfl, hb1⟩
  have hB : Below w.heap.size w w1 := bel_then (by repeat (first | with_reducible exact Below.refl _ _ | with_reducible assumption | with_reducible refine bel_alloc ?_ _ | with_reducible refine bel_drew ?_ | with_reducible refine bel_drewN ?_ _ | (with_reducible refine bel_set ?_ ?_ _; rotate_left; ((try simp); (try omega))))) hb1
  clear hb1
  go_wp2_with fail
  go_ret
  exact ⟨rfl, (by repeat (first | with_reducible exact Below.refl _ _ | with_reducible assumption | with_reducible refine bel_alloc ?_ _ | with_reducible refine bel_drew ?_ | with_reducible refine bel_drewN ?_ _ | (with_reducible refine bel_set ?_ ?_ _; rotate_left; ((try simp); (try omega)))))⟩
set_option maxRecDepth 100000 in
set_option maxHeartbeats 1000000 in
theorem specFindCache_any (vs : Array Value) (x : TCSet) (F : List Nat) (v : Int) (w : World) (h : cCSet.rep w vs.toList x F) (hn : cCSet.sz x ≤ 1048576) (_hv : -9223372036854775808 ≤ v ∧ v ≤ 9223372036854775807) :
    Calls Try.prog 96 #[.agg vs, .int .i64 v] w (Gives w (.int .i64 (findCache x v))) := by
  obtain ⟨v0, F0, rfl, -, hok, m0⟩ := TCSet.outA h
  clear h
  obtain ⟨A, cp, rfl⟩ := cL_form m0
  obtain ⟨-, hcp, hm⟩ := cL_len m0
  obtain ⟨n, hxn⟩ : ∃ n, x.caches.length = n := ⟨_, rfl⟩
  have HN := Lib.hid hxn
  rw [hxn] at hcp ⊢
  clear hxn
  unfold maxLen at hm
  go_enter Try.func96, Try.ntmps96
  go_wp2
  generalize hW : World.alloc _ _ = W
  have hWs : W.heap.size = w.heap.size + 1 := by rw [← hW]; clear hW; simp
  have hbW : Below w.heap.size w W := by rw [← hW]; exact (by repeat (first | with_reducible exact Below.refl _ _ | with_reducible assumption | with_reducible refine bel_alloc ?_ _ | with_reducible refine bel_drew ?_ | with_reducible refine bel_drewN ?_ _ | (with_reducible refine bel_set ?_ ?_ _; rotate_left; ((try simp); (try omega)))))
  have HK := Lib.hid (show W.cell? ⟨w.heap.size, 0, none⟩ = some (.slice A n cp) from by (rw [← hW]; clear hW; go_simp))
  clear hW
  go_loopw [5] (fun i wr => ∃ k : Nat, k ≤ n ∧ i = .int .i64 k ∧ noneTo (fun c : TCache => c.ver == v) x.caches k = true ∧ Below W.heap.size W wr) (fun i _ => n - (intOf i).toNat)
  case atStart => exact ⟨0, Nat.zero_le _, rfl, noneTo_zero _ _, Below.refl _ _⟩
  case round =>
    obtain ⟨k, hk, rfl, hno, hB⟩ := hrel
    have HO := Lib.hid hno
    clear hno
    have hws_wr : w.heap.size < wr.heap.size := by have := hB.size; omega
    have hbw : Below w.heap.size w wr := bel_then hbW hB
    have k0_wr : wr.cell? ⟨w.heap.size, 0, none⟩ = some (.slice A n cp) := (hB.cell (p := ⟨w.heap.size, 0, none⟩) (by (try simp); (try omega))).trans HK.out
    by_cases hlt : k < n
    · have hkx : k < x.caches.length := by rw [HN.out]; exact hlt
      obtain ⟨g, o, vs, F1, rfl, hgF, hx, -, hc⟩ := cL_get (hw := by decide) (hw2 := by decide) (Cod.bel m0 hbw) hkx
      obtain ⟨v1, F2, rfl, -, hok, m1⟩ := TCache.out hx
      have q0 : wr.cell? ⟨g, o + k * 2, none⟩ = some _ := (hc 0 _ rfl).1
      have q1 : wr.cell? ⟨g, o + k * 2 + 1, none⟩ = some _ := (hc 1 _ rfl).1
      clear hc hx
      cases he : (x.caches[k].ver == v)
      · have HI := Lib.hid he
        go_wp2
        go_roundw
        case rel => exact ⟨k + 1, by omega, by go_num, noneTo_succ _ x.caches k hkx HO.out HI.out, hB⟩
        case measure => simp [intOf]; omega
      · have HI := Lib.hid (idxP_hit (fun c : TCache => c.ver == v) x.caches k hkx HO.out he)
        go_wp2
        go_ret
        exact ⟨ret_int HI.out.symm, (by repeat (first | with_reducible exact Below.refl _ _ | with_reducible assumption | with_reducible refine bel_alloc ?_ _ | with_reducible refine bel_drew ?_ | with_reducible refine bel_drewN ?_ _ | (with_reducible refine bel_set ?_ ?_ _; rotate_left; ((try simp); (try omega)))))⟩
    · obtain rfl : k = n := by omega
      have HI := Lib.hid (idxP_miss (fun c : TCache => c.ver == v) x.caches (by rw [HN.out]; exact HO.out))
      go_wp2
      go_ret
      exact ⟨ret_int HI.out.symm, (by repeat (first | with_reducible exact Below.refl _ _ | with_reducible assumption | with_reducible refine bel_alloc ?_ _ | with_reducible refine bel_drew ?_ | with_reducible refine bel_drewN ?_ _ | (with_reducible refine bel_set ?_ ?_ _; rotate_left; ((try simp); (try omega)))))⟩
end Go.Proofs.Ytlicnppfgfjkgaa
