/-
  Rows that a call owns, read through a codec; append onto them. No conditions.
-/
import Derived.Test.YteipaolcmjfhdaaMem
import Derived.Maps.AppendAt
import Derived.Deep.AppendLies
import Derived.ArgAppend
import Derived.RegionTactic
import Derived.OwnWalk
namespace Go.Proofs.Yteipaolcmjfhdaa
open Go.RowKit
set_option linter.unusedVariables false

/-- the block that an append may write in place -/
def ownB : Value → Option Nat
  | .slice (some a) _ (_ + 1) => some a.block
  | _ => none

theorem ownB_own : ∀ {v : Value} {g : Nat}, ownB v = some g → v.ownBlock = some g
  | .slice (some a) _ (_ + 1), _, h => h
  | .slice (some a) _ 0, _, h => by simp [ownB] at h
  | .slice none _ _, _, h => by simp [ownB] at h

section
variable {α : Type}
def Own (c : Cod α) (e : TypeId) (B : Nat) (w : World) (v : Value) (xs : List α) (Fi : List Nat) : Prop :=
  (xs = [] ∧ Fi = [] ∧ ∃ A, v = .slice A 0 0) ∨ ∃ us, w.ownsRow B e c.wd v xs.length us ∧ c.reps w us xs Fi

variable {c : Cod α} {e : TypeId} {B : Nat} {w w' : World} {v : Value} {xs ys : List α} {Fi Fy : List Nat}

theorem Own.empty (A : Option Addr) : Own c e B w (.slice A 0 0) [] [] := .inl ⟨rfl, rfl, A, rfl⟩
/-- The forms of an owned row. -/
theorem Own.form (h : Own c e B w v xs Fi) : (xs = [] ∧ Fi = [] ∧ ∃ A, v = .slice A 0 0) ∨
    ∃ g cap cur us, v = .slice (some ⟨g, 0, none⟩) xs.length (cap + 1) ∧ B ≤ g ∧ w.heap[g]? = some (.cells cur e) ∧ xs.length ≤ cap + 1 ∧ cap + 1 ≤ maxLen ∧
      cur.size = (cap + 1) * c.wd ∧ cur.toList.take (xs.length * c.wd) = us ∧ w.ownsRow B e c.wd v xs.length us ∧ c.reps w us xs Fi := by
  rcases h with h | ⟨us, h, hr⟩
  · exact .inl h
  · have h' := h
    obtain ⟨hl, ⟨rfl, hn⟩ | ⟨g, cap, cur, rfl, hB, hg, hnc, hcm, hsz, ht⟩⟩ := h'
    · have hx : xs = [] := List.eq_nil_of_length_eq_zero hn
      subst hx
      exact .inl ⟨rfl, hr.2, none, rfl⟩
    · cases cap with
      | zero =>
        have hx : xs = [] := List.eq_nil_of_length_eq_zero (by omega)
        subst hx
        exact .inl ⟨rfl, hr.2, _, rfl⟩
      | succ cap => exact .inr ⟨g, cap, cur, us, rfl, hB, hg, hnc, hcm, hsz, ht, h, hr⟩
theorem Own.slice (h : Own c e B w v xs Fi) : ∃ A cp, v = .slice A xs.length cp := by
  rcases h.form with ⟨rfl, -, A, rfl⟩ | ⟨g, cap, cur, us, rfl, -⟩
  · exact ⟨A, 0, rfl⟩
  · exact ⟨_, _, rfl⟩
theorem Own.lt (h : Own c e B w v xs Fi) : ∀ g, ownB v = some g → B ≤ g ∧ g < w.heap.size := by
  intro g hg
  rcases h.form with ⟨-, -, A, rfl⟩ | ⟨g', cap, cur, us, rfl, hB, hh, -⟩
  · cases A <;> simp [ownB] at hg
  · simp only [ownB, Option.some.injEq] at hg
    subst hg
    exact ⟨hB, (Array.getElem?_eq_some_iff.1 hh).1⟩
theorem Own.inner_lt (h : Own c e B w v xs Fi) : ∀ b, b ∈ Fi → b < w.heap.size := by
  intro b hb
  rcases h.form with ⟨-, rfl, -⟩ | ⟨g', cap, cur, us, -, -, -, -, -, -, -, -, hr⟩
  · simp at hb
  · exact Cod.reps_lt hr b hb
theorem Own.mono {B' : Nat} (h : Own c e B w v xs Fi) (hB : B' ≤ B) : Own c e B' w v xs Fi := by
  rcases h with h | ⟨us, ⟨hl, h⟩, hr⟩
  · exact .inl h
  · refine .inr ⟨us, ⟨hl, ?_⟩, hr⟩
    rcases h with h | ⟨g, cap, cur, h1, h2, h3⟩
    · exact .inl h
    · exact .inr ⟨g, cap, cur, h1, Nat.le_trans hB h2, h3⟩
/-- kept where its blocks are -/
theorem Own.keep (h : Own c e B w v xs Fi) (hg : ∀ g, ownB v = some g → w'.heap[g]? = w.heap[g]?) (hi : ∀ b, b ∈ Fi → w'.heap[b]? = w.heap[b]?) : Own c e B w' v xs Fi := by
  rcases h.form with h | ⟨g, cap, cur, us, rfl, hB, hh, hn, hm, hs, ht, ho, hr⟩
  · exact .inl h
  · exact .inr ⟨us, ⟨ho.1, .inr ⟨g, cap + 1, cur, rfl, hB, (hg g rfl).trans hh, hn, hm, hs, ht⟩⟩, Cod.reps_keep hr hi⟩
theorem Own.bel (h : Own c e B w v xs Fi) (hb : Below w.heap.size w w') : Own c e B w' v xs Fi :=
  h.keep (fun g hg => hb.block g (h.lt g hg).2) (fun b hm => hb.block b (h.inner_lt b hm))
theorem Own.grown (h : Own c e B w v xs Fi) {row : Option Nat} (hg : w.grownBy w' row) (hne : ∀ g, row = some g → ownB v ≠ some g ∧ g ∉ Fi) : Own c e B w' v xs Fi :=
  h.keep (fun g hv => hg.block g (h.lt g hv).2 (fun e => (hne g e.symm).1 hv)) (fun b hm => hg.block b (h.inner_lt b hm) (fun e => (hne b e.symm).2 hm))
/-- what it reads as -/
theorem Own.rep {hw : 0 < c.wd} {hw2 : c.wd ≤ 32} (h : Own c e B w v xs Fi) : ∃ F, (cL c hw hw2).rep w [v] xs F ∧ (∀ b, b ∈ F → ownB v = some b ∨ b ∈ Fi) ∧ ((∀ g, ownB v = some g → g ∉ Fi) → Fi.Nodup → F.Nodup) := by
  rcases h.form with ⟨rfl, rfl, A, rfl⟩ | ⟨g, cap, cur, us, rfl, hB, hh, hn, hm, hs, ht, ho, hr⟩
  · exact ⟨[], ⟨A, 0, rfl, Nat.le_refl _, by decide, .inl ⟨rfl, rfl⟩⟩, by simp, by simp⟩
  · cases xs with
    | nil => exact ⟨[], ⟨_, cap + 1, rfl, hn, hm, .inl ⟨rfl, rfl⟩⟩, by simp, by simp⟩
    | cons x xs =>
      refine ⟨g :: Fi, ⟨_, cap + 1, rfl, hn, hm, .inr ⟨by simp, g, 0, Fi, us, rfl, rfl, fun j u hu => ?_, hr⟩⟩, fun b hb => ?_, fun h1 h2 => ?_⟩
      · have hj := (List.getElem?_eq_some_iff.1 hu).1
        rw [ho.1] at hj
        rw [Nat.zero_add]
        exact ⟨(ho.cellAt j hj).trans hu, ho.frozenAt j⟩
      · rcases List.mem_cons.1 hb with rfl | hb
        · exact .inl rfl
        · exact .inr hb
      · exact List.nodup_cons.2 ⟨h1 g rfl, h2⟩

/-- blocks that are the call's own -/
theorem Own.fresh {hw : 0 < c.wd} {hw2 : c.wd ≤ 32} (h : Own c e B w v xs []) : ∃ F, (cL c hw hw2).rep w [v] xs F ∧ Fresh B F ∧ ∀ b, b ∈ F → ownB v = some b := by
  obtain ⟨F, h1, h2, h3⟩ := h.rep (hw := hw) (hw2 := hw2)
  have h4 : ∀ b, b ∈ F → ownB v = some b := fun b hb => by
    rcases h2 b hb with h | h
    · exact h
    · simp at h
  exact ⟨F, h1, ⟨fun b hb => (h.lt b (h4 b hb)).1, h3 (by simp) (by simp)⟩, h4⟩
end

theorem belB_alloc {B : Nat} {a w : World} (hB : B ≤ a.heap.size) (h : Below B a w) (o : Obj) : Below B a (w.alloc o) := h.trans ((bel_alloc (Below.refl _ _) o).mono (Nat.le_trans hB h.size))
theorem belB_drew {B : Nat} {a w : World} (h : Below B a w) : Below B a w.drew := h.drew
theorem belB_drewN {B : Nat} {a w : World} (h : Below B a w) (n : Nat) : Below B a (w.drewN n) := ⟨h.os, h.tape, h.output, h.size, h.block⟩
theorem belB_set {B : Nat} {a w : World} {p : Addr} (hp : B ≤ p.block) (h : Below B a w) (u : Value) : Below B a (w.setCell p u) :=
  h.trans ⟨rfl, rfl, rfl, by simp, fun i hi => Below.heap_setCell _ _ _ _ (by omega)⟩
theorem belB_then {B : Nat} {a w w' : World} (hB : B ≤ a.heap.size) (h : Below B a w) (k : Below w.heap.size w w') : Below B a w' := h.trans (k.mono (Nat.le_trans hB h.size))
theorem Own.keepF {α : Type} {c : Cod α} {e : TypeId} {B : Nat} {w w' : World} {v : Value} {xs : List α} (h : Own c e B w v xs []) (hk : Keep B w w') : Own c e B w' v xs [] :=
  h.keep (fun g hg => hk.block g (h.lt g hg).1 (h.lt g hg).2) (fun b hb => by simp at hb)

theorem Own.set_ {α : Type} {c : Cod α} {e : TypeId} {B : Nat} {w : World} {v : Value} {xs : List α} (h : Own c e B w v xs []) {p : Addr} (hp : ownB v ≠ some p.block) (u : Value) : Own c e B (w.setCell p u) v xs [] :=
  h.keep (fun g hg => Below.heap_setCell _ _ _ _ (fun e => hp (e ▸ hg))) (fun b hb => by simp at hb)

/-! ### append -/
section
variable {α : Type} {c : Cod α} {e : TypeId} {B : Nat} {v : Value} {xs ys : List α} {Fi Fy : List Nat} {P : Program} (w : World)

theorem run_append_zero (t ty e : TypeId) (i : TypeInfo) (ht : P.underlying t = some (.slice e)) (hi : P.info? e = some i) (A D : Option Addr) (n cap d : Nat) (hn : n ≤ cap) :
    (Builtin.append_ #[t, t] ty #[.slice A n cap, .slice D 0 d]).run P w = .ok (.slice A n cap) w := by
  cases A <;> cases D <;> simp [Builtin.append_, run_underlying ht, sizeOf, typeInfo, hi, Builtin.lenOf, Builtin.firstCells, hn, storeCells, loadCells, loadCellsFrom]

/-- what is appended: nothing, or cells that lie in a row -/
def AppSrc (c : Cod α) (w : World) (x : Value) (ys : List α) (Fy : List Nat) : Prop :=
  ∃ A d news, x = .slice A ys.length d ∧ c.reps w news ys Fy ∧ (0 < ys.length → ∃ ad, A = some ad ∧ ∀ j u, news[j]? = some u → w.cell? (ad.add j) = some u)

theorem AppSrc.of_rep {hw : 0 < c.wd} {hw2 : c.wd ≤ 32} {x : Value} {F : List Nat} (h : (cL c hw hw2).rep w [x] ys F) : ∃ Fy, AppSrc c w x ys Fy ∧ ∀ b, b ∈ Fy → b ∈ F := by
  obtain ⟨A, cp, hx, hl, hm, ⟨rfl, rfl⟩ | ⟨hne, g, o, Fs, us, rfl, rfl, hc, hr⟩⟩ := h
  · simp only [List.cons.injEq, and_true] at hx
    subst hx
    exact ⟨[], ⟨A, cp, [], rfl, ⟨rfl, rfl⟩, fun h => by simp at h⟩, by simp⟩
  · simp only [List.cons.injEq, and_true] at hx
    subst hx
    refine ⟨Fs, ⟨_, cp, us, rfl, hr, fun _ => ⟨_, rfl, fun j u hu => ?_⟩⟩, fun b hb => by simp [hb]⟩
    rw [Addr.add_lit]; exact (hc j u hu).1

theorem run_app (t ty : TypeId) (i : TypeInfo) (z : Value) (bytes : Nat) (ht : P.underlying t = some (.slice e)) (hi : P.info? e = some i) (hz : i.zero = some z)
    (hsize : i.size = c.wd) (hby : i.bytes = bytes) (hzs : z.cells.size = c.wd) (hw : 0 < c.wd)
    (hown : Own c e B w v xs Fi) (x : Value) (hx : AppSrc c w x ys Fy)
    (h63 : xs.length + ys.length ≤ maxLen) (hbytes : (xs.length + ys.length) * bytes ≤ 140737488355328) (hB : B ≤ w.heap.size)
    (hd : ∀ g, ownB v = some g → g ∉ Fi ∧ g ∉ Fy) :
    ∃ v' w', (Builtin.append_ #[t, t] ty #[v, x]).run P w = .ok v' w' ∧ Own c e B w' v' (xs ++ ys) (Fi ++ Fy) ∧ w.grownBy w' (ownB v) ∧
      (∀ g, ownB v' = some g → ownB v = some g ∨ w.heap.size ≤ g) := by
  obtain ⟨A, d, news, rfl, hr, hA⟩ := hx
  cases ys with
  | nil =>
    obtain rfl : Fy = [] := hr.2
    rcases hown.form with ⟨rfl, rfl, A', rfl⟩ | ⟨g, cap, cur, us, rfl, hBg, hg, hn, hm, hs, hu, ho, hro⟩
    · exact ⟨_, w, run_append_zero w t ty e i ht hi A' A 0 0 d (Nat.le_refl _), .inl ⟨rfl, rfl, A', rfl⟩, World.grownBy.refl w _, fun g h => .inl h⟩
    · exact ⟨_, w, run_append_zero w t ty e i ht hi _ A _ _ d hn, by simpa using hown, World.grownBy.refl w _, fun g h => .inl h⟩
  | cons y ys =>
    obtain ⟨ad, rfl, hc⟩ := hA (by simp)
    have hl := Cod.reps_len hr
    have h1 := Cod.reps_ones hr
    rcases hown.form with ⟨rfl, rfl, A', rfl⟩ | ⟨g, cap, cur, us, rfl, hBg, hg, hn, hm, hs, hu, ho, hro⟩
    · have key : ∃ v' w', (Builtin.append_ #[t, t] ty #[.slice A' 0 0, .slice (some ad) (y :: ys).length d]).run P w = .ok v' w' ∧ w'.ownsRow w.heap.size e c.wd v' (0 + (y :: ys).length) ([] ++ news) ∧ w.grownBy w' none := by
        cases A' with
        | none =>
          obtain ⟨v', w', k1, k2, k3, -⟩ := run_append_own (P := P) w w.heap.size t ty e i z c.wd bytes ht hi hz hsize hby hzs hw (.slice none 0 0) 0 [] ⟨by simp, .inl ⟨rfl, rfl⟩⟩ ad (y :: ys).length d news hl hc h1 (by simpa using h63) (by simpa using hbytes) (Nat.le_refl _)
          exact ⟨v', w', k1, k2, k3⟩
        | some b =>
          exact run_append_arg_grows (P := P) w t ty e i z c.wd bytes ht hi hz hsize hby hzs hw b 0 0 [] (by simp) (fun j u h => by simp at h) ad (y :: ys).length d news hl hc (by simp) (by simpa using h63) (by simpa using hbytes)
      obtain ⟨v', w', k1, k2, k3⟩ := key
      have hown' : Own c e w.heap.size w' v' (y :: ys) Fy := by
        refine .inr ⟨news, by simpa using k2, Cod.reps_keep hr fun b hb => k3.block b (Cod.reps_lt hr b hb) (by simp)⟩
      refine ⟨v', w', k1, by simpa using hown'.mono hB, by cases A' <;> exact k3, fun g h => .inr (hown'.lt g h).1⟩
    · obtain ⟨v', w', k1, k2, k3, -, k5⟩ := run_append_own_at (P := P) w B t ty e i z c.wd bytes ht hi hz hsize hby hzs hw _ xs.length us ho ad (y :: ys).length d news hl hc h1 h63 hbytes hB
      have hdg := hd g rfl
      refine ⟨v', w', k1, ?_, k3, fun g' h => ?_⟩
      · refine .inr ⟨us ++ news, by rw [List.length_append]; exact k2, Cod.reps_app (Cod.reps_keep hro fun b hb => k3.block b (Cod.reps_lt hro b hb) (fun h => ?_)) (Cod.reps_keep hr fun b hb => k3.block b (Cod.reps_lt hr b hb) (fun h => ?_))⟩
        · simp only [Value.ownBlock, Option.some.injEq] at h; subst h; exact hdg.1 hb
        · simp only [Value.ownBlock, Option.some.injEq] at h; subst h; exact hdg.2 hb
      · have h2 := ownB_own h
        rcases k5 with k5 | k5
        · rw [k5] at h2; exact .inl h2
        · rw [k5, Option.some.injEq] at h2; exact .inr (by omega)

theorem wp_app {o : Oper} {a : Act} {K : Act → World → Prop} {Q : Exit → Act → World → Prop} (s x' : Operand) (t : TypeId)
    (ho : o.op = .call { callee := .builtin .append, args := #[s, x'], argTypes := #[t, t] })
    (i : TypeInfo) (z : Value) (bytes : Nat) (ht : P.underlying t = some (.slice e)) (hi : P.info? e = some i) (hz : i.zero = some z)
    (hsize : i.size = c.wd) (hby : i.bytes = bytes) (hzs : z.cells.size = c.wd) (hw : 0 < c.wd)
    (hs : a.eval s = v) (hown : Own c e B w v xs Fi) (x : Value) (hx' : a.eval x' = x) (hx : AppSrc c w x ys Fy)
    (h63 : xs.length + ys.length ≤ maxLen) (hbytes : (xs.length + ys.length) * bytes ≤ 140737488355328) (hB : B ≤ w.heap.size)
    (hd : ∀ g, ownB v = some g → g ∉ Fi ∧ g ∉ Fy)
    (h : ∀ v' w', Own c e B w' v' (xs ++ ys) (Fi ++ Fy) → w.grownBy w' (ownB v) → (∀ g, ownB v' = some g → ownB v = some g ∨ w.heap.size ≤ g) → K (a.put o.dst v') w') : o.wp P a w K Q := by
  obtain ⟨v', w', hrun, h2, h3, h4⟩ := run_app (P := P) w t o.type i z bytes ht hi hz hsize hby hzs hw hown x hx h63 hbytes hB hd
  unfold Oper.wp execOp
  simp only [ho, resolve, invoke, builtin, Sem.run_bind, Sem.run_pure, Result.andThen_ok, List.map_toArray, List.map_cons, List.map_nil, hs, hx', hrun]
  exact h v' w' h2 h3 h4
theorem wpList_app {ops : Array Oper} {rest : List Oper} {o : Oper} {a : Act} {Q : Exit → Act → World → Prop} (hgd : o.guard = none) (s x' : Operand) (t : TypeId)
    (ho : o.op = .call { callee := .builtin .append, args := #[s, x'], argTypes := #[t, t] })
    (i : TypeInfo) (z : Value) (bytes : Nat) (ht : P.underlying t = some (.slice e)) (hi : P.info? e = some i) (hz : i.zero = some z)
    (hsize : i.size = c.wd) (hby : i.bytes = bytes) (hzs : z.cells.size = c.wd) (hw : 0 < c.wd)
    (hs : a.eval s = v) (hown : Own c e B w v xs Fi) (x : Value) (hx' : a.eval x' = x) (hx : AppSrc c w x ys Fy)
    (h63 : xs.length + ys.length ≤ maxLen) (hbytes : (xs.length + ys.length) * bytes ≤ 140737488355328) (hB : B ≤ w.heap.size)
    (hd : ∀ g, ownB v = some g → g ∉ Fi ∧ g ∉ Fy)
    (h : ∀ v' w', Own c e B w' v' (xs ++ ys) (Fi ++ Fy) → w.grownBy w' (ownB v) → (∀ g, ownB v' = some g → ownB v = some g ∨ w.heap.size ≤ g) → wpList P ops Q rest (a.put o.dst v') w') : wpList P ops Q (o :: rest) a w :=
  wpList_plain hgd fun _ hK => wp_app w s x' t ho i z bytes ht hi hz hsize hby hzs hw hs hown x hx' hx h63 hbytes hB hd fun v' w' h2 h3 h4 => hK _ _ (h v' w' h2 h3 h4)
theorem step_app {ops : Array Oper} {o : Oper} {a : Act} {K : Act → World → Prop} {Q : Exit → Act → World → Prop} {E : Prop} (hgd : o.guard = none) (s x' : Operand) (t : TypeId)
    (ho : o.op = .call { callee := .builtin .append, args := #[s, x'], argTypes := #[t, t] })
    (i : TypeInfo) (z : Value) (bytes : Nat) (ht : P.underlying t = some (.slice e)) (hi : P.info? e = some i) (hz : i.zero = some z)
    (hsize : i.size = c.wd) (hby : i.bytes = bytes) (hzs : z.cells.size = c.wd) (hw : 0 < c.wd)
    (hs : a.eval s = v) (hown : Own c e B w v xs Fi) (x : Value) (hx' : a.eval x' = x) (hx : AppSrc c w x ys Fy)
    (h63 : xs.length + ys.length ≤ maxLen) (hbytes : (xs.length + ys.length) * bytes ≤ 140737488355328) (hB : B ≤ w.heap.size)
    (hd : ∀ g, ownB v = some g → g ∉ Fi ∧ g ∉ Fy)
    (h : ∀ v' w', Own c e B w' v' (xs ++ ys) (Fi ++ Fy) → w.grownBy w' (ownB v) → (∀ g, ownB v' = some g → ownB v = some g ∨ w.heap.size ≤ g) → K (a.put o.dst v') w') :
    if Region.wanted o (yielded ops a.tmps) = true then Oper.wp P o a w K Q else E := by
  have hw' : Region.wanted o (yielded ops a.tmps) = true := by simp [Region.wanted, hgd]
  rw [if_pos hw']
  exact wp_app w s x' t ho i z bytes ht hi hz hsize hby hzs hw hs hown x hx' hx h63 hbytes hB hd h
end

/-! ### Flat values: their cells alone, no blocks -/
def Flat {α : Type} (c : Cod α) : Prop := ∀ {w vs x F}, c.rep w vs x F → F = []
theorem flat_I : Flat cI := fun h => h.2.1
theorem flat_S : Flat cS := fun h => h.2.1
theorem flat_U : Flat cU := fun h => h.2
theorem Flat.reps {α : Type} {c : Cod α} (hf : Flat c) {w : World} : ∀ {us : List Value} {xs : List α} {F : List Nat}, c.reps w us xs F → F = []
  | us, [], F, h => h.2
  | us, x :: xs, F, ⟨v1, v2, F1, F2, _, hF, h1, h2⟩ => by rw [hF, hf h1, Flat.reps hf h2]; rfl
theorem AppSrc.flat {α : Type} {c : Cod α} {hw : 0 < c.wd} {hw2 : c.wd ≤ 32} (hf : Flat c) {w : World} {x : Value} {ys : List α} {F : List Nat} (h : (cL c hw hw2).rep w [x] ys F) : AppSrc c w x ys [] := by
  obtain ⟨Fy, h1, -⟩ := AppSrc.of_rep _ h
  obtain ⟨A, d, news, e1, hr, hA⟩ := h1
  obtain rfl := hf.reps hr
  exact ⟨A, d, news, e1, hr, hA⟩

/-! ### A slice cut -/
theorem cL_cut {α : Type} {c : Cod α} {hw : 0 < c.wd} {hw2 : c.wd ≤ 32} {w : World} {A : Option Addr} {n cp : Nat} {xs : List α} {F : List Nat}
    (h : (cL c hw hw2).rep w [.slice A n cp] xs F) (k : Nat) (hk : k ≤ n) : ∃ G, (cL c hw hw2).rep w [.slice (if cp = k then A else A.map (·.add (k * c.wd))) (n - k) (cp - k)] (xs.drop k) G ∧ (∀ b, b ∈ G → b ∈ F) ∧ (F.Nodup → G.Nodup) := by
  obtain ⟨A', cp', hv, hl, hm, hr⟩ := h
  simp only [List.cons.injEq, Value.slice.injEq, and_true] at hv
  obtain ⟨rfl, rfl, rfl⟩ := hv
  have hlen : (xs.drop k).length = xs.length - k := List.length_drop
  by_cases hd : xs.drop k = []
  · exact ⟨[], ⟨_, _, by rw [hlen], by rw [hlen]; omega, by omega, .inl ⟨hd, rfl⟩⟩, by simp, by simp⟩
  · rcases hr with ⟨rfl, -⟩ | ⟨hne, g, o, Fs, us, rfl, rfl, hc, hr⟩
    · simp at hd
    · rw [← List.take_append_drop k xs] at hr
      obtain ⟨u1, u2, F1, F2, rfl, rfl, h1, h2⟩ := Cod.reps_cut hr
      have hl1 := Cod.reps_len h1
      rw [List.length_take, Nat.min_eq_left hk] at hl1
      have hpos : 0 < (xs.drop k).length := List.length_pos_iff.2 hd
      refine ⟨g :: F2, ⟨_, _, by rw [hlen], by rw [hlen]; omega, by omega, .inr ⟨hd, g, o + k * c.wd, F2, u2, ?_, rfl, ?_, h2⟩⟩, fun b hb => ?_, fun hnd => ?_⟩
      · rw [if_neg (by omega)]; simp [Addr.add_lit]
      · rw [← hl1]; exact hc.right
      · rcases List.mem_cons.1 hb with rfl | hb
        · simp
        · simp [hb]
      · rw [List.nodup_cons, List.nodup_append] at hnd
        exact List.nodup_cons.2 ⟨fun hm => hnd.1 (by simp [hm]), hnd.2.2.1⟩
end Go.Proofs.Yteipaolcmjfhdaa
