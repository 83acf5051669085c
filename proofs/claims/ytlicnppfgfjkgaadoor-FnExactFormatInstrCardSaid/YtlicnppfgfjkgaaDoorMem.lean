/-
  Memory words: what a call may have turned, a block known whole, a row that is written element by element. No conditions.
-/
import Derived.Test.YtlicnppfgfjkgaaDoorOpen
import Derived.Laws.Rows
import Derived.Laws.MakeOwn
namespace Go.Proofs.YtlicnppfgfjkgaaDoor
open Go.RowKit

/-! ### Only some blocks have turned -/
structure Only (F : List Nat) (w w' : World) : Prop where
  os : w'.os = w.os
  tape : w'.tape = w.tape
  output : w'.output = w.output
  size : w.heap.size ≤ w'.heap.size
  block : ∀ b, b < w.heap.size → b ∉ F → w'.heap[b]? = w.heap[b]?

theorem Only.refl (F : List Nat) (w : World) : Only F w w := ⟨rfl, rfl, rfl, Nat.le_refl _, fun _ _ _ => rfl⟩
theorem Only.of_below {F : List Nat} {w w' : World} (h : Below w.heap.size w w') : Only F w w' := ⟨h.os, h.tape, h.output, h.size, fun b hb _ => h.block b hb⟩
theorem Only.trans {F : List Nat} {a b c : World} (h : Only F a b) (k : Only F b c) : Only F a c :=
  ⟨k.os.trans h.os, k.tape.trans h.tape, k.output.trans h.output, Nat.le_trans h.size k.size, fun i hi hn => (k.block i (Nat.lt_of_lt_of_le hi h.size) hn).trans (h.block i hi hn)⟩
theorem Only.mono {F G : List Nat} {a b : World} (h : Only F a b) (hs : ∀ x, x ∈ F → x ∈ G) : Only G a b := ⟨h.os, h.tape, h.output, h.size, fun i hi hn => h.block i hi fun hf => hn (hs i hf)⟩
theorem Only.alloc {F : List Nat} {a b : World} (h : Only F a b) (o : Obj) : Only F a (b.alloc o) := h.trans (.of_below (bel_alloc (Below.refl _ _) o))
theorem Only.drew {F : List Nat} {a b : World} (h : Only F a b) : Only F a b.drew := ⟨h.os, h.tape, h.output, h.size, h.block⟩
theorem Only.drewN {F : List Nat} {a b : World} (h : Only F a b) (n : Nat) : Only F a (b.drewN n) := ⟨h.os, h.tape, h.output, h.size, h.block⟩
theorem Only.set_ {F : List Nat} {a b : World} (h : Only F a b) {p : Addr} (hp : p.block ∈ F) (u : Value) : Only F a (b.setCell p u) :=
  h.trans ⟨rfl, rfl, rfl, by simp, fun i _ hn => Below.heap_setCell _ _ _ _ (fun e => hn (e ▸ hp))⟩
theorem Only.bel {F : List Nat} {a b : World} (h : Only F a b) (B : Nat) (hB : B ≤ a.heap.size) (hF : ∀ x, x ∈ F → B ≤ x) : Below B a b :=
  ⟨h.os, h.tape, h.output, h.size, fun k hk => h.block k (by omega) fun hf => by have := hF k hf; omega⟩

/-! ### Readings kept -/
theorem Cod.bel {α : Type} {c : Cod α} {w w' : World} {vs : List Value} {x : α} {F : List Nat} (h : c.rep w vs x F) (hb : Below w.heap.size w w') : c.rep w' vs x F :=
  c.keep h fun b hm => hb.block b (c.lt h b hm)
theorem Cod.only {α : Type} {c : Cod α} {w w' : World} {vs : List Value} {x : α} {F G : List Nat} (h : c.rep w vs x F) (hb : Only G w w') (hd : ∀ b, b ∈ F → b ∉ G) : c.rep w' vs x F :=
  c.keep h fun b hm => hb.block b (c.lt h b hm) (hd b hm)
theorem Cod.reps_bel {α : Type} {c : Cod α} {w w' : World} {vs : List Value} {x : List α} {F : List Nat} (h : c.reps w vs x F) (hb : Below w.heap.size w w') : c.reps w' vs x F :=
  Cod.reps_keep h fun b hm => hb.block b (Cod.reps_lt h b hm)

/-- blocks of a call's own, none twice -/
def Fresh (B : Nat) (F : List Nat) : Prop := (∀ b, b ∈ F → B ≤ b) ∧ F.Nodup
theorem Fresh.nil (B : Nat) : Fresh B [] := ⟨fun b h => by simp at h, List.nodup_nil⟩
theorem Fresh.mono {B B' : Nat} {F : List Nat} (h : Fresh B F) (hB : B' ≤ B) : Fresh B' F := ⟨fun b hb => Nat.le_trans hB (h.1 b hb), h.2⟩
theorem Fresh.app {B C : Nat} {F G : List Nat} (h : Fresh B F) (hlt : ∀ b, b ∈ F → b < C) (k : Fresh C G) (hBC : B ≤ C) : Fresh B (F ++ G) :=
  ⟨fun b hb => by
    rcases List.mem_append.1 hb with hb | hb
    · exact h.1 b hb
    · exact Nat.le_trans hBC (k.1 b hb),
   List.nodup_append.2 ⟨h.2, k.2, fun a ha b hb e => by have := hlt a ha; have := k.1 b hb; omega⟩⟩

/-- A call returns a value of one cell that reads as x, in memory of its own. -/
def GivesS {α : Type} (c : Cod α) (w : World) (x : α) (e : Ending) (w' : World) : Prop :=
  ∃ v F, e = .returned v ∧ Below w.heap.size w w' ∧ c.rep w' [v] x F ∧ Fresh w.heap.size F
/-- .. a struct. -/
def GivesR {α : Type} (c : Cod α) (w : World) (x : α) (e : Ending) (w' : World) : Prop :=
  ∃ vs F, e = .returned (.agg vs) ∧ Below w.heap.size w w' ∧ c.rep w' vs.toList x F ∧ Fresh w.heap.size F

/-- From block L on nothing that was there has turned. -/
structure Keep (L : Nat) (w w' : World) : Prop where
  size : w.heap.size ≤ w'.heap.size
  block : ∀ b, L ≤ b → b < w.heap.size → w'.heap[b]? = w.heap[b]?
theorem Keep.refl (L : Nat) (w : World) : Keep L w w := ⟨Nat.le_refl _, fun _ _ _ => rfl⟩
theorem Keep.mono {L L' : Nat} {w w' : World} (h : Keep L w w') (hL : L ≤ L') : Keep L' w w' := ⟨h.size, fun b h1 h2 => h.block b (Nat.le_trans hL h1) h2⟩
theorem Keep.bel {L : Nat} {a w w' : World} (h : Keep L a w) (hb : Below w.heap.size w w') : Keep L a w' :=
  ⟨Nat.le_trans h.size hb.size, fun b h1 h2 => (hb.block b (Nat.lt_of_lt_of_le h2 h.size)).trans (h.block b h1 h2)⟩
theorem Keep.alloc {L : Nat} {a w : World} (h : Keep L a w) (o : Obj) : Keep L a (w.alloc o) := h.bel (bel_alloc (Below.refl _ _) o)
theorem Keep.drew {L : Nat} {a w : World} (h : Keep L a w) : Keep L a w.drew := h.bel (Below.refl _ _).drew
theorem Keep.drewN {L : Nat} {a w : World} (h : Keep L a w) (n : Nat) : Keep L a (w.drewN n) := h.bel (bel_drewN (Below.refl _ _) n)
theorem Keep.set_ {L : Nat} {a w : World} (h : Keep L a w) {p : Addr} (hp : p.block < L) (u : Value) : Keep L a (w.setCell p u) :=
  ⟨by simpa using h.size, fun b h1 h2 => (Below.heap_setCell _ _ _ _ (by omega)).trans (h.block b h1 h2)⟩
theorem Cod.keep2 {α : Type} {c : Cod α} {w w' : World} {vs : List Value} {x : α} {F : List Nat} {L : Nat} (h : c.rep w vs x F) (hf : Fresh L F) (hk : Keep L w w') : c.rep w' vs x F :=
  c.keep h fun b hm => hk.block b (hf.1 b hm) (c.lt h b hm)
theorem Fresh.then_ {B L : Nat} {F G : List Nat} {w1 : World} (h : Fresh B F) (hlt : ∀ b, b ∈ F → b < w1.heap.size) (hL : w1.heap.size ≤ L) (k : Fresh L G) (hBL : B ≤ L) : Fresh B (F ++ G) :=
  h.app (fun b hb => Nat.lt_of_lt_of_le (hlt b hb) hL) k hBL
theorem mem_lt {F G : List Nat} {a b : Nat} (h1 : ∀ x, x ∈ F → x < a) (h2 : ∀ x, x ∈ G → x < b) (hab : a ≤ b) : ∀ x, x ∈ F ++ G → x < b := fun x hx => by
  rcases List.mem_append.1 hx with hx | hx
  · have := h1 x hx; omega
  · exact h2 x hx

/-! ### Sizes -/
def Cod.sumSz {α : Type} (c : Cod α) : List α → Nat
  | [] => 0
  | x :: xs => c.sz x + c.sumSz xs
theorem Cod.szs_sum {α : Type} (c : Cod α) : ∀ xs : List α, c.szs xs = xs.length + c.sumSz xs
  | [] => rfl
  | x :: xs => by simp only [Cod.szs, Cod.sumSz, List.length_cons, Cod.szs_sum c xs]; omega
theorem Cod.szs_flat {α : Type} {c : Cod α} (h : ∀ x, c.sz x = 0) : ∀ xs : List α, c.szs xs = xs.length
  | [] => rfl
  | x :: xs => by simp [Cod.szs, h, Cod.szs_flat h xs, Nat.add_comm]
theorem Cod.len_le {α : Type} (c : Cod α) (xs : List α) : xs.length ≤ c.szs xs := by rw [Cod.szs_sum]; omega
theorem Cod.sz_mem {α : Type} (c : Cod α) : ∀ (xs : List α) (x : α), x ∈ xs → c.sz x ≤ c.szs xs
  | y :: ys, x, h => by
    simp only [Cod.szs]
    rcases List.mem_cons.1 h with rfl | h
    · omega
    · have := Cod.sz_mem c ys x h; omega
theorem Cod.sumSz_le {α : Type} (c : Cod α) (xs : List α) : ∀ k, c.sumSz (xs.take k) ≤ c.sumSz xs := by
  induction xs with
  | nil => intro k; simp
  | cons x xs ih =>
    intro k
    cases k with
    | zero => simp [Cod.sumSz]
    | succ k => simp only [List.take_succ_cons, Cod.sumSz]; have := ih k; omega
theorem Cod.sumSz_succ {α : Type} (c : Cod α) : ∀ (xs : List α) (k : Nat) (h : k < xs.length), c.sumSz (xs.take (k + 1)) = c.sumSz (xs.take k) + c.sz xs[k]
  | x :: xs, 0, _ => by simp [Cod.sumSz]
  | x :: xs, k + 1, h => by
    have := Cod.sumSz_succ c xs k (by simpa using h)
    simp only [List.take_succ_cons, Cod.sumSz, List.getElem_cons_succ, this]; omega

/-- .. a struct and one, two values more; a slice and one value more. -/
def GivesR2 {α : Type} (c : Cod α) (w : World) (x : α) (r1 : Value) (e : Ending) (w' : World) : Prop :=
  ∃ vs F, e = .returned (.tuple #[.agg vs, r1]) ∧ Below w.heap.size w w' ∧ c.rep w' vs.toList x F ∧ Fresh w.heap.size F
def GivesR3 {α : Type} (c : Cod α) (w : World) (x : α) (r1 r2 : Value) (e : Ending) (w' : World) : Prop :=
  ∃ vs F, e = .returned (.tuple #[.agg vs, r1, r2]) ∧ Below w.heap.size w w' ∧ c.rep w' vs.toList x F ∧ Fresh w.heap.size F
def GivesS2 {α : Type} (c : Cod α) (w : World) (x : α) (r1 : Value) (e : Ending) (w' : World) : Prop :=
  ∃ v F, e = .returned (.tuple #[v, r1]) ∧ Below w.heap.size w w' ∧ c.rep w' [v] x F ∧ Fresh w.heap.size F

/-! ### A slice's cells -/
section
variable {α : Type} {c : Cod α} {hw : 0 < c.wd} {hw2 : c.wd ≤ 32} {w : World} {A : Option Addr} {n cp : Nat} {xs : List α} {F : List Nat}

theorem cL_len (h : (cL c hw hw2).rep w [.slice A n cp] xs F) : n = xs.length ∧ n ≤ cp ∧ cp ≤ maxLen := by
  obtain ⟨A', cp', hv, hl, hm, _⟩ := h
  simp only [List.cons.injEq, Value.slice.injEq, and_true] at hv
  obtain ⟨rfl, rfl, rfl⟩ := hv
  exact ⟨rfl, hl, hm⟩
theorem cL_form {v : Value} (h : (cL c hw hw2).rep w [v] xs F) : ∃ A cp, v = .slice A xs.length cp := by
  obtain ⟨A', cp', hv, _⟩ := h
  simp only [List.cons.injEq, and_true] at hv
  exact ⟨A', cp', hv⟩
theorem cL_get (h : (cL c hw hw2).rep w [.slice A n cp] xs F) {k : Nat} (hk : k < xs.length) :
    ∃ g o vs F1, A = some ⟨g, o, none⟩ ∧ g ∈ F ∧ c.rep w vs xs[k] F1 ∧ (∀ b, b ∈ F1 → b ∈ F) ∧
      ∀ j v, vs[j]? = some v → w.cell? ⟨g, o + k * c.wd + j, none⟩ = some v ∧ w.frozen? ⟨g, o + k * c.wd + j, none⟩ = false := by
  obtain ⟨A', cp', hv, hl, hm, hr⟩ := h
  simp only [List.cons.injEq, Value.slice.injEq, and_true] at hv
  obtain ⟨rfl, rfl, rfl⟩ := hv
  rcases hr with ⟨rfl, _⟩ | ⟨_, g, o, Fs, us, rfl, rfl, hc, hr⟩
  · simp at hk
  · obtain ⟨vs, F1, h1, h2, h3⟩ := Cod.reps_get hr k hk
    refine ⟨g, o, vs, F1, rfl, by simp, h1, fun b hb => by simp [h2 b hb], fun j v hj => ?_⟩
    have := hc _ _ (h3 j v hj)
    rwa [← Nat.add_assoc] at this
end

/-! ### A block that is known whole -/
def Blk (w : World) (g : Nat) (t : TypeId) (cs : Array Value) : Prop := w.heap[g]? = some (.cells cs t (0, 0))
section
variable {w w' : World} {g : Nat} {t : TypeId} {cs : Array Value}
theorem Blk.lt (h : Blk w g t cs) : g < w.heap.size := (Array.getElem?_eq_some_iff.1 h).1
theorem Blk.cell (h : Blk w g t cs) (i : Nat) : w.cell? ⟨g, i, none⟩ = cs[i]? := cell_of_row w g i cs t (0, 0) h
theorem Blk.frozen (h : Blk w g t cs) (i : Nat) : w.frozen? ⟨g, i, none⟩ = false := by
  unfold Blk at h
  simp [World.frozen?, h]
theorem Blk.new (w : World) (t : TypeId) (cs : Array Value) : Blk (w.alloc (.cells cs t)) w.heap.size t cs := heap_alloc_new w _
theorem Blk.set_ (h : Blk w g t cs) (i : Nat) (u : Value) : Blk (w.setCell ⟨g, i, none⟩ u) g t (cs.setIfInBounds i u) := by
  unfold Blk at h ⊢
  simp [World.setCell, Array.getElem?_modify, h]
theorem Blk.bel (h : Blk w g t cs) (hb : Below w.heap.size w w') : Blk w' g t cs := (hb.block g h.lt).trans h
theorem Blk.only {F : List Nat} (h : Blk w g t cs) (hb : Only F w w') (hg : g ∉ F) : Blk w' g t cs := (hb.block g h.lt hg).trans h
end

/-- Cells written one behind the other. -/
def putCells (w : World) (g : Nat) : Nat → List Value → World
  | _, [] => w
  | i, v :: vs => putCells (w.setCell ⟨g, i, none⟩ v) g (i + 1) vs
def putRow (cs : Array Value) : Nat → List Value → Array Value
  | _, [] => cs
  | i, v :: vs => putRow (cs.setIfInBounds i v) (i + 1) vs
theorem Blk.put {g : Nat} {t : TypeId} : ∀ {w : World} {cs : Array Value} (i : Nat) (vs : List Value), Blk w g t cs → Blk (putCells w g i vs) g t (putRow cs i vs)
  | _, _, _, [], h => h
  | _, _, i, v :: vs, h => Blk.put (i + 1) vs (h.set_ i v)
theorem putRow_size : ∀ (cs : Array Value) (i : Nat) (vs : List Value), (putRow cs i vs).size = cs.size
  | _, _, [] => rfl
  | cs, i, v :: vs => by unfold putRow; rw [putRow_size]; simp
theorem putRow_take : ∀ (cs : Array Value) (i : Nat) (vs : List Value), i + vs.length ≤ cs.size → (putRow cs i vs).toList.take (i + vs.length) = cs.toList.take i ++ vs
  | cs, i, [], _ => by simp [putRow]
  | cs, i, v :: vs, h => by
    simp only [List.length_cons] at h
    unfold putRow
    have h1 : (cs.setIfInBounds i v).toList.take (i + 1) = cs.toList.take i ++ [v] := by
      have hl : i < (cs.setIfInBounds i v).toList.length := by simp; omega
      rw [List.take_succ_eq_append_getElem hl]
      congr 1
      · simp only [Array.toList_setIfInBounds, List.take_set]
        rw [List.set_eq_of_length_le (by simp; omega)]
      · simp
    have := putRow_take (cs.setIfInBounds i v) (i + 1) vs (by simp; omega)
    rw [List.length_cons, show i + (vs.length + 1) = i + 1 + vs.length by omega, this, h1, List.append_assoc]; rfl
theorem putCells_only {F : List Nat} {g : Nat} (hg : g ∈ F) : ∀ {a w : World} (i : Nat) (vs : List Value), Only F a w → Only F a (putCells w g i vs)
  | _, _, _, [], h => h
  | _, _, i, v :: vs, h => putCells_only hg (i + 1) vs (h.set_ (p := ⟨g, i, none⟩) hg v)

/-! ### A new row filled element by element -/
section
variable {α : Type} {c : Cod α} {w wr w1 : World} {E : TypeId} {n k : Nat} {xs : List α}

/-- The new block w.heap.size holds room for n elements; the first k are those of xs. -/
def Filled (c : Cod α) (w : World) (E : TypeId) (xs : List α) (k : Nat) (wr : World) : Prop :=
  ∃ cs Fs, Blk wr w.heap.size E cs ∧ cs.size = xs.length * c.wd ∧ c.reps wr (cs.toList.take (k * c.wd)) (xs.take k) Fs ∧ Fresh (w.heap.size + 1) Fs ∧ Below w.heap.size w wr

theorem Filled.start (cs : Array Value) (hcs : cs.size = xs.length * c.wd) : Filled c w E xs 0 (w.alloc (.cells cs E)) :=
  ⟨cs, [], Blk.new w E cs, hcs, by simp [Cod.reps], Fresh.nil _, bel_alloc (Below.refl _ _) _⟩
theorem Filled.bel (h : Filled c w E xs k wr) : Below w.heap.size w wr := by
  obtain ⟨_, _, _, _, _, _, h⟩ := h; exact h
theorem Filled.lt (h : Filled c w E xs k wr) : w.heap.size < wr.heap.size := by
  obtain ⟨_, _, h, _⟩ := h; exact h.lt
theorem Filled.cell (h : Filled c w E xs k wr) (hk : k < xs.length) (hb : Below wr.heap.size wr w1) : ∀ j, j < c.wd → (∃ v, w1.cell? ⟨w.heap.size, k * c.wd + j, none⟩ = some v) ∧ w1.frozen? ⟨w.heap.size, k * c.wd + j, none⟩ = false := by
  obtain ⟨cs, Fs, hblk, hcs, _⟩ := h
  intro j hj
  have hlt : k * c.wd + j < cs.size := by
    rw [hcs]
    have : (k + 1) * c.wd ≤ xs.length * c.wd := Nat.mul_le_mul_right _ hk
    rw [Nat.add_mul] at this; omega
  exact ⟨⟨cs[k * c.wd + j], by rw [(hblk.bel hb).cell, Array.getElem?_eq_getElem hlt]⟩, (hblk.bel hb).frozen _⟩
theorem Filled.step (h : Filled c w E xs k wr) (hk : k < xs.length) (hb : Below wr.heap.size wr w1) {vs : List Value} {F1 : List Nat} (hv : c.rep w1 vs xs[k] F1) (hf : Fresh wr.heap.size F1) :
    Filled c w E xs (k + 1) (putCells w1 w.heap.size (k * c.wd) vs) := by
  obtain ⟨cs, Fs, hblk, hcs, hr, hfr, hB⟩ := h
  have hl := c.len hv
  have hle : k * c.wd + c.wd ≤ cs.size := by
    rw [hcs]
    have : (k + 1) * c.wd ≤ xs.length * c.wd := Nat.mul_le_mul_right _ hk
    rwa [Nat.add_mul, Nat.one_mul] at this
  have ho : Only [w.heap.size] w1 (putCells w1 w.heap.size (k * c.wd) vs) := putCells_only (by simp) _ _ (Only.refl _ _)
  have hlt := hblk.lt
  refine ⟨putRow cs (k * c.wd) vs, Fs ++ F1, (hblk.bel hb).put _ _, by rw [putRow_size]; exact hcs, ?_, ?_, ?_⟩
  · rw [Nat.add_mul, Nat.one_mul, ← hl, putRow_take _ _ _ (by rw [hl]; exact hle), List.take_succ_eq_append_getElem hk]
    have k1 := Cod.reps_keep (Cod.reps_bel hr hb) (w' := putCells w1 w.heap.size (k * c.wd) vs) fun b hm => ho.block b (Nat.lt_of_lt_of_le (Cod.reps_lt hr b hm) hb.size) (by have := hfr.1 b hm; simp; omega)
    have k2 := c.keep hv (w' := putCells w1 w.heap.size (k * c.wd) vs) fun b hm => ho.block b (c.lt hv b hm) (by have := hf.1 b hm; simp; omega)
    rw [hl]
    exact Cod.reps_app k1 (Cod.reps_one k2)
  · exact hfr.app (fun b hm => Cod.reps_lt hr b hm) hf (by omega)
  · exact hB.trans ((hb.mono hB.size).trans (ho.bel _ (Nat.le_trans hB.size hb.size) (fun x hx => by simp at hx; omega)))
theorem Filled.done {hw : 0 < c.wd} {hw2 : c.wd ≤ 32} (h : Filled c w E xs xs.length wr) (hm : xs.length ≤ maxLen) :
    ∃ F, (cL c hw hw2).rep wr [.slice (some ⟨w.heap.size, 0, none⟩) xs.length xs.length] xs F ∧ Fresh w.heap.size F := by
  obtain ⟨cs, Fs, hblk, hcs, hr, hfr, hB⟩ := h
  rw [List.take_length, List.take_of_length_le (by simp [hcs])] at hr
  by_cases h0 : xs = []
  · subst h0
    exact ⟨[], ⟨_, _, rfl, Nat.le_refl _, hm, .inl ⟨rfl, rfl⟩⟩, Fresh.nil _⟩
  · refine ⟨w.heap.size :: Fs, ⟨_, _, rfl, Nat.le_refl _, hm, .inr ⟨h0, w.heap.size, 0, Fs, cs.toList, rfl, rfl, fun j u hu => ?_, hr⟩⟩, ?_, ?_⟩
    · rw [Nat.zero_add]
      exact ⟨by rw [hblk.cell]; simpa using hu, hblk.frozen _⟩
    · intro b hb
      rcases List.mem_cons.1 hb with rfl | hb
      · exact Nat.le_refl _
      · have := hfr.1 b hb; omega
    · exact List.nodup_cons.2 ⟨fun hm => by have := hfr.1 _ hm; omega, hfr.2⟩
end

theorem run_make_rowN {P : Program} (t e : TypeId) (i : TypeInfo) (z : Value) (ht : P.underlying t = some (.slice e)) (hi : P.info? e = some i) (hz : i.zero = some z)
    (kl kc : IntKind) (n c : Nat) (hnc : n ≤ c) (hbytes : i.bytes * c ≤ 281474976710656) (h63 : c ≤ 9223372036854775807) (w : World) :
    (Instr.makeSlice t (.int kl (n : Int)) (.int kc (c : Int))).run P w = .ok (.slice (some ⟨w.heap.size, 0, none⟩) n c) (w.alloc (.cells (madeCells z.cells (c * i.size)) e)) := by
  have hb : (i.bytes : Int) * (c : Int) ≤ 281474976710656 := by
    have h : ((i.bytes * c : Nat) : Int) ≤ 281474976710656 := by omega
    rwa [Int.natCast_mul] at h
  have hr := run_make (P := P) w t e i z ht hi hz kl kc n c (by omega) (by omega) hb (by omega)
  simp only [Int.toNat_natCast] at hr
  exact hr

end Go.Proofs.YtlicnppfgfjkgaaDoor
