/-
  Codecs: how memory cells read as Lean values, with the blocks that the reading meets. No conditions.
-/
import Derived.Test.YtlicnppfgfjkgaaDoorBase
namespace Go.Proofs.YtlicnppfgfjkgaaDoor
open Go.ChangeShapes Go.WideShapes Go.RowKit

/-! ### Cells in a row -/
def CellsAt (w : World) (g o : Nat) (us : List Value) : Prop :=
  ∀ j u, us[j]? = some u → w.cell? ⟨g, o + j, none⟩ = some u ∧ w.frozen? ⟨g, o + j, none⟩ = false

theorem CellsAt.keep {w w' : World} {g o : Nat} {us : List Value} (h : CellsAt w g o us) (hb : w'.heap[g]? = w.heap[g]?) : CellsAt w' g o us := by
  intro j u hu
  obtain ⟨h1, h2⟩ := h j u hu
  exact ⟨(World.cell?_of_block (w := w) (a := ⟨g, o + j, none⟩) hb).trans h1, (World.frozen?_of_block (w := w) (a := ⟨g, o + j, none⟩) hb).trans h2⟩

theorem CellsAt.lt {w : World} {g o : Nat} {us : List Value} (h : CellsAt w g o us) (hn : us ≠ []) : g < w.heap.size := by
  cases us with
  | nil => exact absurd rfl hn
  | cons u us =>
    have := (h 0 u rfl).1
    unfold World.cell? at this
    cases hh : w.heap[g]? with
    | none => simp [hh] at this
    | some x => exact (Array.getElem?_eq_some_iff.1 hh).1

theorem CellsAt.nil (w : World) (g o : Nat) : CellsAt w g o [] := fun _ _ h => by simp at h
theorem CellsAt.left {w : World} {g o : Nat} {us vs : List Value} (h : CellsAt w g o (us ++ vs)) : CellsAt w g o us := by
  intro j u hu
  exact h j u (by rw [List.getElem?_append_left (List.getElem?_eq_some_iff.1 hu).1]; exact hu)
theorem CellsAt.right {w : World} {g o : Nat} {us vs : List Value} (h : CellsAt w g o (us ++ vs)) : CellsAt w g (o + us.length) vs := by
  intro j u hu
  have := h (us.length + j) u (by rw [List.getElem?_append_right (by omega)]; simpa using hu)
  rwa [← Nat.add_assoc] at this
theorem CellsAt.app {w : World} {g o : Nat} {us vs : List Value} (h : CellsAt w g o us) (k : CellsAt w g (o + us.length) vs) : CellsAt w g o (us ++ vs) := by
  intro j u hu
  by_cases hj : j < us.length
  · exact h j u (by rwa [List.getElem?_append_left hj] at hu)
  · rw [List.getElem?_append_right (by omega)] at hu
    have := k (j - us.length) u hu
    rwa [Nat.add_assoc, Nat.add_sub_of_le (by omega)] at this

/-! ### Marks: the texts and numbers that the laws lay into memory -/
def mtGo : Nat → Nat → List UInt8 → List UInt8
  | 0, _, acc => acc
  | f + 1, k, acc => if k = 0 then acc else mtGo f (k / 10) (UInt8.ofNat (48 + k % 10) :: acc)
def markText (k : Int) : ByteArray := if k ≤ 0 then ⟨#[109, 48]⟩ else ⟨(109 :: mtGo k.toNat k.toNat []).toArray⟩
theorem mtGo_len : ∀ (f k : Nat) (acc : List UInt8), (mtGo f k acc).length ≤ f + acc.length
  | 0, _, acc => by simp [mtGo]
  | f + 1, k, acc => by
    unfold mtGo
    split
    · omega
    · have := mtGo_len f (k / 10) (UInt8.ofNat (48 + k % 10) :: acc)
      simp only [List.length_cons] at this
      omega
theorem mtGo_more : ∀ (f k : Nat) (acc : List UInt8), k ≤ f → mtGo f k acc = mtGo k k acc
  | 0, k, acc, h => by
    obtain rfl : k = 0 := by omega
    rfl
  | f + 1, k, acc, h => by
    cases k with
    | zero => simp [mtGo]
    | succ k =>
      have h10 : (k + 1) / 10 ≤ k := by omega
      have hf : (k + 1) / 10 ≤ f := by omega
      show (if k + 1 = 0 then acc else mtGo f ((k + 1) / 10) (UInt8.ofNat (48 + (k + 1) % 10) :: acc)) = (if k + 1 = 0 then acc else mtGo k ((k + 1) / 10) (UInt8.ofNat (48 + (k + 1) % 10) :: acc))
      rw [if_neg (by omega), if_neg (by omega), mtGo_more f _ _ hf, mtGo_more k _ _ h10]
theorem markText_size {k : Int} (h : k ≤ 1000000000) : (markText k).size ≤ maxLen := by
  unfold markText maxLen
  split
  · show 2 ≤ 2 ^ 63 - 1
    omega
  · have := mtGo_len k.toNat k.toNat []
    have e : (⟨(109 :: mtGo k.toNat k.toNat []).toArray⟩ : ByteArray).size = (mtGo k.toNat k.toNat []).length + 1 := by simp [ByteArray.size]
    rw [e]
    simp only [List.length_nil] at this
    omega

/-! ### Codecs -/
structure Cod (α : Type) where
  wd : Nat
  rep : World → List Value → α → List Nat → Prop
  sz : α → Nat
  mrk : Int → α → α
  cn : α → Nat
  mkcn : ∀ k x, cn (mrk k x) = cn x
  cnle : ∀ x, cn x ≤ wd + 32 * sz x
  len : ∀ {w vs x F}, rep w vs x F → vs.length = wd
  keep : ∀ {w w' vs x F}, rep w vs x F → (∀ b, b ∈ F → w'.heap[b]? = w.heap[b]?) → rep w' vs x F
  lt : ∀ {w vs x F}, rep w vs x F → ∀ b, b ∈ F → b < w.heap.size
  ones : ∀ {w vs x F}, rep w vs x F → ∀ v, v ∈ vs → v.oneCell' = true

def cI : Cod Int where
  wd := 1
  rep := fun _ vs n F => vs = [.int .i64 n] ∧ F = [] ∧ -9223372036854775808 ≤ n ∧ n ≤ 9223372036854775807
  sz := fun _ => 0
  mrk := fun k _ => k
  cn := fun _ => 1
  mkcn := fun _ _ => rfl
  cnle := fun _ => Nat.le_refl _
  len := fun h => by rw [h.1]; rfl
  keep := fun h _ => h
  lt := fun h b hb => by rw [h.2.1] at hb; simp at hb
  ones := fun h v hv => by rw [h.1] at hv; simp at hv; subst hv; rfl

def cU : Cod UInt8 where
  wd := 1
  rep := fun _ vs n F => vs = [.int .u8 (n.toNat : Int)] ∧ F = []
  sz := fun _ => 0
  mrk := fun k _ => UInt8.ofNat (k % 256).toNat
  cn := fun _ => 1
  mkcn := fun _ _ => rfl
  cnle := fun _ => Nat.le_refl _
  len := fun h => by rw [h.1]; rfl
  keep := fun h _ => h
  lt := fun h b hb => by rw [h.2] at hb; simp at hb
  ones := fun h v hv => by rw [h.1] at hv; simp at hv; subst hv; rfl

def cB : Cod Bool where
  wd := 1
  rep := fun _ vs b F => vs = [.bool b] ∧ F = []
  sz := fun _ => 0
  mrk := fun k _ => k % 3 == 0
  cn := fun _ => 1
  mkcn := fun _ _ => rfl
  cnle := fun _ => Nat.le_refl _
  len := fun h => by rw [h.1]; rfl
  keep := fun h _ => h
  lt := fun h b hb => by rw [h.2] at hb; simp at hb
  ones := fun h v hv => by rw [h.1] at hv; simp at hv; subst hv; rfl

def cS : Cod ByteArray where
  wd := 1
  rep := fun _ vs s F => vs = [.string s] ∧ F = [] ∧ s.size ≤ maxLen
  sz := fun s => s.size
  mrk := fun k _ => markText k
  cn := fun _ => 1
  mkcn := fun _ _ => rfl
  cnle := fun _ => by omega
  len := fun h => by rw [h.1]; rfl
  keep := fun h _ => h
  lt := fun h b hb => by rw [h.2.1] at hb; simp at hb
  ones := fun h v hv => by rw [h.1] at hv; simp at hv; subst hv; rfl

def cP {α β : Type} (c : Cod α) (d : Cod β) : Cod (α × β) where
  wd := c.wd + d.wd
  rep := fun w vs x F => ∃ v1 v2 F1 F2, vs = v1 ++ v2 ∧ F = F1 ++ F2 ∧ c.rep w v1 x.1 F1 ∧ d.rep w v2 x.2 F2
  sz := fun x => c.sz x.1 + d.sz x.2
  mrk := fun k x => (c.mrk k x.1, d.mrk (k + c.cn x.1) x.2)
  cn := fun x => c.cn x.1 + d.cn x.2
  mkcn := fun k x => by simp only [c.mkcn, d.mkcn]
  cnle := fun x => by have := c.cnle x.1; have := d.cnle x.2; omega
  len := fun ⟨v1, v2, _, _, h, _, h1, h2⟩ => by rw [h, List.length_append, c.len h1, d.len h2]
  keep := fun ⟨v1, v2, F1, F2, h, hF, h1, h2⟩ hb => ⟨v1, v2, F1, F2, h, hF, c.keep h1 fun b hm => hb b (by rw [hF]; simp [hm]), d.keep h2 fun b hm => hb b (by rw [hF]; simp [hm])⟩
  lt := fun ⟨_, _, _, _, _, hF, h1, h2⟩ b hb => by
    rw [hF, List.mem_append] at hb
    rcases hb with hb | hb
    · exact c.lt h1 b hb
    · exact d.lt h2 b hb
  ones := fun ⟨_, _, _, _, h, _, h1, h2⟩ v hv => by
    rw [h, List.mem_append] at hv
    rcases hv with hv | hv
    · exact c.ones h1 v hv
    · exact d.ones h2 v hv

def cM {α σ : Type} (c : Cod α) (f : σ → α) (g : α → σ) (hg : ∀ a, f (g a) = a) : Cod σ where
  wd := c.wd
  rep := fun w vs x F => c.rep w vs (f x) F
  sz := fun x => c.sz (f x)
  mrk := fun k x => g (c.mrk k (f x))
  cn := fun x => c.cn (f x)
  mkcn := fun k x => by rw [hg, c.mkcn]
  cnle := fun x => c.cnle (f x)
  len := fun h => c.len h
  keep := fun h hb => c.keep h hb
  lt := fun h => c.lt h
  ones := fun h => c.ones h

/-- A list of values, one behind the other. -/
def Cod.reps {α : Type} (c : Cod α) (w : World) : List Value → List α → List Nat → Prop
  | us, [], F => us = [] ∧ F = []
  | us, x :: xs, F => ∃ v1 v2 F1 F2, us = v1 ++ v2 ∧ F = F1 ++ F2 ∧ c.rep w v1 x F1 ∧ c.reps w v2 xs F2

section
variable {α : Type} {c : Cod α} {w w' : World}

theorem Cod.reps_len : ∀ {us : List Value} {xs : List α} {F : List Nat}, c.reps w us xs F → us.length = xs.length * c.wd
  | us, [], F, h => by rw [h.1]; simp
  | us, x :: xs, F, ⟨v1, v2, F1, F2, h, _, h1, h2⟩ => by rw [h, List.length_append, c.len h1, Cod.reps_len h2, List.length_cons, Nat.add_mul]; omega
theorem Cod.reps_keep : ∀ {us : List Value} {xs : List α} {F : List Nat}, c.reps w us xs F → (∀ b, b ∈ F → w'.heap[b]? = w.heap[b]?) → c.reps w' us xs F
  | us, [], F, h, _ => h
  | us, x :: xs, F, ⟨v1, v2, F1, F2, h, hF, h1, h2⟩, hb =>
    ⟨v1, v2, F1, F2, h, hF, c.keep h1 fun b hm => hb b (by rw [hF]; simp [hm]), Cod.reps_keep h2 fun b hm => hb b (by rw [hF]; simp [hm])⟩
theorem Cod.reps_lt : ∀ {us : List Value} {xs : List α} {F : List Nat}, c.reps w us xs F → ∀ b, b ∈ F → b < w.heap.size
  | us, [], F, h, b, hb => by rw [h.2] at hb; simp at hb
  | us, x :: xs, F, ⟨v1, v2, F1, F2, _, hF, h1, h2⟩, b, hb => by
    rw [hF, List.mem_append] at hb
    rcases hb with hb | hb
    · exact c.lt h1 b hb
    · exact Cod.reps_lt h2 b hb
theorem Cod.reps_ones : ∀ {us : List Value} {xs : List α} {F : List Nat}, c.reps w us xs F → ∀ v, v ∈ us → v.oneCell' = true
  | us, [], F, h, v, hv => by rw [h.1] at hv; simp at hv
  | us, x :: xs, F, ⟨v1, v2, F1, F2, h, _, h1, h2⟩, v, hv => by
    rw [h, List.mem_append] at hv
    rcases hv with hv | hv
    · exact c.ones h1 v hv
    · exact Cod.reps_ones h2 v hv

/-- The i-th value: its cells and its blocks. -/
theorem Cod.reps_get : ∀ {us : List Value} {xs : List α} {F : List Nat}, c.reps w us xs F → ∀ (i : Nat) (hi : i < xs.length),
    ∃ vs F1, c.rep w vs xs[i] F1 ∧ (∀ b, b ∈ F1 → b ∈ F) ∧ ∀ j u, vs[j]? = some u → us[i * c.wd + j]? = some u
  | us, [], F, _, i, hi => absurd hi (by simp)
  | us, x :: xs, F, ⟨v1, v2, F1, F2, h, hF, h1, h2⟩, 0, _ =>
    ⟨v1, F1, h1, fun b hb => by rw [hF]; simp [hb], fun j u hu => by rw [h, Nat.zero_mul, Nat.zero_add, List.getElem?_append_left (List.getElem?_eq_some_iff.1 hu).1]; exact hu⟩
  | us, x :: xs, F, ⟨v1, v2, F1, F2, h, hF, h1, h2⟩, i + 1, hi => by
    obtain ⟨vs, F', k1, k2, k3⟩ := Cod.reps_get h2 i (by simpa using hi)
    refine ⟨vs, F', by simpa using k1, fun b hb => by rw [hF]; simp [k2 b hb], fun j u hu => ?_⟩
    have hl := c.len h1
    rw [h, List.getElem?_append_right (by rw [hl, Nat.add_mul]; omega), hl]
    rw [show (i + 1) * c.wd + j - c.wd = i * c.wd + j by rw [Nat.add_mul]; omega]
    exact k3 j u hu

theorem Cod.reps_app : ∀ {us vs : List Value} {xs ys : List α} {F G : List Nat}, c.reps w us xs F → c.reps w vs ys G → c.reps w (us ++ vs) (xs ++ ys) (F ++ G)
  | us, vs, [], ys, F, G, h, k => by rw [h.1, h.2]; simpa using k
  | us, vs, x :: xs, ys, F, G, ⟨v1, v2, F1, F2, h, hF, h1, h2⟩, k =>
    ⟨v1, v2 ++ vs, F1, F2 ++ G, by rw [h, List.append_assoc], by rw [hF, List.append_assoc], h1, Cod.reps_app h2 k⟩
theorem Cod.reps_one {vs : List Value} {x : α} {F : List Nat} (h : c.rep w vs x F) : c.reps w vs [x] F :=
  ⟨vs, [], F, [], by simp, by simp, h, rfl, rfl⟩
theorem Cod.reps_cut : ∀ {us : List Value} {xs ys : List α} {F : List Nat}, c.reps w us (xs ++ ys) F →
    ∃ u1 u2 F1 F2, us = u1 ++ u2 ∧ F = F1 ++ F2 ∧ c.reps w u1 xs F1 ∧ c.reps w u2 ys F2
  | us, [], ys, F, h => ⟨[], us, [], F, rfl, rfl, ⟨rfl, rfl⟩, h⟩
  | us, x :: xs, ys, F, ⟨v1, v2, F1, F2, h, hF, h1, h2⟩ => by
    obtain ⟨u1, u2, G1, G2, e, eF, k1, k2⟩ := Cod.reps_cut h2
    exact ⟨v1 ++ u1, u2, F1 ++ G1, G2, by rw [h, e, List.append_assoc], by rw [hF, eF, List.append_assoc], ⟨v1, u1, F1, G1, rfl, rfl, h1, k1⟩, k2⟩
end

def Cod.szs {α : Type} (c : Cod α) : List α → Nat
  | [] => 0
  | x :: xs => c.sz x + 1 + c.szs xs

def Cod.mks {α : Type} (c : Cod α) : Int → List α → List α
  | _, [] => []
  | k, x :: xs => c.mrk k x :: c.mks (k + c.cn x) xs
def Cod.cns {α : Type} (c : Cod α) : List α → Nat
  | [] => 0
  | x :: xs => c.cn x + c.cns xs
theorem Cod.mks_len {α : Type} (c : Cod α) : ∀ (k : Int) (xs : List α), (c.mks k xs).length = xs.length
  | _, [] => rfl
  | k, x :: xs => by simp [Cod.mks, Cod.mks_len c _ xs]
theorem Cod.mks_cns {α : Type} (c : Cod α) : ∀ (k : Int) (xs : List α), c.cns (c.mks k xs) = c.cns xs
  | _, [] => rfl
  | k, x :: xs => by simp [Cod.mks, Cod.cns, c.mkcn, Cod.mks_cns c _ xs]
theorem Cod.cns_le {α : Type} (c : Cod α) (h : c.wd ≤ 32) : ∀ xs : List α, c.cns xs ≤ 32 * c.szs xs
  | [] => Nat.le_refl _
  | x :: xs => by
    have := c.cnle x
    have := Cod.cns_le c h xs
    simp only [Cod.cns, Cod.szs]
    omega
theorem Cod.cns_app {α : Type} (c : Cod α) : ∀ xs ys : List α, c.cns (xs ++ ys) = c.cns xs + c.cns ys
  | [], ys => by simp [Cod.cns]
  | x :: xs, ys => by simp [Cod.cns, Cod.cns_app c xs ys]; omega
theorem Cod.mks_app {α : Type} (c : Cod α) : ∀ (k : Int) (xs ys : List α), c.mks k (xs ++ ys) = c.mks k xs ++ c.mks (k + c.cns xs) ys
  | k, [], ys => by simp [Cod.mks, Cod.cns]
  | k, x :: xs, ys => by simp [Cod.mks, Cod.cns, Cod.mks_app c _ xs ys, Int.add_assoc]

/-- A slice. -/
def cL {α : Type} (c : Cod α) (hw : 0 < c.wd) (hw2 : c.wd ≤ 32) : Cod (List α) where
  wd := 1
  rep := fun w vs xs F => ∃ A cp, vs = [.slice A xs.length cp] ∧ xs.length ≤ cp ∧ cp ≤ maxLen ∧
    ((xs = [] ∧ F = []) ∨ (xs ≠ [] ∧ ∃ g o Fs us, A = some ⟨g, o, none⟩ ∧ F = g :: Fs ∧ CellsAt w g o us ∧ c.reps w us xs Fs))
  sz := c.szs
  mrk := c.mks
  cn := c.cns
  mkcn := c.mks_cns
  cnle := fun xs => Nat.le_trans (Cod.cns_le c hw2 xs) (by omega)
  len := fun ⟨_, _, h, _⟩ => by rw [h]; rfl
  keep := fun ⟨A, cp, h, hl, hm, hr⟩ hb => ⟨A, cp, h, hl, hm, by
    rcases hr with hr | ⟨hne, g, o, Fs, us, hA, hF, hc, hr⟩
    · exact .inl hr
    · exact .inr ⟨hne, g, o, Fs, us, hA, hF, hc.keep (hb g (by rw [hF]; simp)), Cod.reps_keep hr fun b hm => hb b (by rw [hF]; simp [hm])⟩⟩
  lt := fun ⟨A, cp, h, hl, hm, hr⟩ b hb => by
    rcases hr with ⟨_, hr⟩ | ⟨hne, g, o, Fs, us, hA, hF, hc, hr⟩
    · rw [hr] at hb; simp at hb
    · rw [hF, List.mem_cons] at hb
      rcases hb with rfl | hb
      · refine hc.lt fun e => ?_
        have := Cod.reps_len hr
        rw [e, List.length_nil] at this
        rcases Nat.mul_eq_zero.1 this.symm with h0 | h0
        · exact hne (List.eq_nil_of_length_eq_zero h0)
        · omega
      · exact Cod.reps_lt hr b hb
  ones := fun ⟨_, _, h, _⟩ v hv => by rw [h] at hv; simp at hv; subst hv; rfl

end Go.Proofs.YtlicnppfgfjkgaaDoor
