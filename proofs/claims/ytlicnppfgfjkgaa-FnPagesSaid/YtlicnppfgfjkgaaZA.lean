/-
  Words, codecs and types of this seat in one text. No conditions.
-/
import Derived.WalkKit
import Derived.ProofKit
import Derived.OpenShut
import Derived.Carry
import Derived.Below
import Derived.Outline
import Derived.Lib.Hide
import Derived.WalkLawsBesides
import Derived.ChangeSame
import Derived.Deep.Draws
import Derived.Deep.Slices
import Derived.Deep.QuietTactic
import Derived.BigQuiet
import Derived.Laws.Rows
import Derived.Laws.MakeOwn
import Derived.Test.YtlicnppfgfjkgaaRows
import Derived.LoopTactic
import Derived.StillTailTactics
import Derived.Maps.AppendAt
import Derived.Deep.AppendLies
import Derived.ArgAppend
import Derived.RegionTactic
import Derived.OwnWalk
import Derived.Deep.RegionHeld3
import Derived.IntWalk
import Derived.Laws.IdiomStrings
import Derived.Laws.BitsLemmas
namespace Go.Proofs.Ytlicnppfgfjkgaa
open Go.ChangeShapes Go.WideShapes Go.RowKit

/-! ### The step from a walk to a law's row -/
section
variable {H : Type} {enc : TypeId × Value → H} {P : Program}

theorem trodAll_keep (hl : laidOutB P = true) {W W' : World} (hb : Below W.heap.size W W') {sp : Nat → Bool} : ∀ (ts : List TypeId) (vs : List Value) (ds : List (DataW H)) (ps : List MemPlace),
    (ts.all fun t => P.readableRec t && decide (t < P.types.size)) = true → DataW.TrodAll enc P W 0 (fun _ => true) true ts vs ds ps → (∀ x ∈ ps, x.block < W.heap.size) → (∀ x ∈ ps, sp x.block = true) →
    DataW.TrodAll enc P W' 0 sp true ts vs ds ps
  | [], [], [], _, _, h, _, _ => h
  | [], [], _ :: _, _, _, h, _, _ => h.elim
  | [], _ :: _, _, _, _, h, _, _ => h.elim
  | _ :: _, [], _, _, _, h, _, _ => h.elim
  | _ :: _, _ :: _, [], _, _, h, _, _ => h.elim
  | t :: ts, v :: vs, d :: ds, ps, hts, h, hlt, hsp => by
    obtain ⟨p, q, h1, h2, rfl⟩ := h
    simp only [List.all_cons, Bool.and_eq_true, decide_eq_true_eq] at hts
    exact ⟨p, q, WideElems.Trod_stays hl hts.1.1 hts.1.2 h1 (fun x hx => hb.same (hlt x (by simp [hx]))) (fun x hx => hsp x (by simp [hx])),
      trodAll_keep hl hb ts vs ds q hts.2 h2 (fun x hx => hlt x (by simp [hx])) (fun x hx => hsp x (by simp [hx])), rfl⟩

theorem trodAll_len : ∀ (ts : List TypeId) (vs : List Value) (ds : List (DataW H)) (ps : List MemPlace) {W : World} {b : Nat} {sp : Nat → Bool} {hd : Bool},
    DataW.TrodAll enc P W b sp hd ts vs ds ps → ds.length = ts.length
  | [], [], [], _, _, _, _, _, _ => rfl
  | [], [], _ :: _, _, _, _, _, _, h => h.elim
  | [], _ :: _, _, _, _, _, _, _, h => h.elim
  | _ :: _, [], _, _, _, _, _, _, h => h.elim
  | _ :: _, _ :: _, [], _, _, _, _, _, h => h.elim
  | t :: ts, v :: vs, d :: ds, ps, _, _, _, _, h => by
    obtain ⟨p, q, _, h2, rfl⟩ := h
    simp [trodAll_len ts vs ds q h2]

/-- From a walk that returns true and leaves all that was there, to the row's step. -/
theorem law_post {f : Func} {s : ChangeSpec} {W W' : World} {args : Array Value} {ds gs : List (DataW H)} {before : List MemPlace} {tb : TypeId}
    (hl : laidOutB P = true) (hv : s.vars = []) (hrt : f.resultTypes = #[tb]) (htb : P.underlying tb = some .bool)
    (hts : (f.params.toList.all fun t => P.readableRec t && decide (t < P.types.size)) = true)
    (hs : ∀ ds : List (DataW H), ds.length = f.params.size → (s.fn H ds).results = [.lit (.bool true)] ∧ (s.fn H ds).args = ds ∧ (s.fn H ds).vars = [])
    (hW : DataW.Whole enc P f.params.toList s.vars false W args.toList ds gs before) (hb : Below W.heap.size W W') :
    s.post enc P f false true false false W args (.bool true) W' := by
  have hlt : ∀ p ∈ before, p.block < W.heap.size := fun p hp => hW.lt p hp
  have hW' := hW
  obtain ⟨p, q, hA, hV, rfl, hfz, hnd⟩ := hW
  rw [hv] at hV
  have hg : gs = [] := by
    cases gs with
    | nil => rfl
    | cons a b => exact hV.elim
  subst hg
  obtain rfl : q = [] := hV
  have hlen : ds.length = f.params.size := by simpa using trodAll_len _ _ _ _ hA
  obtain ⟨e1, e2, e3⟩ := hs (ds ++ []) (by simpa using hlen)
  refine ⟨ds, [], p ++ [], [], p, [], hW', ?_, ?_, ?_, hb.frame _, fun h => by cases h⟩
  · rw [e1, hrt]
    exact trodAll_mk1 (shut_bool htb _)
  · rw [e2, List.append_nil]
    exact trodAll_keep hl hb _ _ _ _ hts hA (fun x hx => hlt x (by simp [hx])) (fun x hx => by simpa using hlt x (by simp [hx]))
  · rw [hv, e3]; rfl

end

/-! ### New blocks, step by step -/
theorem bel_alloc {w w' : World} (h : Below w.heap.size w w') (o : Obj) : Below w.heap.size w (w'.alloc o) := h.alloc h.size o
theorem bel_then {w w' w'' : World} (h : Below w.heap.size w w') (k : Below w'.heap.size w' w'') : Below w.heap.size w w'' := h.trans (k.mono h.size)
theorem bel_drew {w w' : World} (h : Below w.heap.size w w') : Below w.heap.size w w'.drew := h.drew
theorem bel_drewN {w w' : World} (h : Below w.heap.size w w') (n : Nat) : Below w.heap.size w (w'.drewN n) := ⟨h.os, h.tape, h.output, h.size, h.block⟩
/-- A contract that leaves the world alone, in a region that draws its order. -/
theorem quiet_left {P : Program} {f : FuncId} {args : Array Value} {w : World} {n : Nat} {v : Value}
    (h : Calls P f args (w.drewN n) fun e w' => e = .returned v ∧ w.drewN n = w') : Calls P f args (w.drewN n) fun e w'' => e = .returned v ∧ ∃ m, w'' = w.drewN m :=
  h.mono fun _ _ ⟨he, hm⟩ => ⟨he, n, hm.symm⟩
theorem quiet_add_left {P : Program} {f : FuncId} {args : Array Value} {w : World} {a n : Nat} {v : Value}
    (h : Calls P f args (w.drewN (a + n)) fun e w' => e = .returned v ∧ w.drewN (a + n) = w') : Calls P f args (w.drewN (a + n)) fun e w'' => e = .returned v ∧ ∃ m, w'' = w.drewN (a + m) :=
  h.mono fun _ _ ⟨he, hm⟩ => ⟨he, n, hm.symm⟩

/-- A call returns this value and leaves all that was there. -/
def Gives (w : World) (v : Value) (e : Ending) (w' : World) : Prop := e = .returned v ∧ Below w.heap.size w w'
/-- What is left of a budget: -1 where it does not reach. -/
def leftOf (n k : Int) : Int := if n - k < 0 then -1 else n - k
theorem leftOf_neg {n k : Int} (h : n - k < 0) : leftOf n k = -1 := if_pos h
theorem leftOf_pos {n k : Int} (h : ¬ n - k < 0) : leftOf n k = n - k := if_neg h
theorem ret_int {k : IntKind} {a b : Int} (h : a = b) : Ending.returned (.int k a) = .returned (.int k b) := by rw [h]
theorem ret_bool {a b : Bool} (h : a = b) : Ending.returned (.bool a) = .returned (.bool b) := by rw [h]

theorem bel_set {w w' : World} (h : Below w.heap.size w w') {p : Addr} (hp : w.heap.size ≤ p.block) (u : Value) : Below w.heap.size w (w'.setCell p u) := h.setCell hp u

/-- What a walk takes of a call that made memory: old cells, old marks, the heap's size. -/
theorem bcell {W w1 : World} (hb : Below W.heap.size W w1) : (∀ b o, b < W.heap.size → w1.cell? ⟨b, o, none⟩ = W.cell? ⟨b, o, none⟩) ∧ (∀ b o, b < W.heap.size → w1.frozen? ⟨b, o, none⟩ = W.frozen? ⟨b, o, none⟩) ∧ W.heap.size ≤ w1.heap.size :=
  ⟨fun b o h => hb.cell (p := ⟨b, o, none⟩) h, fun b o h => hb.frozen (p := ⟨b, o, none⟩) h, hb.size⟩

end Go.Proofs.Ytlicnppfgfjkgaa
namespace Go.Proofs.Ytlicnppfgfjkgaa
open Go.ChangeShapes Go.WideShapes Go.RowKit

/-! ### Cells in a row -/
def CellsAt (w : World) (g o : Nat) (us : List Value) : Prop :=
  ∀ j u, us[j]? = some u → w.cell? ⟨g, o + j, none⟩ = some u ∧ w.frozen? ⟨g, o + j, none⟩ = false

theorem CellsAt.keep {w w' : World} {g o : Nat} {us : List Value} (h : CellsAt w g o us) (hb : w'.heap[g]? = w.heap[g]?) : CellsAt w' g o us := by
  intro j u hu
  obtain ⟨h1, h2⟩ := h j u hu
  exact ⟨(World.cell?_of_block (w := w) (a := ⟨g, o + j, none⟩) hb).trans h1, (World.frozen?_of_block (w := w) (a := ⟨g, o + j, none⟩) hb).trans h2⟩

theorem CellsAt.lt {w : World} {g o : Nat} {us : List Value} (h : CellsAt w g o us) (hn : us ≠ []) : g < w.heap.size := by
  cases us with
  | nil => exact absurd rfl hn
  | cons u us =>
    have := (h 0 u rfl).1
    unfold World.cell? at this
    cases hh : w.heap[g]? with
    | none => simp [hh] at this
    | some x => exact (Array.getElem?_eq_some_iff.1 hh).1

theorem CellsAt.nil (w : World) (g o : Nat) : CellsAt w g o [] := fun _ _ h => by simp at h
theorem CellsAt.left {w : World} {g o : Nat} {us vs : List Value} (h : CellsAt w g o (us ++ vs)) : CellsAt w g o us := by
  intro j u hu
  exact h j u (by rw [List.getElem?_append_left (List.getElem?_eq_some_iff.1 hu).1]; exact hu)
theorem CellsAt.right {w : World} {g o : Nat} {us vs : List Value} (h : CellsAt w g o (us ++ vs)) : CellsAt w g (o + us.length) vs := by
  intro j u hu
  have := h (us.length + j) u (by rw [List.getElem?_append_right (by omega)]; simpa using hu)
  rwa [← Nat.add_assoc] at this
theorem CellsAt.app {w : World} {g o : Nat} {us vs : List Value} (h : CellsAt w g o us) (k : CellsAt w g (o + us.length) vs) : CellsAt w g o (us ++ vs) := by
  intro j u hu
  by_cases hj : j < us.length
  · exact h j u (by rwa [List.getElem?_append_left hj] at hu)
  · rw [List.getElem?_append_right (by omega)] at hu
    have := k (j - us.length) u hu
    rwa [Nat.add_assoc, Nat.add_sub_of_le (by omega)] at this

/-! ### Marks: the texts and numbers that the laws lay into memory -/
def mtGo : Nat → Nat → List UInt8 → List UInt8
  | 0, _, acc => acc
  | f + 1, k, acc => if k = 0 then acc else mtGo f (k / 10) (UInt8.ofNat (48 + k % 10) :: acc)
def markText (k : Int) : ByteArray := if k ≤ 0 then ⟨#[109, 48]⟩ else ⟨(109 :: mtGo k.toNat k.toNat []).toArray⟩
theorem mtGo_len : ∀ (f k : Nat) (acc : List UInt8), (mtGo f k acc).length ≤ f + acc.length
  | 0, _, acc => by simp [mtGo]
  | f + 1, k, acc => by
    unfold mtGo
    split
    · omega
    · have := mtGo_len f (k / 10) (UInt8.ofNat (48 + k % 10) :: acc)
      simp only [List.length_cons] at this
      omega
theorem mtGo_more : ∀ (f k : Nat) (acc : List UInt8), k ≤ f → mtGo f k acc = mtGo k k acc
  | 0, k, acc, h => by
    obtain rfl : k = 0 := by omega
    rfl
  | f + 1, k, acc, h => by
    cases k with
    | zero => simp [mtGo]
    | succ k =>
      have h10 : (k + 1) / 10 ≤ k := by omega
      have hf : (k + 1) / 10 ≤ f := by omega
      show (if k + 1 = 0 then acc else mtGo f ((k + 1) / 10) (UInt8.ofNat (48 + (k + 1) % 10) :: acc)) = (if k + 1 = 0 then acc else mtGo k ((k + 1) / 10) (UInt8.ofNat (48 + (k + 1) % 10) :: acc))
      rw [if_neg (by omega), if_neg (by omega), mtGo_more f _ _ hf, mtGo_more k _ _ h10]
theorem markText_size {k : Int} (h : k ≤ 1000000000) : (markText k).size ≤ maxLen := by
  unfold markText maxLen
  split
  · show 2 ≤ 2 ^ 63 - 1
    omega
  · have := mtGo_len k.toNat k.toNat []
    have e : (⟨(109 :: mtGo k.toNat k.toNat []).toArray⟩ : ByteArray).size = (mtGo k.toNat k.toNat []).length + 1 := by simp [ByteArray.size]
    rw [e]
    simp only [List.length_nil] at this
    omega

/-! ### Codecs -/
structure Cod (α : Type) where
  wd : Nat
  rep : World → List Value → α → List Nat → Prop
  sz : α → Nat
  mrk : Int → α → α
  cn : α → Nat
  mkcn : ∀ k x, cn (mrk k x) = cn x
  cnle : ∀ x, cn x ≤ wd + 32 * sz x
  len : ∀ {w vs x F}, rep w vs x F → vs.length = wd
  keep : ∀ {w w' vs x F}, rep w vs x F → (∀ b, b ∈ F → w'.heap[b]? = w.heap[b]?) → rep w' vs x F
  lt : ∀ {w vs x F}, rep w vs x F → ∀ b, b ∈ F → b < w.heap.size
  ones : ∀ {w vs x F}, rep w vs x F → ∀ v, v ∈ vs → v.oneCell' = true

def cI : Cod Int where
  wd := 1
  rep := fun _ vs n F => vs = [.int .i64 n] ∧ F = [] ∧ -9223372036854775808 ≤ n ∧ n ≤ 9223372036854775807
  sz := fun _ => 0
  mrk := fun k _ => k
  cn := fun _ => 1
  mkcn := fun _ _ => rfl
  cnle := fun _ => Nat.le_refl _
  len := fun h => by rw [h.1]; rfl
  keep := fun h _ => h
  lt := fun h b hb => by rw [h.2.1] at hb; simp at hb
  ones := fun h v hv => by rw [h.1] at hv; simp at hv; subst hv; rfl

def cU : Cod UInt8 where
  wd := 1
  rep := fun _ vs n F => vs = [.int .u8 (n.toNat : Int)] ∧ F = []
  sz := fun _ => 0
  mrk := fun k _ => UInt8.ofNat (k % 256).toNat
  cn := fun _ => 1
  mkcn := fun _ _ => rfl
  cnle := fun _ => Nat.le_refl _
  len := fun h => by rw [h.1]; rfl
  keep := fun h _ => h
  lt := fun h b hb => by rw [h.2] at hb; simp at hb
  ones := fun h v hv => by rw [h.1] at hv; simp at hv; subst hv; rfl

def cB : Cod Bool where
  wd := 1
  rep := fun _ vs b F => vs = [.bool b] ∧ F = []
  sz := fun _ => 0
  mrk := fun k _ => k % 3 == 0
  cn := fun _ => 1
  mkcn := fun _ _ => rfl
  cnle := fun _ => Nat.le_refl _
  len := fun h => by rw [h.1]; rfl
  keep := fun h _ => h
  lt := fun h b hb => by rw [h.2] at hb; simp at hb
  ones := fun h v hv => by rw [h.1] at hv; simp at hv; subst hv; rfl

def cS : Cod ByteArray where
  wd := 1
  rep := fun _ vs s F => vs = [.string s] ∧ F = [] ∧ s.size ≤ maxLen
  sz := fun s => s.size
  mrk := fun k _ => markText k
  cn := fun _ => 1
  mkcn := fun _ _ => rfl
  cnle := fun _ => by omega
  len := fun h => by rw [h.1]; rfl
  keep := fun h _ => h
  lt := fun h b hb => by rw [h.2.1] at hb; simp at hb
  ones := fun h v hv => by rw [h.1] at hv; simp at hv; subst hv; rfl

def cP {α β : Type} (c : Cod α) (d : Cod β) : Cod (α × β) where
  wd := c.wd + d.wd
  rep := fun w vs x F => ∃ v1 v2 F1 F2, vs = v1 ++ v2 ∧ F = F1 ++ F2 ∧ c.rep w v1 x.1 F1 ∧ d.rep w v2 x.2 F2
  sz := fun x => c.sz x.1 + d.sz x.2
  mrk := fun k x => (c.mrk k x.1, d.mrk (k + c.cn x.1) x.2)
  cn := fun x => c.cn x.1 + d.cn x.2
  mkcn := fun k x => by simp only [c.mkcn, d.mkcn]
  cnle := fun x => by have := c.cnle x.1; have := d.cnle x.2; omega
  len := fun ⟨v1, v2, _, _, h, _, h1, h2⟩ => by rw [h, List.length_append, c.len h1, d.len h2]
  keep := fun ⟨v1, v2, F1, F2, h, hF, h1, h2⟩ hb => ⟨v1, v2, F1, F2, h, hF, c.keep h1 fun b hm => hb b (by rw [hF]; simp [hm]), d.keep h2 fun b hm => hb b (by rw [hF]; simp [hm])⟩
  lt := fun ⟨_, _, _, _, _, hF, h1, h2⟩ b hb => by
    rw [hF, List.mem_append] at hb
    rcases hb with hb | hb
    · exact c.lt h1 b hb
    · exact d.lt h2 b hb
  ones := fun ⟨_, _, _, _, h, _, h1, h2⟩ v hv => by
    rw [h, List.mem_append] at hv
    rcases hv with hv | hv
    · exact c.ones h1 v hv
    · exact d.ones h2 v hv

def cM {α σ : Type} (c : Cod α) (f : σ → α) (g : α → σ) (hg : ∀ a, f (g a) = a) : Cod σ where
  wd := c.wd
  rep := fun w vs x F => c.rep w vs (f x) F
  sz := fun x => c.sz (f x)
  mrk := fun k x => g (c.mrk k (f x))
  cn := fun x => c.cn (f x)
  mkcn := fun k x => by rw [hg, c.mkcn]
  cnle := fun x => c.cnle (f x)
  len := fun h => c.len h
  keep := fun h hb => c.keep h hb
  lt := fun h => c.lt h
  ones := fun h => c.ones h

/-- A list of values, one behind the other. -/
def Cod.reps {α : Type} (c : Cod α) (w : World) : List Value → List α → List Nat → Prop
  | us, [], F => us = [] ∧ F = []
  | us, x :: xs, F => ∃ v1 v2 F1 F2, us = v1 ++ v2 ∧ F = F1 ++ F2 ∧ c.rep w v1 x F1 ∧ c.reps w v2 xs F2

section
variable {α : Type} {c : Cod α} {w w' : World}

theorem Cod.reps_len : ∀ {us : List Value} {xs : List α} {F : List Nat}, c.reps w us xs F → us.length = xs.length * c.wd
  | us, [], F, h => by rw [h.1]; simp
  | us, x :: xs, F, ⟨v1, v2, F1, F2, h, _, h1, h2⟩ => by rw [h, List.length_append, c.len h1, Cod.reps_len h2, List.length_cons, Nat.add_mul]; omega
theorem Cod.reps_keep : ∀ {us : List Value} {xs : List α} {F : List Nat}, c.reps w us xs F → (∀ b, b ∈ F → w'.heap[b]? = w.heap[b]?) → c.reps w' us xs F
  | us, [], F, h, _ => h
  | us, x :: xs, F, ⟨v1, v2, F1, F2, h, hF, h1, h2⟩, hb =>
    ⟨v1, v2, F1, F2, h, hF, c.keep h1 fun b hm => hb b (by rw [hF]; simp [hm]), Cod.reps_keep h2 fun b hm => hb b (by rw [hF]; simp [hm])⟩
theorem Cod.reps_lt : ∀ {us : List Value} {xs : List α} {F : List Nat}, c.reps w us xs F → ∀ b, b ∈ F → b < w.heap.size
  | us, [], F, h, b, hb => by rw [h.2] at hb; simp at hb
  | us, x :: xs, F, ⟨v1, v2, F1, F2, _, hF, h1, h2⟩, b, hb => by
    rw [hF, List.mem_append] at hb
    rcases hb with hb | hb
    · exact c.lt h1 b hb
    · exact Cod.reps_lt h2 b hb
theorem Cod.reps_ones : ∀ {us : List Value} {xs : List α} {F : List Nat}, c.reps w us xs F → ∀ v, v ∈ us → v.oneCell' = true
  | us, [], F, h, v, hv => by rw [h.1] at hv; simp at hv
  | us, x :: xs, F, ⟨v1, v2, F1, F2, h, _, h1, h2⟩, v, hv => by
    rw [h, List.mem_append] at hv
    rcases hv with hv | hv
    · exact c.ones h1 v hv
    · exact Cod.reps_ones h2 v hv

/-- The i-th value: its cells and its blocks. -/
theorem Cod.reps_get : ∀ {us : List Value} {xs : List α} {F : List Nat}, c.reps w us xs F → ∀ (i : Nat) (hi : i < xs.length),
    ∃ vs F1, c.rep w vs xs[i] F1 ∧ (∀ b, b ∈ F1 → b ∈ F) ∧ ∀ j u, vs[j]? = some u → us[i * c.wd + j]? = some u
  | us, [], F, _, i, hi => absurd hi (by simp)
  | us, x :: xs, F, ⟨v1, v2, F1, F2, h, hF, h1, h2⟩, 0, _ =>
    ⟨v1, F1, h1, fun b hb => by rw [hF]; simp [hb], fun j u hu => by rw [h, Nat.zero_mul, Nat.zero_add, List.getElem?_append_left (List.getElem?_eq_some_iff.1 hu).1]; exact hu⟩
  | us, x :: xs, F, ⟨v1, v2, F1, F2, h, hF, h1, h2⟩, i + 1, hi => by
    obtain ⟨vs, F', k1, k2, k3⟩ := Cod.reps_get h2 i (by simpa using hi)
    refine ⟨vs, F', by simpa using k1, fun b hb => by rw [hF]; simp [k2 b hb], fun j u hu => ?_⟩
    have hl := c.len h1
    rw [h, List.getElem?_append_right (by rw [hl, Nat.add_mul]; omega), hl]
    rw [show (i + 1) * c.wd + j - c.wd = i * c.wd + j by rw [Nat.add_mul]; omega]
    exact k3 j u hu

theorem Cod.reps_app : ∀ {us vs : List Value} {xs ys : List α} {F G : List Nat}, c.reps w us xs F → c.reps w vs ys G → c.reps w (us ++ vs) (xs ++ ys) (F ++ G)
  | us, vs, [], ys, F, G, h, k => by rw [h.1, h.2]; simpa using k
  | us, vs, x :: xs, ys, F, G, ⟨v1, v2, F1, F2, h, hF, h1, h2⟩, k =>
    ⟨v1, v2 ++ vs, F1, F2 ++ G, by rw [h, List.append_assoc], by rw [hF, List.append_assoc], h1, Cod.reps_app h2 k⟩
theorem Cod.reps_one {vs : List Value} {x : α} {F : List Nat} (h : c.rep w vs x F) : c.reps w vs [x] F :=
  ⟨vs, [], F, [], by simp, by simp, h, rfl, rfl⟩
theorem Cod.reps_cut : ∀ {us : List Value} {xs ys : List α} {F : List Nat}, c.reps w us (xs ++ ys) F →
    ∃ u1 u2 F1 F2, us = u1 ++ u2 ∧ F = F1 ++ F2 ∧ c.reps w u1 xs F1 ∧ c.reps w u2 ys F2
  | us, [], ys, F, h => ⟨[], us, [], F, rfl, rfl, ⟨rfl, rfl⟩, h⟩
  | us, x :: xs, ys, F, ⟨v1, v2, F1, F2, h, hF, h1, h2⟩ => by
    obtain ⟨u1, u2, G1, G2, e, eF, k1, k2⟩ := Cod.reps_cut h2
    exact ⟨v1 ++ u1, u2, F1 ++ G1, G2, by rw [h, e, List.append_assoc], by rw [hF, eF, List.append_assoc], ⟨v1, u1, F1, G1, rfl, rfl, h1, k1⟩, k2⟩
end

def Cod.szs {α : Type} (c : Cod α) : List α → Nat
  | [] => 0
  | x :: xs => c.sz x + 1 + c.szs xs

def Cod.mks {α : Type} (c : Cod α) : Int → List α → List α
  | _, [] => []
  | k, x :: xs => c.mrk k x :: c.mks (k + c.cn x) xs
def Cod.cns {α : Type} (c : Cod α) : List α → Nat
  | [] => 0
  | x :: xs => c.cn x + c.cns xs
theorem Cod.mks_len {α : Type} (c : Cod α) : ∀ (k : Int) (xs : List α), (c.mks k xs).length = xs.length
  | _, [] => rfl
  | k, x :: xs => by simp [Cod.mks, Cod.mks_len c _ xs]
theorem Cod.mks_cns {α : Type} (c : Cod α) : ∀ (k : Int) (xs : List α), c.cns (c.mks k xs) = c.cns xs
  | _, [] => rfl
  | k, x :: xs => by simp [Cod.mks, Cod.cns, c.mkcn, Cod.mks_cns c _ xs]
theorem Cod.cns_le {α : Type} (c : Cod α) (h : c.wd ≤ 32) : ∀ xs : List α, c.cns xs ≤ 32 * c.szs xs
  | [] => Nat.le_refl _
  | x :: xs => by
    have := c.cnle x
    have := Cod.cns_le c h xs
    simp only [Cod.cns, Cod.szs]
    omega
theorem Cod.cns_app {α : Type} (c : Cod α) : ∀ xs ys : List α, c.cns (xs ++ ys) = c.cns xs + c.cns ys
  | [], ys => by simp [Cod.cns]
  | x :: xs, ys => by simp [Cod.cns, Cod.cns_app c xs ys]; omega
theorem Cod.mks_app {α : Type} (c : Cod α) : ∀ (k : Int) (xs ys : List α), c.mks k (xs ++ ys) = c.mks k xs ++ c.mks (k + c.cns xs) ys
  | k, [], ys => by simp [Cod.mks, Cod.cns]
  | k, x :: xs, ys => by simp [Cod.mks, Cod.cns, Cod.mks_app c _ xs ys, Int.add_assoc]

/-- A slice. -/
def cL {α : Type} (c : Cod α) (hw : 0 < c.wd) (hw2 : c.wd ≤ 32) : Cod (List α) where
  wd := 1
  rep := fun w vs xs F => ∃ A cp, vs = [.slice A xs.length cp] ∧ xs.length ≤ cp ∧ cp ≤ maxLen ∧
    ((xs = [] ∧ F = []) ∨ (xs ≠ [] ∧ ∃ g o Fs us, A = some ⟨g, o, none⟩ ∧ F = g :: Fs ∧ CellsAt w g o us ∧ c.reps w us xs Fs))
  sz := c.szs
  mrk := c.mks
  cn := c.cns
  mkcn := c.mks_cns
  cnle := fun xs => Nat.le_trans (Cod.cns_le c hw2 xs) (by omega)
  len := fun ⟨_, _, h, _⟩ => by rw [h]; rfl
  keep := fun ⟨A, cp, h, hl, hm, hr⟩ hb => ⟨A, cp, h, hl, hm, by
    rcases hr with hr | ⟨hne, g, o, Fs, us, hA, hF, hc, hr⟩
    · exact .inl hr
    · exact .inr ⟨hne, g, o, Fs, us, hA, hF, hc.keep (hb g (by rw [hF]; simp)), Cod.reps_keep hr fun b hm => hb b (by rw [hF]; simp [hm])⟩⟩
  lt := fun ⟨A, cp, h, hl, hm, hr⟩ b hb => by
    rcases hr with ⟨_, hr⟩ | ⟨hne, g, o, Fs, us, hA, hF, hc, hr⟩
    · rw [hr] at hb; simp at hb
    · rw [hF, List.mem_cons] at hb
      rcases hb with rfl | hb
      · refine hc.lt fun e => ?_
        have := Cod.reps_len hr
        rw [e, List.length_nil] at this
        rcases Nat.mul_eq_zero.1 this.symm with h0 | h0
        · exact hne (List.eq_nil_of_length_eq_zero h0)
        · omega
      · exact Cod.reps_lt hr b hb
  ones := fun ⟨_, _, h, _⟩ v hv => by rw [h] at hv; simp at hv; subst hv; rfl

end Go.Proofs.Ytlicnppfgfjkgaa
namespace Go.Proofs.Ytlicnppfgfjkgaa
open Go.ChangeShapes Go.WideShapes Go.RowKit Go.Deep

/-- Whatever reads as data of type t reads by the codec. -/
def Opens {α : Type} (P : Program) (t : TypeId) (c : Cod α) : Prop :=
  P.cellsOf t = c.wd ∧ ∀ (H : Type) (enc : TypeId × Value → H) (w : World) (fuel : Nat) (cs : List Value) (x : DataW H × List MemPlace),
    DataW.trod enc P w 0 (fun _ => true) true fuel t cs = some x → w.noneFrozen x.2 → ∃ a F, c.rep w cs a F

section
variable {P : Program} {t e : TypeId}

theorem noneFrozen_mono {w : World} {p q : List MemPlace} (h : w.noneFrozen q) (hs : ∀ x, x ∈ p → x ∈ q) : w.noneFrozen p := fun b o hb => h b o (hs _ hb)

theorem opens_int (h : P.underlying t = some (.int .i64)) (hk : P.cellsOf t = 1) : Opens P t cI := by
  refine ⟨hk, fun H enc w fuel cs x hx _ => ?_⟩
  obtain ⟨n, rfl, _, hw⟩ := DataW.trod_int h hx
  exact ⟨n, [], rfl, rfl, by simpa [Lit.wf, IntKind.min, IntKind.max, IntKind.signed, IntKind.bits] using hw⟩
theorem opens_u8 (h : P.underlying t = some (.int .u8)) (hk : P.cellsOf t = 1) : Opens P t cU := by
  refine ⟨hk, fun H enc w fuel cs x hx _ => ?_⟩
  obtain ⟨n, rfl, _, hw⟩ := DataW.trod_int h hx
  have hr : 0 ≤ n ∧ n ≤ 255 := by simpa [Lit.wf, IntKind.min, IntKind.max, IntKind.signed, IntKind.bits] using hw
  refine ⟨UInt8.ofNat n.toNat, [], ?_, rfl⟩
  have : (UInt8.ofNat n.toNat).toNat = n.toNat := by
    rw [UInt8.toNat_ofNat']; omega
  rw [this, Int.toNat_of_nonneg hr.1]
theorem opens_bool (h : P.underlying t = some .bool) (hk : P.cellsOf t = 1) : Opens P t cB := by
  refine ⟨hk, fun H enc w fuel cs x hx _ => ?_⟩
  obtain ⟨b, rfl, _⟩ := DataW.trod_bool h hx
  exact ⟨b, [], rfl, rfl⟩
theorem opens_string (h : P.underlying t = some .string) (hk : P.cellsOf t = 1) : Opens P t cS := by
  refine ⟨hk, fun H enc w fuel cs x hx _ => ?_⟩
  obtain ⟨s, rfl, _, hs⟩ := DataW.trod_string h hx
  exact ⟨s, [], rfl, rfl, hs⟩

theorem addr_spot {w : World} {a : Addr} {v : Value} (h : w.cell? a = some v) : a.spot = none := World.cell?_spot h
theorem add_at (g o k : Nat) : (⟨g, o, none⟩ : Addr).add k = ⟨g, o + k, none⟩ := by
  unfold Addr.add; split <;> simp_all

theorem opens_slice {α : Type} {c : Cod α} {hw : 0 < c.wd} {hw2 : c.wd ≤ 32} (ht : P.underlying t = some (.slice e)) (he : Opens P e c) (hk : P.cellsOf t = 1) : Opens P t (cL c hw hw2) := by
  obtain ⟨hc, he⟩ := he
  refine ⟨hk, fun H enc w fuel cs x hx hf => ?_⟩
  rcases open_slice ht hx with ⟨rfl, _⟩ | ⟨a, len, cap, m, n, D, Pl, rfl, _, hl, hm, hmm, rfl, hi⟩
  · exact ⟨[], [], none, 0, rfl, Nat.le_refl _, by unfold maxLen; omega, .inl ⟨rfl, rfl⟩⟩
  · simp only [if_true] at hmm
    subst hmm
    have hfr : ∀ j, j < m * c.wd → w.frozen? ⟨a.block, a.off + j, none⟩ = false := fun j hj => hf _ _ (by
      simp only [List.mem_append]; left
      simp only [MemPlace.row, List.mem_map, List.mem_range]
      exact ⟨j, by rw [hc]; exact hj, rfl⟩)
    have hpl : ∀ i, i < m → w.noneFrozen (Pl i) := fun i him => noneFrozen_mono hf fun y hy => by
      simp only [List.mem_append, List.mem_flatMap, List.mem_range]
      exact .inr ⟨i, him, hy⟩
    -- the values, one by one
    have key : ∀ k, k ≤ len → ∃ us xs F, xs.length = k ∧ (∀ j u, us[j]? = some u → w.cell? (a.add j) = some u) ∧ c.reps w us xs F := by
      intro k
      induction k with
      | zero => exact fun _ => ⟨[], [], [], rfl, fun j u hu => by simp at hu, rfl, rfl⟩
      | succ k ih =>
        intro hk'
        obtain ⟨us, xs, F, hxl, hcell, hr⟩ := ih (by omega)
        obtain ⟨cs', h1, h2⟩ := hi k (by omega)
        obtain ⟨y, G, hy⟩ := he H enc w n cs' _ h2 (hpl k (by omega))
        obtain ⟨_, hcl, hat⟩ := World.cells?_some h1
        refine ⟨us ++ cs', xs ++ [y], F ++ G, by simp [hxl], fun j u hu => ?_, Cod.reps_app hr (Cod.reps_one hy)⟩
        have hul := Cod.reps_len hr
        by_cases hj : j < us.length
        · rw [List.getElem?_append_left hj] at hu
          exact hcell j u hu
        · rw [List.getElem?_append_right (by omega)] at hu
          have hj2 : j - us.length < P.cellsOf e := by rw [← hcl]; exact (List.getElem?_eq_some_iff.1 hu).1
          have := hat (j - us.length) hj2
          rw [hu, add_add, hc] at this
          rwa [hul, hxl, show k * c.wd + (j - k * c.wd) = j by rw [hul, hxl] at hj; omega] at this
    obtain ⟨us, xs, F, hxl, hcell, hr⟩ := key len (Nat.le_refl _)
    by_cases h0 : len = 0
    · subst h0
      obtain rfl := List.eq_nil_of_length_eq_zero hxl
      exact ⟨[], [], some a, m, by simp, by simp, hm, .inl ⟨rfl, rfl⟩⟩
    · have hul := Cod.reps_len hr
      have hul0 : 0 < us.length := by rw [hul, hxl]; exact Nat.mul_pos (by omega) hw
      obtain ⟨g, o, sp⟩ := a
      have hsp : sp = none := by
        have := hcell 0 us[0] (List.getElem?_eq_getElem hul0)
        have := addr_spot this
        simpa [Addr.add] using this
      subst hsp
      refine ⟨xs, g :: F, some ⟨g, o, none⟩, m, by rw [hxl], by rw [hxl]; exact hl, hm, .inr ⟨fun e => h0 (by rw [← hxl, e]; rfl), g, o, F, us, rfl, rfl, fun j u hu => ?_, hr⟩⟩
      refine ⟨by rw [← add_at]; exact hcell j u hu, hfr j ?_⟩
      have hj : j < us.length := (List.getElem?_eq_some_iff.1 hu).1
      rw [hul, hxl] at hj
      exact Nat.lt_of_lt_of_le hj (Nat.mul_le_mul_right _ hl)

/-- The fields from one place on. -/
def OpensFs {α : Type} (P : Program) (fs : List Field) (o : Nat) (c : Cod α) : Prop :=
  ∀ (H : Type) (enc : TypeId × Value → H) (w : World) (n : Nat) (cs : List Value) (xs : List (DataW H × List MemPlace)), cs.length = o + c.wd → xs.length = fs.length →
    (∀ (i : Nat) (f : Field), fs[i]? = some f → DataW.trod enc P w 0 (fun _ => true) true n f.type ((cs.drop f.offset).take (P.cellsOf f.type)) = xs[i]?) →
    w.noneFrozen (xs.flatMap (·.2)) → ∃ a F, c.rep w (cs.drop o) a F

theorem opensFs_one {α : Type} {c : Cod α} {f : Field} {o : Nat} (ho : f.offset = o) (h : Opens P f.type c) : OpensFs P [f] o c := by
  intro H enc w n cs xs hl hx hi hf
  match xs, hx with
  | [x], _ =>
    have h0 := hi 0 f rfl
    rw [ho, h.1, List.take_of_length_le (by rw [List.length_drop, hl]; omega)] at h0
    exact h.2 H enc w n _ x h0 (by simpa using hf)

theorem opensFs_cons {α β : Type} {c : Cod α} {d : Cod β} {f : Field} {fs : List Field} {o : Nat} (ho : f.offset = o) (h : Opens P f.type c) (k : OpensFs P fs (o + c.wd) d) : OpensFs P (f :: fs) o (cP c d) := by
  intro H enc w n cs xs hl hx hi hf
  match xs, hx with
  | x :: xs, hx =>
    have h0 := hi 0 f rfl
    rw [ho, h.1] at h0
    obtain ⟨a, F, ha⟩ := h.2 H enc w n _ x h0 (noneFrozen_mono hf fun y hy => by simp [hy])
    obtain ⟨b, G, hb⟩ := k H enc w n cs xs (by rw [hl]; show o + (c.wd + d.wd) = _; omega) (by simpa using hx) (fun i f hf => by simpa using hi (i + 1) f hf) (noneFrozen_mono hf fun y hy => by
      simp only [List.flatMap_cons, List.mem_append]; exact .inr hy)
    exact ⟨(a, b), F ++ G, _, _, F, G, by rw [← List.drop_drop, List.take_append_drop], rfl, ha, hb⟩

theorem opens_struct {α : Type} {c : Cod α} {fs : Array Field} (ht : P.underlying t = some (.struct fs)) (hk : P.cellsOf t = c.wd) (h : OpensFs P fs.toList 0 c) : Opens P t c := by
  refine ⟨hk, fun H enc w fuel cs x hx hf => ?_⟩
  obtain ⟨xs, n, _, rfl, hl, hxl, hi⟩ := DataW.trod_struct ht hx
  have := h H enc w n cs xs (by rw [hl, hk]; omega) (by simpa using hxl) (fun i f hf => hi i f (by simpa using hf)) hf
  simpa using this

theorem opens_map {α σ : Type} {c : Cod α} {f : σ → α} {g : α → σ} {hg : ∀ a, f (g a) = a} (h : Opens P t c) : Opens P t (cM c f g hg) := by
  refine ⟨h.1, fun H enc w fuel cs x hx hz => ?_⟩
  obtain ⟨a, F, ha⟩ := h.2 H enc w fuel cs x hx hz
  exact ⟨g a, F, by show c.rep w cs (f (g a)) F; rw [hg]; exact ha⟩

/-- A struct that came in. -/
theorem Opens.struct_ {α : Type} {c : Cod α} {fs : Array Field} (h : Opens P t c) (ht : P.underlying t = some (.struct fs)) {H : Type} {enc : TypeId × Value → H} {w : World} {base : Nat} {v : Value} {d : DataW H} {p : List MemPlace}
    (hv : Value.okWide P w .any base t v) (hd : DataW.Trod enc P w 0 (fun _ => true) true t v d p) (hf : w.noneFrozen p) : ∃ cs a F, v = .agg cs ∧ c.rep w cs.toList a F := by
  obtain ⟨cs, rfl, _⟩ := okWide_struct ht hv
  obtain ⟨n, hn⟩ := hd
  obtain ⟨a, F, ha⟩ := h.2 H enc w n _ _ hn hf
  exact ⟨cs, a, F, rfl, ha⟩
theorem Opens.slice_ {α : Type} {c : Cod α} (h : Opens P t c) (ht : P.underlying t = some (.slice e)) {H : Type} {enc : TypeId × Value → H} {w : World} {base : Nat} {v : Value} {d : DataW H} {p : List MemPlace}
    (hv : Value.okWide P w .any base t v) (hd : DataW.Trod enc P w 0 (fun _ => true) true t v d p) (hf : w.noneFrozen p) : ∃ a F, c.rep w [v] a F := by
  obtain ⟨A, len, cap, rfl⟩ := okWide_slice ht hv
  obtain ⟨n, hn⟩ := hd
  exact h.2 H enc w n _ _ hn hf
end

end Go.Proofs.Ytlicnppfgfjkgaa
namespace Go.Proofs.Ytlicnppfgfjkgaa
open Go.RowKit

/-! ### Only some blocks have turned -/
structure Only (F : List Nat) (w w' : World) : Prop where
  os : w'.os = w.os
  tape : w'.tape = w.tape
  output : w'.output = w.output
  size : w.heap.size ≤ w'.heap.size
  block : ∀ b, b < w.heap.size → b ∉ F → w'.heap[b]? = w.heap[b]?

theorem Only.refl (F : List Nat) (w : World) : Only F w w := ⟨rfl, rfl, rfl, Nat.le_refl _, fun _ _ _ => rfl⟩
theorem Only.of_below {F : List Nat} {w w' : World} (h : Below w.heap.size w w') : Only F w w' := ⟨h.os, h.tape, h.output, h.size, fun b hb _ => h.block b hb⟩
theorem Only.trans {F : List Nat} {a b c : World} (h : Only F a b) (k : Only F b c) : Only F a c :=
  ⟨k.os.trans h.os, k.tape.trans h.tape, k.output.trans h.output, Nat.le_trans h.size k.size, fun i hi hn => (k.block i (Nat.lt_of_lt_of_le hi h.size) hn).trans (h.block i hi hn)⟩
theorem Only.mono {F G : List Nat} {a b : World} (h : Only F a b) (hs : ∀ x, x ∈ F → x ∈ G) : Only G a b := ⟨h.os, h.tape, h.output, h.size, fun i hi hn => h.block i hi fun hf => hn (hs i hf)⟩
theorem Only.alloc {F : List Nat} {a b : World} (h : Only F a b) (o : Obj) : Only F a (b.alloc o) := h.trans (.of_below (bel_alloc (Below.refl _ _) o))
theorem Only.drew {F : List Nat} {a b : World} (h : Only F a b) : Only F a b.drew := ⟨h.os, h.tape, h.output, h.size, h.block⟩
theorem Only.drewN {F : List Nat} {a b : World} (h : Only F a b) (n : Nat) : Only F a (b.drewN n) := ⟨h.os, h.tape, h.output, h.size, h.block⟩
theorem Only.set_ {F : List Nat} {a b : World} (h : Only F a b) {p : Addr} (hp : p.block ∈ F) (u : Value) : Only F a (b.setCell p u) :=
  h.trans ⟨rfl, rfl, rfl, by simp, fun i _ hn => Below.heap_setCell _ _ _ _ (fun e => hn (e ▸ hp))⟩
theorem Only.bel {F : List Nat} {a b : World} (h : Only F a b) (B : Nat) (hB : B ≤ a.heap.size) (hF : ∀ x, x ∈ F → B ≤ x) : Below B a b :=
  ⟨h.os, h.tape, h.output, h.size, fun k hk => h.block k (by omega) fun hf => by have := hF k hf; omega⟩

/-! ### Readings kept -/
theorem Cod.bel {α : Type} {c : Cod α} {w w' : World} {vs : List Value} {x : α} {F : List Nat} (h : c.rep w vs x F) (hb : Below w.heap.size w w') : c.rep w' vs x F :=
  c.keep h fun b hm => hb.block b (c.lt h b hm)
theorem Cod.only {α : Type} {c : Cod α} {w w' : World} {vs : List Value} {x : α} {F G : List Nat} (h : c.rep w vs x F) (hb : Only G w w') (hd : ∀ b, b ∈ F → b ∉ G) : c.rep w' vs x F :=
  c.keep h fun b hm => hb.block b (c.lt h b hm) (hd b hm)
theorem Cod.reps_bel {α : Type} {c : Cod α} {w w' : World} {vs : List Value} {x : List α} {F : List Nat} (h : c.reps w vs x F) (hb : Below w.heap.size w w') : c.reps w' vs x F :=
  Cod.reps_keep h fun b hm => hb.block b (Cod.reps_lt h b hm)

/-- blocks of a call's own, none twice -/
def Fresh (B : Nat) (F : List Nat) : Prop := (∀ b, b ∈ F → B ≤ b) ∧ F.Nodup
theorem Fresh.nil (B : Nat) : Fresh B [] := ⟨fun b h => by simp at h, List.nodup_nil⟩
theorem Fresh.mono {B B' : Nat} {F : List Nat} (h : Fresh B F) (hB : B' ≤ B) : Fresh B' F := ⟨fun b hb => Nat.le_trans hB (h.1 b hb), h.2⟩
theorem Fresh.app {B C : Nat} {F G : List Nat} (h : Fresh B F) (hlt : ∀ b, b ∈ F → b < C) (k : Fresh C G) (hBC : B ≤ C) : Fresh B (F ++ G) :=
  ⟨fun b hb => by
    rcases List.mem_append.1 hb with hb | hb
    · exact h.1 b hb
    · exact Nat.le_trans hBC (k.1 b hb),
   List.nodup_append.2 ⟨h.2, k.2, fun a ha b hb e => by have := hlt a ha; have := k.1 b hb; omega⟩⟩

/-- A call returns a value of one cell that reads as x, in memory of its own. -/
def GivesS {α : Type} (c : Cod α) (w : World) (x : α) (e : Ending) (w' : World) : Prop :=
  ∃ v F, e = .returned v ∧ Below w.heap.size w w' ∧ c.rep w' [v] x F ∧ Fresh w.heap.size F
/-- .. a struct. -/
def GivesR {α : Type} (c : Cod α) (w : World) (x : α) (e : Ending) (w' : World) : Prop :=
  ∃ vs F, e = .returned (.agg vs) ∧ Below w.heap.size w w' ∧ c.rep w' vs.toList x F ∧ Fresh w.heap.size F

/-- From block L on nothing that was there has turned. -/
structure Keep (L : Nat) (w w' : World) : Prop where
  size : w.heap.size ≤ w'.heap.size
  block : ∀ b, L ≤ b → b < w.heap.size → w'.heap[b]? = w.heap[b]?
theorem Keep.refl (L : Nat) (w : World) : Keep L w w := ⟨Nat.le_refl _, fun _ _ _ => rfl⟩
theorem Keep.mono {L L' : Nat} {w w' : World} (h : Keep L w w') (hL : L ≤ L') : Keep L' w w' := ⟨h.size, fun b h1 h2 => h.block b (Nat.le_trans hL h1) h2⟩
theorem Keep.bel {L : Nat} {a w w' : World} (h : Keep L a w) (hb : Below w.heap.size w w') : Keep L a w' :=
  ⟨Nat.le_trans h.size hb.size, fun b h1 h2 => (hb.block b (Nat.lt_of_lt_of_le h2 h.size)).trans (h.block b h1 h2)⟩
theorem Keep.alloc {L : Nat} {a w : World} (h : Keep L a w) (o : Obj) : Keep L a (w.alloc o) := h.bel (bel_alloc (Below.refl _ _) o)
theorem Keep.drew {L : Nat} {a w : World} (h : Keep L a w) : Keep L a w.drew := h.bel (Below.refl _ _).drew
theorem Keep.drewN {L : Nat} {a w : World} (h : Keep L a w) (n : Nat) : Keep L a (w.drewN n) := h.bel (bel_drewN (Below.refl _ _) n)
theorem Keep.set_ {L : Nat} {a w : World} (h : Keep L a w) {p : Addr} (hp : p.block < L) (u : Value) : Keep L a (w.setCell p u) :=
  ⟨by simpa using h.size, fun b h1 h2 => (Below.heap_setCell _ _ _ _ (by omega)).trans (h.block b h1 h2)⟩
theorem Cod.keep2 {α : Type} {c : Cod α} {w w' : World} {vs : List Value} {x : α} {F : List Nat} {L : Nat} (h : c.rep w vs x F) (hf : Fresh L F) (hk : Keep L w w') : c.rep w' vs x F :=
  c.keep h fun b hm => hk.block b (hf.1 b hm) (c.lt h b hm)
theorem Fresh.then_ {B L : Nat} {F G : List Nat} {w1 : World} (h : Fresh B F) (hlt : ∀ b, b ∈ F → b < w1.heap.size) (hL : w1.heap.size ≤ L) (k : Fresh L G) (hBL : B ≤ L) : Fresh B (F ++ G) :=
  h.app (fun b hb => Nat.lt_of_lt_of_le (hlt b hb) hL) k hBL
theorem mem_lt {F G : List Nat} {a b : Nat} (h1 : ∀ x, x ∈ F → x < a) (h2 : ∀ x, x ∈ G → x < b) (hab : a ≤ b) : ∀ x, x ∈ F ++ G → x < b := fun x hx => by
  rcases List.mem_append.1 hx with hx | hx
  · have := h1 x hx; omega
  · exact h2 x hx

/-! ### Sizes -/
def Cod.sumSz {α : Type} (c : Cod α) : List α → Nat
  | [] => 0
  | x :: xs => c.sz x + c.sumSz xs
theorem Cod.szs_sum {α : Type} (c : Cod α) : ∀ xs : List α, c.szs xs = xs.length + c.sumSz xs
  | [] => rfl
  | x :: xs => by simp only [Cod.szs, Cod.sumSz, List.length_cons, Cod.szs_sum c xs]; omega
theorem Cod.szs_flat {α : Type} {c : Cod α} (h : ∀ x, c.sz x = 0) : ∀ xs : List α, c.szs xs = xs.length
  | [] => rfl
  | x :: xs => by simp [Cod.szs, h, Cod.szs_flat h xs, Nat.add_comm]
theorem Cod.len_le {α : Type} (c : Cod α) (xs : List α) : xs.length ≤ c.szs xs := by rw [Cod.szs_sum]; omega
theorem Cod.sz_mem {α : Type} (c : Cod α) : ∀ (xs : List α) (x : α), x ∈ xs → c.sz x ≤ c.szs xs
  | y :: ys, x, h => by
    simp only [Cod.szs]
    rcases List.mem_cons.1 h with rfl | h
    · omega
    · have := Cod.sz_mem c ys x h; omega
theorem Cod.sumSz_le {α : Type} (c : Cod α) (xs : List α) : ∀ k, c.sumSz (xs.take k) ≤ c.sumSz xs := by
  induction xs with
  | nil => intro k; simp
  | cons x xs ih =>
    intro k
    cases k with
    | zero => simp [Cod.sumSz]
    | succ k => simp only [List.take_succ_cons, Cod.sumSz]; have := ih k; omega
theorem Cod.sumSz_succ {α : Type} (c : Cod α) : ∀ (xs : List α) (k : Nat) (h : k < xs.length), c.sumSz (xs.take (k + 1)) = c.sumSz (xs.take k) + c.sz xs[k]
  | x :: xs, 0, _ => by simp [Cod.sumSz]
  | x :: xs, k + 1, h => by
    have := Cod.sumSz_succ c xs k (by simpa using h)
    simp only [List.take_succ_cons, Cod.sumSz, List.getElem_cons_succ, this]; omega

/-- .. a struct and one, two values more; a slice and one value more. -/
def GivesR2 {α : Type} (c : Cod α) (w : World) (x : α) (r1 : Value) (e : Ending) (w' : World) : Prop :=
  ∃ vs F, e = .returned (.tuple #[.agg vs, r1]) ∧ Below w.heap.size w w' ∧ c.rep w' vs.toList x F ∧ Fresh w.heap.size F
def GivesR3 {α : Type} (c : Cod α) (w : World) (x : α) (r1 r2 : Value) (e : Ending) (w' : World) : Prop :=
  ∃ vs F, e = .returned (.tuple #[.agg vs, r1, r2]) ∧ Below w.heap.size w w' ∧ c.rep w' vs.toList x F ∧ Fresh w.heap.size F
def GivesS2 {α : Type} (c : Cod α) (w : World) (x : α) (r1 : Value) (e : Ending) (w' : World) : Prop :=
  ∃ v F, e = .returned (.tuple #[v, r1]) ∧ Below w.heap.size w w' ∧ c.rep w' [v] x F ∧ Fresh w.heap.size F

/-! ### A slice's cells -/
section
variable {α : Type} {c : Cod α} {hw : 0 < c.wd} {hw2 : c.wd ≤ 32} {w : World} {A : Option Addr} {n cp : Nat} {xs : List α} {F : List Nat}

theorem cL_len (h : (cL c hw hw2).rep w [.slice A n cp] xs F) : n = xs.length ∧ n ≤ cp ∧ cp ≤ maxLen := by
  obtain ⟨A', cp', hv, hl, hm, _⟩ := h
  simp only [List.cons.injEq, Value.slice.injEq, and_true] at hv
  obtain ⟨rfl, rfl, rfl⟩ := hv
  exact ⟨rfl, hl, hm⟩
theorem cL_form {v : Value} (h : (cL c hw hw2).rep w [v] xs F) : ∃ A cp, v = .slice A xs.length cp := by
  obtain ⟨A', cp', hv, _⟩ := h
  simp only [List.cons.injEq, and_true] at hv
  exact ⟨A', cp', hv⟩
theorem cL_get (h : (cL c hw hw2).rep w [.slice A n cp] xs F) {k : Nat} (hk : k < xs.length) :
    ∃ g o vs F1, A = some ⟨g, o, none⟩ ∧ g ∈ F ∧ c.rep w vs xs[k] F1 ∧ (∀ b, b ∈ F1 → b ∈ F) ∧
      ∀ j v, vs[j]? = some v → w.cell? ⟨g, o + k * c.wd + j, none⟩ = some v ∧ w.frozen? ⟨g, o + k * c.wd + j, none⟩ = false := by
  obtain ⟨A', cp', hv, hl, hm, hr⟩ := h
  simp only [List.cons.injEq, Value.slice.injEq, and_true] at hv
  obtain ⟨rfl, rfl, rfl⟩ := hv
  rcases hr with ⟨rfl, _⟩ | ⟨_, g, o, Fs, us, rfl, rfl, hc, hr⟩
  · simp at hk
  · obtain ⟨vs, F1, h1, h2, h3⟩ := Cod.reps_get hr k hk
    refine ⟨g, o, vs, F1, rfl, by simp, h1, fun b hb => by simp [h2 b hb], fun j v hj => ?_⟩
    have := hc _ _ (h3 j v hj)
    rwa [← Nat.add_assoc] at this
end

/-! ### A block that is known whole -/
def Blk (w : World) (g : Nat) (t : TypeId) (cs : Array Value) : Prop := w.heap[g]? = some (.cells cs t (0, 0))
section
variable {w w' : World} {g : Nat} {t : TypeId} {cs : Array Value}
theorem Blk.lt (h : Blk w g t cs) : g < w.heap.size := (Array.getElem?_eq_some_iff.1 h).1
theorem Blk.cell (h : Blk w g t cs) (i : Nat) : w.cell? ⟨g, i, none⟩ = cs[i]? := cell_of_row w g i cs t (0, 0) h
theorem Blk.frozen (h : Blk w g t cs) (i : Nat) : w.frozen? ⟨g, i, none⟩ = false := by
  unfold Blk at h
  simp [World.frozen?, h]
theorem Blk.new (w : World) (t : TypeId) (cs : Array Value) : Blk (w.alloc (.cells cs t)) w.heap.size t cs := heap_alloc_new w _
theorem Blk.set_ (h : Blk w g t cs) (i : Nat) (u : Value) : Blk (w.setCell ⟨g, i, none⟩ u) g t (cs.setIfInBounds i u) := by
  unfold Blk at h ⊢
  simp [World.setCell, Array.getElem?_modify, h]
theorem Blk.bel (h : Blk w g t cs) (hb : Below w.heap.size w w') : Blk w' g t cs := (hb.block g h.lt).trans h
theorem Blk.only {F : List Nat} (h : Blk w g t cs) (hb : Only F w w') (hg : g ∉ F) : Blk w' g t cs := (hb.block g h.lt hg).trans h
end

/-- Cells written one behind the other. -/
def putCells (w : World) (g : Nat) : Nat → List Value → World
  | _, [] => w
  | i, v :: vs => putCells (w.setCell ⟨g, i, none⟩ v) g (i + 1) vs
def putRow (cs : Array Value) : Nat → List Value → Array Value
  | _, [] => cs
  | i, v :: vs => putRow (cs.setIfInBounds i v) (i + 1) vs
theorem Blk.put {g : Nat} {t : TypeId} : ∀ {w : World} {cs : Array Value} (i : Nat) (vs : List Value), Blk w g t cs → Blk (putCells w g i vs) g t (putRow cs i vs)
  | _, _, _, [], h => h
  | _, _, i, v :: vs, h => Blk.put (i + 1) vs (h.set_ i v)
theorem putRow_size : ∀ (cs : Array Value) (i : Nat) (vs : List Value), (putRow cs i vs).size = cs.size
  | _, _, [] => rfl
  | cs, i, v :: vs => by unfold putRow; rw [putRow_size]; simp
theorem putRow_take : ∀ (cs : Array Value) (i : Nat) (vs : List Value), i + vs.length ≤ cs.size → (putRow cs i vs).toList.take (i + vs.length) = cs.toList.take i ++ vs
  | cs, i, [], _ => by simp [putRow]
  | cs, i, v :: vs, h => by
    simp only [List.length_cons] at h
    unfold putRow
    have h1 : (cs.setIfInBounds i v).toList.take (i + 1) = cs.toList.take i ++ [v] := by
      have hl : i < (cs.setIfInBounds i v).toList.length := by simp; omega
      rw [List.take_succ_eq_append_getElem hl]
      congr 1
      · simp only [Array.toList_setIfInBounds, List.take_set]
        rw [List.set_eq_of_length_le (by simp; omega)]
      · simp
    have := putRow_take (cs.setIfInBounds i v) (i + 1) vs (by simp; omega)
    rw [List.length_cons, show i + (vs.length + 1) = i + 1 + vs.length by omega, this, h1, List.append_assoc]; rfl
theorem putCells_only {F : List Nat} {g : Nat} (hg : g ∈ F) : ∀ {a w : World} (i : Nat) (vs : List Value), Only F a w → Only F a (putCells w g i vs)
  | _, _, _, [], h => h
  | _, _, i, v :: vs, h => putCells_only hg (i + 1) vs (h.set_ (p := ⟨g, i, none⟩) hg v)

/-! ### A new row filled element by element -/
section
variable {α : Type} {c : Cod α} {w wr w1 : World} {E : TypeId} {n k : Nat} {xs : List α}

/-- The new block w.heap.size holds room for n elements; the first k are those of xs. -/
def Filled (c : Cod α) (w : World) (E : TypeId) (xs : List α) (k : Nat) (wr : World) : Prop :=
  ∃ cs Fs, Blk wr w.heap.size E cs ∧ cs.size = xs.length * c.wd ∧ c.reps wr (cs.toList.take (k * c.wd)) (xs.take k) Fs ∧ Fresh (w.heap.size + 1) Fs ∧ Below w.heap.size w wr

theorem Filled.start (cs : Array Value) (hcs : cs.size = xs.length * c.wd) : Filled c w E xs 0 (w.alloc (.cells cs E)) :=
  ⟨cs, [], Blk.new w E cs, hcs, by simp [Cod.reps], Fresh.nil _, bel_alloc (Below.refl _ _) _⟩
theorem Filled.bel (h : Filled c w E xs k wr) : Below w.heap.size w wr := by
  obtain ⟨_, _, _, _, _, _, h⟩ := h; exact h
theorem Filled.lt (h : Filled c w E xs k wr) : w.heap.size < wr.heap.size := by
  obtain ⟨_, _, h, _⟩ := h; exact h.lt
theorem Filled.cell (h : Filled c w E xs k wr) (hk : k < xs.length) (hb : Below wr.heap.size wr w1) : ∀ j, j < c.wd → (∃ v, w1.cell? ⟨w.heap.size, k * c.wd + j, none⟩ = some v) ∧ w1.frozen? ⟨w.heap.size, k * c.wd + j, none⟩ = false := by
  obtain ⟨cs, Fs, hblk, hcs, _⟩ := h
  intro j hj
  have hlt : k * c.wd + j < cs.size := by
    rw [hcs]
    have : (k + 1) * c.wd ≤ xs.length * c.wd := Nat.mul_le_mul_right _ hk
    rw [Nat.add_mul] at this; omega
  exact ⟨⟨cs[k * c.wd + j], by rw [(hblk.bel hb).cell, Array.getElem?_eq_getElem hlt]⟩, (hblk.bel hb).frozen _⟩
theorem Filled.step (h : Filled c w E xs k wr) (hk : k < xs.length) (hb : Below wr.heap.size wr w1) {vs : List Value} {F1 : List Nat} (hv : c.rep w1 vs xs[k] F1) (hf : Fresh wr.heap.size F1) :
    Filled c w E xs (k + 1) (putCells w1 w.heap.size (k * c.wd) vs) := by
  obtain ⟨cs, Fs, hblk, hcs, hr, hfr, hB⟩ := h
  have hl := c.len hv
  have hle : k * c.wd + c.wd ≤ cs.size := by
    rw [hcs]
    have : (k + 1) * c.wd ≤ xs.length * c.wd := Nat.mul_le_mul_right _ hk
    rwa [Nat.add_mul, Nat.one_mul] at this
  have ho : Only [w.heap.size] w1 (putCells w1 w.heap.size (k * c.wd) vs) := putCells_only (by simp) _ _ (Only.refl _ _)
  have hlt := hblk.lt
  refine ⟨putRow cs (k * c.wd) vs, Fs ++ F1, (hblk.bel hb).put _ _, by rw [putRow_size]; exact hcs, ?_, ?_, ?_⟩
  · rw [Nat.add_mul, Nat.one_mul, ← hl, putRow_take _ _ _ (by rw [hl]; exact hle), List.take_succ_eq_append_getElem hk]
    have k1 := Cod.reps_keep (Cod.reps_bel hr hb) (w' := putCells w1 w.heap.size (k * c.wd) vs) fun b hm => ho.block b (Nat.lt_of_lt_of_le (Cod.reps_lt hr b hm) hb.size) (by have := hfr.1 b hm; simp; omega)
    have k2 := c.keep hv (w' := putCells w1 w.heap.size (k * c.wd) vs) fun b hm => ho.block b (c.lt hv b hm) (by have := hf.1 b hm; simp; omega)
    rw [hl]
    exact Cod.reps_app k1 (Cod.reps_one k2)
  · exact hfr.app (fun b hm => Cod.reps_lt hr b hm) hf (by omega)
  · exact hB.trans ((hb.mono hB.size).trans (ho.bel _ (Nat.le_trans hB.size hb.size) (fun x hx => by simp at hx; omega)))
theorem Filled.done {hw : 0 < c.wd} {hw2 : c.wd ≤ 32} (h : Filled c w E xs xs.length wr) (hm : xs.length ≤ maxLen) :
    ∃ F, (cL c hw hw2).rep wr [.slice (some ⟨w.heap.size, 0, none⟩) xs.length xs.length] xs F ∧ Fresh w.heap.size F := by
  obtain ⟨cs, Fs, hblk, hcs, hr, hfr, hB⟩ := h
  rw [List.take_length, List.take_of_length_le (by simp [hcs])] at hr
  by_cases h0 : xs = []
  · subst h0
    exact ⟨[], ⟨_, _, rfl, Nat.le_refl _, hm, .inl ⟨rfl, rfl⟩⟩, Fresh.nil _⟩
  · refine ⟨w.heap.size :: Fs, ⟨_, _, rfl, Nat.le_refl _, hm, .inr ⟨h0, w.heap.size, 0, Fs, cs.toList, rfl, rfl, fun j u hu => ?_, hr⟩⟩, ?_, ?_⟩
    · rw [Nat.zero_add]
      exact ⟨by rw [hblk.cell]; simpa using hu, hblk.frozen _⟩
    · intro b hb
      rcases List.mem_cons.1 hb with rfl | hb
      · exact Nat.le_refl _
      · have := hfr.1 b hb; omega
    · exact List.nodup_cons.2 ⟨fun hm => by have := hfr.1 _ hm; omega, hfr.2⟩
end

theorem run_make_rowN {P : Program} (t e : TypeId) (i : TypeInfo) (z : Value) (ht : P.underlying t = some (.slice e)) (hi : P.info? e = some i) (hz : i.zero = some z)
    (kl kc : IntKind) (n c : Nat) (hnc : n ≤ c) (hbytes : i.bytes * c ≤ 281474976710656) (h63 : c ≤ 9223372036854775807) (w : World) :
    (Instr.makeSlice t (.int kl (n : Int)) (.int kc (c : Int))).run P w = .ok (.slice (some ⟨w.heap.size, 0, none⟩) n c) (w.alloc (.cells (madeCells z.cells (c * i.size)) e)) := by
  have hb : (i.bytes : Int) * (c : Int) ≤ 281474976710656 := by
    have h : ((i.bytes * c : Nat) : Int) ≤ 281474976710656 := by omega
    rwa [Int.natCast_mul] at h
  have hr := run_make (P := P) w t e i z ht hi hz kl kc n c (by omega) (by omega) hb (by omega)
  simp only [Int.toNat_natCast] at hr
  exact hr

end Go.Proofs.Ytlicnppfgfjkgaa
namespace Go.Proofs.Ytlicnppfgfjkgaa
open Go.ChangeShapes Go.WideShapes Go.RowKit
set_option linter.unusedVariables false

def cIS : Cod (List Int) := cL cI (by decide) (by decide)
theorem opens_IS : Opens Try.prog 26 cIS := opens_slice Try.underlying26 (opens_int Try.underlying3 (by kernel_rfl)) (by kernel_rfl)

end Go.Proofs.Ytlicnppfgfjkgaa
namespace Go.Proofs.Ytlicnppfgfjkgaa
open Go.ChangeShapes Go.WideShapes Go.RowKit
set_option linter.unusedVariables false

structure TIns where
  kind : Int
  r : Int
  n : Int
  text : ByteArray

def cIns : Cod TIns := cM (cP cI (cP cI (cP cI cS))) (fun x => (x.kind, x.r, x.n, x.text)) (fun a => ⟨a.1, a.2.1, a.2.2.1, a.2.2.2⟩) (fun _ => rfl)

structure TIns.Ok (x : TIns) : Prop where
  h0 : -9223372036854775808 ≤ x.kind ∧ x.kind ≤ 9223372036854775807
  h1 : -9223372036854775808 ≤ x.r ∧ x.r ≤ 9223372036854775807
  h2 : -9223372036854775808 ≤ x.n ∧ x.n ≤ 9223372036854775807
  h3 : x.text.size ≤ maxLen

theorem TIns.out {w : World} {vs : List Value} {x : TIns} {F : List Nat} (h : cIns.rep w vs x F) :
    vs = [Value.int .i64 x.kind, .int .i64 x.r, .int .i64 x.n, .string x.text] ∧ F = [] ∧ x.Ok := by

  obtain ⟨a0, b0, G0, H0, rfl, rfl, ⟨rfl, rfl, h0⟩, a1, b1, G1, H1, rfl, rfl, ⟨rfl, rfl, h1⟩, a2, b2, G2, H2, rfl, rfl, ⟨rfl, rfl, h2⟩, rfl, rfl, h3⟩ := h
  exact ⟨rfl, by simp, ⟨h0, h1, h2, h3⟩⟩

theorem TIns.mk_ {w : World} {x : TIns} (h : x.Ok) : cIns.rep w [Value.int .i64 x.kind, .int .i64 x.r, .int .i64 x.n, .string x.text] x ([]) := by

  exact ⟨[_], _, [], [], rfl, by simp, ⟨rfl, rfl, h.h0⟩, ⟨[_], _, [], [], rfl, by simp, ⟨rfl, rfl, h.h1⟩, ⟨[_], _, [], [], rfl, by simp, ⟨rfl, rfl, h.h2⟩, ⟨rfl, rfl, h.h3⟩⟩⟩⟩


def TIns.val (x : TIns) : Value := .agg #[Value.int .i64 x.kind, .int .i64 x.r, .int .i64 x.n, .string x.text]

theorem TIns.val_of {w : World} {cs : Array Value} {x : TIns} {F : List Nat} (h : cIns.rep w cs.toList x F) : Value.agg cs = x.val := by
  have := (TIns.out h).1
  unfold TIns.val
  rw [← Array.toList_inj.1 (show cs.toList = #[Value.int .i64 x.kind, .int .i64 x.r, .int .i64 x.n, .string x.text].toList from this)]

end Go.Proofs.Ytlicnppfgfjkgaa
namespace Go.Proofs.Ytlicnppfgfjkgaa
open Go.ChangeShapes Go.WideShapes Go.RowKit
set_option linter.unusedVariables false

def cInsS : Cod (List TIns) := cL cIns (by decide) (by decide)

end Go.Proofs.Ytlicnppfgfjkgaa
namespace Go.Proofs.Ytlicnppfgfjkgaa
open Go.ChangeShapes Go.WideShapes Go.RowKit
set_option linter.unusedVariables false

structure TMach where
  script : List TIns
  pc : Int
  regs : List Int
  steps : Int
  done : Bool
  wait : Bool

def cMach : Cod TMach := cM (cP cInsS (cP cI (cP cIS (cP cI (cP cB cB))))) (fun x => (x.script, x.pc, x.regs, x.steps, x.done, x.wait)) (fun a => ⟨a.1, a.2.1, a.2.2.1, a.2.2.2.1, a.2.2.2.2.1, a.2.2.2.2.2⟩) (fun _ => rfl)

structure TMach.Ok (x : TMach) : Prop where
  h1 : -9223372036854775808 ≤ x.pc ∧ x.pc ≤ 9223372036854775807
  h3 : -9223372036854775808 ≤ x.steps ∧ x.steps ≤ 9223372036854775807

theorem TMach.out {w : World} {vs : List Value} {x : TMach} {F : List Nat} (h : cMach.rep w vs x F) :
    ∃ v0 v2 F0 F2, vs = [v0, .int .i64 x.pc, v2, .int .i64 x.steps, .bool x.done, .bool x.wait] ∧ F = F0 ++ F2 ∧ x.Ok ∧ cInsS.rep w [v0] x.script F0 ∧ cIS.rep w [v2] x.regs F2 := by

  obtain ⟨a0, b0, G0, H0, rfl, rfl, h0, a1, b1, G1, H1, rfl, rfl, ⟨rfl, rfl, h1⟩, a2, b2, G2, H2, rfl, rfl, h2, a3, b3, G3, H3, rfl, rfl, ⟨rfl, rfl, h3⟩, a4, b4, G4, H4, rfl, rfl, ⟨rfl, rfl⟩, rfl, rfl⟩ := h
  obtain ⟨A0, cp0, rfl, k0⟩ := h0
  obtain ⟨A2, cp2, rfl, k2⟩ := h2
  exact ⟨_, _, G0, G2, rfl, by simp, ⟨h1, h3⟩, ⟨A0, cp0, rfl, k0⟩, ⟨A2, cp2, rfl, k2⟩⟩

theorem TMach.mk_ {w : World} {x : TMach} {v0 : Value} {v2 : Value} {F0 : List Nat} {F2 : List Nat} (h : x.Ok) (k0 : cInsS.rep w [v0] x.script F0) (k2 : cIS.rep w [v2] x.regs F2) : cMach.rep w [v0, .int .i64 x.pc, v2, .int .i64 x.steps, .bool x.done, .bool x.wait] x (F0 ++ F2) := by

  exact ⟨[_], _, F0, F2, rfl, by simp, k0, ⟨[_], _, [], F2, rfl, by simp, ⟨rfl, rfl, h.h1⟩, ⟨[_], _, F2, [], rfl, by simp, k2, ⟨[_], _, [], [], rfl, by simp, ⟨rfl, rfl, h.h3⟩, ⟨[_], _, [], [], rfl, by simp, ⟨rfl, rfl⟩, ⟨rfl, rfl⟩⟩⟩⟩⟩⟩


theorem TMach.outA {w : World} {vs : Array Value} {x : TMach} {F : List Nat} (h : cMach.rep w vs.toList x F) :
    ∃ v0 v2 F0 F2, vs = #[v0, .int .i64 x.pc, v2, .int .i64 x.steps, .bool x.done, .bool x.wait] ∧ F = F0 ++ F2 ∧ x.Ok ∧ cInsS.rep w [v0] x.script F0 ∧ cIS.rep w [v2] x.regs F2 := by
  obtain ⟨a0, a1, a2, a3, e, f, r⟩ := TMach.out h
  exact ⟨a0, a1, a2, a3, Array.toList_inj.1 e, f, r⟩

end Go.Proofs.Ytlicnppfgfjkgaa
namespace Go.Proofs.Ytlicnppfgfjkgaa
open Go.ChangeShapes Go.WideShapes Go.RowKit
set_option linter.unusedVariables false

structure TLoaded where
  path : ByteArray
  ver : Int

def cLoaded : Cod TLoaded := cM (cP cS cI) (fun x => (x.path, x.ver)) (fun a => ⟨a.1, a.2⟩) (fun _ => rfl)

structure TLoaded.Ok (x : TLoaded) : Prop where
  h0 : x.path.size ≤ maxLen
  h1 : -9223372036854775808 ≤ x.ver ∧ x.ver ≤ 9223372036854775807

theorem TLoaded.out {w : World} {vs : List Value} {x : TLoaded} {F : List Nat} (h : cLoaded.rep w vs x F) :
    vs = [Value.string x.path, .int .i64 x.ver] ∧ F = [] ∧ x.Ok := by

  obtain ⟨a0, b0, G0, H0, rfl, rfl, ⟨rfl, rfl, h0⟩, rfl, rfl, h1⟩ := h
  exact ⟨rfl, by simp, ⟨h0, h1⟩⟩

theorem TLoaded.mk_ {w : World} {x : TLoaded} (h : x.Ok) : cLoaded.rep w [Value.string x.path, .int .i64 x.ver] x ([]) := by

  exact ⟨[_], _, [], [], rfl, by simp, ⟨rfl, rfl, h.h0⟩, ⟨rfl, rfl, h.h1⟩⟩


def TLoaded.val (x : TLoaded) : Value := .agg #[Value.string x.path, .int .i64 x.ver]

theorem TLoaded.val_of {w : World} {cs : Array Value} {x : TLoaded} {F : List Nat} (h : cLoaded.rep w cs.toList x F) : Value.agg cs = x.val := by
  have := (TLoaded.out h).1
  unfold TLoaded.val
  rw [← Array.toList_inj.1 (show cs.toList = #[Value.string x.path, .int .i64 x.ver].toList from this)]

end Go.Proofs.Ytlicnppfgfjkgaa
namespace Go.Proofs.Ytlicnppfgfjkgaa
open Go.ChangeShapes Go.WideShapes Go.RowKit
set_option linter.unusedVariables false

def cLoadedS : Cod (List TLoaded) := cL cLoaded (by decide) (by decide)

end Go.Proofs.Ytlicnppfgfjkgaa
namespace Go.Proofs.Ytlicnppfgfjkgaa
open Go.ChangeShapes Go.WideShapes Go.RowKit
set_option linter.unusedVariables false

structure TPage where
  id : Int
  site : ByteArray
  top : ByteArray
  ver : Int
  loaded : List TLoaded
  mach : TMach

def cPage : Cod TPage := cM (cP cI (cP cS (cP cS (cP cI (cP cLoadedS (cP cInsS (cP cI (cP cIS (cP cI (cP cB cB)))))))))) (fun x => (x.id, x.site, x.top, x.ver, x.loaded, x.mach.script, x.mach.pc, x.mach.regs, x.mach.steps, x.mach.done, x.mach.wait)) (fun a => ⟨a.1, a.2.1, a.2.2.1, a.2.2.2.1, a.2.2.2.2.1, ⟨a.2.2.2.2.2.1, a.2.2.2.2.2.2.1, a.2.2.2.2.2.2.2.1, a.2.2.2.2.2.2.2.2.1, a.2.2.2.2.2.2.2.2.2.1, a.2.2.2.2.2.2.2.2.2.2⟩⟩) (fun _ => rfl)

structure TPage.Ok (x : TPage) : Prop where
  h0 : -9223372036854775808 ≤ x.id ∧ x.id ≤ 9223372036854775807
  h1 : x.site.size ≤ maxLen
  h2 : x.top.size ≤ maxLen
  h3 : -9223372036854775808 ≤ x.ver ∧ x.ver ≤ 9223372036854775807
  h6 : -9223372036854775808 ≤ x.mach.pc ∧ x.mach.pc ≤ 9223372036854775807
  h8 : -9223372036854775808 ≤ x.mach.steps ∧ x.mach.steps ≤ 9223372036854775807

theorem TPage.out {w : World} {vs : List Value} {x : TPage} {F : List Nat} (h : cPage.rep w vs x F) :
    ∃ v4 v5 v7 F4 F5 F7, vs = [Value.int .i64 x.id, .string x.site, .string x.top, .int .i64 x.ver, v4, v5, .int .i64 x.mach.pc, v7, .int .i64 x.mach.steps, .bool x.mach.done, .bool x.mach.wait] ∧ F = F4 ++ F5 ++ F7 ∧ x.Ok ∧ cLoadedS.rep w [v4] x.loaded F4 ∧ cInsS.rep w [v5] x.mach.script F5 ∧ cIS.rep w [v7] x.mach.regs F7 := by

  obtain ⟨a0, b0, G0, H0, rfl, rfl, ⟨rfl, rfl, h0⟩, a1, b1, G1, H1, rfl, rfl, ⟨rfl, rfl, h1⟩, a2, b2, G2, H2, rfl, rfl, ⟨rfl, rfl, h2⟩, a3, b3, G3, H3, rfl, rfl, ⟨rfl, rfl, h3⟩, a4, b4, G4, H4, rfl, rfl, h4, a5, b5, G5, H5, rfl, rfl, h5, a6, b6, G6, H6, rfl, rfl, ⟨rfl, rfl, h6⟩, a7, b7, G7, H7, rfl, rfl, h7, a8, b8, G8, H8, rfl, rfl, ⟨rfl, rfl, h8⟩, a9, b9, G9, H9, rfl, rfl, ⟨rfl, rfl⟩, rfl, rfl⟩ := h
  obtain ⟨A4, cp4, rfl, k4⟩ := h4
  obtain ⟨A5, cp5, rfl, k5⟩ := h5
  obtain ⟨A7, cp7, rfl, k7⟩ := h7
  exact ⟨_, _, _, G4, G5, G7, rfl, by simp, ⟨h0, h1, h2, h3, h6, h8⟩, ⟨A4, cp4, rfl, k4⟩, ⟨A5, cp5, rfl, k5⟩, ⟨A7, cp7, rfl, k7⟩⟩

theorem TPage.mk_ {w : World} {x : TPage} {v4 : Value} {v5 : Value} {v7 : Value} {F4 : List Nat} {F5 : List Nat} {F7 : List Nat} (h : x.Ok) (k4 : cLoadedS.rep w [v4] x.loaded F4) (k5 : cInsS.rep w [v5] x.mach.script F5) (k7 : cIS.rep w [v7] x.mach.regs F7) : cPage.rep w [Value.int .i64 x.id, .string x.site, .string x.top, .int .i64 x.ver, v4, v5, .int .i64 x.mach.pc, v7, .int .i64 x.mach.steps, .bool x.mach.done, .bool x.mach.wait] x (F4 ++ F5 ++ F7) := by

  exact ⟨[_], _, [], F4 ++ F5 ++ F7, rfl, by simp, ⟨rfl, rfl, h.h0⟩, ⟨[_], _, [], F4 ++ F5 ++ F7, rfl, by simp, ⟨rfl, rfl, h.h1⟩, ⟨[_], _, [], F4 ++ F5 ++ F7, rfl, by simp, ⟨rfl, rfl, h.h2⟩, ⟨[_], _, [], F4 ++ F5 ++ F7, rfl, by simp, ⟨rfl, rfl, h.h3⟩, ⟨[_], _, F4, F5 ++ F7, rfl, by simp, k4, ⟨[_], _, F5, F7, rfl, by simp, k5, ⟨[_], _, [], F7, rfl, by simp, ⟨rfl, rfl, h.h6⟩, ⟨[_], _, F7, [], rfl, by simp, k7, ⟨[_], _, [], [], rfl, by simp, ⟨rfl, rfl, h.h8⟩, ⟨[_], _, [], [], rfl, by simp, ⟨rfl, rfl⟩, ⟨rfl, rfl⟩⟩⟩⟩⟩⟩⟩⟩⟩⟩⟩

/-- by its parts -/
def cPageN : Cod TPage := cM (cP cI (cP cS (cP cS (cP cI (cP cLoadedS cMach))))) (fun x => (x.id, x.site, x.top, x.ver, x.loaded, x.mach)) (fun a => ⟨a.1, a.2.1, a.2.2.1, a.2.2.2.1, a.2.2.2.2.1, a.2.2.2.2.2⟩) (fun _ => rfl)

theorem cPageN_flat {w : World} {vs : List Value} {x : TPage} {F : List Nat} (h : cPageN.rep w vs x F) : cPage.rep w vs x F := by

  obtain ⟨a0, b0, G0, H0, rfl, rfl, ⟨rfl, rfl, n0⟩, a1, b1, G1, H1, rfl, rfl, ⟨rfl, rfl, n1⟩, a2, b2, G2, H2, rfl, rfl, ⟨rfl, rfl, n2⟩, a3, b3, G3, H3, rfl, rfl, ⟨rfl, rfl, n3⟩, a4, b4, G4, H4, rfl, rfl, n4, n5⟩ := h

  obtain ⟨A4, cp4, rfl, k4⟩ := n4

  obtain ⟨w5_0, w5_2, Q5_0, Q5_2, rfl, rfl, e5, m5_0, m5_2⟩ := TMach.out n5

  have key := TPage.mk_ (w := w) (x := x) ⟨n0, n1, n2, n3, e5.h1, e5.h3⟩ ⟨A4, cp4, rfl, k4⟩ m5_0 m5_2

  simpa using key


theorem TPage.outA {w : World} {vs : Array Value} {x : TPage} {F : List Nat} (h : cPage.rep w vs.toList x F) :
    ∃ v4 v5 v7 F4 F5 F7, vs = #[Value.int .i64 x.id, .string x.site, .string x.top, .int .i64 x.ver, v4, v5, .int .i64 x.mach.pc, v7, .int .i64 x.mach.steps, .bool x.mach.done, .bool x.mach.wait] ∧ F = F4 ++ F5 ++ F7 ∧ x.Ok ∧ cLoadedS.rep w [v4] x.loaded F4 ∧ cInsS.rep w [v5] x.mach.script F5 ∧ cIS.rep w [v7] x.mach.regs F7 := by
  obtain ⟨a0, a1, a2, a3, a4, a5, e, f, r⟩ := TPage.out h
  exact ⟨a0, a1, a2, a3, a4, a5, Array.toList_inj.1 e, f, r⟩

end Go.Proofs.Ytlicnppfgfjkgaa
namespace Go.Proofs.Ytlicnppfgfjkgaa

/-- n lies from lo to hi -/
def inR (n lo hi : Int) : Bool := decide (lo ≤ n) && decide (n ≤ hi)
theorem inR_true {n lo hi : Int} (h : inR n lo hi = true) : lo ≤ n ∧ n ≤ hi := by simpa [inR] using h
theorem inR_false {n lo hi : Int} (h : inR n lo hi = false) : n < lo ∨ hi < n := by
  simp [inR] at h; omega
theorem inR_mk {n lo hi : Int} (h1 : lo ≤ n) (h2 : n ≤ hi) : inR n lo hi = true := by simp [inR, h1, h2]
theorem inR_low {n lo hi : Int} (h : n < lo) : inR n lo hi = false := by simp [inR]; omega
theorem inR_high {n lo hi : Int} (h : hi < n) : inR n lo hi = false := by simp [inR]; omega

/-- a letter from a to z -/
def isLow (c : UInt8) : Bool := decide (97 ≤ (c.toNat : Int)) && decide ((c.toNat : Int) ≤ 122)
/-- the first k bytes are letters -/
def lowTo (s : ByteArray) (k : Nat) : Bool := (s.data.toList.take k).all isLow
theorem lowTo_zero (s : ByteArray) : lowTo s 0 = true := by simp [lowTo]
theorem lowTo_succ (s : ByteArray) (k : Nat) (h : k < s.size) : lowTo s (k + 1) = (lowTo s k && isLow s[k]) := by
  have e : s.data.toList.take (k + 1) = s.data.toList.take k ++ [s[k]] := by
    rw [List.take_succ_eq_append_getElem (by simpa using h)]; rfl
  unfold lowTo
  rw [e, List.all_append]; simp
theorem lowTo_le (s : ByteArray) {j k : Nat} (hjk : j ≤ k) (h : lowTo s j = false) : lowTo s k = false := by
  unfold lowTo at h ⊢
  cases hk : (s.data.toList.take k).all isLow with
  | false => rfl
  | true =>
    have : (s.data.toList.take j).all isLow = true := by
      rw [List.all_eq_true] at hk ⊢
      intro x hx
      refine hk x ?_
      have : s.data.toList.take j = (s.data.toList.take k).take j := by rw [List.take_take, Nat.min_eq_left hjk]
      rw [this] at hx
      exact List.mem_of_mem_take hx
    rw [this] at h; cases h

/-- up to most letters, at least one -/
def isWord (s : ByteArray) (most : Int) : Bool := lowTo s s.size && inR s.size 1 most
def isName (s : ByteArray) : Bool := isWord s 8
theorem isWord_bad {s : ByteArray} {most : Int} {k : Nat} (h : k < s.size) (hb : isLow s[k] = false) : isWord s most = false := by
  have : lowTo s (k + 1) = false := by rw [lowTo_succ s k h, hb]; simp
  unfold isWord
  rw [lowTo_le s (by omega) this]; rfl
theorem isWord_end {s : ByteArray} {most : Int} (h : lowTo s s.size = true) : isWord s most = inR s.size 1 most := by
  unfold isWord; rw [h]; rfl
theorem isLow_lt {c : UInt8} (h : (c.toNat : Int) < 97) : isLow c = false := by simp [isLow]; omega
theorem isLow_gt {c : UInt8} (h : (122 : Int) < c.toNat) : isLow c = false := by simp [isLow]; omega
theorem isLow_mk {c : UInt8} (h1 : (97 : Int) ≤ c.toNat) (h2 : (c.toNat : Int) ≤ 122) : isLow c = true := by simp [isLow]; omega
theorem isName_size {s : ByteArray} (h : isName s = true) : 1 ≤ s.size ∧ s.size ≤ 8 := by
  unfold isName isWord at h
  rw [Bool.and_eq_true] at h
  have := inR_true h.2
  omega
end Go.Proofs.Ytlicnppfgfjkgaa
namespace Go.Proofs.Ytlicnppfgfjkgaa
open Go.RowKit

theorem inRange_any (n lo hi : Int) (w : World) : Calls Try.prog 66 #[.int .i64 n, .int .i64 lo, .int .i64 hi] w fun e w' => e = .returned (.bool (inR n lo hi)) ∧ w = w' := by
  go_enter Try.func66, Try.ntmps66
  go_wp2
  all_goals go_ret
  all_goals refine ⟨ret_bool ?_, rfl⟩
  all_goals (rw [Bool.eq_iff_iff]; simp [inR]; try omega)
theorem l1In_any (n lo hi : Int) (w : World) : Calls Try.prog 83 #[.int .i64 n, .int .i64 lo, .int .i64 hi] w fun e w' => e = .returned (.bool (inR n lo hi)) ∧ w = w' := by
  go_enter Try.func83, Try.ntmps83
  go_wp2
  all_goals go_ret
  all_goals refine ⟨ret_bool ?_, rfl⟩
  all_goals (rw [Bool.eq_iff_iff]; simp [inR]; try omega)

set_option maxHeartbeats 400000 in
theorem isWord_any (s : ByteArray) (most : Int) (w : World) (hs : s.size ≤ maxLen) :
    Calls Try.prog 129 #[.string s, .int .i64 most, .bool false] w fun e w' => e = .returned (.bool (isWord s most)) ∧ w = w' := by
  unfold maxLen at hs
  go_enter Try.func129, Try.ntmps129
  go_wp2
  go_loop [7] (fun i => ∃ k : Nat, k ≤ s.size ∧ i = .int .i64 k ∧ lowTo s k = true) (fun i => s.size - (intOf i).toNat)
  case atStart => exact ⟨0, Nat.zero_le _, rfl, lowTo_zero s⟩
  case round =>
    obtain ⟨k, hk, rfl, hl⟩ := hrel
    have HL := Lib.hid hl
    clear hl
    by_cases hlt : k < s.size
    · have HS := Lib.hid (lowTo_succ s k hlt)
      by_cases c1 : (s[k].toNat : Int) < 97
      · go_wp2_with (first | (go_at_call 66; refine (inRange_any _ _ _ _).mono ?_; rintro e w1 ⟨rfl, rfl⟩))
        go_ret
        exact ⟨ret_bool (isWord_bad hlt (isLow_lt c1)).symm, rfl⟩
      · by_cases c2 : (122 : Int) < s[k].toNat
        · have c3 : (97 : Int) ≤ s[k].toNat := by omega
          have c5 : decide ((s[k].toNat : Int) ≤ 122) = false := by simp; omega
          go_wp2_with (first | (go_at_call 66; refine (inRange_any _ _ _ _).mono ?_; rintro e w1 ⟨rfl, rfl⟩))
          go_ret
          exact ⟨ret_bool (isWord_bad hlt (isLow_gt c2)).symm, rfl⟩
        · have c3 : (97 : Int) ≤ s[k].toNat := by omega
          have c4 : (s[k].toNat : Int) ≤ 122 := by omega
          go_wp2_with (first | (go_at_call 66; refine (inRange_any _ _ _ _).mono ?_; rintro e w1 ⟨rfl, rfl⟩))
          go_round
          case rel => exact ⟨k + 1, by omega, by go_num, by rw [HS.out, HL.out, isLow_mk c3 c4]; rfl⟩
          case measure => simp [intOf]; omega
    · obtain rfl : k = s.size := by omega
      go_wp2_with (first | (go_at_call 66; refine (inRange_any _ _ _ _).mono ?_; rintro e w1 ⟨rfl, rfl⟩))
      go_ret
      exact ⟨ret_bool (isWord_end HL.out).symm, rfl⟩
theorem implName_any (s : ByteArray) (w : World) (hs : s.size ≤ maxLen) : Calls Try.prog 74 #[.string s] w fun e w' => e = .returned (.bool (isName s)) ∧ w = w' := by
  go_enter Try.func74, Try.ntmps74
  go_wp2_with (first | (go_at_call 129; refine (isWord_any _ _ _ hs).mono ?_; rintro e w1 ⟨rfl, rfl⟩))
  go_ret
  exact ⟨rfl, rfl⟩
set_option maxHeartbeats 400000 in
theorem specName_any (s : ByteArray) (w : World) (hs : s.size ≤ maxLen) : Calls Try.prog 126 #[.string s] w fun e w' => e = .returned (.bool (isName s)) ∧ w = w' := by
  unfold maxLen at hs
  go_enter Try.func126, Try.ntmps126
  go_wp2
  go_loop [3] (fun i => ∃ k : Nat, k ≤ s.size ∧ i = .int .i64 k ∧ lowTo s k = true) (fun i => s.size - (intOf i).toNat)
  case atStart => exact ⟨0, Nat.zero_le _, rfl, lowTo_zero s⟩
  case round =>
    obtain ⟨k, hk, rfl, hl⟩ := hrel
    have HL := Lib.hid hl
    clear hl
    by_cases hlt : k < s.size
    · have HS := Lib.hid (lowTo_succ s k hlt)
      by_cases c1 : (s[k].toNat : Int) < 97
      · go_wp2
        go_ret
        exact ⟨ret_bool (isWord_bad hlt (isLow_lt c1)).symm, rfl⟩
      · by_cases c2 : (122 : Int) < s[k].toNat
        · have c3 : (97 : Int) ≤ s[k].toNat := by omega
          go_wp2
          go_ret
          exact ⟨ret_bool (isWord_bad hlt (isLow_gt c2)).symm, rfl⟩
        · have c3 : (97 : Int) ≤ s[k].toNat := by omega
          have c4 : (s[k].toNat : Int) ≤ 122 := by omega
          go_wp2
          go_round
          case rel => exact ⟨k + 1, by omega, by go_num, by rw [HS.out, HL.out, isLow_mk c3 c4]; rfl⟩
          case measure => simp [intOf]; omega
    · obtain rfl : k = s.size := by omega
      go_wp2_with (first | (go_at_call 83; refine (l1In_any _ _ _ _).mono ?_; rintro e w1 ⟨rfl, rfl⟩))
      go_ret
      exact ⟨ret_bool (isWord_end HL.out).symm, rfl⟩
end Go.Proofs.Ytlicnppfgfjkgaa
namespace Go.Proofs.Ytlicnppfgfjkgaa

def strEq (a b : ByteArray) : Bool := a.toList == b.toList
theorem strEq_comm (a b : ByteArray) : strEq a b = strEq b a := by
  unfold strEq; exact BEq.comm
theorem strEq_refl (a : ByteArray) : strEq a a = true := by simp [strEq]

section
variable {α : Type} (p : α → Bool)
def noneTo (xs : List α) (k : Nat) : Bool := (xs.take k).all fun y => !p y
theorem noneTo_zero (xs : List α) : noneTo p xs 0 = true := by simp [noneTo]
theorem noneTo_succ (xs : List α) (k : Nat) (h : k < xs.length) (h1 : noneTo p xs k = true) (h2 : p xs[k] = false) : noneTo p xs (k + 1) = true := by
  unfold noneTo at h1 ⊢
  rw [List.take_succ_eq_append_getElem h, List.all_append, h1]; simp [h2]
/-- the first place at which p holds, or -1 -/
def idxP : List α → Int
  | [] => -1
  | x :: xs => bif p x then 0 else if idxP xs < 0 then -1 else idxP xs + 1
theorem idxP_ge (xs : List α) : -1 ≤ idxP p xs := by
  induction xs with
  | nil => simp [idxP]
  | cons x xs ih =>
    simp only [idxP]
    cases p x
    · simp only [cond_false]; split <;> omega
    · simp
theorem idxP_lt (xs : List α) : idxP p xs < xs.length := by
  induction xs with
  | nil => simp [idxP]
  | cons x xs ih =>
    simp only [idxP, List.length_cons]
    cases p x
    · simp only [cond_false]; split <;> omega
    · simp only [cond_true]; omega
theorem idxP_hit : ∀ (xs : List α) (k : Nat) (h : k < xs.length), noneTo p xs k = true → p xs[k] = true → idxP p xs = k
  | x :: xs, 0, _, _, h2 => by
    simp only [List.getElem_cons_zero] at h2
    simp [idxP, h2]
  | x :: xs, k + 1, h, h1, h2 => by
    simp only [noneTo, List.take_succ_cons, List.all_cons, Bool.and_eq_true, Bool.not_eq_true'] at h1
    have := idxP_hit xs k (by simpa using h) h1.2 (by simpa using h2)
    simp only [idxP, h1.1, cond_false, this]
    rw [if_neg (by omega)]; omega
theorem idxP_miss : ∀ (xs : List α), noneTo p xs xs.length = true → idxP p xs = -1
  | [], _ => rfl
  | x :: xs, h => by
    simp only [noneTo, List.length_cons, List.take_succ_cons, List.all_cons, Bool.and_eq_true, Bool.not_eq_true'] at h
    have := idxP_miss xs h.2
    simp [idxP, h.1, this]
theorem idxP_any (xs : List α) : xs.any p = decide (0 ≤ idxP p xs) := by
  induction xs with
  | nil => simp [idxP]
  | cons x xs ih =>
    have hg := idxP_ge p xs
    cases hp : p x
    · have e : idxP p (x :: xs) = if idxP p xs < 0 then -1 else idxP p xs + 1 := by simp [idxP, hp]
      rw [List.any_cons, hp, ih, e, Bool.false_or]
      by_cases hn : idxP p xs < 0
      · rw [if_pos hn, decide_eq_false (by omega), decide_eq_false (by omega)]
      · rw [if_neg hn, decide_eq_true (by omega), decide_eq_true (by omega)]
    · have e : idxP p (x :: xs) = 0 := by simp [idxP, hp]
      rw [List.any_cons, hp, e]; rfl
theorem any_hit (xs : List α) (k : Nat) (h : k < xs.length) (h2 : p xs[k] = true) : xs.any p = true := List.any_eq_true.2 ⟨xs[k], List.getElem_mem h, h2⟩
theorem any_miss (xs : List α) (h : noneTo p xs xs.length = true) : xs.any p = false := by
  rw [idxP_any, idxP_miss p xs h]; rfl
end
end Go.Proofs.Ytlicnppfgfjkgaa
namespace Go.Proofs.Ytlicnppfgfjkgaa
open Go.ChangeShapes Go.WideShapes Go.RowKit
set_option linter.unusedVariables false

def loadedOk (v : Int) (x : TLoaded) : Bool := isName x.path && x.ver == v
def isPage (x : TPage) : Bool := !(x.loaded.any fun y => !loadedOk x.ver y) && inR x.id 1 1000000000000 && isName x.site && isName x.top && inR x.ver 1 1000000000000 && decide ((x.loaded.length : Int) ≤ 8)
set_option maxRecDepth 100000 in
set_option maxHeartbeats 4000000 in
theorem implIsPage_any (vs : Array Value) (x : TPage) (F : List Nat) (w : World) (h : cPage.rep w vs.toList x F) (hn : cPage.sz x ≤ 1048576) :
    Calls Try.prog 20 #[.agg vs] w (Gives w (.bool (isPage x))) := by
  obtain ⟨v4, v5, v7, F4, F5, F7, rfl, -, hok, m4, m5, m7⟩ := TPage.outA h
  clear h
  obtain ⟨A, cp, rfl⟩ := cL_form m4
  obtain ⟨A5, c5, rfl⟩ := cL_form m5
  obtain ⟨A7, c7, rfl⟩ := cL_form m7
  clear m5 m7
  obtain ⟨-, hcp, hm⟩ := cL_len m4
  have HE := Lib.hid (show isPage x = (!(x.loaded.any fun y => !loadedOk x.ver y) && inR x.id 1 1000000000000 && isName x.site && isName x.top && inR x.ver 1 1000000000000 && decide ((x.loaded.length : Int) ≤ 8)) from rfl)
  obtain ⟨n, hxn⟩ : ∃ n, x.loaded.length = n := ⟨_, rfl⟩
  have HN := Lib.hid hxn
  rw [hxn] at hcp ⊢
  clear hxn
  unfold maxLen at hm
  have hsite := hok.h1
  have htop := hok.h2
  go_enter Try.func20, Try.ntmps20
  go_wp2
  generalize hW : World.alloc _ _ = W
  have hWs : W.heap.size = w.heap.size + 1 := by rw [← hW]; clear hW; simp
  have hbW : Below w.heap.size w W := by rw [← hW]; exact (by repeat (first | with_reducible exact Below.refl _ _ | with_reducible assumption | with_reducible refine bel_alloc ?_ _ | with_reducible refine bel_drew ?_ | with_reducible refine bel_drewN ?_ _ | (with_reducible refine bel_set ?_ ?_ _; rotate_left; ((try simp); (try omega)))))
  have HK := Lib.hid (show W.cell? ⟨w.heap.size, 0, none⟩ = some (.int .i64 x.id) ∧ W.cell? ⟨w.heap.size, 1, none⟩ = some (.string x.site) ∧ W.cell? ⟨w.heap.size, 2, none⟩ = some (.string x.top) ∧ W.cell? ⟨w.heap.size, 3, none⟩ = some (.int .i64 x.ver) ∧ W.cell? ⟨w.heap.size, 4, none⟩ = some (.slice A n cp) ∧ W.cell? ⟨w.heap.size, 5, none⟩ = some (.slice A5 x.mach.script.length c5) ∧ W.cell? ⟨w.heap.size, 6, none⟩ = some (.int .i64 x.mach.pc) ∧ W.cell? ⟨w.heap.size, 7, none⟩ = some (.slice A7 x.mach.regs.length c7) ∧ W.cell? ⟨w.heap.size, 8, none⟩ = some (.int .i64 x.mach.steps) ∧ W.cell? ⟨w.heap.size, 9, none⟩ = some (.bool x.mach.done) ∧ W.cell? ⟨w.heap.size, 10, none⟩ = some (.bool x.mach.wait) from by refine ⟨?_, ?_, ?_, ?_, ?_, ?_, ?_, ?_, ?_, ?_, ?_⟩ <;> (rw [← hW]; clear hW; go_simp))
  clear hW
  go_loopw [8] (fun i wr => ∃ k : Nat, k ≤ n ∧ i = .int .i64 k ∧ noneTo (fun y => !loadedOk x.ver y) x.loaded k = true ∧ Below W.heap.size W wr) (fun i _ => n - (intOf i).toNat)
  case atStart => exact ⟨0, Nat.zero_le _, rfl, noneTo_zero _ _, Below.refl _ _⟩
  case round =>
    obtain ⟨k, hk, rfl, hno, hB⟩ := hrel
    have HO := Lib.hid hno
    clear hno
    have hws_wr : w.heap.size < wr.heap.size := by have := hB.size; omega
    have hbw : Below w.heap.size w wr := bel_then hbW hB
    have k0_wr : wr.cell? ⟨w.heap.size, 0, none⟩ = some (.int .i64 x.id) := (hB.cell (p := ⟨w.heap.size, 0, none⟩) (by (try simp); (try omega))).trans HK.out.1
    have k1_wr : wr.cell? ⟨w.heap.size, 1, none⟩ = some (.string x.site) := (hB.cell (p := ⟨w.heap.size, 1, none⟩) (by (try simp); (try omega))).trans HK.out.2.1
    have k2_wr : wr.cell? ⟨w.heap.size, 2, none⟩ = some (.string x.top) := (hB.cell (p := ⟨w.heap.size, 2, none⟩) (by (try simp); (try omega))).trans HK.out.2.2.1
    have k3_wr : wr.cell? ⟨w.heap.size, 3, none⟩ = some (.int .i64 x.ver) := (hB.cell (p := ⟨w.heap.size, 3, none⟩) (by (try simp); (try omega))).trans HK.out.2.2.2.1
    have k4_wr : wr.cell? ⟨w.heap.size, 4, none⟩ = some (.slice A n cp) := (hB.cell (p := ⟨w.heap.size, 4, none⟩) (by (try simp); (try omega))).trans HK.out.2.2.2.2.1
    have k5_wr : wr.cell? ⟨w.heap.size, 5, none⟩ = some (.slice A5 x.mach.script.length c5) := (hB.cell (p := ⟨w.heap.size, 5, none⟩) (by (try simp); (try omega))).trans HK.out.2.2.2.2.2.1
    have k6_wr : wr.cell? ⟨w.heap.size, 6, none⟩ = some (.int .i64 x.mach.pc) := (hB.cell (p := ⟨w.heap.size, 6, none⟩) (by (try simp); (try omega))).trans HK.out.2.2.2.2.2.2.1
    have k7_wr : wr.cell? ⟨w.heap.size, 7, none⟩ = some (.slice A7 x.mach.regs.length c7) := (hB.cell (p := ⟨w.heap.size, 7, none⟩) (by (try simp); (try omega))).trans HK.out.2.2.2.2.2.2.2.1
    have k8_wr : wr.cell? ⟨w.heap.size, 8, none⟩ = some (.int .i64 x.mach.steps) := (hB.cell (p := ⟨w.heap.size, 8, none⟩) (by (try simp); (try omega))).trans HK.out.2.2.2.2.2.2.2.2.1
    have k9_wr : wr.cell? ⟨w.heap.size, 9, none⟩ = some (.bool x.mach.done) := (hB.cell (p := ⟨w.heap.size, 9, none⟩) (by (try simp); (try omega))).trans HK.out.2.2.2.2.2.2.2.2.2.1
    have k10_wr : wr.cell? ⟨w.heap.size, 10, none⟩ = some (.bool x.mach.wait) := (hB.cell (p := ⟨w.heap.size, 10, none⟩) (by (try simp); (try omega))).trans HK.out.2.2.2.2.2.2.2.2.2.2
    by_cases hlt : k < n
    · have hkx : k < x.loaded.length := by rw [HN.out]; exact hlt
      obtain ⟨g, o, vs, F1, rfl, hgF, hx, -, hc⟩ := cL_get (hw := by decide) (hw2 := by decide) (Cod.bel m4 hbw) hkx
      obtain ⟨rfl, -, hok1⟩ := TLoaded.out hx
      have q0 : wr.cell? ⟨g, o + k * 2, none⟩ = some _ := (hc 0 _ rfl).1
      have q1 : wr.cell? ⟨g, o + k * 2 + 1, none⟩ = some _ := (hc 1 _ rfl).1
      have hk1 := hok1.h0
      have hgw : g < wr.heap.size := Cod.lt _ (Cod.bel m4 hbw) g hgF
      clear hc hx
      have hki : ((k : Int) < (n : Int)) := by omega
      cases e1 : (isName x.loaded[k].path)
      · have HB := Lib.hid (show isPage x = false by rw [HE.out, any_hit (fun y => !loadedOk x.ver y) x.loaded k hkx (by first | (simp [loadedOk, e1]; done) | (simp [loadedOk]; right; simpa using e2))]; rfl)
        go_wp2_with (first | (go_at_call 74; refine (implName_any _ _ (by assumption)).mono ?_; rintro e w1 ⟨rfl, rfl⟩))
        go_ret
        exact ⟨ret_bool HB.out.symm, (by repeat (first | with_reducible exact Below.refl _ _ | with_reducible assumption | with_reducible refine bel_alloc ?_ _ | with_reducible refine bel_drew ?_ | with_reducible refine bel_drewN ?_ _ | (with_reducible refine bel_set ?_ ?_ _; rotate_left; ((try simp); (try omega)))))⟩
      ·
        cases e2 : (x.loaded[k].ver != x.ver)
        case true =>
          have HB := Lib.hid (show isPage x = false by rw [HE.out, any_hit (fun y => !loadedOk x.ver y) x.loaded k hkx (by first | (simp [loadedOk, e1]; done) | (simp [loadedOk]; right; simpa using e2))]; rfl)
          go_wp2_with (first | (go_at_call 74; refine (implName_any _ _ (by assumption)).mono ?_; rintro e w1 ⟨rfl, rfl⟩))
          go_ret
          exact ⟨ret_bool HB.out.symm, (by repeat (first | with_reducible exact Below.refl _ _ | with_reducible assumption | with_reducible refine bel_alloc ?_ _ | with_reducible refine bel_drew ?_ | with_reducible refine bel_drewN ?_ _ | (with_reducible refine bel_set ?_ ?_ _; rotate_left; ((try simp); (try omega)))))⟩
        case false =>
          have HI := Lib.hid (show (!loadedOk x.ver x.loaded[k]) = false by simp [loadedOk, e1]; simpa using e2)
          go_wp2_with (first | (go_at_call 74; refine (implName_any _ _ (by assumption)).mono ?_; rintro e w1 ⟨rfl, rfl⟩))
          go_roundw
          case rel => exact ⟨k + 1, by omega, by go_num, noneTo_succ _ x.loaded k hkx HO.out HI.out, (by repeat (first | with_reducible exact Below.refl _ _ | with_reducible assumption | with_reducible refine bel_alloc ?_ _ | with_reducible refine bel_drew ?_ | with_reducible refine bel_drewN ?_ _ | (with_reducible refine bel_set ?_ ?_ _; rotate_left; ((try simp); (try omega)))))⟩
          case measure => simp [intOf]; omega
    · obtain rfl : k = n := by omega
      have HH := Lib.hid (show isPage x = (inR x.id 1 1000000000000 && isName x.site && isName x.top && inR x.ver 1 1000000000000 && decide ((k : Int) ≤ 8)) by rw [HE.out, HN.out, any_miss _ x.loaded (by rw [HN.out]; exact HO.out)]; rfl)
      go_wp2_with (first | (go_at_call 74; refine (implName_any _ _ (by assumption)).mono ?_; rintro e w1 ⟨rfl, rfl⟩) | (go_at_call 66; refine (inRange_any _ _ _ _).mono ?_; rintro e w1 ⟨rfl, rfl⟩))
      all_goals go_ret
      all_goals exact ⟨ret_bool (by rw [HH.out]; simp [*]), (by repeat (first | with_reducible exact Below.refl _ _ | with_reducible assumption | with_reducible refine bel_alloc ?_ _ | with_reducible refine bel_drew ?_ | with_reducible refine bel_drewN ?_ _ | (with_reducible refine bel_set ?_ ?_ _; rotate_left; ((try simp); (try omega)))))⟩
set_option maxRecDepth 100000 in
set_option maxHeartbeats 4000000 in
theorem specIsPage_any (vs : Array Value) (x : TPage) (F : List Nat) (w : World) (h : cPage.rep w vs.toList x F) (hn : cPage.sz x ≤ 1048576) :
    Calls Try.prog 72 #[.agg vs] w (Gives w (.bool (isPage x))) := by
  obtain ⟨v4, v5, v7, F4, F5, F7, rfl, -, hok, m4, m5, m7⟩ := TPage.outA h
  clear h
  obtain ⟨A, cp, rfl⟩ := cL_form m4
  obtain ⟨A5, c5, rfl⟩ := cL_form m5
  obtain ⟨A7, c7, rfl⟩ := cL_form m7
  clear m5 m7
  obtain ⟨-, hcp, hm⟩ := cL_len m4
  have HE := Lib.hid (show isPage x = (!(x.loaded.any fun y => !loadedOk x.ver y) && inR x.id 1 1000000000000 && isName x.site && isName x.top && inR x.ver 1 1000000000000 && decide ((x.loaded.length : Int) ≤ 8)) from rfl)
  obtain ⟨n, hxn⟩ : ∃ n, x.loaded.length = n := ⟨_, rfl⟩
  have HN := Lib.hid hxn
  rw [hxn] at hcp ⊢
  clear hxn
  unfold maxLen at hm
  have hsite := hok.h1
  have htop := hok.h2
  go_enter Try.func72, Try.ntmps72
  go_wp2
  generalize hW : World.alloc _ _ = W
  have hWs : W.heap.size = w.heap.size + 1 := by rw [← hW]; clear hW; simp
  have hbW : Below w.heap.size w W := by rw [← hW]; exact (by repeat (first | with_reducible exact Below.refl _ _ | with_reducible assumption | with_reducible refine bel_alloc ?_ _ | with_reducible refine bel_drew ?_ | with_reducible refine bel_drewN ?_ _ | (with_reducible refine bel_set ?_ ?_ _; rotate_left; ((try simp); (try omega)))))
  have HK := Lib.hid (show W.cell? ⟨w.heap.size, 0, none⟩ = some (.int .i64 x.id) ∧ W.cell? ⟨w.heap.size, 1, none⟩ = some (.string x.site) ∧ W.cell? ⟨w.heap.size, 2, none⟩ = some (.string x.top) ∧ W.cell? ⟨w.heap.size, 3, none⟩ = some (.int .i64 x.ver) ∧ W.cell? ⟨w.heap.size, 4, none⟩ = some (.slice A n cp) ∧ W.cell? ⟨w.heap.size, 5, none⟩ = some (.slice A5 x.mach.script.length c5) ∧ W.cell? ⟨w.heap.size, 6, none⟩ = some (.int .i64 x.mach.pc) ∧ W.cell? ⟨w.heap.size, 7, none⟩ = some (.slice A7 x.mach.regs.length c7) ∧ W.cell? ⟨w.heap.size, 8, none⟩ = some (.int .i64 x.mach.steps) ∧ W.cell? ⟨w.heap.size, 9, none⟩ = some (.bool x.mach.done) ∧ W.cell? ⟨w.heap.size, 10, none⟩ = some (.bool x.mach.wait) from by refine ⟨?_, ?_, ?_, ?_, ?_, ?_, ?_, ?_, ?_, ?_, ?_⟩ <;> (rw [← hW]; clear hW; go_simp))
  clear hW
  go_loopw [3] (fun i wr => ∃ k : Nat, k ≤ n ∧ i = .int .i64 k ∧ noneTo (fun y => !loadedOk x.ver y) x.loaded k = true ∧ Below W.heap.size W wr) (fun i _ => n - (intOf i).toNat)
  case atStart => exact ⟨0, Nat.zero_le _, rfl, noneTo_zero _ _, Below.refl _ _⟩
  case round =>
    obtain ⟨k, hk, rfl, hno, hB⟩ := hrel
    have HO := Lib.hid hno
    clear hno
    have hws_wr : w.heap.size < wr.heap.size := by have := hB.size; omega
    have hbw : Below w.heap.size w wr := bel_then hbW hB
    have k0_wr : wr.cell? ⟨w.heap.size, 0, none⟩ = some (.int .i64 x.id) := (hB.cell (p := ⟨w.heap.size, 0, none⟩) (by (try simp); (try omega))).trans HK.out.1
    have k1_wr : wr.cell? ⟨w.heap.size, 1, none⟩ = some (.string x.site) := (hB.cell (p := ⟨w.heap.size, 1, none⟩) (by (try simp); (try omega))).trans HK.out.2.1
    have k2_wr : wr.cell? ⟨w.heap.size, 2, none⟩ = some (.string x.top) := (hB.cell (p := ⟨w.heap.size, 2, none⟩) (by (try simp); (try omega))).trans HK.out.2.2.1
    have k3_wr : wr.cell? ⟨w.heap.size, 3, none⟩ = some (.int .i64 x.ver) := (hB.cell (p := ⟨w.heap.size, 3, none⟩) (by (try simp); (try omega))).trans HK.out.2.2.2.1
    have k4_wr : wr.cell? ⟨w.heap.size, 4, none⟩ = some (.slice A n cp) := (hB.cell (p := ⟨w.heap.size, 4, none⟩) (by (try simp); (try omega))).trans HK.out.2.2.2.2.1
    have k5_wr : wr.cell? ⟨w.heap.size, 5, none⟩ = some (.slice A5 x.mach.script.length c5) := (hB.cell (p := ⟨w.heap.size, 5, none⟩) (by (try simp); (try omega))).trans HK.out.2.2.2.2.2.1
    have k6_wr : wr.cell? ⟨w.heap.size, 6, none⟩ = some (.int .i64 x.mach.pc) := (hB.cell (p := ⟨w.heap.size, 6, none⟩) (by (try simp); (try omega))).trans HK.out.2.2.2.2.2.2.1
    have k7_wr : wr.cell? ⟨w.heap.size, 7, none⟩ = some (.slice A7 x.mach.regs.length c7) := (hB.cell (p := ⟨w.heap.size, 7, none⟩) (by (try simp); (try omega))).trans HK.out.2.2.2.2.2.2.2.1
    have k8_wr : wr.cell? ⟨w.heap.size, 8, none⟩ = some (.int .i64 x.mach.steps) := (hB.cell (p := ⟨w.heap.size, 8, none⟩) (by (try simp); (try omega))).trans HK.out.2.2.2.2.2.2.2.2.1
    have k9_wr : wr.cell? ⟨w.heap.size, 9, none⟩ = some (.bool x.mach.done) := (hB.cell (p := ⟨w.heap.size, 9, none⟩) (by (try simp); (try omega))).trans HK.out.2.2.2.2.2.2.2.2.2.1
    have k10_wr : wr.cell? ⟨w.heap.size, 10, none⟩ = some (.bool x.mach.wait) := (hB.cell (p := ⟨w.heap.size, 10, none⟩) (by (try simp); (try omega))).trans HK.out.2.2.2.2.2.2.2.2.2.2
    by_cases hlt : k < n
    · have hkx : k < x.loaded.length := by rw [HN.out]; exact hlt
      obtain ⟨g, o, vs, F1, rfl, hgF, hx, -, hc⟩ := cL_get (hw := by decide) (hw2 := by decide) (Cod.bel m4 hbw) hkx
      obtain ⟨rfl, -, hok1⟩ := TLoaded.out hx
      have q0 : wr.cell? ⟨g, o + k * 2, none⟩ = some _ := (hc 0 _ rfl).1
      have q1 : wr.cell? ⟨g, o + k * 2 + 1, none⟩ = some _ := (hc 1 _ rfl).1
      have hk1 := hok1.h0
      have hgw : g < wr.heap.size := Cod.lt _ (Cod.bel m4 hbw) g hgF
      clear hc hx
      have hki : ((k : Int) < (n : Int)) := by omega
      have hcn := fun W : World => specName_any x.loaded[k].path W (by assumption)
      cases e1 : (isName x.loaded[k].path)
      · have HB := Lib.hid (show isPage x = false by rw [HE.out, any_hit (fun y => !loadedOk x.ver y) x.loaded k hkx (by first | (simp [loadedOk, e1]; done) | (simp [loadedOk]; right; simpa using e2))]; rfl)
        rw [e1] at hcn
        go_wp2_with fail
        go_quiet (first | (go_at_call 126; first | exact quiet_left (hcn _) | exact quiet_add_left (hcn _)))
        go_wp2_with fail
        go_ret
        exact ⟨ret_bool HB.out.symm, (by repeat (first | with_reducible exact Below.refl _ _ | with_reducible assumption | with_reducible refine bel_alloc ?_ _ | with_reducible refine bel_drew ?_ | with_reducible refine bel_drewN ?_ _ | (with_reducible refine bel_set ?_ ?_ _; rotate_left; ((try simp); (try omega)))))⟩
      ·
        cases e2 : (x.loaded[k].ver != x.ver)
        case true =>
          have HB := Lib.hid (show isPage x = false by rw [HE.out, any_hit (fun y => !loadedOk x.ver y) x.loaded k hkx (by first | (simp [loadedOk, e1]; done) | (simp [loadedOk]; right; simpa using e2))]; rfl)
          rw [e1] at hcn
          go_wp2_with fail
          go_quiet (first | (go_at_call 126; first | exact quiet_left (hcn _) | exact quiet_add_left (hcn _)))
          go_wp2_with fail
          go_ret
          exact ⟨ret_bool HB.out.symm, (by repeat (first | with_reducible exact Below.refl _ _ | with_reducible assumption | with_reducible refine bel_alloc ?_ _ | with_reducible refine bel_drew ?_ | with_reducible refine bel_drewN ?_ _ | (with_reducible refine bel_set ?_ ?_ _; rotate_left; ((try simp); (try omega)))))⟩
        case false =>
          have HI := Lib.hid (show (!loadedOk x.ver x.loaded[k]) = false by simp [loadedOk, e1]; simpa using e2)
          rw [e1] at hcn
          go_wp2_with fail
          go_quiet (first | (go_at_call 126; first | exact quiet_left (hcn _) | exact quiet_add_left (hcn _)))
          go_wp2_with fail
          go_roundw
          case rel => exact ⟨k + 1, by omega, by go_num, noneTo_succ _ x.loaded k hkx HO.out HI.out, bel_drewN hB _⟩
          case measure => simp [intOf]; omega
    · obtain rfl : k = n := by omega
      have HH := Lib.hid (show isPage x = (inR x.id 1 1000000000000 && isName x.site && isName x.top && inR x.ver 1 1000000000000 && decide ((k : Int) ≤ 8)) by rw [HE.out, HN.out, any_miss _ x.loaded (by rw [HN.out]; exact HO.out)]; rfl)
      go_wp2_with (first | (go_at_call 126; refine (specName_any _ _ (by assumption)).mono ?_; rintro e w1 ⟨rfl, rfl⟩) | (go_at_call 83; refine (l1In_any _ _ _ _).mono ?_; rintro e w1 ⟨rfl, rfl⟩))
      all_goals go_ret
      all_goals exact ⟨ret_bool (by rw [HH.out]; simp [*]), (by repeat (first | with_reducible exact Below.refl _ _ | with_reducible assumption | with_reducible refine bel_alloc ?_ _ | with_reducible refine bel_drew ?_ | with_reducible refine bel_drewN ?_ _ | (with_reducible refine bel_set ?_ ?_ _; rotate_left; ((try simp); (try omega)))))⟩
end Go.Proofs.Ytlicnppfgfjkgaa
namespace Go.Proofs.Ytlicnppfgfjkgaa
open Go.RowKit
set_option linter.unusedVariables false

/-- the block that an append may write in place -/
def ownB : Value → Option Nat
  | .slice (some a) _ (_ + 1) => some a.block
  | _ => none

theorem ownB_own : ∀ {v : Value} {g : Nat}, ownB v = some g → v.ownBlock = some g
  | .slice (some a) _ (_ + 1), _, h => h
  | .slice (some a) _ 0, _, h => by simp [ownB] at h
  | .slice none _ _, _, h => by simp [ownB] at h

section
variable {α : Type}
def Own (c : Cod α) (e : TypeId) (B : Nat) (w : World) (v : Value) (xs : List α) (Fi : List Nat) : Prop :=
  (xs = [] ∧ Fi = [] ∧ ∃ A, v = .slice A 0 0) ∨ ∃ us, w.ownsRow B e c.wd v xs.length us ∧ c.reps w us xs Fi

variable {c : Cod α} {e : TypeId} {B : Nat} {w w' : World} {v : Value} {xs ys : List α} {Fi Fy : List Nat}

theorem Own.empty (A : Option Addr) : Own c e B w (.slice A 0 0) [] [] := .inl ⟨rfl, rfl, A, rfl⟩
/-- The forms of an owned row. -/
theorem Own.form (h : Own c e B w v xs Fi) : (xs = [] ∧ Fi = [] ∧ ∃ A, v = .slice A 0 0) ∨
    ∃ g cap cur us, v = .slice (some ⟨g, 0, none⟩) xs.length (cap + 1) ∧ B ≤ g ∧ w.heap[g]? = some (.cells cur e) ∧ xs.length ≤ cap + 1 ∧ cap + 1 ≤ maxLen ∧
      cur.size = (cap + 1) * c.wd ∧ cur.toList.take (xs.length * c.wd) = us ∧ w.ownsRow B e c.wd v xs.length us ∧ c.reps w us xs Fi := by
  rcases h with h | ⟨us, h, hr⟩
  · exact .inl h
  · have h' := h
    obtain ⟨hl, ⟨rfl, hn⟩ | ⟨g, cap, cur, rfl, hB, hg, hnc, hcm, hsz, ht⟩⟩ := h'
    · have hx : xs = [] := List.eq_nil_of_length_eq_zero hn
      subst hx
      exact .inl ⟨rfl, hr.2, none, rfl⟩
    · cases cap with
      | zero =>
        have hx : xs = [] := List.eq_nil_of_length_eq_zero (by omega)
        subst hx
        exact .inl ⟨rfl, hr.2, _, rfl⟩
      | succ cap => exact .inr ⟨g, cap, cur, us, rfl, hB, hg, hnc, hcm, hsz, ht, h, hr⟩
theorem Own.slice (h : Own c e B w v xs Fi) : ∃ A cp, v = .slice A xs.length cp := by
  rcases h.form with ⟨rfl, -, A, rfl⟩ | ⟨g, cap, cur, us, rfl, -⟩
  · exact ⟨A, 0, rfl⟩
  · exact ⟨_, _, rfl⟩
theorem Own.lt (h : Own c e B w v xs Fi) : ∀ g, ownB v = some g → B ≤ g ∧ g < w.heap.size := by
  intro g hg
  rcases h.form with ⟨-, -, A, rfl⟩ | ⟨g', cap, cur, us, rfl, hB, hh, -⟩
  · cases A <;> simp [ownB] at hg
  · simp only [ownB, Option.some.injEq] at hg
    subst hg
    exact ⟨hB, (Array.getElem?_eq_some_iff.1 hh).1⟩
theorem Own.inner_lt (h : Own c e B w v xs Fi) : ∀ b, b ∈ Fi → b < w.heap.size := by
  intro b hb
  rcases h.form with ⟨-, rfl, -⟩ | ⟨g', cap, cur, us, -, -, -, -, -, -, -, -, hr⟩
  · simp at hb
  · exact Cod.reps_lt hr b hb
theorem Own.mono {B' : Nat} (h : Own c e B w v xs Fi) (hB : B' ≤ B) : Own c e B' w v xs Fi := by
  rcases h with h | ⟨us, ⟨hl, h⟩, hr⟩
  · exact .inl h
  · refine .inr ⟨us, ⟨hl, ?_⟩, hr⟩
    rcases h with h | ⟨g, cap, cur, h1, h2, h3⟩
    · exact .inl h
    · exact .inr ⟨g, cap, cur, h1, Nat.le_trans hB h2, h3⟩
/-- kept where its blocks are -/
theorem Own.keep (h : Own c e B w v xs Fi) (hg : ∀ g, ownB v = some g → w'.heap[g]? = w.heap[g]?) (hi : ∀ b, b ∈ Fi → w'.heap[b]? = w.heap[b]?) : Own c e B w' v xs Fi := by
  rcases h.form with h | ⟨g, cap, cur, us, rfl, hB, hh, hn, hm, hs, ht, ho, hr⟩
  · exact .inl h
  · exact .inr ⟨us, ⟨ho.1, .inr ⟨g, cap + 1, cur, rfl, hB, (hg g rfl).trans hh, hn, hm, hs, ht⟩⟩, Cod.reps_keep hr hi⟩
theorem Own.bel (h : Own c e B w v xs Fi) (hb : Below w.heap.size w w') : Own c e B w' v xs Fi :=
  h.keep (fun g hg => hb.block g (h.lt g hg).2) (fun b hm => hb.block b (h.inner_lt b hm))
theorem Own.grown (h : Own c e B w v xs Fi) {row : Option Nat} (hg : w.grownBy w' row) (hne : ∀ g, row = some g → ownB v ≠ some g ∧ g ∉ Fi) : Own c e B w' v xs Fi :=
  h.keep (fun g hv => hg.block g (h.lt g hv).2 (fun e => (hne g e.symm).1 hv)) (fun b hm => hg.block b (h.inner_lt b hm) (fun e => (hne b e.symm).2 hm))
/-- what it reads as -/
theorem Own.rep {hw : 0 < c.wd} {hw2 : c.wd ≤ 32} (h : Own c e B w v xs Fi) : ∃ F, (cL c hw hw2).rep w [v] xs F ∧ (∀ b, b ∈ F → ownB v = some b ∨ b ∈ Fi) ∧ ((∀ g, ownB v = some g → g ∉ Fi) → Fi.Nodup → F.Nodup) := by
  rcases h.form with ⟨rfl, rfl, A, rfl⟩ | ⟨g, cap, cur, us, rfl, hB, hh, hn, hm, hs, ht, ho, hr⟩
  · exact ⟨[], ⟨A, 0, rfl, Nat.le_refl _, by decide, .inl ⟨rfl, rfl⟩⟩, by simp, by simp⟩
  · cases xs with
    | nil => exact ⟨[], ⟨_, cap + 1, rfl, hn, hm, .inl ⟨rfl, rfl⟩⟩, by simp, by simp⟩
    | cons x xs =>
      refine ⟨g :: Fi, ⟨_, cap + 1, rfl, hn, hm, .inr ⟨by simp, g, 0, Fi, us, rfl, rfl, fun j u hu => ?_, hr⟩⟩, fun b hb => ?_, fun h1 h2 => ?_⟩
      · have hj := (List.getElem?_eq_some_iff.1 hu).1
        rw [ho.1] at hj
        rw [Nat.zero_add]
        exact ⟨(ho.cellAt j hj).trans hu, ho.frozenAt j⟩
      · rcases List.mem_cons.1 hb with rfl | hb
        · exact .inl rfl
        · exact .inr hb
      · exact List.nodup_cons.2 ⟨h1 g rfl, h2⟩

/-- blocks that are the call's own -/
theorem Own.fresh {hw : 0 < c.wd} {hw2 : c.wd ≤ 32} (h : Own c e B w v xs []) : ∃ F, (cL c hw hw2).rep w [v] xs F ∧ Fresh B F ∧ ∀ b, b ∈ F → ownB v = some b := by
  obtain ⟨F, h1, h2, h3⟩ := h.rep (hw := hw) (hw2 := hw2)
  have h4 : ∀ b, b ∈ F → ownB v = some b := fun b hb => by
    rcases h2 b hb with h | h
    · exact h
    · simp at h
  exact ⟨F, h1, ⟨fun b hb => (h.lt b (h4 b hb)).1, h3 (by simp) (by simp)⟩, h4⟩
end

theorem belB_alloc {B : Nat} {a w : World} (hB : B ≤ a.heap.size) (h : Below B a w) (o : Obj) : Below B a (w.alloc o) := h.trans ((bel_alloc (Below.refl _ _) o).mono (Nat.le_trans hB h.size))
theorem belB_drew {B : Nat} {a w : World} (h : Below B a w) : Below B a w.drew := h.drew
theorem belB_drewN {B : Nat} {a w : World} (h : Below B a w) (n : Nat) : Below B a (w.drewN n) := ⟨h.os, h.tape, h.output, h.size, h.block⟩
theorem belB_set {B : Nat} {a w : World} {p : Addr} (hp : B ≤ p.block) (h : Below B a w) (u : Value) : Below B a (w.setCell p u) :=
  h.trans ⟨rfl, rfl, rfl, by simp, fun i hi => Below.heap_setCell _ _ _ _ (by omega)⟩
theorem belB_then {B : Nat} {a w w' : World} (hB : B ≤ a.heap.size) (h : Below B a w) (k : Below w.heap.size w w') : Below B a w' := h.trans (k.mono (Nat.le_trans hB h.size))
theorem Own.keepF {α : Type} {c : Cod α} {e : TypeId} {B : Nat} {w w' : World} {v : Value} {xs : List α} (h : Own c e B w v xs []) (hk : Keep B w w') : Own c e B w' v xs [] :=
  h.keep (fun g hg => hk.block g (h.lt g hg).1 (h.lt g hg).2) (fun b hb => by simp at hb)

theorem Own.set_ {α : Type} {c : Cod α} {e : TypeId} {B : Nat} {w : World} {v : Value} {xs : List α} (h : Own c e B w v xs []) {p : Addr} (hp : ownB v ≠ some p.block) (u : Value) : Own c e B (w.setCell p u) v xs [] :=
  h.keep (fun g hg => Below.heap_setCell _ _ _ _ (fun e => hp (e ▸ hg))) (fun b hb => by simp at hb)

/-! ### append -/
section
variable {α : Type} {c : Cod α} {e : TypeId} {B : Nat} {v : Value} {xs ys : List α} {Fi Fy : List Nat} {P : Program} (w : World)

theorem run_append_zero (t ty e : TypeId) (i : TypeInfo) (ht : P.underlying t = some (.slice e)) (hi : P.info? e = some i) (A D : Option Addr) (n cap d : Nat) (hn : n ≤ cap) :
    (Builtin.append_ #[t, t] ty #[.slice A n cap, .slice D 0 d]).run P w = .ok (.slice A n cap) w := by
  cases A <;> cases D <;> simp [Builtin.append_, run_underlying ht, sizeOf, typeInfo, hi, Builtin.lenOf, Builtin.firstCells, hn, storeCells, loadCells, loadCellsFrom]

/-- what is appended: nothing, or cells that lie in a row -/
def AppSrc (c : Cod α) (w : World) (x : Value) (ys : List α) (Fy : List Nat) : Prop :=
  ∃ A d news, x = .slice A ys.length d ∧ c.reps w news ys Fy ∧ (0 < ys.length → ∃ ad, A = some ad ∧ ∀ j u, news[j]? = some u → w.cell? (ad.add j) = some u)

theorem AppSrc.of_rep {hw : 0 < c.wd} {hw2 : c.wd ≤ 32} {x : Value} {F : List Nat} (h : (cL c hw hw2).rep w [x] ys F) : ∃ Fy, AppSrc c w x ys Fy ∧ ∀ b, b ∈ Fy → b ∈ F := by
  obtain ⟨A, cp, hx, hl, hm, ⟨rfl, rfl⟩ | ⟨hne, g, o, Fs, us, rfl, rfl, hc, hr⟩⟩ := h
  · simp only [List.cons.injEq, and_true] at hx
    subst hx
    exact ⟨[], ⟨A, cp, [], rfl, ⟨rfl, rfl⟩, fun h => by simp at h⟩, by simp⟩
  · simp only [List.cons.injEq, and_true] at hx
    subst hx
    refine ⟨Fs, ⟨_, cp, us, rfl, hr, fun _ => ⟨_, rfl, fun j u hu => ?_⟩⟩, fun b hb => by simp [hb]⟩
    rw [Addr.add_lit]; exact (hc j u hu).1

theorem run_app (t ty : TypeId) (i : TypeInfo) (z : Value) (bytes : Nat) (ht : P.underlying t = some (.slice e)) (hi : P.info? e = some i) (hz : i.zero = some z)
    (hsize : i.size = c.wd) (hby : i.bytes = bytes) (hzs : z.cells.size = c.wd) (hw : 0 < c.wd)
    (hown : Own c e B w v xs Fi) (x : Value) (hx : AppSrc c w x ys Fy)
    (h63 : xs.length + ys.length ≤ maxLen) (hbytes : (xs.length + ys.length) * bytes ≤ 140737488355328) (hB : B ≤ w.heap.size)
    (hd : ∀ g, ownB v = some g → g ∉ Fi ∧ g ∉ Fy) :
    ∃ v' w', (Builtin.append_ #[t, t] ty #[v, x]).run P w = .ok v' w' ∧ Own c e B w' v' (xs ++ ys) (Fi ++ Fy) ∧ w.grownBy w' (ownB v) ∧
      (∀ g, ownB v' = some g → ownB v = some g ∨ w.heap.size ≤ g) := by
  obtain ⟨A, d, news, rfl, hr, hA⟩ := hx
  cases ys with
  | nil =>
    obtain rfl : Fy = [] := hr.2
    rcases hown.form with ⟨rfl, rfl, A', rfl⟩ | ⟨g, cap, cur, us, rfl, hBg, hg, hn, hm, hs, hu, ho, hro⟩
    · exact ⟨_, w, run_append_zero w t ty e i ht hi A' A 0 0 d (Nat.le_refl _), .inl ⟨rfl, rfl, A', rfl⟩, World.grownBy.refl w _, fun g h => .inl h⟩
    · exact ⟨_, w, run_append_zero w t ty e i ht hi _ A _ _ d hn, by simpa using hown, World.grownBy.refl w _, fun g h => .inl h⟩
  | cons y ys =>
    obtain ⟨ad, rfl, hc⟩ := hA (by simp)
    have hl := Cod.reps_len hr
    have h1 := Cod.reps_ones hr
    rcases hown.form with ⟨rfl, rfl, A', rfl⟩ | ⟨g, cap, cur, us, rfl, hBg, hg, hn, hm, hs, hu, ho, hro⟩
    · have key : ∃ v' w', (Builtin.append_ #[t, t] ty #[.slice A' 0 0, .slice (some ad) (y :: ys).length d]).run P w = .ok v' w' ∧ w'.ownsRow w.heap.size e c.wd v' (0 + (y :: ys).length) ([] ++ news) ∧ w.grownBy w' none := by
        cases A' with
        | none =>
          obtain ⟨v', w', k1, k2, k3, -⟩ := run_append_own (P := P) w w.heap.size t ty e i z c.wd bytes ht hi hz hsize hby hzs hw (.slice none 0 0) 0 [] ⟨by simp, .inl ⟨rfl, rfl⟩⟩ ad (y :: ys).length d news hl hc h1 (by simpa using h63) (by simpa using hbytes) (Nat.le_refl _)
          exact ⟨v', w', k1, k2, k3⟩
        | some b =>
          exact run_append_arg_grows (P := P) w t ty e i z c.wd bytes ht hi hz hsize hby hzs hw b 0 0 [] (by simp) (fun j u h => by simp at h) ad (y :: ys).length d news hl hc (by simp) (by simpa using h63) (by simpa using hbytes)
      obtain ⟨v', w', k1, k2, k3⟩ := key
      have hown' : Own c e w.heap.size w' v' (y :: ys) Fy := by
        refine .inr ⟨news, by simpa using k2, Cod.reps_keep hr fun b hb => k3.block b (Cod.reps_lt hr b hb) (by simp)⟩
      refine ⟨v', w', k1, by simpa using hown'.mono hB, by cases A' <;> exact k3, fun g h => .inr (hown'.lt g h).1⟩
    · obtain ⟨v', w', k1, k2, k3, -, k5⟩ := run_append_own_at (P := P) w B t ty e i z c.wd bytes ht hi hz hsize hby hzs hw _ xs.length us ho ad (y :: ys).length d news hl hc h1 h63 hbytes hB
      have hdg := hd g rfl
      refine ⟨v', w', k1, ?_, k3, fun g' h => ?_⟩
      · refine .inr ⟨us ++ news, by rw [List.length_append]; exact k2, Cod.reps_app (Cod.reps_keep hro fun b hb => k3.block b (Cod.reps_lt hro b hb) (fun h => ?_)) (Cod.reps_keep hr fun b hb => k3.block b (Cod.reps_lt hr b hb) (fun h => ?_))⟩
        · simp only [Value.ownBlock, Option.some.injEq] at h; subst h; exact hdg.1 hb
        · simp only [Value.ownBlock, Option.some.injEq] at h; subst h; exact hdg.2 hb
      · have h2 := ownB_own h
        rcases k5 with k5 | k5
        · rw [k5] at h2; exact .inl h2
        · rw [k5, Option.some.injEq] at h2; exact .inr (by omega)

theorem wp_app {o : Oper} {a : Act} {K : Act → World → Prop} {Q : Exit → Act → World → Prop} (s x' : Operand) (t : TypeId)
    (ho : o.op = .call { callee := .builtin .append, args := #[s, x'], argTypes := #[t, t] })
    (i : TypeInfo) (z : Value) (bytes : Nat) (ht : P.underlying t = some (.slice e)) (hi : P.info? e = some i) (hz : i.zero = some z)
    (hsize : i.size = c.wd) (hby : i.bytes = bytes) (hzs : z.cells.size = c.wd) (hw : 0 < c.wd)
    (hs : a.eval s = v) (hown : Own c e B w v xs Fi) (x : Value) (hx' : a.eval x' = x) (hx : AppSrc c w x ys Fy)
    (h63 : xs.length + ys.length ≤ maxLen) (hbytes : (xs.length + ys.length) * bytes ≤ 140737488355328) (hB : B ≤ w.heap.size)
    (hd : ∀ g, ownB v = some g → g ∉ Fi ∧ g ∉ Fy)
    (h : ∀ v' w', Own c e B w' v' (xs ++ ys) (Fi ++ Fy) → w.grownBy w' (ownB v) → (∀ g, ownB v' = some g → ownB v = some g ∨ w.heap.size ≤ g) → K (a.put o.dst v') w') : o.wp P a w K Q := by
  obtain ⟨v', w', hrun, h2, h3, h4⟩ := run_app (P := P) w t o.type i z bytes ht hi hz hsize hby hzs hw hown x hx h63 hbytes hB hd
  unfold Oper.wp execOp
  simp only [ho, resolve, invoke, builtin, Sem.run_bind, Sem.run_pure, Result.andThen_ok, List.map_toArray, List.map_cons, List.map_nil, hs, hx', hrun]
  exact h v' w' h2 h3 h4
theorem wpList_app {ops : Array Oper} {rest : List Oper} {o : Oper} {a : Act} {Q : Exit → Act → World → Prop} (hgd : o.guard = none) (s x' : Operand) (t : TypeId)
    (ho : o.op = .call { callee := .builtin .append, args := #[s, x'], argTypes := #[t, t] })
    (i : TypeInfo) (z : Value) (bytes : Nat) (ht : P.underlying t = some (.slice e)) (hi : P.info? e = some i) (hz : i.zero = some z)
    (hsize : i.size = c.wd) (hby : i.bytes = bytes) (hzs : z.cells.size = c.wd) (hw : 0 < c.wd)
    (hs : a.eval s = v) (hown : Own c e B w v xs Fi) (x : Value) (hx' : a.eval x' = x) (hx : AppSrc c w x ys Fy)
    (h63 : xs.length + ys.length ≤ maxLen) (hbytes : (xs.length + ys.length) * bytes ≤ 140737488355328) (hB : B ≤ w.heap.size)
    (hd : ∀ g, ownB v = some g → g ∉ Fi ∧ g ∉ Fy)
    (h : ∀ v' w', Own c e B w' v' (xs ++ ys) (Fi ++ Fy) → w.grownBy w' (ownB v) → (∀ g, ownB v' = some g → ownB v = some g ∨ w.heap.size ≤ g) → wpList P ops Q rest (a.put o.dst v') w') : wpList P ops Q (o :: rest) a w :=
  wpList_plain hgd fun _ hK => wp_app w s x' t ho i z bytes ht hi hz hsize hby hzs hw hs hown x hx' hx h63 hbytes hB hd fun v' w' h2 h3 h4 => hK _ _ (h v' w' h2 h3 h4)
theorem step_app {ops : Array Oper} {o : Oper} {a : Act} {K : Act → World → Prop} {Q : Exit → Act → World → Prop} {E : Prop} (hgd : o.guard = none) (s x' : Operand) (t : TypeId)
    (ho : o.op = .call { callee := .builtin .append, args := #[s, x'], argTypes := #[t, t] })
    (i : TypeInfo) (z : Value) (bytes : Nat) (ht : P.underlying t = some (.slice e)) (hi : P.info? e = some i) (hz : i.zero = some z)
    (hsize : i.size = c.wd) (hby : i.bytes = bytes) (hzs : z.cells.size = c.wd) (hw : 0 < c.wd)
    (hs : a.eval s = v) (hown : Own c e B w v xs Fi) (x : Value) (hx' : a.eval x' = x) (hx : AppSrc c w x ys Fy)
    (h63 : xs.length + ys.length ≤ maxLen) (hbytes : (xs.length + ys.length) * bytes ≤ 140737488355328) (hB : B ≤ w.heap.size)
    (hd : ∀ g, ownB v = some g → g ∉ Fi ∧ g ∉ Fy)
    (h : ∀ v' w', Own c e B w' v' (xs ++ ys) (Fi ++ Fy) → w.grownBy w' (ownB v) → (∀ g, ownB v' = some g → ownB v = some g ∨ w.heap.size ≤ g) → K (a.put o.dst v') w') :
    if Region.wanted o (yielded ops a.tmps) = true then Oper.wp P o a w K Q else E := by
  have hw' : Region.wanted o (yielded ops a.tmps) = true := by simp [Region.wanted, hgd]
  rw [if_pos hw']
  exact wp_app w s x' t ho i z bytes ht hi hz hsize hby hzs hw hs hown x hx' hx h63 hbytes hB hd h
end

/-! ### Flat values: their cells alone, no blocks -/
def Flat {α : Type} (c : Cod α) : Prop := ∀ {w vs x F}, c.rep w vs x F → F = []
theorem flat_I : Flat cI := fun h => h.2.1
theorem flat_S : Flat cS := fun h => h.2.1
theorem flat_U : Flat cU := fun h => h.2
theorem Flat.reps {α : Type} {c : Cod α} (hf : Flat c) {w : World} : ∀ {us : List Value} {xs : List α} {F : List Nat}, c.reps w us xs F → F = []
  | us, [], F, h => h.2
  | us, x :: xs, F, ⟨v1, v2, F1, F2, _, hF, h1, h2⟩ => by rw [hF, hf h1, Flat.reps hf h2]; rfl
theorem AppSrc.flat {α : Type} {c : Cod α} {hw : 0 < c.wd} {hw2 : c.wd ≤ 32} (hf : Flat c) {w : World} {x : Value} {ys : List α} {F : List Nat} (h : (cL c hw hw2).rep w [x] ys F) : AppSrc c w x ys [] := by
  obtain ⟨Fy, h1, -⟩ := AppSrc.of_rep _ h
  obtain ⟨A, d, news, e1, hr, hA⟩ := h1
  obtain rfl := hf.reps hr
  exact ⟨A, d, news, e1, hr, hA⟩

/-! ### A slice cut -/
theorem cL_cut {α : Type} {c : Cod α} {hw : 0 < c.wd} {hw2 : c.wd ≤ 32} {w : World} {A : Option Addr} {n cp : Nat} {xs : List α} {F : List Nat}
    (h : (cL c hw hw2).rep w [.slice A n cp] xs F) (k : Nat) (hk : k ≤ n) : ∃ G, (cL c hw hw2).rep w [.slice (if cp = k then A else A.map (·.add (k * c.wd))) (n - k) (cp - k)] (xs.drop k) G ∧ (∀ b, b ∈ G → b ∈ F) ∧ (F.Nodup → G.Nodup) := by
  obtain ⟨A', cp', hv, hl, hm, hr⟩ := h
  simp only [List.cons.injEq, Value.slice.injEq, and_true] at hv
  obtain ⟨rfl, rfl, rfl⟩ := hv
  have hlen : (xs.drop k).length = xs.length - k := List.length_drop
  by_cases hd : xs.drop k = []
  · exact ⟨[], ⟨_, _, by rw [hlen], by rw [hlen]; omega, by omega, .inl ⟨hd, rfl⟩⟩, by simp, by simp⟩
  · rcases hr with ⟨rfl, -⟩ | ⟨hne, g, o, Fs, us, rfl, rfl, hc, hr⟩
    · simp at hd
    · rw [← List.take_append_drop k xs] at hr
      obtain ⟨u1, u2, F1, F2, rfl, rfl, h1, h2⟩ := Cod.reps_cut hr
      have hl1 := Cod.reps_len h1
      rw [List.length_take, Nat.min_eq_left hk] at hl1
      have hpos : 0 < (xs.drop k).length := List.length_pos_iff.2 hd
      refine ⟨g :: F2, ⟨_, _, by rw [hlen], by rw [hlen]; omega, by omega, .inr ⟨hd, g, o + k * c.wd, F2, u2, ?_, rfl, ?_, h2⟩⟩, fun b hb => ?_, fun hnd => ?_⟩
      · rw [if_neg (by omega)]; simp [Addr.add_lit]
      · rw [← hl1]; exact hc.right
      · rcases List.mem_cons.1 hb with rfl | hb
        · simp
        · simp [hb]
      · rw [List.nodup_cons, List.nodup_append] at hnd
        exact List.nodup_cons.2 ⟨fun hm => hnd.1 (by simp [hm]), hnd.2.2.1⟩
end Go.Proofs.Ytlicnppfgfjkgaa
namespace Go.Proofs.Ytlicnppfgfjkgaa
open Go.RowKit

theorem cell?_set_same {w : World} {a : Addr} {u v : Value} (h : w.cell? a = some u) : (w.setCell a v).cell? a = some v := by
  obtain ⟨b, o, sp⟩ := a
  have hs : sp = none := by simpa using World.cell?_spot h
  subst hs
  unfold World.cell? at h ⊢
  cases hh : w.heap[b]? with
  | none => simp [hh] at h
  | some x =>
    cases x with
    | cells c e fz =>
      simp only [hh] at h
      have ho : o < c.size := (Array.getElem?_eq_some_iff.1 (by simpa using h)).1
      simp [World.setCell, Array.getElem?_modify, hh, ho]
    | map _ _ => simp [hh] at h
    | _ => simp [hh] at h
theorem frozen?_set (w : World) (a b : Addr) (v : Value) : (w.setCell a v).frozen? b = w.frozen? b := by
  unfold World.frozen? World.setCell
  by_cases h : b.block = a.block
  · simp only [Array.getElem?_modify, h]
    cases hh : w.heap[a.block]? with
    | none => simp
    | some x => cases x <;> simp
  · simp only [Array.getElem?_modify]
    rw [if_neg (by omega)]

/-- A row of cells in block g that is being rewritten; Fi: the blocks that the row leads to. -/
structure RS (w0 w : World) (g lo : Nat) (cells : List Value) (Fi : List Nat) : Prop where
  glt : g < w0.heap.size
  only : Only (g :: Fi) w0 w
  out : ∀ off, (off < lo ∨ lo + cells.length ≤ off) → w.cell? ⟨g, off, none⟩ = w0.cell? ⟨g, off, none⟩
  frz : ∀ off, w.frozen? ⟨g, off, none⟩ = w0.frozen? ⟨g, off, none⟩
  cell : ∀ j v, cells[j]? = some v → w.cell? ⟨g, lo + j, none⟩ = some v

section
variable {w0 w w' : World} {g lo : Nat} {cells : List Value} {Fi : List Nat}
theorem RS.set (h : RS w0 w g lo cells Fi) {j : Nat} (hj : j < cells.length) (v : Value) : RS w0 (w.setCell ⟨g, lo + j, none⟩ v) g lo (cells.set j v) Fi := by
  have h0 : w.cell? ⟨g, lo + j, none⟩ = some cells[j] := h.cell j _ (List.getElem?_eq_getElem hj)
  refine ⟨h.glt, h.only.set_ (p := ⟨g, lo + j, none⟩) (by simp) v, fun off hoff => ?_, fun off => ?_, fun i u hu => ?_⟩
  · rw [List.length_set] at hoff
    rw [World.cell?_setCell_other w ⟨g, lo + j, none⟩ ⟨g, off, none⟩ v (fun e => by injection e with _ e; omega)]
    exact h.out off hoff
  · rw [frozen?_set]; exact h.frz off
  · by_cases hij : i = j
    · subst hij
      rw [List.getElem?_set_self hj] at hu
      injection hu with hu
      subst hu
      exact cell?_set_same h0
    · rw [List.getElem?_set_ne (by omega)] at hu
      rw [World.cell?_setCell_other w ⟨g, lo + j, none⟩ ⟨g, lo + i, none⟩ v (fun e => by injection e with _ e; omega)]
      exact h.cell i u hu
theorem RS.set0 (h : RS w0 w g lo cells Fi) (hj : 0 < cells.length) (v : Value) : RS w0 (w.setCell ⟨g, lo, none⟩ v) g lo (cells.set 0 v) Fi := h.set hj v
theorem RS.bel (h : RS w0 w g lo cells Fi) (hb : Below w.heap.size w w') : RS w0 w' g lo cells Fi := by
  have hg : g < w.heap.size := Nat.lt_of_lt_of_le h.glt h.only.size
  exact ⟨h.glt, h.only.trans (.of_below hb), fun off ho => (hb.cell (p := ⟨g, off, none⟩) hg).trans (h.out off ho), fun off => (hb.frozen (p := ⟨g, off, none⟩) hg).trans (h.frz off), fun j v hv => (hb.cell (p := ⟨g, lo + j, none⟩) hg).trans (h.cell j v hv)⟩
theorem RS.sub (h : RS w0 w g lo cells Fi) {G : List Nat} (ho : Only G w w') (hG : ∀ x, x ∈ G → x ∈ Fi) (hg : g ∉ Fi) : RS w0 w' g lo cells Fi := by
  have hgl : g < w.heap.size := Nat.lt_of_lt_of_le h.glt h.only.size
  have hb : w'.heap[g]? = w.heap[g]? := ho.block g hgl (fun hm => hg (hG g hm))
  exact ⟨h.glt, h.only.trans (ho.mono fun x hx => List.mem_cons_of_mem _ (hG x hx)), fun off ho => (World.cell?_of_block (w := w) (a := ⟨g, off, none⟩) hb).trans (h.out off ho),
    fun off => (World.frozen?_of_block (w := w) (a := ⟨g, off, none⟩) hb).trans (h.frz off), fun j v hv => (World.cell?_of_block (w := w) (a := ⟨g, lo + j, none⟩) hb).trans (h.cell j v hv)⟩
end

section
variable {α : Type} {c : Cod α} {hw : 0 < c.wd} {hw2 : c.wd ≤ 32} {w : World} {A : Option Addr} {n cp : Nat} {xs : List α} {F : List Nat}

theorem cL_upd (h : (cL c hw hw2).rep w [.slice A n cp] xs F) (hnd : F.Nodup) {i : Nat} (hi : i < xs.length) :
    ∃ g o vs Fi, A = some ⟨g, o, none⟩ ∧ g ∈ F ∧ g ∉ Fi ∧ (∀ b, b ∈ Fi → b ∈ F) ∧ Fi.Nodup ∧ c.rep w vs xs[i] Fi ∧ RS w w g (o + i * c.wd) vs Fi ∧
      (∀ j, j < c.wd → w.frozen? ⟨g, o + i * c.wd + j, none⟩ = false) ∧
      ∀ w' vs' y', RS w w' g (o + i * c.wd) vs' Fi → c.rep w' vs' y' Fi → (cL c hw hw2).rep w' [.slice A n cp] (xs.set i y') F := by
  obtain ⟨A', cp', hv, hl, hm, hr⟩ := h
  simp only [List.cons.injEq, Value.slice.injEq, and_true] at hv
  obtain ⟨rfl, rfl, rfl⟩ := hv
  rcases hr with ⟨rfl, _⟩ | ⟨hne, g, o, Fs, us, rfl, rfl, hc, hr⟩
  · simp at hi
  · have hsp : xs = xs.take i ++ xs[i] :: xs.drop (i + 1) := by rw [← List.drop_eq_getElem_cons hi, List.take_append_drop]
    have hr' : c.reps w us (xs.take i ++ xs[i] :: xs.drop (i + 1)) Fs := by rw [← hsp]; exact hr
    obtain ⟨u1, u2, G1, G2, rfl, rfl, r1, v1, v2, H1, H2, rfl, rfl, hx, r2⟩ := Cod.reps_cut hr'
    have hu1 := Cod.reps_len r1
    rw [List.length_take, Nat.min_eq_left (by omega)] at hu1
    have hv1 := c.len hx
    have hglt : g < w.heap.size := hc.lt (by intro e; have := congrArg List.length e; simp [hu1, hv1] at this; omega)
    have hnd' := List.nodup_cons.1 hnd
    have hndF := List.nodup_append.1 hnd'.2
    have hndH := List.nodup_append.1 hndF.2.1
    have hgH : g ∉ H1 := fun hm => hnd'.1 (by simp [hm])
    have hcv : CellsAt w g (o + i * c.wd) v1 := by
      have := hc.right.left
      rwa [hu1] at this
    refine ⟨g, o, v1, H1, rfl, by simp, hgH, fun b hb => by simp [hb], hndH.1, hx, ⟨hglt, Only.refl _ _, fun _ _ => rfl, fun _ => rfl, fun j v hj => (hcv j v hj).1⟩, fun j hj => (hcv j _ (List.getElem?_eq_getElem (by omega))).2, ?_⟩
    intro w' vs' y' hrs hy
    have hvl := c.len hy
    have hlen : (xs.set i y').length = xs.length := List.length_set
    have hset : xs.set i y' = xs.take i ++ y' :: xs.drop (i + 1) := List.set_eq_take_append_cons_drop.trans (by rw [if_pos hi])
    have hkeep : ∀ b, b ∈ G1 ∨ b ∈ H2 → b < w.heap.size → w'.heap[b]? = w.heap[b]? := fun b hb hlt => hrs.only.block b hlt (by
      intro hm
      rcases List.mem_cons.1 hm with rfl | hm
      · exact hnd'.1 (by rcases hb with hb | hb <;> simp [hb])
      · rcases hb with hb | hb
        · exact hndF.2.2 b hb b (by simp [hm]) rfl
        · exact hndH.2.2 b hm b hb rfl)
    refine ⟨some ⟨g, o, none⟩, cp, by rw [hlen], by rw [hlen]; exact hl, hm, .inr ⟨by intro e; have := congrArg List.length e; rw [hlen] at this; simp at this; exact hne this, g, o, G1 ++ (H1 ++ H2), u1 ++ (vs' ++ v2), rfl, rfl, ?_, ?_⟩⟩
    · intro j u hu
      by_cases h1 : j < i * c.wd
      · rw [List.getElem?_append_left (by omega)] at hu
        have h2 := hc j u (by rw [List.getElem?_append_left (by omega)]; exact hu)
        exact ⟨(hrs.out (o + j) (.inl (by omega))).trans h2.1, (hrs.frz _).trans h2.2⟩
      · rw [List.getElem?_append_right (by omega)] at hu
        by_cases h3 : j - u1.length < vs'.length
        · rw [List.getElem?_append_left h3] at hu
          have h4 := hrs.cell _ _ hu
          have h5 := (hcv (j - u1.length) _ (List.getElem?_eq_getElem (by omega))).2
          rw [show o + i * c.wd + (j - u1.length) = o + j by omega] at h4 h5
          exact ⟨h4, (hrs.frz _).trans h5⟩
        · have h2 := hc j u (by rw [List.getElem?_append_right (by omega), List.getElem?_append_right (by omega)]; rw [List.getElem?_append_right (by omega)] at hu; rw [hvl, ← hv1] at hu; exact hu)
          exact ⟨(hrs.out (o + j) (.inr (by omega))).trans h2.1, (hrs.frz _).trans h2.2⟩
    · rw [hset]
      refine Cod.reps_app (Cod.reps_keep r1 fun b hb => hkeep b (.inl hb) (Cod.reps_lt r1 b hb)) ⟨vs', v2, H1, H2, rfl, rfl, hy, Cod.reps_keep r2 fun b hb => hkeep b (.inr hb) (Cod.reps_lt r2 b hb)⟩
end

theorem Cod.set_ {α : Type} {c : Cod α} {w : World} {vs : List Value} {x : α} {F : List Nat} (h : c.rep w vs x F) {g : Nat} (hg : g ∉ F) (i : Nat) (v : Value) : c.rep (w.setCell ⟨g, i, none⟩ v) vs x F :=
  c.keep h fun b hb => Below.heap_setCell _ _ _ _ (fun e => hg (by subst e; exact hb))
theorem mark_byte (k : Int) : (((UInt8.ofNat (k % 256).toNat).toNat : Nat) : Int) = k % 256 := by
  rw [UInt8.toNat_ofNat']; omega

/-! ### Lists marked from the front -/
section
variable {α : Type} (c : Cod α)
def Cod.mkTo (k : Int) (xs : List α) (i : Nat) : List α := c.mks k (xs.take i) ++ xs.drop i
theorem Cod.mkTo_zero (k : Int) (xs : List α) : c.mkTo k xs 0 = xs := by simp [Cod.mkTo, Cod.mks]
theorem Cod.mkTo_end (k : Int) (xs : List α) : c.mkTo k xs xs.length = c.mks k xs := by simp [Cod.mkTo]
theorem Cod.mkTo_len (k : Int) (xs : List α) (i : Nat) : (c.mkTo k xs i).length = xs.length := by
  simp only [Cod.mkTo, List.length_append, Cod.mks_len, List.length_take, List.length_drop]; omega
theorem Cod.mkTo_get (k : Int) (xs : List α) (i : Nat) (hi : i < xs.length) (h : i < (c.mkTo k xs i).length) : (c.mkTo k xs i)[i] = xs[i] := by
  simp only [Cod.mkTo]
  rw [List.getElem_append_right (by rw [Cod.mks_len, List.length_take]; omega)]
  simp only [Cod.mks_len, List.length_take, Nat.min_eq_left (Nat.le_of_lt hi), Nat.sub_self]
  rw [List.getElem_drop]; simp
theorem Cod.mkTo_set (k : Int) (xs : List α) (i : Nat) (hi : i < xs.length) : (c.mkTo k xs i).set i (c.mrk (k + c.cns (xs.take i)) xs[i]) = c.mkTo k xs (i + 1) := by
  simp only [Cod.mkTo]
  have hl : (c.mks k (xs.take i)).length = i := by rw [Cod.mks_len, List.length_take, Nat.min_eq_left (Nat.le_of_lt hi)]
  rw [List.set_append_right _ _ (by omega), hl, Nat.sub_self, List.drop_eq_getElem_cons hi, List.set_cons_zero, List.take_succ_eq_append_getElem hi, Cod.mks_app, List.append_assoc]
  simp [Cod.mks]
theorem Cod.cns_succ (xs : List α) (i : Nat) (hi : i < xs.length) : c.cns (xs.take (i + 1)) = c.cns (xs.take i) + c.cn xs[i] := by
  rw [List.take_succ_eq_append_getElem hi, Cod.cns_app]; simp [Cod.cns]
theorem Cod.cns_take_le (xs : List α) (i : Nat) : c.cns (xs.take i) ≤ c.cns xs := by
  conv => rhs; rw [← List.take_append_drop i xs, Cod.cns_app]
  omega
theorem Cod.mks_get (k : Int) : ∀ (xs : List α) (i : Nat) (hi : i < xs.length) (h : i < (c.mks k xs).length), (c.mks k xs)[i] = c.mrk (k + c.cns (xs.take i)) xs[i] := by
  intro xs i hi h
  have h1 : c.mks k xs = c.mks k (xs.take i) ++ c.mks (k + c.cns (xs.take i)) (xs.drop i) := by rw [← Cod.mks_app, List.take_append_drop]
  have hl : (c.mks k (xs.take i)).length = i := by rw [Cod.mks_len, List.length_take, Nat.min_eq_left (Nat.le_of_lt hi)]
  simp only [h1]
  rw [List.getElem_append_right (by omega)]
  simp only [hl, Nat.sub_self, List.drop_eq_getElem_cons hi, Cod.mks, List.getElem_cons_zero]
end

end Go.Proofs.Ytlicnppfgfjkgaa
namespace Go.Proofs.Ytlicnppfgfjkgaa
open Go.RowKit
set_option linter.unusedVariables false

section
variable {α : Type} {c : Cod α} {e : TypeId} {B : Nat} {w w' : World} {v : Value} {xs : List α} {Fi : List Nat}
theorem Own.raise (h : Own c e 0 w v xs Fi) (hB : ∀ g, ownB v = some g → B ≤ g) : Own c e B w v xs Fi := by
  rcases h.form with h | ⟨g, cap, cur, us, rfl, h0, hh, hn, hm, hs, ht, ho, hr⟩
  · exact .inl h
  · exact .inr ⟨us, ⟨ho.1, .inr ⟨g, cap + 1, cur, rfl, hB g rfl, hh, hn, hm, hs, ht⟩⟩, hr⟩
theorem Own.norm (h : Own c e B w v xs Fi) : ownB v = none → Fi = [] := by
  intro hv
  rcases h.form with ⟨-, h, -⟩ | ⟨g, cap, cur, us, rfl, -⟩
  · exact h
  · simp [ownB] at hv
end

def ownL (v : Value) : List Nat := match ownB v with | some g => [g] | none => []
theorem mem_ownL {v : Value} {b : Nat} : b ∈ ownL v ↔ ownB v = some b := by
  unfold ownL
  cases h : ownB v with
  | none => simp
  | some g => simp [eq_comm]

/-- A slice that is a row of the call's own, from its block's start on, the room behind it too. -/
def cO {α : Type} (c : Cod α) (e : TypeId) (hw2 : c.wd ≤ 32) : Cod (List α) where
  wd := 1
  rep := fun w vs xs F => ∃ v Fi, vs = [v] ∧ Own c e 0 w v xs Fi ∧ F = ownL v ++ Fi
  sz := c.szs
  mrk := c.mks
  cn := c.cns
  mkcn := c.mks_cns
  cnle := fun xs => Nat.le_trans (Cod.cns_le c hw2 xs) (by omega)
  len := fun ⟨_, _, h, _⟩ => by rw [h]; rfl
  keep := fun ⟨v, Fi, h, ho, hF⟩ hb => ⟨v, Fi, h, ho.keep (fun g hg => hb g (by rw [hF]; simp [mem_ownL, hg])) (fun b hm => hb b (by rw [hF]; simp [hm])), hF⟩
  lt := fun ⟨v, Fi, h, ho, hF⟩ b hb => by
    rw [hF, List.mem_append, mem_ownL] at hb
    rcases hb with hb | hb
    · exact (ho.lt b hb).2
    · exact ho.inner_lt b hb
  ones := fun ⟨v, Fi, h, ho, hF⟩ u hu => by
    rw [h] at hu; simp at hu; subst hu
    obtain ⟨A, cp, rfl⟩ := ho.slice
    rfl

theorem cO_form {α : Type} {c : Cod α} {e : TypeId} {hw2 : c.wd ≤ 32} {w : World} {v : Value} {xs : List α} {F : List Nat} (h : (cO c e hw2).rep w [v] xs F) : ∃ A cp, v = .slice A xs.length cp := by
  obtain ⟨v', Fi, hv, ho, -⟩ := h
  simp only [List.cons.injEq, and_true] at hv
  subst hv
  exact ho.slice
theorem cO_lt {α : Type} {c : Cod α} {e : TypeId} {hw2 : c.wd ≤ 32} {w : World} {v : List Value} {xs : List α} {F : List Nat} (h : (cO c e hw2).rep w v xs F) : ∀ b, b ∈ F → b < w.heap.size := (cO c e hw2).lt h
theorem cO_own {α : Type} {c : Cod α} {e : TypeId} {hw2 : c.wd ≤ 32} {w : World} {v : Value} {xs : List α} {F : List Nat} {B : Nat} (h : (cO c e hw2).rep w [v] xs F) (hf : Fresh B F) :
    ∃ Fi, F = ownL v ++ Fi ∧ Own c e B w v xs Fi ∧ Fresh B Fi ∧ (∀ g, ownB v = some g → g ∉ Fi) ∧ ∀ g, ownB v = some g → B ≤ g := by
  obtain ⟨v', Fi, hv, ho, rfl⟩ := h
  simp only [List.cons.injEq, and_true] at hv
  subst hv
  have hB : ∀ g, ownB v = some g → B ≤ g := fun g hg => hf.1 g (by simp [mem_ownL, hg])
  have hnd := List.nodup_append.1 hf.2
  exact ⟨Fi, rfl, ho.raise hB, ⟨fun b hb => hf.1 b (by simp [hb]), hnd.2.1⟩, fun g hg hm => hnd.2.2 g (mem_ownL.2 hg) g hm rfl, hB⟩
theorem Own.toO {α : Type} {c : Cod α} {e : TypeId} {hw2 : c.wd ≤ 32} {w : World} {v : Value} {xs : List α} {Fi : List Nat} {B : Nat} (h : Own c e B w v xs Fi) (hf : Fresh B Fi) (hd : ∀ g, ownB v = some g → g ∉ Fi) :
    (cO c e hw2).rep w [v] xs (ownL v ++ Fi) ∧ Fresh B (ownL v ++ Fi) := by
  refine ⟨⟨v, Fi, rfl, h.mono (Nat.zero_le _), rfl⟩, fun b hb => ?_, List.nodup_append.2 ⟨?_, hf.2, fun a ha b hb hab => ?_⟩⟩
  · rcases List.mem_append.1 hb with hb | hb
    · exact (h.lt b (mem_ownL.1 hb)).1
    · exact hf.1 b hb
  · unfold ownL; split <;> simp
  · subst hab; exact hd a (mem_ownL.1 ha) hb

/-! ### What a codec says less -/
def Weak {α : Type} (c d : Cod α) : Prop := c.wd = d.wd ∧ ∀ {w vs x F}, c.rep w vs x F → ∃ G, d.rep w vs x G ∧ G.Sublist F
theorem Weak.refl {α : Type} (c : Cod α) : Weak c c := ⟨rfl, fun h => ⟨_, h, List.Sublist.refl _⟩⟩
theorem Weak.reps {α : Type} {c d : Cod α} (k : Weak c d) {w : World} : ∀ {us : List Value} {xs : List α} {F : List Nat}, c.reps w us xs F → ∃ G, d.reps w us xs G ∧ G.Sublist F
  | us, [], F, h => ⟨[], ⟨h.1, rfl⟩, by rw [h.2]; exact List.Sublist.refl _⟩
  | us, x :: xs, F, ⟨v1, v2, F1, F2, h, hF, h1, h2⟩ => by
    obtain ⟨G1, k1, s1⟩ := k.2 h1
    obtain ⟨G2, k2, s2⟩ := Weak.reps k h2
    exact ⟨G1 ++ G2, ⟨v1, v2, G1, G2, h, rfl, k1, k2⟩, by rw [hF]; exact s1.append s2⟩
theorem Weak.list {α : Type} {c d : Cod α} (k : Weak c d) {hw : 0 < c.wd} {hw2 : c.wd ≤ 32} {kw : 0 < d.wd} {kw2 : d.wd ≤ 32} : Weak (cL c hw hw2) (cL d kw kw2) := by
  refine ⟨rfl, ?_⟩
  rintro w vs xs F ⟨A, cp, hv, hl, hm, ⟨rfl, rfl⟩ | ⟨hne, g, o, Fs, us, hA, rfl, hc, hr⟩⟩
  · exact ⟨[], ⟨A, cp, hv, hl, hm, .inl ⟨rfl, rfl⟩⟩, List.Sublist.refl _⟩
  · obtain ⟨G, h1, h2⟩ := k.reps hr
    exact ⟨g :: G, ⟨A, cp, hv, hl, hm, .inr ⟨hne, g, o, G, us, hA, rfl, hc, h1⟩⟩, h2.cons_cons g⟩
theorem Weak.own {α : Type} {c d : Cod α} (k : Weak c d) {e : TypeId} {hw2 : c.wd ≤ 32} {kw : 0 < d.wd} {kw2 : d.wd ≤ 32} : Weak (cO c e hw2) (cL d kw kw2) := by
  refine ⟨rfl, ?_⟩
  rintro w vs xs F ⟨v, Fi, rfl, ho, rfl⟩
  rcases ho.form with ⟨rfl, rfl, A, rfl⟩ | ⟨g, cap, cur, us, rfl, h0, hh, hn, hm, hs, ht, ho', hr⟩
  · exact ⟨[], ⟨A, 0, rfl, Nat.le_refl _, by decide, .inl ⟨rfl, rfl⟩⟩, List.nil_sublist _⟩
  · obtain ⟨G, h1, h2⟩ := k.reps hr
    cases xs with
    | nil => exact ⟨[], ⟨_, cap + 1, rfl, hn, hm, .inl ⟨rfl, rfl⟩⟩, List.nil_sublist _⟩
    | cons x xs =>
      refine ⟨g :: G, ⟨_, cap + 1, rfl, hn, hm, .inr ⟨by simp, g, 0, G, us, rfl, rfl, fun j u hu => ?_, h1⟩⟩, ?_⟩
      · have hj := (List.getElem?_eq_some_iff.1 hu).1
        rw [ho'.1] at hj
        rw [Nat.zero_add]
        exact ⟨(ho'.cellAt j hj).trans hu, ho'.frozenAt j⟩
      · show (g :: G).Sublist ([g] ++ Fi)
        exact h2.cons_cons g
theorem Weak.pair {α β : Type} {c d : Cod α} {c' d' : Cod β} (k : Weak c d) (k' : Weak c' d') : Weak (cP c c') (cP d d') := by
  refine ⟨by show c.wd + c'.wd = _; rw [k.1, k'.1]; rfl, ?_⟩
  rintro w vs x F ⟨v1, v2, F1, F2, h, rfl, h1, h2⟩
  obtain ⟨G1, k1, s1⟩ := k.2 h1
  obtain ⟨G2, k2, s2⟩ := k'.2 h2
  exact ⟨G1 ++ G2, ⟨v1, v2, G1, G2, h, rfl, k1, k2⟩, s1.append s2⟩
theorem Weak.map {α σ : Type} {c d : Cod α} (k : Weak c d) {f : σ → α} {g : α → σ} {hg hg' : ∀ a, f (g a) = a} : Weak (cM c f g hg) (cM d f g hg') := ⟨k.1, fun h => k.2 h⟩
theorem Weak.fresh {α : Type} {c d : Cod α} (k : Weak c d) {w : World} {vs : List Value} {x : α} {F : List Nat} {B : Nat} (h : c.rep w vs x F) (hf : Fresh B F) : ∃ G, d.rep w vs x G ∧ Fresh B G ∧ ∀ b, b ∈ G → b ∈ F := by
  obtain ⟨G, h1, h2⟩ := k.2 h
  exact ⟨G, h1, ⟨fun b hb => hf.1 b (h2.subset hb), h2.nodup hf.2⟩, fun b hb => h2.subset hb⟩
theorem GivesR.weak {α : Type} {c d : Cod α} (k : Weak c d) {w w' : World} {x : α} {e : Ending} (h : GivesR c w x e w') : GivesR d w x e w' := by
  obtain ⟨vs, F, he, hb, hr, hf⟩ := h
  obtain ⟨G, h1, h2, -⟩ := k.fresh hr hf
  exact ⟨vs, G, he, hb, h1, h2⟩

/-! ### A box that holds a row, while a loop appends to it -/
/-- The cell o of the box xb of the world V holds a row of the call's own (blocks from V's end on) that reads as es; of what was there in V only that cell has turned. -/
structure BoxAt {α : Type} (c : Cod α) (T : TypeId) (V wr : World) (xb o : Nat) (es : List α) (vE : Value) (Fi : List Nat) : Prop where
  cell : wr.cell? ⟨xb, o, none⟩ = some vE
  own : Own c T V.heap.size wr vE es Fi
  fresh : Fresh V.heap.size Fi
  ne : ∀ g, ownB vE = some g → g ∉ Fi
  only : Only [xb] V wr
  fz : ∀ i, wr.frozen? ⟨xb, i, none⟩ = V.frozen? ⟨xb, i, none⟩
  oth : ∀ i, i ≠ o → wr.cell? ⟨xb, i, none⟩ = V.cell? ⟨xb, i, none⟩
def BoxRow {α : Type} (c : Cod α) (T : TypeId) (V wr : World) (xb o : Nat) (es : List α) : Prop := ∃ vE Fi, BoxAt c T V wr xb o es vE Fi
/-- what the append left, ahead of the store; and what the store will leave -/
structure BoxAfter {α : Type} (c : Cod α) (T : TypeId) (V W4 w2 : World) (xb o : Nat) (es : List α) (vE v2 : Value) : Prop where
  cell : w2.cell? ⟨xb, o, none⟩ = some vE
  fz : ∀ i, w2.frozen? ⟨xb, i, none⟩ = V.frozen? ⟨xb, i, none⟩
  size : W4.heap.size ≤ w2.heap.size
  row : BoxRow c T V (w2.setCell ⟨xb, o, none⟩ v2) xb o es

section
variable {α : Type} {c : Cod α} {T : TypeId} {V wr W4 w2 : World} {xb o : Nat} {es ys : List α} {vE v2 : Value} {Fi G : List Nat}
theorem BoxRow.start {A : Option Addr} (h : V.cell? ⟨xb, o, none⟩ = some (.slice A 0 0)) : BoxRow c T V V xb o [] :=
  ⟨_, [], h, Own.empty _, Fresh.nil _, by simp [ownB], Only.refl _ _, fun _ => rfl, fun _ _ => rfl⟩
theorem cell_lt {a : Addr} {v : Value} (h : V.cell? a = some v) : a.block < V.heap.size := World.block_lt_of_cell? V a h
theorem boxAfter (hx : xb < V.heap.size) (H : BoxAt c T V wr xb o es vE Fi) (hb : Below wr.heap.size wr W4) (hG : Fresh wr.heap.size G) (hGl : ∀ b, b ∈ G → b < W4.heap.size)
    (ho2 : Own c T V.heap.size w2 v2 (es ++ ys) (Fi ++ G)) (hg2 : W4.grownBy w2 (ownB vE)) (hat2 : ∀ g, ownB v2 = some g → ownB vE = some g ∨ W4.heap.size ≤ g) :
    BoxAfter c T V W4 w2 xb o (es ++ ys) vE v2 := by
  obtain ⟨hX, hown, hFi, hEF, hO, hfz, hoth⟩ := H
  have hVr := hO.size
  have hs4 := hb.size
  have hs2 := hg2.size
  have hxr : xb < wr.heap.size := Nat.lt_of_lt_of_le hx hVr
  have hne : ownB vE ≠ some xb := fun e => by have := (hown.lt _ e).1; omega
  have hk : w2.heap[xb]? = wr.heap[xb]? := (hg2.block xb (Nat.lt_of_lt_of_le hxr hb.size) (fun e => hne e.symm)).trans (hb.block xb hxr)
  have hX2 : w2.cell? ⟨xb, o, none⟩ = some vE := (World.cell?_of_block hk).trans hX
  have hf2 : ∀ i, w2.frozen? ⟨xb, i, none⟩ = wr.frozen? ⟨xb, i, none⟩ := fun i => World.frozen?_of_block hk
  have hc2 : ∀ i, w2.cell? ⟨xb, i, none⟩ = wr.cell? ⟨xb, i, none⟩ := fun i => World.cell?_of_block hk
  have hx2 : ownB v2 ≠ some xb := fun e => by have := (ho2.lt _ e).1; omega
  have hFG : ∀ b, b ∈ Fi ++ G → V.heap.size ≤ b ∧ b < W4.heap.size := fun b hm => by
    rcases List.mem_append.1 hm with hm | hm
    · have h1 := hFi.1 b hm; have h2 := hown.inner_lt b hm; omega
    · have h1 := hG.1 b hm; have h2 := hGl b hm; omega
  refine ⟨hX2, fun i => (hf2 i).trans (hfz i), hs2, v2, Fi ++ G, cell?_set_same hX2, ho2.keep (fun g hg => Below.heap_setCell _ _ _ _ (fun e => hx2 (hg.trans (congrArg some e)))) (fun b hm => Below.heap_setCell _ _ _ _ (fun e => by have := hFG b hm; have e' : b = xb := e; omega)), ⟨fun b hm => (hFG b hm).1, List.nodup_append.2 ⟨hFi.2, hG.2, fun a ha b hm e => by have h1 := hown.inner_lt a ha; have h2 := hG.1 b hm; omega⟩⟩, fun g hg hm => ?_, ?_, fun i => (frozen?_set _ _ _ _).trans ((hf2 i).trans (hfz i)), fun i hi => ?_⟩
  · rcases hat2 g hg with h1 | h1
    · rcases List.mem_append.1 hm with hm | hm
      · exact hEF g h1 hm
      · have h2 := (hown.lt g h1).2; have h3 := hG.1 g hm; omega
    · have h2 := hFG g hm; omega
  · have hgb : Below V.heap.size W4 w2 := Below.grown (Below.refl _ _) hg2 (Nat.le_trans hVr hs4) (fun b hb => (hown.lt b hb).1)
    refine Only.set_ ⟨hgb.os.trans (hb.os.trans hO.os), hgb.tape.trans (hb.tape.trans hO.tape), hgb.output.trans (hb.output.trans hO.output), by omega, fun b hbl hn => ?_⟩ (by simp) _
    refine (hg2.block b (by omega) (fun e => by have := (hown.lt b e.symm).1; omega)).trans ((hb.block b (by omega)).trans (hO.block b hbl hn))
  · rw [World.cell?_setCell_other w2 ⟨xb, o, none⟩ ⟨xb, i, none⟩ _ (fun e => by injection e with _ e; omega)]
    exact (hc2 i).trans (hoth i hi)

variable {P : Program}
theorem wpList_box {ops : Array Oper} {rest : List Oper} {op : Oper} {a : Act} {Q : Exit → Act → World → Prop} (hgd : op.guard = none) (s x' : Operand) (t : TypeId)
    (hop : op.op = .call { callee := .builtin .append, args := #[s, x'], argTypes := #[t, t] })
    (i : TypeInfo) (z : Value) (bytes : Nat) (ht : P.underlying t = some (.slice T)) (hi : P.info? T = some i) (hz : i.zero = some z)
    (hsize : i.size = c.wd) (hby : i.bytes = bytes) (hzs : z.cells.size = c.wd) (hw : 0 < c.wd)
    (hs : a.eval s = vE) (x : Value) (hx' : a.eval x' = x) (hxb : xb < V.heap.size) (H : BoxAt c T V wr xb o es vE Fi) (hb : Below wr.heap.size wr W4) (hG : Fresh wr.heap.size G) (hGl : ∀ b, b ∈ G → b < W4.heap.size)
    (hsrc : AppSrc c W4 x ys G) (m : Nat) (hm : (es ++ ys).length = m)
    (h63 : m ≤ maxLen) (hbytes : m * bytes ≤ 140737488355328)
    (h : ∀ A2 c2 w2, BoxAfter c T V W4 w2 xb o (es ++ ys) vE (.slice A2 m c2) → wpList P ops Q rest (a.put op.dst (.slice A2 m c2)) w2) : wpList P ops Q (op :: rest) a W4 := by
  have hVr := H.only.size
  have hs4 := hb.size
  have hm' : es.length + ys.length = m := by rw [← hm, List.length_append]
  refine wpList_app (c := c) (B := V.heap.size) W4 hgd s x' t hop i z bytes ht hi hz hsize hby hzs hw hs (H.own.bel hb) x hx' hsrc (by omega) (by rw [hm']; exact hbytes) (Nat.le_trans hVr hs4) (fun g hg => ⟨H.ne g hg, fun hm => by have h1 := (H.own.lt g hg).2; have h2 := hG.1 g hm; omega⟩) (fun v' w' h2 h3 h4 => ?_)
  obtain ⟨A2, c2, rfl⟩ := h2.slice
  rw [hm] at h2 h4 ⊢
  exact h A2 c2 w' (boxAfter hxb H hb hG hGl h2 h3 h4)
theorem step_box {ops : Array Oper} {op : Oper} {a : Act} {K : Act → World → Prop} {Q : Exit → Act → World → Prop} {E : Prop} (hgd : op.guard = none) (s x' : Operand) (t : TypeId)
    (hop : op.op = .call { callee := .builtin .append, args := #[s, x'], argTypes := #[t, t] })
    (i : TypeInfo) (z : Value) (bytes : Nat) (ht : P.underlying t = some (.slice T)) (hi : P.info? T = some i) (hz : i.zero = some z)
    (hsize : i.size = c.wd) (hby : i.bytes = bytes) (hzs : z.cells.size = c.wd) (hw : 0 < c.wd)
    (hs : a.eval s = vE) (x : Value) (hx' : a.eval x' = x) (hxb : xb < V.heap.size) (H : BoxAt c T V wr xb o es vE Fi) (hb : Below wr.heap.size wr W4) (hG : Fresh wr.heap.size G) (hGl : ∀ b, b ∈ G → b < W4.heap.size)
    (hsrc : AppSrc c W4 x ys G) (m : Nat) (hm : (es ++ ys).length = m)
    (h63 : m ≤ maxLen) (hbytes : m * bytes ≤ 140737488355328)
    (h : ∀ A2 c2 w2, BoxAfter c T V W4 w2 xb o (es ++ ys) vE (.slice A2 m c2) → K (a.put op.dst (.slice A2 m c2)) w2) :
    if Region.wanted op (yielded ops a.tmps) = true then Oper.wp P op a W4 K Q else E := by
  have hVr := H.only.size
  have hs4 := hb.size
  have hm' : es.length + ys.length = m := by rw [← hm, List.length_append]
  refine step_app (c := c) (B := V.heap.size) W4 hgd s x' t hop i z bytes ht hi hz hsize hby hzs hw hs (H.own.bel hb) x hx' hsrc (by omega) (by rw [hm']; exact hbytes) (Nat.le_trans hVr hs4) (fun g hg => ⟨H.ne g hg, fun hm => by have h1 := (H.own.lt g hg).2; have h2 := hG.1 g hm; omega⟩) (fun v' w' h2 h3 h4 => ?_)
  obtain ⟨A2, c2, rfl⟩ := h2.slice
  rw [hm] at h2 h4 ⊢
  exact h A2 c2 w' (boxAfter hxb H hb hG hGl h2 h3 h4)
end

theorem AppSrc.bel {α : Type} {c : Cod α} {w w' : World} {x : Value} {ys : List α} {Fy : List Nat} (h : AppSrc c w x ys Fy) (hb : Below w.heap.size w w') : AppSrc c w' x ys Fy := by
  obtain ⟨A, d, news, hx, hr, hA⟩ := h
  refine ⟨A, d, news, hx, Cod.reps_bel hr hb, fun hp => ?_⟩
  obtain ⟨ad, h1, h2⟩ := hA hp
  exact ⟨ad, h1, fun j u hu => (hb.cell (cell_lt (h2 j u hu))).trans (h2 j u hu)⟩
/-- one cell with a row behind it -/
theorem src_cells {α : Type} {c : Cod α} {w : World} {vs : List Value} {x : α} {F : List Nat} {g : Nat} (h : c.rep w vs x F) (hc : ∀ j u, vs[j]? = some u → w.cell? ⟨g, j, none⟩ = some u) : AppSrc c w (.slice (some ⟨g, 0, none⟩) 1 1) [x] F :=
  ⟨some ⟨g, 0, none⟩, 1, vs, rfl, Cod.reps_one h, fun _ => ⟨_, rfl, fun j u hu => by rw [Addr.add_lit, Nat.zero_add]; exact hc j u hu⟩⟩
theorem src_new {α : Type} {c : Cod α} {w : World} {vs : Array Value} {x : α} {F : List Nat} (T : TypeId) (g : Nat) (hg : w.heap.size = g) (h : c.rep w vs.toList x F) : AppSrc c (w.alloc (.cells vs T)) (.slice (some ⟨g, 0, none⟩) 1 1) [x] F := by
  subst hg
  exact src_cells (Cod.bel h (bel_alloc (Below.refl _ _) _)) (fun j u hu => by rw [(Blk.new w T vs).cell]; simpa using hu)
end Go.Proofs.Ytlicnppfgfjkgaa
namespace Go.Proofs.Ytlicnppfgfjkgaa
open Go.ChangeShapes Go.WideShapes Go.RowKit
set_option linter.unusedVariables false

structure TLoop where
  tasks : List Int
  micro : List Int

def cLoop : Cod TLoop := cM (cP cIS cIS) (fun x => (x.tasks, x.micro)) (fun a => ⟨a.1, a.2⟩) (fun _ => rfl)

def TLoop.Ok (_x : TLoop) : Prop := True

theorem TLoop.out {w : World} {vs : List Value} {x : TLoop} {F : List Nat} (h : cLoop.rep w vs x F) :
    ∃ v0 v1 F0 F1, vs = [v0, v1] ∧ F = F0 ++ F1 ∧ x.Ok ∧ cIS.rep w [v0] x.tasks F0 ∧ cIS.rep w [v1] x.micro F1 := by

  obtain ⟨a0, b0, G0, H0, rfl, rfl, h0, h1⟩ := h
  obtain ⟨A0, cp0, rfl, k0⟩ := h0
  obtain ⟨A1, cp1, rfl, k1⟩ := h1
  exact ⟨_, _, G0, H0, rfl, by simp, trivial, ⟨A0, cp0, rfl, k0⟩, ⟨A1, cp1, rfl, k1⟩⟩

theorem TLoop.mk_ {w : World} {x : TLoop} {v0 : Value} {v1 : Value} {F0 : List Nat} {F1 : List Nat} (h : x.Ok) (k0 : cIS.rep w [v0] x.tasks F0) (k1 : cIS.rep w [v1] x.micro F1) : cLoop.rep w [v0, v1] x (F0 ++ F1) := by

  clear h

  exact ⟨[_], _, F0, F1, rfl, by simp, k0, k1⟩


theorem TLoop.outA {w : World} {vs : Array Value} {x : TLoop} {F : List Nat} (h : cLoop.rep w vs.toList x F) :
    ∃ v0 v1 F0 F1, vs = #[v0, v1] ∧ F = F0 ++ F1 ∧ x.Ok ∧ cIS.rep w [v0] x.tasks F0 ∧ cIS.rep w [v1] x.micro F1 := by
  obtain ⟨a0, a1, a2, a3, e, f, r⟩ := TLoop.out h
  exact ⟨a0, a1, a2, a3, Array.toList_inj.1 e, f, r⟩

end Go.Proofs.Ytlicnppfgfjkgaa
namespace Go.Proofs.Ytlicnppfgfjkgaa
open Go.ChangeShapes Go.WideShapes Go.RowKit
set_option linter.unusedVariables false

theorem infoInt : (Try.prog.info? 3).map (fun i => (i.zero, i.size, i.bytes)) = some (some (Value.int .i64 0), 1, 8) := by kernel_rfl

/-- A loop whose two rows are the call's own. -/
def OwnLoop (w : World) (x : TLoop) (e : Ending) (w' : World) : Prop :=
  ∃ v0 v1, e = .returned (.agg #[v0, v1]) ∧ Below w.heap.size w w' ∧ Own cI 3 w.heap.size w' v0 x.tasks [] ∧ Own cI 3 w.heap.size w' v1 x.micro [] ∧ ∀ g, ownB v0 = some g → ownB v1 ≠ some g

end Go.Proofs.Ytlicnppfgfjkgaa
namespace Go.Proofs.Ytlicnppfgfjkgaa
open Go.ChangeShapes Go.WideShapes Go.RowKit
set_option linter.unusedVariables false

theorem infoIns : (Try.prog.info? 35).map (fun i => (i.zero, i.size, i.bytes)) = some (some (Value.agg #[.int .i64 0, .int .i64 0, .int .i64 0, .string ByteArray.empty]), 4, 40) := by kernel_rfl
theorem flat_Ins : Flat cIns := fun h => (TIns.out h).2.1
theorem TMach.lens {x : TMach} (hn : cMach.sz x ≤ 1048576) : x.script.length ≤ 1048576 ∧ x.regs.length ≤ 1048576 := by
  have h1 := Cod.len_le cIns x.script; have h2 := Cod.len_le cI x.regs
  have : cMach.sz x = cIns.szs x.script + (0 + (cI.szs x.regs + (0 + (0 + 0)))) := rfl
  omega
theorem Fresh.two {B C : Nat} {F G : List Nat} (h : Fresh B F) (hlt : ∀ b, b ∈ F → b < C) (k : Fresh C G) (hBC : B ≤ C) : Fresh B (F ++ G) := h.app hlt k hBC

set_option maxRecDepth 100000 in
set_option maxHeartbeats 4000000 in
theorem specScriptCopy_any (v : Value) (xs : List TIns) (F : List Nat) (w : World) (h : cInsS.rep w [v] xs F) (hn : xs.length ≤ 1048576) :
    Calls Try.prog 158 #[v] w (GivesS cInsS w xs) := by
  obtain ⟨i0, hi0, hz0, hz1, hz2⟩ := info_parts infoIns
  obtain ⟨A, c, rfl⟩ := cL_form h
  have HS := Lib.hid hn
  clear hn
  go_enter Try.func158, Try.ntmps158
  go_wp2_with (at_builtin; refine wpList_app (c := cIns) (xs := []) (ys := xs) (Fi := []) (Fy := []) _ rfl _ _ _ rfl i0 _ _ Try.underlying24 hi0 hz0 hz1 hz2 rfl (by decide) (v := .slice (some _) 0 0) rfl (Own.empty _) (.slice A xs.length c) rfl (AppSrc.flat (hw := by decide) (hw2 := by decide) flat_Ins (Cod.bel h (by repeat (first | with_reducible exact Below.refl _ _ | with_reducible assumption | with_reducible refine bel_alloc ?_ _ | with_reducible refine bel_drew ?_ | with_reducible refine bel_drewN ?_ _ | (with_reducible refine bel_set ?_ ?_ _; rotate_left; ((try simp); (try omega))))))) (by have := HS.out; unfold maxLen; simp; omega) (by have := HS.out; simp; omega) (Nat.le_refl _) (by simp [ownB]) ?_)
  intro v1 w1 ho hg hat
  replace ho : Own cIns 35 _ w1 v1 xs [] := ho
  have hb : Below _ _ w1 := (Below.refl _ _).grown hg (Nat.le_refl _) (by simp [ownB])
  have hb1 : Below w.heap.size w w1 := bel_then (by repeat (first | with_reducible exact Below.refl _ _ | with_reducible assumption | with_reducible refine bel_alloc ?_ _ | with_reducible refine bel_drew ?_ | with_reducible refine bel_drewN ?_ _ | (with_reducible refine bel_set ?_ ?_ _; rotate_left; ((try simp); (try omega))))) hb
  obtain ⟨G, k2, f2, g2⟩ := ho.fresh (hw := by decide) (hw2 := by decide)
  go_wp2_with fail
  go_ret
  exact ⟨_, G, rfl, hb1, k2, f2.mono (by simp)⟩

set_option maxRecDepth 100000 in
set_option maxHeartbeats 8000000 in
theorem implCopyMachine_any (vs : Array Value) (x : TMach) (F : List Nat) (w : World) (h : cMach.rep w vs.toList x F) (hn : cMach.sz x ≤ 1048576) :
    Calls Try.prog 63 #[.agg vs] w (GivesR cMach w x) := by
  obtain ⟨i0, hi0, hz0, hz1, hz2⟩ := info_parts infoIns
  obtain ⟨r0, hj0, hy0, hy1, hy2⟩ := info_parts infoInt
  have HS := Lib.hid (TMach.lens hn)
  obtain ⟨u0, u2, E0, E2, rfl, -, hok, s0, s2⟩ := TMach.outA h
  obtain ⟨A0, c0, rfl⟩ := cL_form s0
  obtain ⟨A2, c2, rfl⟩ := cL_form s2
  clear h hn
  go_enter Try.func63, Try.ntmps63
  go_wp2_with (at_builtin; refine wpList_app (c := cIns) (xs := []) (ys := x.script) (Fi := []) (Fy := []) _ rfl _ _ _ rfl i0 _ _ Try.underlying24 hi0 hz0 hz1 hz2 rfl (by decide) (v := .slice (some _) 0 0) rfl (Own.empty _) (.slice A0 x.script.length c0) rfl (AppSrc.flat (hw := by decide) (hw2 := by decide) flat_Ins (Cod.bel s0 (by repeat (first | with_reducible exact Below.refl _ _ | with_reducible assumption | with_reducible refine bel_alloc ?_ _ | with_reducible refine bel_drew ?_ | with_reducible refine bel_drewN ?_ _ | (with_reducible refine bel_set ?_ ?_ _; rotate_left; ((try simp); (try omega))))))) (by have := HS.out.1; unfold maxLen; simp; omega) (by have := HS.out.1; simp; omega) (Nat.le_refl _) (by simp [ownB]) ?_)
  intro v1 w1 ho hg hat
  replace ho : Own cIns 35 _ w1 v1 x.script [] := ho
  obtain ⟨B1, d1, e1⟩ := ho.slice
  subst e1
  have hb1 : Below _ _ w1 := (Below.refl _ _).grown hg (Nat.le_refl _) (by simp [ownB])
  have hz_w1 := hb1.size
  (try simp at hz_w1)
  have ha0_w1 : w.heap.size < w1.heap.size := by omega
  have ha1_w1 : w.heap.size + 1 < w1.heap.size := by omega
  have ha2_w1 : w.heap.size + 1 + 1 < w1.heap.size := by omega
  obtain ⟨hc_w1, hf_w1, -⟩ := bcell hb1
  have hb_w1 : Below w.heap.size w w1 := bel_then (by repeat (first | with_reducible exact Below.refl _ _ | with_reducible assumption | with_reducible refine bel_alloc ?_ _ | with_reducible refine bel_drew ?_ | with_reducible refine bel_drewN ?_ _ | (with_reducible refine bel_set ?_ ?_ _; rotate_left; ((try simp); (try omega))))) hb1
  have k0 : w1.cell? ⟨w.heap.size, 0, none⟩ = some (.slice A0 x.script.length c0) := by go_simp
  have k1 : w1.cell? ⟨w.heap.size, 1, none⟩ = some (.int .i64 x.pc) := by go_simp
  have k2 : w1.cell? ⟨w.heap.size, 2, none⟩ = some (.slice A2 x.regs.length c2) := by go_simp
  have k3 : w1.cell? ⟨w.heap.size, 3, none⟩ = some (.int .i64 x.steps) := by go_simp
  have k4 : w1.cell? ⟨w.heap.size, 4, none⟩ = some (.bool x.done) := by go_simp
  have k5 : w1.cell? ⟨w.heap.size, 5, none⟩ = some (.bool x.wait) := by go_simp
  have j0 : w1.cell? ⟨w.heap.size + 1, 0, none⟩ = some (.slice none 0 0) := by go_simp
  have j1 : w1.cell? ⟨w.heap.size + 1, 1, none⟩ = some (.int .i64 0) := by go_simp
  have j2 : w1.cell? ⟨w.heap.size + 1, 2, none⟩ = some (.slice none 0 0) := by go_simp
  have j3 : w1.cell? ⟨w.heap.size + 1, 3, none⟩ = some (.int .i64 0) := by go_simp
  have j4 : w1.cell? ⟨w.heap.size + 1, 4, none⟩ = some (.bool false) := by go_simp
  have j5 : w1.cell? ⟨w.heap.size + 1, 5, none⟩ = some (.bool false) := by go_simp
  have l0 : w1.cell? ⟨w.heap.size + 1 + 1, 0, none⟩ = some (.slice A0 x.script.length c0) := by go_simp
  have l1 : w1.cell? ⟨w.heap.size + 1 + 1, 1, none⟩ = some (.int .i64 x.pc) := by go_simp
  have l2 : w1.cell? ⟨w.heap.size + 1 + 1, 2, none⟩ = some (.slice A2 x.regs.length c2) := by go_simp
  have l3 : w1.cell? ⟨w.heap.size + 1 + 1, 3, none⟩ = some (.int .i64 x.steps) := by go_simp
  have l4 : w1.cell? ⟨w.heap.size + 1 + 1, 4, none⟩ = some (.bool x.done) := by go_simp
  have l5 : w1.cell? ⟨w.heap.size + 1 + 1, 5, none⟩ = some (.bool x.wait) := by go_simp
  have z0 : w1.frozen? ⟨w.heap.size + 1 + 1, 0, none⟩ = false := by go_simp
  have z2 : w1.frozen? ⟨w.heap.size + 1 + 1, 2, none⟩ = false := by go_simp
  obtain ⟨G, n0, f0, g0⟩ := ho.fresh (hw := by decide) (hw2 := by decide)
  have hl0 : ∀ b, b ∈ G → b < w1.heap.size := fun b hb => Cod.lt _ n0 b hb
  have f0' : Fresh (w.heap.size + 1 + 1 + 1) G := f0.mono (by simp)
  clear hb1 hg hat ho g0 f0
  go_wp2_with (at_builtin; refine wpList_app (c := cI) (xs := []) (ys := x.regs) (Fi := []) (Fy := []) _ rfl _ _ _ rfl r0 _ _ Try.underlying26 hj0 hy0 hy1 hy2 rfl (by decide) (v := .slice (some _) 0 0) rfl (Own.empty _) (.slice A2 x.regs.length c2) rfl (AppSrc.flat (hw := by decide) (hw2 := by decide) flat_I (Cod.bel s2 (by repeat (first | with_reducible exact Below.refl _ _ | with_reducible assumption | with_reducible refine bel_alloc ?_ _ | with_reducible refine bel_drew ?_ | with_reducible refine bel_drewN ?_ _ | (with_reducible refine bel_set ?_ ?_ _; rotate_left; ((try simp); (try omega))))))) (by have := HS.out.2; unfold maxLen; simp; omega) (by have := HS.out.2; simp; omega) (Nat.le_refl _) (by simp [ownB]) ?_)
  intro v2 w2 ho hg hat
  replace ho : Own cI 3 _ w2 v2 x.regs [] := ho
  obtain ⟨B2, d2, e2⟩ := ho.slice
  subst e2
  have hb2 : Below _ _ w2 := (Below.refl _ _).grown hg (Nat.le_refl _) (by simp [ownB])
  have hz_w2 := hb2.size
  (try simp at hz_w2)
  have ha0_w2 : w.heap.size < w2.heap.size := by omega
  have ha1_w2 : w.heap.size + 1 < w2.heap.size := by omega
  have ha2_w2 : w.heap.size + 1 + 1 < w2.heap.size := by omega
  obtain ⟨hc_w2, hf_w2, -⟩ := bcell hb2
  have hb_w2 : Below w.heap.size w w2 := bel_then (by repeat (first | with_reducible exact Below.refl _ _ | with_reducible assumption | with_reducible refine bel_alloc ?_ _ | with_reducible refine bel_drew ?_ | with_reducible refine bel_drewN ?_ _ | (with_reducible refine bel_set ?_ ?_ _; rotate_left; ((try simp); (try omega))))) hb2
  have p0 : w2.cell? ⟨w.heap.size + 1, 0, none⟩ = some (.slice none 0 0) := by go_simp
  have p1 : w2.cell? ⟨w.heap.size + 1, 1, none⟩ = some (.int .i64 0) := by go_simp
  have p2 : w2.cell? ⟨w.heap.size + 1, 2, none⟩ = some (.slice none 0 0) := by go_simp
  have p3 : w2.cell? ⟨w.heap.size + 1, 3, none⟩ = some (.int .i64 0) := by go_simp
  have p4 : w2.cell? ⟨w.heap.size + 1, 4, none⟩ = some (.bool false) := by go_simp
  have p5 : w2.cell? ⟨w.heap.size + 1, 5, none⟩ = some (.bool false) := by go_simp
  have q0 : w2.cell? ⟨w.heap.size + 1 + 1, 0, none⟩ = some (.slice B1 x.script.length d1) := by go_simp
  have q1 : w2.cell? ⟨w.heap.size + 1 + 1, 1, none⟩ = some (.int .i64 x.pc) := by go_simp
  have q2 : w2.cell? ⟨w.heap.size + 1 + 1, 2, none⟩ = some (.slice A2 x.regs.length c2) := by go_simp
  have q3 : w2.cell? ⟨w.heap.size + 1 + 1, 3, none⟩ = some (.int .i64 x.steps) := by go_simp
  have q4 : w2.cell? ⟨w.heap.size + 1 + 1, 4, none⟩ = some (.bool x.done) := by go_simp
  have q5 : w2.cell? ⟨w.heap.size + 1 + 1, 5, none⟩ = some (.bool x.wait) := by go_simp
  have hk2 : Keep (w.heap.size + 1 + 1 + 1) w1 w2 := Keep.bel (by repeat (first | with_reducible exact Keep.refl _ _ | with_reducible assumption | with_reducible refine Keep.alloc ?_ _ | with_reducible refine Keep.drew ?_ | with_reducible refine Keep.drewN ?_ _ | (with_reducible refine Keep.set_ ?_ ?_ _; rotate_left; ((try simp); (try omega))))) hb2
  obtain ⟨G2, n2, f2, g2⟩ := ho.fresh (hw := by decide) (hw2 := by decide)
  have f2' : Fresh w1.heap.size G2 := f2.mono (by simp)
  clear hb2 hg hat ho g2 f2
  go_wp2_with fail
  refine bodyPost_ret (v := .agg #[.slice B1 x.script.length d1, .int .i64 x.pc, .slice B2 x.regs.length d2, .int .i64 x.steps, .bool x.done, .bool x.wait]) (by simp [results, Try.results63, go_sem, *]) rfl ?_
  exact ⟨_, G ++ G2, rfl, (by repeat (first | with_reducible exact Below.refl _ _ | with_reducible assumption | with_reducible refine bel_alloc ?_ _ | with_reducible refine bel_drew ?_ | with_reducible refine bel_drewN ?_ _ | (with_reducible refine bel_set ?_ ?_ _; rotate_left; ((try simp); (try omega))))), TMach.mk_ hok (Cod.keep2 n0 f0' (by repeat (first | with_reducible exact Keep.refl _ _ | with_reducible assumption | with_reducible refine Keep.alloc ?_ _ | with_reducible refine Keep.drew ?_ | with_reducible refine Keep.drewN ?_ _ | (with_reducible refine Keep.set_ ?_ ?_ _; rotate_left; ((try simp); (try omega)))))) (Cod.keep2 n2 f2' (by repeat (first | with_reducible exact Keep.refl _ _ | with_reducible assumption | with_reducible refine Keep.alloc ?_ _ | with_reducible refine Keep.drew ?_ | with_reducible refine Keep.drewN ?_ _ | (with_reducible refine Keep.set_ ?_ ?_ _; rotate_left; ((try simp); (try omega)))))), Fresh.two (f0'.mono (by omega)) hl0 f2' (by omega)⟩
set_option maxRecDepth 100000 in
set_option maxHeartbeats 8000000 in
theorem specCopyMachine_any (vs : Array Value) (x : TMach) (F : List Nat) (w : World) (h : cMach.rep w vs.toList x F) (hn : cMach.sz x ≤ 1048576) :
    Calls Try.prog 125 #[.agg vs] w (GivesR cMach w x) := by
  obtain ⟨i0, hi0, hz0, hz1, hz2⟩ := info_parts infoIns
  obtain ⟨r0, hj0, hy0, hy1, hy2⟩ := info_parts infoInt
  have HS := Lib.hid (TMach.lens hn)
  obtain ⟨u0, u2, E0, E2, rfl, -, hok, s0, s2⟩ := TMach.outA h
  obtain ⟨A0, c0, rfl⟩ := cL_form s0
  obtain ⟨A2, c2, rfl⟩ := cL_form s2
  clear h hn
  go_enter Try.func125, Try.ntmps125
  go_wp2_with fail
  refine (specScriptCopy_any _ x.script _ _ (by exact Cod.bel s0 (by repeat (first | with_reducible exact Below.refl _ _ | with_reducible assumption | with_reducible refine bel_alloc ?_ _ | with_reducible refine bel_drew ?_ | with_reducible refine bel_drewN ?_ _ | (with_reducible refine bel_set ?_ ?_ _; rotate_left; ((try simp); (try omega)))))) HS.out.1).mono ?_
  rintro e w1 ⟨v1, G, rfl, hb1, n0, f0⟩
  obtain ⟨B1, d1, e1⟩ := cL_form n0
  subst e1
  have hz_w1 := hb1.size
  (try simp at hz_w1)
  have ha0_w1 : w.heap.size < w1.heap.size := by omega
  have ha1_w1 : w.heap.size + 1 < w1.heap.size := by omega
  have ha2_w1 : w.heap.size + 1 + 1 < w1.heap.size := by omega
  obtain ⟨hc_w1, hf_w1, -⟩ := bcell hb1
  have hb_w1 : Below w.heap.size w w1 := bel_then (by repeat (first | with_reducible exact Below.refl _ _ | with_reducible assumption | with_reducible refine bel_alloc ?_ _ | with_reducible refine bel_drew ?_ | with_reducible refine bel_drewN ?_ _ | (with_reducible refine bel_set ?_ ?_ _; rotate_left; ((try simp); (try omega))))) hb1
  have k0 : w1.cell? ⟨w.heap.size, 0, none⟩ = some (.slice A0 x.script.length c0) := by go_simp
  have k1 : w1.cell? ⟨w.heap.size, 1, none⟩ = some (.int .i64 x.pc) := by go_simp
  have k2 : w1.cell? ⟨w.heap.size, 2, none⟩ = some (.slice A2 x.regs.length c2) := by go_simp
  have k3 : w1.cell? ⟨w.heap.size, 3, none⟩ = some (.int .i64 x.steps) := by go_simp
  have k4 : w1.cell? ⟨w.heap.size, 4, none⟩ = some (.bool x.done) := by go_simp
  have k5 : w1.cell? ⟨w.heap.size, 5, none⟩ = some (.bool x.wait) := by go_simp
  have j0 : w1.cell? ⟨w.heap.size + 1, 0, none⟩ = some (.slice none 0 0) := by go_simp
  have j1 : w1.cell? ⟨w.heap.size + 1, 1, none⟩ = some (.int .i64 0) := by go_simp
  have j2 : w1.cell? ⟨w.heap.size + 1, 2, none⟩ = some (.slice none 0 0) := by go_simp
  have j3 : w1.cell? ⟨w.heap.size + 1, 3, none⟩ = some (.int .i64 0) := by go_simp
  have j4 : w1.cell? ⟨w.heap.size + 1, 4, none⟩ = some (.bool false) := by go_simp
  have j5 : w1.cell? ⟨w.heap.size + 1, 5, none⟩ = some (.bool false) := by go_simp
  have l0 : w1.cell? ⟨w.heap.size + 1 + 1, 0, none⟩ = some (.slice A0 x.script.length c0) := by go_simp
  have l1 : w1.cell? ⟨w.heap.size + 1 + 1, 1, none⟩ = some (.int .i64 x.pc) := by go_simp
  have l2 : w1.cell? ⟨w.heap.size + 1 + 1, 2, none⟩ = some (.slice A2 x.regs.length c2) := by go_simp
  have l3 : w1.cell? ⟨w.heap.size + 1 + 1, 3, none⟩ = some (.int .i64 x.steps) := by go_simp
  have l4 : w1.cell? ⟨w.heap.size + 1 + 1, 4, none⟩ = some (.bool x.done) := by go_simp
  have l5 : w1.cell? ⟨w.heap.size + 1 + 1, 5, none⟩ = some (.bool x.wait) := by go_simp
  have z0 : w1.frozen? ⟨w.heap.size + 1 + 1, 0, none⟩ = false := by go_simp
  have z2 : w1.frozen? ⟨w.heap.size + 1 + 1, 2, none⟩ = false := by go_simp
  have hl0 : ∀ b, b ∈ G → b < w1.heap.size := fun b hb => Cod.lt _ n0 b hb
  have f0' : Fresh (w.heap.size + 1 + 1 + 1) G := f0.mono (by simp)
  clear hb1 f0
  go_wp2_with (at_builtin; refine wpList_app (c := cI) (xs := []) (ys := x.regs) (Fi := []) (Fy := []) _ rfl _ _ _ rfl r0 _ _ Try.underlying26 hj0 hy0 hy1 hy2 rfl (by decide) (v := .slice (some _) 0 0) rfl (Own.empty _) (.slice A2 x.regs.length c2) rfl (AppSrc.flat (hw := by decide) (hw2 := by decide) flat_I (Cod.bel s2 (by repeat (first | with_reducible exact Below.refl _ _ | with_reducible assumption | with_reducible refine bel_alloc ?_ _ | with_reducible refine bel_drew ?_ | with_reducible refine bel_drewN ?_ _ | (with_reducible refine bel_set ?_ ?_ _; rotate_left; ((try simp); (try omega))))))) (by have := HS.out.2; unfold maxLen; simp; omega) (by have := HS.out.2; simp; omega) (Nat.le_refl _) (by simp [ownB]) ?_)
  intro v2 w2 ho hg hat
  replace ho : Own cI 3 _ w2 v2 x.regs [] := ho
  obtain ⟨B2, d2, e2⟩ := ho.slice
  subst e2
  have hb2 : Below _ _ w2 := (Below.refl _ _).grown hg (Nat.le_refl _) (by simp [ownB])
  have hz_w2 := hb2.size
  (try simp at hz_w2)
  have ha0_w2 : w.heap.size < w2.heap.size := by omega
  have ha1_w2 : w.heap.size + 1 < w2.heap.size := by omega
  have ha2_w2 : w.heap.size + 1 + 1 < w2.heap.size := by omega
  obtain ⟨hc_w2, hf_w2, -⟩ := bcell hb2
  have hb_w2 : Below w.heap.size w w2 := bel_then (by repeat (first | with_reducible exact Below.refl _ _ | with_reducible assumption | with_reducible refine bel_alloc ?_ _ | with_reducible refine bel_drew ?_ | with_reducible refine bel_drewN ?_ _ | (with_reducible refine bel_set ?_ ?_ _; rotate_left; ((try simp); (try omega))))) hb2
  have p0 : w2.cell? ⟨w.heap.size + 1, 0, none⟩ = some (.slice none 0 0) := by go_simp
  have p1 : w2.cell? ⟨w.heap.size + 1, 1, none⟩ = some (.int .i64 0) := by go_simp
  have p2 : w2.cell? ⟨w.heap.size + 1, 2, none⟩ = some (.slice none 0 0) := by go_simp
  have p3 : w2.cell? ⟨w.heap.size + 1, 3, none⟩ = some (.int .i64 0) := by go_simp
  have p4 : w2.cell? ⟨w.heap.size + 1, 4, none⟩ = some (.bool false) := by go_simp
  have p5 : w2.cell? ⟨w.heap.size + 1, 5, none⟩ = some (.bool false) := by go_simp
  have q0 : w2.cell? ⟨w.heap.size + 1 + 1, 0, none⟩ = some (.slice B1 x.script.length d1) := by go_simp
  have q1 : w2.cell? ⟨w.heap.size + 1 + 1, 1, none⟩ = some (.int .i64 x.pc) := by go_simp
  have q2 : w2.cell? ⟨w.heap.size + 1 + 1, 2, none⟩ = some (.slice A2 x.regs.length c2) := by go_simp
  have q3 : w2.cell? ⟨w.heap.size + 1 + 1, 3, none⟩ = some (.int .i64 x.steps) := by go_simp
  have q4 : w2.cell? ⟨w.heap.size + 1 + 1, 4, none⟩ = some (.bool x.done) := by go_simp
  have q5 : w2.cell? ⟨w.heap.size + 1 + 1, 5, none⟩ = some (.bool x.wait) := by go_simp
  have hk2 : Keep (w.heap.size + 1 + 1 + 1) w1 w2 := Keep.bel (by repeat (first | with_reducible exact Keep.refl _ _ | with_reducible assumption | with_reducible refine Keep.alloc ?_ _ | with_reducible refine Keep.drew ?_ | with_reducible refine Keep.drewN ?_ _ | (with_reducible refine Keep.set_ ?_ ?_ _; rotate_left; ((try simp); (try omega))))) hb2
  obtain ⟨G2, n2, f2, g2⟩ := ho.fresh (hw := by decide) (hw2 := by decide)
  have f2' : Fresh w1.heap.size G2 := f2.mono (by simp)
  clear hb2 hg hat ho g2 f2
  go_wp2_with fail
  refine bodyPost_ret (v := .agg #[.slice B1 x.script.length d1, .int .i64 x.pc, .slice B2 x.regs.length d2, .int .i64 x.steps, .bool x.done, .bool x.wait]) (by simp [results, Try.results125, go_sem, *]) rfl ?_
  exact ⟨_, G ++ G2, rfl, (by repeat (first | with_reducible exact Below.refl _ _ | with_reducible assumption | with_reducible refine bel_alloc ?_ _ | with_reducible refine bel_drew ?_ | with_reducible refine bel_drewN ?_ _ | (with_reducible refine bel_set ?_ ?_ _; rotate_left; ((try simp); (try omega))))), TMach.mk_ hok (Cod.keep2 n0 f0' (by repeat (first | with_reducible exact Keep.refl _ _ | with_reducible assumption | with_reducible refine Keep.alloc ?_ _ | with_reducible refine Keep.drew ?_ | with_reducible refine Keep.drewN ?_ _ | (with_reducible refine Keep.set_ ?_ ?_ _; rotate_left; ((try simp); (try omega)))))) (Cod.keep2 n2 f2' (by repeat (first | with_reducible exact Keep.refl _ _ | with_reducible assumption | with_reducible refine Keep.alloc ?_ _ | with_reducible refine Keep.drew ?_ | with_reducible refine Keep.drewN ?_ _ | (with_reducible refine Keep.set_ ?_ ?_ _; rotate_left; ((try simp); (try omega)))))), Fresh.two (f0'.mono (by omega)) hl0 f2' (by omega)⟩
end Go.Proofs.Ytlicnppfgfjkgaa
namespace Go.Proofs.Ytlicnppfgfjkgaa
open Go.ChangeShapes Go.WideShapes Go.RowKit
set_option linter.unusedVariables false

def cUS : Cod (List UInt8) := cL cU (by decide) (by decide)
theorem opens_US : Opens Try.prog 22 cUS := opens_slice Try.underlying22 (opens_u8 Try.underlying5 (by kernel_rfl)) (by kernel_rfl)

end Go.Proofs.Ytlicnppfgfjkgaa
namespace Go.Proofs.Ytlicnppfgfjkgaa
open Go.ChangeShapes Go.WideShapes Go.RowKit
set_option linter.unusedVariables false

def cStS : Cod (List ByteArray) := cL cS (by decide) (by decide)
theorem opens_StS : Opens Try.prog 57 cStS := opens_slice Try.underlying57 (opens_string Try.underlying9 (by kernel_rfl)) (by kernel_rfl)

end Go.Proofs.Ytlicnppfgfjkgaa
namespace Go.Proofs.Ytlicnppfgfjkgaa
open Go.ChangeShapes Go.WideShapes Go.RowKit
set_option linter.unusedVariables false

structure TSite where
  name : ByteArray
  ver : Int
  files : List ByteArray
  shared : Bool

def cSite : Cod TSite := cM (cP cS (cP cI (cP cStS cB))) (fun x => (x.name, x.ver, x.files, x.shared)) (fun a => ⟨a.1, a.2.1, a.2.2.1, a.2.2.2⟩) (fun _ => rfl)

structure TSite.Ok (x : TSite) : Prop where
  h0 : x.name.size ≤ maxLen
  h1 : -9223372036854775808 ≤ x.ver ∧ x.ver ≤ 9223372036854775807

theorem TSite.out {w : World} {vs : List Value} {x : TSite} {F : List Nat} (h : cSite.rep w vs x F) :
    ∃ v2 F2, vs = [Value.string x.name, .int .i64 x.ver, v2, .bool x.shared] ∧ F = F2 ∧ x.Ok ∧ cStS.rep w [v2] x.files F2 := by

  obtain ⟨a0, b0, G0, H0, rfl, rfl, ⟨rfl, rfl, h0⟩, a1, b1, G1, H1, rfl, rfl, ⟨rfl, rfl, h1⟩, a2, b2, G2, H2, rfl, rfl, h2, rfl, rfl⟩ := h
  obtain ⟨A2, cp2, rfl, k2⟩ := h2
  exact ⟨_, G2, rfl, by simp, ⟨h0, h1⟩, ⟨A2, cp2, rfl, k2⟩⟩

theorem TSite.mk_ {w : World} {x : TSite} {v2 : Value} {F2 : List Nat} (h : x.Ok) (k2 : cStS.rep w [v2] x.files F2) : cSite.rep w [Value.string x.name, .int .i64 x.ver, v2, .bool x.shared] x (F2) := by

  exact ⟨[_], _, [], F2, rfl, by simp, ⟨rfl, rfl, h.h0⟩, ⟨[_], _, [], F2, rfl, by simp, ⟨rfl, rfl, h.h1⟩, ⟨[_], _, F2, [], rfl, by simp, k2, ⟨rfl, rfl⟩⟩⟩⟩

theorem opens_lSite : Opens Try.prog 93 cSite := opens_map (opens_struct Try.underlying93 (by kernel_rfl) (opensFs_cons rfl (opens_string Try.underlying9 (by kernel_rfl)) (opensFs_cons rfl (opens_int Try.underlying3 (by kernel_rfl)) (opensFs_cons rfl opens_StS (opensFs_one rfl (opens_bool Try.underlying4 (by kernel_rfl)))))))

theorem TSite.outA {w : World} {vs : Array Value} {x : TSite} {F : List Nat} (h : cSite.rep w vs.toList x F) :
    ∃ v2 F2, vs = #[Value.string x.name, .int .i64 x.ver, v2, .bool x.shared] ∧ F = F2 ∧ x.Ok ∧ cStS.rep w [v2] x.files F2 := by
  obtain ⟨a0, a1, e, f, r⟩ := TSite.out h
  exact ⟨a0, a1, Array.toList_inj.1 e, f, r⟩

end Go.Proofs.Ytlicnppfgfjkgaa
namespace Go.Proofs.Ytlicnppfgfjkgaa
open Go.ChangeShapes Go.WideShapes Go.RowKit
set_option linter.unusedVariables false

def idxStr (xs : List ByteArray) (v : ByteArray) : Int := idxP (fun y => strEq v y) xs
def hasStr (xs : List ByteArray) (v : ByteArray) : Bool := xs.any fun y => strEq v y

set_option maxHeartbeats 4000000 in
theorem indexStr_any (A : Value) (xs : List ByteArray) (v : ByteArray) (F : List Nat) (w : World) (h : cStS.rep w [A] xs F) :
    Calls Try.prog 161 #[A, .string v] w fun e w' => e = .returned (.int .i64 (idxStr xs v)) ∧ w = w' := by
  obtain ⟨A, cp, rfl⟩ := cL_form h
  obtain ⟨-, hcp, hm⟩ := cL_len h
  obtain ⟨n, hxn⟩ : ∃ n, xs.length = n := ⟨_, rfl⟩
  have HN := Lib.hid hxn
  rw [hxn] at hcp ⊢
  clear hxn
  unfold maxLen at hm
  go_enter Try.func161, Try.ntmps161
  go_wp2
  go_loop [8] (fun i => ∃ k : Nat, k ≤ n ∧ i = .int .i64 k ∧ noneTo (fun y => strEq v y) xs k = true) (fun i => n - (intOf i).toNat)
  case atStart => exact ⟨0, Nat.zero_le _, rfl, noneTo_zero _ _⟩
  case round =>
    obtain ⟨k, hk, rfl, hno⟩ := hrel
    have HO := Lib.hid hno
    clear hno
    by_cases hlt : k < n
    · have hkx : k < xs.length := by rw [HN.out]; exact hlt
      obtain ⟨g, o, vs, F1, rfl, hgF, hx, -, hc⟩ := cL_get (hw := by decide) (hw2 := by decide) h hkx
      obtain ⟨rfl, -, hk1⟩ := hx
      have q0 : w.cell? ⟨g, o + k, none⟩ = some _ := (by have h1 := (hc 0 _ rfl).1; rwa [show (cS).wd = 1 from rfl, Nat.mul_one, Nat.add_zero] at h1)
      clear hc
      by_cases he : (v.toList == xs[k].toList) = true
      · go_wp2
        go_ret
        exact ⟨ret_int (idxP_hit (fun y => strEq v y) xs k hkx HO.out he).symm, rfl⟩
      · rw [Bool.not_eq_true] at he
        go_wp2
        go_round
        case rel => exact ⟨k + 1, by omega, by go_num, noneTo_succ _ xs k hkx HO.out he⟩
        case measure => simp [intOf]; omega
    · obtain rfl : k = n := by omega
      go_wp2
      go_ret
      exact ⟨ret_int (idxP_miss _ xs (by rw [HN.out]; exact HO.out)).symm, rfl⟩
theorem containsStr_any (A : Value) (xs : List ByteArray) (v : ByteArray) (F : List Nat) (w : World) (h : cStS.rep w [A] xs F) :
    Calls Try.prog 132 #[A, .string v] w fun e w' => e = .returned (.bool (hasStr xs v)) ∧ w = w' := by
  have HA := Lib.hid (idxP_any (fun y => strEq v y) xs)
  go_enter Try.func132, Try.ntmps132
  go_wp2_with fail
  refine (indexStr_any _ xs v _ _ h).mono ?_
  rintro e w1 ⟨rfl, rfl⟩
  go_wp2_with fail
  go_ret
  exact ⟨ret_bool HA.out.symm, rfl⟩
theorem implHasFile_any (vs : Array Value) (x : TSite) (F : List Nat) (path : ByteArray) (w : World) (h : cSite.rep w vs.toList x F) (hn : cSite.sz x ≤ 1048576) (hp : path.size ≤ 1048576) :
    Calls Try.prog 79 #[.agg vs, .string path] w (Gives w (.bool (hasStr x.files path))) := by
  obtain ⟨v2, F2, rfl, -, -, m2⟩ := TSite.outA h
  clear h
  obtain ⟨A2, c2, e2⟩ := cL_form m2
  subst e2
  go_enter Try.func79, Try.ntmps79
  go_wp2_with fail
  refine (containsStr_any _ x.files path _ _ (by exact Cod.bel m2 (by repeat (first | with_reducible exact Below.refl _ _ | with_reducible assumption | with_reducible refine bel_alloc ?_ _ | with_reducible refine bel_drew ?_ | with_reducible refine bel_drewN ?_ _ | (with_reducible refine bel_set ?_ ?_ _; rotate_left; ((try simp); (try omega))))))).mono ?_
  rintro e w1 ⟨rfl, rfl⟩
  go_wp2_with fail
  go_ret
  exact ⟨rfl, (by repeat (first | with_reducible exact Below.refl _ _ | with_reducible assumption | with_reducible refine bel_alloc ?_ _ | with_reducible refine bel_drew ?_ | with_reducible refine bel_drewN ?_ _ | (with_reducible refine bel_set ?_ ?_ _; rotate_left; ((try simp); (try omega)))))⟩
set_option maxHeartbeats 4000000 in
theorem specHasFile_any (vs : Array Value) (x : TSite) (F : List Nat) (path : ByteArray) (w : World) (h : cSite.rep w vs.toList x F) (hn : cSite.sz x ≤ 1048576) (hp : path.size ≤ 1048576) :
    Calls Try.prog 31 #[.agg vs, .string path] w (Gives w (.bool (hasStr x.files path))) := by
  obtain ⟨v2, F2, rfl, -, -, m2⟩ := TSite.outA h
  clear h
  obtain ⟨A, cp, e2⟩ := cL_form m2
  subst e2
  obtain ⟨-, hcp, hm⟩ := cL_len m2
  obtain ⟨n, hxn⟩ : ∃ n, x.files.length = n := ⟨_, rfl⟩
  have HN := Lib.hid hxn
  rw [hxn] at hcp ⊢
  clear hxn
  unfold maxLen at hm
  go_enter Try.func31, Try.ntmps31
  go_wp2
  go_loop [5] (fun i => ∃ k : Nat, k ≤ n ∧ i = .int .i64 k ∧ noneTo (fun y => strEq path y) x.files k = true) (fun i => n - (intOf i).toNat)
  case atStart => exact ⟨0, Nat.zero_le _, rfl, noneTo_zero _ _⟩
  case round =>
    obtain ⟨k, hk, rfl, hno⟩ := hrel
    have HO := Lib.hid hno
    clear hno
    by_cases hlt : k < n
    · have hkx : k < x.files.length := by rw [HN.out]; exact hlt
      obtain ⟨g, o, vs, F1, rfl, hgF, hx, -, hc⟩ := cL_get (hw := by decide) (hw2 := by decide) m2 hkx
      have hgw : g < w.heap.size := Cod.lt _ m2 g hgF
      obtain ⟨rfl, -, hk1⟩ := hx
      have q0 : w.cell? ⟨g, o + k, none⟩ = some _ := (by have h1 := (hc 0 _ rfl).1; rwa [show (cS).wd = 1 from rfl, Nat.mul_one, Nat.add_zero] at h1)
      have hne : ¬ g = w.heap.size := by omega
      clear hc
      by_cases he : (x.files[k].toList == path.toList) = true
      · go_wp2
        go_ret
        exact ⟨ret_bool (any_hit (fun y => strEq path y) x.files k hkx (by rw [strEq_comm]; exact he)).symm, (by repeat (first | with_reducible exact Below.refl _ _ | with_reducible assumption | with_reducible refine bel_alloc ?_ _ | with_reducible refine bel_drew ?_ | with_reducible refine bel_drewN ?_ _ | (with_reducible refine bel_set ?_ ?_ _; rotate_left; ((try simp); (try omega)))))⟩
      · rw [Bool.not_eq_true] at he
        go_wp2
        go_round
        case rel => exact ⟨k + 1, by omega, by go_num, noneTo_succ _ x.files k hkx HO.out (by rw [strEq_comm]; exact he)⟩
        case measure => simp [intOf]; omega
    · obtain rfl : k = n := by omega
      go_wp2
      go_ret
      exact ⟨ret_bool (any_miss _ x.files (by rw [HN.out]; exact HO.out)).symm, (by repeat (first | with_reducible exact Below.refl _ _ | with_reducible assumption | with_reducible refine bel_alloc ?_ _ | with_reducible refine bel_drew ?_ | with_reducible refine bel_drewN ?_ _ | (with_reducible refine bel_set ?_ ?_ _; rotate_left; ((try simp); (try omega)))))⟩
end Go.Proofs.Ytlicnppfgfjkgaa
namespace Go.Proofs.Ytlicnppfgfjkgaa

def allTo (p : Nat → Bool) (k : Nat) : Bool := (List.range k).all p
theorem allTo_zero (p : Nat → Bool) : allTo p 0 = true := rfl
theorem allTo_succ (p : Nat → Bool) (k : Nat) : allTo p (k + 1) = (allTo p k && p k) := by simp [allTo, List.range_succ]
theorem allTo_bad {p : Nat → Bool} {k n : Nat} (h : k < n) (hp : p k = false) : allTo p n = false := by
  cases hn : allTo p n with
  | false => rfl
  | true =>
    unfold allTo at hn
    rw [List.all_eq_true] at hn
    have := hn k (by simpa using h)
    rw [hp] at this; cases this
theorem allTo_get {p : Nat → Bool} {k n : Nat} (h : allTo p n = true) (hk : k < n) : p k = true := by
  unfold allTo at h
  rw [List.all_eq_true] at h
  exact h k (by simpa using hk)
theorem allTo_congr {p q : Nat → Bool} {n : Nat} (h : ∀ k, k < n → p k = q k) : allTo p n = allTo q n := by
  unfold allTo
  rw [Bool.eq_iff_iff, List.all_eq_true, List.all_eq_true]
  constructor
  · intro a x hx; rw [← h x (by simpa using hx)]; exact a x hx
  · intro a x hx; rw [h x (by simpa using hx)]; exact a x hx
theorem allTo_intro {p : Nat → Bool} {n : Nat} (h : ∀ k, k < n → p k = true) : allTo p n = true := by
  unfold allTo
  rw [List.all_eq_true]
  intro x hx; exact h x (by simpa using hx)

/-- texts in the order of their bytes -/
def strLess (a b : ByteArray) : Bool := Op.bytesLess a.toList b.toList
theorem bytesLess_turn : ∀ x y : List UInt8, (Op.bytesLess x y || x == y) = !Op.bytesLess y x
  | [], [] => by simp [Op.bytesLess]
  | [], y :: ys => by simp [Op.bytesLess]
  | x :: xs, [] => by simp [Op.bytesLess]
  | x :: xs, y :: ys => by
    have ih := bytesLess_turn xs ys
    simp only [Op.bytesLess]
    rcases Nat.lt_trichotomy x.toNat y.toNat with h | h | h
    · have h1 : x < y := UInt8.lt_iff_toNat_lt.2 h
      have h2 : ¬ y < x := fun e => by have := UInt8.lt_iff_toNat_lt.1 e; omega
      have h3 : (y == x) = false := by simp; intro e; subst e; omega
      simp [h1, h2, h3]
    · obtain rfl : x = y := UInt8.toNat_inj.1 h
      have h1 : ¬ x < x := fun e => by have := UInt8.lt_iff_toNat_lt.1 e; omega
      simp [h1, ih]
    · have h1 : y < x := UInt8.lt_iff_toNat_lt.2 h
      have h2 : ¬ x < y := fun e => by have := UInt8.lt_iff_toNat_lt.1 e; omega
      have h3 : (x == y) = false := by simp; intro e; subst e; omega
      simp [h1, h2, h3]
theorem strLess_turn (a b : ByteArray) : (Op.bytesLess a.toList b.toList || a.toList == b.toList) = !strLess b a := bytesLess_turn _ _
end Go.Proofs.Ytlicnppfgfjkgaa
namespace Go.Proofs.Ytlicnppfgfjkgaa
open Go.ChangeShapes Go.WideShapes Go.RowKit
set_option linter.unusedVariables false

def siteAt (fs : List ByteArray) (i : Nat) : Bool :=
  match fs[i]? with
  | some f => isName f && (i == 0 || match fs[i - 1]? with | some g => strLess g f | none => false)
  | none => false
theorem siteAt_zero {fs : List ByteArray} (h : 0 < fs.length) : siteAt fs 0 = isName fs[0] := by
  unfold siteAt; rw [List.getElem?_eq_getElem h]; simp
theorem siteAt_succ {fs : List ByteArray} {k : Nat} (h : k < fs.length) (h0 : 0 < k) (h1 : k - 1 < fs.length) : siteAt fs k = (isName fs[k] && strLess fs[k - 1] fs[k]) := by
  unfold siteAt
  rw [List.getElem?_eq_getElem h, List.getElem?_eq_getElem h1]
  have : (k == 0) = false := by simp; omega
  simp [this]
theorem siteAt_name {fs : List ByteArray} {k : Nat} (h : k < fs.length) (hn : isName fs[k] = false) : siteAt fs k = false := by
  unfold siteAt
  rw [List.getElem?_eq_getElem h]; simp [hn]
def isSite (x : TSite) : Bool := allTo (siteAt x.files) x.files.length && isName x.name && inR x.ver 1 1000000000000 && inR x.files.length 1 6

set_option maxRecDepth 100000 in
set_option maxHeartbeats 4000000 in
theorem implIsSite_any (vs : Array Value) (x : TSite) (F : List Nat) (w : World) (h : cSite.rep w vs.toList x F) (hn : cSite.sz x ≤ 1048576) :
    Calls Try.prog 77 #[.agg vs] w (Gives w (.bool (isSite x))) := by
  obtain ⟨v2, F2, rfl, -, hok, m2⟩ := TSite.outA h
  clear h
  obtain ⟨A, cp, e2⟩ := cL_form m2
  subst e2
  obtain ⟨-, hcp, hm⟩ := cL_len m2
  have HE := Lib.hid (show isSite x = (allTo (siteAt x.files) x.files.length && isName x.name && inR x.ver 1 1000000000000 && inR x.files.length 1 6) from rfl)
  obtain ⟨n, hxn⟩ : ∃ n, x.files.length = n := ⟨_, rfl⟩
  have HN := Lib.hid hxn
  rw [hxn] at hcp ⊢
  clear hxn
  unfold maxLen at hm
  obtain ⟨hs0, hv0⟩ := hok
  go_enter Try.func77, Try.ntmps77
  go_wp2
  generalize hW : World.alloc _ _ = W
  have hWs : W.heap.size = w.heap.size + 1 := by rw [← hW]; clear hW; simp
  have hbW : Below w.heap.size w W := by rw [← hW]; exact (by repeat (first | with_reducible exact Below.refl _ _ | with_reducible assumption | with_reducible refine bel_alloc ?_ _ | with_reducible refine bel_drew ?_ | with_reducible refine bel_drewN ?_ _ | (with_reducible refine bel_set ?_ ?_ _; rotate_left; ((try simp); (try omega)))))
  have HK := Lib.hid (show W.cell? ⟨w.heap.size, 0, none⟩ = some (.string x.name) ∧ W.cell? ⟨w.heap.size, 1, none⟩ = some (.int .i64 x.ver) ∧ W.cell? ⟨w.heap.size, 2, none⟩ = some (.slice A n cp) ∧ W.cell? ⟨w.heap.size, 3, none⟩ = some (.bool x.shared) from by refine ⟨?_, ?_, ?_, ?_⟩ <;> (rw [← hW]; clear hW; go_simp))
  clear hW
  go_loopw [8] (fun i wr => ∃ k : Nat, k ≤ n ∧ i = .int .i64 k ∧ allTo (siteAt x.files) k = true ∧ Below W.heap.size W wr) (fun i _ => n - (intOf i).toNat)
  case atStart => exact ⟨0, Nat.zero_le _, rfl, allTo_zero _, Below.refl _ _⟩
  case round =>
    obtain ⟨k, hk, rfl, hno, hB⟩ := hrel
    have HO := Lib.hid hno
    clear hno
    have hws_wr : w.heap.size < wr.heap.size := by have := hB.size; omega
    have hbw : Below w.heap.size w wr := bel_then hbW hB
    have k0_wr : wr.cell? ⟨w.heap.size, 0, none⟩ = some (.string x.name) := (hB.cell (p := ⟨w.heap.size, 0, none⟩) (by (try simp); (try omega))).trans HK.out.1
    have k1_wr : wr.cell? ⟨w.heap.size, 1, none⟩ = some (.int .i64 x.ver) := (hB.cell (p := ⟨w.heap.size, 1, none⟩) (by (try simp); (try omega))).trans HK.out.2.1
    have k2_wr : wr.cell? ⟨w.heap.size, 2, none⟩ = some (.slice A n cp) := (hB.cell (p := ⟨w.heap.size, 2, none⟩) (by (try simp); (try omega))).trans HK.out.2.2.1
    have k3_wr : wr.cell? ⟨w.heap.size, 3, none⟩ = some (.bool x.shared) := (hB.cell (p := ⟨w.heap.size, 3, none⟩) (by (try simp); (try omega))).trans HK.out.2.2.2
    by_cases hlt : k < n
    · have hkx : k < x.files.length := by rw [HN.out]; exact hlt
      obtain ⟨g, o, vs, F1, rfl, hgF, hx, -, hc⟩ := cL_get (hw := by decide) (hw2 := by decide) (Cod.bel m2 hbw) hkx
      obtain ⟨rfl, -, hk1⟩ := hx
      have q0 : wr.cell? ⟨g, o + k, none⟩ = some _ := (by have h1 := (hc 0 _ rfl).1; rwa [show (cS).wd = 1 from rfl, Nat.mul_one, Nat.add_zero] at h1)
      clear hc
      have hki : ((k : Int) < (n : Int)) := by omega
      cases hnm : isName x.files[k]
      · have HB := Lib.hid (show isSite x = false by rw [HE.out, allTo_bad hkx (siteAt_name hkx hnm)]; rfl)
        go_wp2_with (first | (go_at_call 74; refine (implName_any _ _ (by assumption)).mono ?_; rintro e w1 ⟨rfl, rfl⟩))
        go_ret
        exact ⟨ret_bool HB.out.symm, (by repeat (first | with_reducible exact Below.refl _ _ | with_reducible assumption | with_reducible refine bel_alloc ?_ _ | with_reducible refine bel_drew ?_ | with_reducible refine bel_drewN ?_ _ | (with_reducible refine bel_set ?_ ?_ _; rotate_left; ((try simp); (try omega)))))⟩
      · cases k with
        | zero =>
          have hz : siteAt x.files 0 = true := by rw [siteAt_zero hkx]; exact hnm
          have HZ := Lib.hid hz
          clear hz
          replace q0 : wr.cell? ⟨g, o, none⟩ = some (.string x.files[0]) := q0
          go_wp2_with (first | (go_at_call 74; refine (implName_any _ _ (by assumption)).mono ?_; rintro e w1 ⟨rfl, rfl⟩))
          go_roundw
          case rel => exact ⟨1, by omega, by go_num, by rw [allTo_succ, HZ.out]; rfl, hB⟩
          case measure => simp [intOf]; omega
        | succ j =>
          have hjx : j < x.files.length := by omega
          have HG := Lib.hid (siteAt_succ hkx (Nat.succ_pos j) (by simpa using hjx))
          obtain ⟨g', o', vs', F1', eA, -, hx', -, hc'⟩ := cL_get (hw := by decide) (hw2 := by decide) (Cod.bel m2 hbw) hjx
          injection eA with eA
          injection eA with e1 e2
          subst e1
          subst e2
          obtain ⟨rfl, -, hk1'⟩ := hx'
          have q1 : wr.cell? ⟨g, o + j, none⟩ = some _ := (by have h1 := (hc' 0 _ rfl).1; rwa [show (cS).wd = 1 from rfl, Nat.mul_one, Nat.add_zero] at h1)
          clear hc'
          have htr := strLess_turn x.files[j + 1] x.files[j]
          cases hl : strLess x.files[j] x.files[j + 1]
          · rw [hl, Bool.not_false] at htr
            have HB := Lib.hid (show isSite x = false by rw [HE.out, allTo_bad hkx (by rw [HG.out]; simp [hl])]; rfl)
            go_wp2_with (first | (go_at_call 74; refine (implName_any _ _ (by assumption)).mono ?_; rintro e w1 ⟨rfl, rfl⟩))
            go_ret
            exact ⟨ret_bool HB.out.symm, (by repeat (first | with_reducible exact Below.refl _ _ | with_reducible assumption | with_reducible refine bel_alloc ?_ _ | with_reducible refine bel_drew ?_ | with_reducible refine bel_drewN ?_ _ | (with_reducible refine bel_set ?_ ?_ _; rotate_left; ((try simp); (try omega)))))⟩
          · rw [hl, Bool.not_true] at htr
            have HZ := Lib.hid (show siteAt x.files (j + 1) = true by rw [HG.out]; simp [hl, hnm])
            go_wp2_with (first | (go_at_call 74; refine (implName_any _ _ (by assumption)).mono ?_; rintro e w1 ⟨rfl, rfl⟩))
            go_roundw
            case rel => exact ⟨j + 2, by omega, by go_num, by rw [allTo_succ, HZ.out, HO.out]; rfl, hB⟩
            case measure => simp [intOf]; omega
    · obtain rfl : k = n := by omega
      have HH := Lib.hid (show isSite x = (isName x.name && inR x.ver 1 1000000000000 && inR k 1 6) by rw [HE.out, HN.out, HO.out]; rfl)
      go_wp2_with (first | (go_at_call 74; refine (implName_any _ _ (by assumption)).mono ?_; rintro e w1 ⟨rfl, rfl⟩) | (go_at_call 66; refine (inRange_any _ _ _ _).mono ?_; rintro e w1 ⟨rfl, rfl⟩))
      all_goals go_ret
      all_goals exact ⟨ret_bool (by rw [HH.out]; simp [*]), (by repeat (first | with_reducible exact Below.refl _ _ | with_reducible assumption | with_reducible refine bel_alloc ?_ _ | with_reducible refine bel_drew ?_ | with_reducible refine bel_drewN ?_ _ | (with_reducible refine bel_set ?_ ?_ _; rotate_left; ((try simp); (try omega)))))⟩
set_option maxRecDepth 100000 in
set_option maxHeartbeats 4000000 in
theorem specIsSite_any (vs : Array Value) (x : TSite) (F : List Nat) (w : World) (h : cSite.rep w vs.toList x F) (hn : cSite.sz x ≤ 1048576) :
    Calls Try.prog 81 #[.agg vs] w (Gives w (.bool (isSite x))) := by
  obtain ⟨v2, F2, rfl, -, hok, m2⟩ := TSite.outA h
  clear h
  obtain ⟨A, cp, e2⟩ := cL_form m2
  subst e2
  obtain ⟨-, hcp, hm⟩ := cL_len m2
  have HE := Lib.hid (show isSite x = (allTo (siteAt x.files) x.files.length && isName x.name && inR x.ver 1 1000000000000 && inR x.files.length 1 6) from rfl)
  obtain ⟨n, hxn⟩ : ∃ n, x.files.length = n := ⟨_, rfl⟩
  have HN := Lib.hid hxn
  rw [hxn] at hcp ⊢
  clear hxn
  unfold maxLen at hm
  obtain ⟨hs0, hv0⟩ := hok
  go_enter Try.func81, Try.ntmps81
  go_wp2
  generalize hW : World.alloc _ _ = W
  have hWs : W.heap.size = w.heap.size + 1 := by rw [← hW]; clear hW; simp
  have hbW : Below w.heap.size w W := by rw [← hW]; exact (by repeat (first | with_reducible exact Below.refl _ _ | with_reducible assumption | with_reducible refine bel_alloc ?_ _ | with_reducible refine bel_drew ?_ | with_reducible refine bel_drewN ?_ _ | (with_reducible refine bel_set ?_ ?_ _; rotate_left; ((try simp); (try omega)))))
  have HK := Lib.hid (show W.cell? ⟨w.heap.size, 0, none⟩ = some (.string x.name) ∧ W.cell? ⟨w.heap.size, 1, none⟩ = some (.int .i64 x.ver) ∧ W.cell? ⟨w.heap.size, 2, none⟩ = some (.slice A n cp) ∧ W.cell? ⟨w.heap.size, 3, none⟩ = some (.bool x.shared) from by refine ⟨?_, ?_, ?_, ?_⟩ <;> (rw [← hW]; clear hW; go_simp))
  clear hW
  go_loopw [3] (fun i wr => ∃ k : Nat, k ≤ n ∧ i = .int .i64 k ∧ allTo (siteAt x.files) k = true ∧ Below W.heap.size W wr) (fun i _ => n - (intOf i).toNat)
  case atStart => exact ⟨0, Nat.zero_le _, rfl, allTo_zero _, Below.refl _ _⟩
  case round =>
    obtain ⟨k, hk, rfl, hno, hB⟩ := hrel
    have HO := Lib.hid hno
    clear hno
    have hws_wr : w.heap.size < wr.heap.size := by have := hB.size; omega
    have hbw : Below w.heap.size w wr := bel_then hbW hB
    have k0_wr : wr.cell? ⟨w.heap.size, 0, none⟩ = some (.string x.name) := (hB.cell (p := ⟨w.heap.size, 0, none⟩) (by (try simp); (try omega))).trans HK.out.1
    have k1_wr : wr.cell? ⟨w.heap.size, 1, none⟩ = some (.int .i64 x.ver) := (hB.cell (p := ⟨w.heap.size, 1, none⟩) (by (try simp); (try omega))).trans HK.out.2.1
    have k2_wr : wr.cell? ⟨w.heap.size, 2, none⟩ = some (.slice A n cp) := (hB.cell (p := ⟨w.heap.size, 2, none⟩) (by (try simp); (try omega))).trans HK.out.2.2.1
    have k3_wr : wr.cell? ⟨w.heap.size, 3, none⟩ = some (.bool x.shared) := (hB.cell (p := ⟨w.heap.size, 3, none⟩) (by (try simp); (try omega))).trans HK.out.2.2.2
    by_cases hlt : k < n
    · have hkx : k < x.files.length := by rw [HN.out]; exact hlt
      obtain ⟨g, o, vs, F1, rfl, hgF, hx, -, hc⟩ := cL_get (hw := by decide) (hw2 := by decide) (Cod.bel m2 hbw) hkx
      obtain ⟨rfl, -, hk1⟩ := hx
      have q0 : wr.cell? ⟨g, o + k, none⟩ = some _ := (by have h1 := (hc 0 _ rfl).1; rwa [show (cS).wd = 1 from rfl, Nat.mul_one, Nat.add_zero] at h1)
      clear hc
      have hki : ((k : Int) < (n : Int)) := by omega
      have hcn := fun W : World => specName_any x.files[k] W (by assumption)
      cases hnm : isName x.files[k]
      · rw [hnm] at hcn
        have HB := Lib.hid (show isSite x = false by rw [HE.out, allTo_bad hkx (siteAt_name hkx hnm)]; rfl)
        go_wp2_with fail
        go_quiet (first | (go_at_call 126; first | exact quiet_left (hcn _) | exact quiet_add_left (hcn _)))
        go_wp2_with fail
        go_ret
        exact ⟨ret_bool HB.out.symm, (by repeat (first | with_reducible exact Below.refl _ _ | with_reducible assumption | with_reducible refine bel_alloc ?_ _ | with_reducible refine bel_drew ?_ | with_reducible refine bel_drewN ?_ _ | (with_reducible refine bel_set ?_ ?_ _; rotate_left; ((try simp); (try omega)))))⟩
      · rw [hnm] at hcn
        cases k with
        | zero =>
          have hz : siteAt x.files 0 = true := by rw [siteAt_zero hkx]; exact hnm
          have HZ := Lib.hid hz
          clear hz
          replace q0 : wr.cell? ⟨g, o, none⟩ = some (.string x.files[0]) := q0
          replace hki : (0 : Int) < n := hki
          go_wp2_with fail
          go_quiet (first | (go_at_call 126; first | exact quiet_left (hcn _) | exact quiet_add_left (hcn _)))
          go_wp2_with fail
          go_roundw
          case rel => exact ⟨1, by omega, by go_num, by rw [allTo_succ, HZ.out]; rfl, bel_drewN hB _⟩
          case measure => simp [intOf]; omega
        | succ j =>
          have hjx : j < x.files.length := by omega
          have HG := Lib.hid (siteAt_succ hkx (Nat.succ_pos j) (by simpa using hjx))
          obtain ⟨g', o', vs', F1', eA, -, hx', -, hc'⟩ := cL_get (hw := by decide) (hw2 := by decide) (Cod.bel m2 hbw) hjx
          injection eA with eA
          injection eA with e1 e2
          subst e1
          subst e2
          obtain ⟨rfl, -, hk1'⟩ := hx'
          have q1 : wr.cell? ⟨g, o + j, none⟩ = some _ := (by have h1 := (hc' 0 _ rfl).1; rwa [show (cS).wd = 1 from rfl, Nat.mul_one, Nat.add_zero] at h1)
          clear hc'
          have hd1 : decide ((0 : Int) < (j : Int) + 1) = true := decide_eq_true (by omega)
          have hjn : ((j : Int) < (n : Int)) := by omega
          replace hki : ((j : Int) + 1 < (n : Int)) := by omega
          cases hl : Op.bytesLess x.files[j].toList x.files[j + 1].toList
          · have HB := Lib.hid (show isSite x = false by rw [HE.out, allTo_bad hkx (by rw [HG.out]; simp [strLess, hl])]; rfl)
            go_wp2_with fail
            go_quiet (first | (go_at_call 126; first | exact quiet_left (hcn _) | exact quiet_add_left (hcn _)))
            go_wp2_with fail
            go_ret
            exact ⟨ret_bool HB.out.symm, (by repeat (first | with_reducible exact Below.refl _ _ | with_reducible assumption | with_reducible refine bel_alloc ?_ _ | with_reducible refine bel_drew ?_ | with_reducible refine bel_drewN ?_ _ | (with_reducible refine bel_set ?_ ?_ _; rotate_left; ((try simp); (try omega)))))⟩
          · have HZ := Lib.hid (show siteAt x.files (j + 1) = true by rw [HG.out]; simp [strLess, hl, hnm])
            go_wp2_with fail
            go_quiet (first | (go_at_call 126; first | exact quiet_left (hcn _) | exact quiet_add_left (hcn _)))
            go_wp2_with fail
            go_roundw
            case rel => exact ⟨j + 2, by omega, by go_num, by rw [allTo_succ, HZ.out, HO.out]; rfl, bel_drewN hB _⟩
            case measure => simp [intOf]; omega
    · obtain rfl : k = n := by omega
      have HH := Lib.hid (show isSite x = (isName x.name && inR x.ver 1 1000000000000 && inR k 1 6) by rw [HE.out, HN.out, HO.out]; rfl)
      go_wp2_with (first | (go_at_call 126; refine (specName_any _ _ (by assumption)).mono ?_; rintro e w1 ⟨rfl, rfl⟩) | (go_at_call 83; refine (l1In_any _ _ _ _).mono ?_; rintro e w1 ⟨rfl, rfl⟩))
      all_goals go_ret
      all_goals exact ⟨ret_bool (by rw [HH.out]; simp [*]), (by repeat (first | with_reducible exact Below.refl _ _ | with_reducible assumption | with_reducible refine bel_alloc ?_ _ | with_reducible refine bel_drew ?_ | with_reducible refine bel_drewN ?_ _ | (with_reducible refine bel_set ?_ ?_ _; rotate_left; ((try simp); (try omega)))))⟩
end Go.Proofs.Ytlicnppfgfjkgaa
namespace Go.Proofs.Ytlicnppfgfjkgaa
open Go.ChangeShapes Go.WideShapes Go.RowKit
set_option linter.unusedVariables false

structure TReg where
  site : ByteArray
  ins : Int
  wai : Int
  act : Int

def cReg : Cod TReg := cM (cP cS (cP cI (cP cI cI))) (fun x => (x.site, x.ins, x.wai, x.act)) (fun a => ⟨a.1, a.2.1, a.2.2.1, a.2.2.2⟩) (fun _ => rfl)

structure TReg.Ok (x : TReg) : Prop where
  h0 : x.site.size ≤ maxLen
  h1 : -9223372036854775808 ≤ x.ins ∧ x.ins ≤ 9223372036854775807
  h2 : -9223372036854775808 ≤ x.wai ∧ x.wai ≤ 9223372036854775807
  h3 : -9223372036854775808 ≤ x.act ∧ x.act ≤ 9223372036854775807

theorem TReg.out {w : World} {vs : List Value} {x : TReg} {F : List Nat} (h : cReg.rep w vs x F) :
    vs = [Value.string x.site, .int .i64 x.ins, .int .i64 x.wai, .int .i64 x.act] ∧ F = [] ∧ x.Ok := by

  obtain ⟨a0, b0, G0, H0, rfl, rfl, ⟨rfl, rfl, h0⟩, a1, b1, G1, H1, rfl, rfl, ⟨rfl, rfl, h1⟩, a2, b2, G2, H2, rfl, rfl, ⟨rfl, rfl, h2⟩, rfl, rfl, h3⟩ := h
  exact ⟨rfl, by simp, ⟨h0, h1, h2, h3⟩⟩

theorem TReg.mk_ {w : World} {x : TReg} (h : x.Ok) : cReg.rep w [Value.string x.site, .int .i64 x.ins, .int .i64 x.wai, .int .i64 x.act] x ([]) := by

  exact ⟨[_], _, [], [], rfl, by simp, ⟨rfl, rfl, h.h0⟩, ⟨[_], _, [], [], rfl, by simp, ⟨rfl, rfl, h.h1⟩, ⟨[_], _, [], [], rfl, by simp, ⟨rfl, rfl, h.h2⟩, ⟨rfl, rfl, h.h3⟩⟩⟩⟩


def TReg.val (x : TReg) : Value := .agg #[Value.string x.site, .int .i64 x.ins, .int .i64 x.wai, .int .i64 x.act]

theorem TReg.val_of {w : World} {cs : Array Value} {x : TReg} {F : List Nat} (h : cReg.rep w cs.toList x F) : Value.agg cs = x.val := by
  have := (TReg.out h).1
  unfold TReg.val
  rw [← Array.toList_inj.1 (show cs.toList = #[Value.string x.site, .int .i64 x.ins, .int .i64 x.wai, .int .i64 x.act].toList from this)]

end Go.Proofs.Ytlicnppfgfjkgaa
namespace Go.Proofs.Ytlicnppfgfjkgaa
section
variable {P : Program} {ops : Array Oper} {Q : Exit → Act → World → Prop} {md : Region.Mode} {S : World → Prop}

theorem take_skip {i : Nat} (d : Tmp) {oi : Oper} {fuel : Nat} {listed : Array Bool} {a : Act} {w : World} (hi : ops[i]? = some oi) (hd : oi.dst = some d)
    (hs : Region.noSelect ops = true) (hf : Region.free md ops listed i = true) (hr : (Region.ready md ops listed).contains i = true)
    (hQ : ∀ c a w, Q (.panic c) (a.put (some d) undef) w → Q (.panic c) a w) (hw : Region.wanted oi (yielded ops a.tmps) = false) (hS : S w)
    (h : wpAnyH P md ops Q S fuel (listed.setIfInBounds i true) (a.put (some d) undef) w) : wpAnyH P md ops Q S (fuel + 1) listed a w :=
  wpAnyH_take hi hs hf hr (by rw [hd]; exact hQ) (Or.inr ⟨hw, rfl⟩) hS (by rw [hd]; exact h)
theorem take_read {i : Nat} (d : Tmp) {oi : Oper} {v : Value} {fuel : Nat} {listed : Array Bool} {a : Act} {w : World} (hi : ops[i]? = some oi) (hd : oi.dst = some d)
    (hs : Region.noSelect ops = true) (hf : Region.free md ops listed i = true) (hr : (Region.ready md ops listed).contains i = true)
    (hQ : ∀ c a w, Q (.panic c) (a.put (some d) v) w → Q (.panic c) a w) (hw : Region.wanted oi (yielded ops a.tmps) = true)
    (hy : ∀ w, S w → (execOp a.eval oi).run P w = .ok (.value v) w) (hS : S w)
    (h : wpAnyH P md ops Q S fuel (listed.setIfInBounds i true) (a.put (some d) v) w) : wpAnyH P md ops Q S (fuel + 1) listed a w :=
  wpAnyH_take hi hs hf hr (by rw [hd]; exact hQ) (Or.inl ⟨hw, hy⟩) hS (by rw [hd]; exact h)
end
end Go.Proofs.Ytlicnppfgfjkgaa
namespace Go.Proofs.Ytlicnppfgfjkgaa
open Go.ChangeShapes Go.WideShapes Go.RowKit
set_option linter.unusedVariables false

def maxI (a b : Int) : Int := if a < b then b else a
theorem specMax_any (a b : Int) (w : World) : Calls Try.prog 84 #[.int .i64 a, .int .i64 b] w fun e w' => e = .returned (.int .i64 (maxI a b)) ∧ w = w' := by
  by_cases h : a < b
  · have HM := Lib.hid (show maxI a b = b by simp [maxI, h])
    go_enter Try.func84, Try.ntmps84
    go_wp2
    go_ret
    exact ⟨by rw [HM.out]; rfl, rfl⟩
  · have HM := Lib.hid (show maxI a b = a by simp [maxI, h])
    go_enter Try.func84, Try.ntmps84
    go_wp2
    go_ret
    exact ⟨by rw [HM.out]; rfl, rfl⟩
theorem serves_ints (a v : Int) : inR v (maxI 1 (a - 1)) a = (decide (a - 2 < v) && decide (v ≤ a) && decide (1 ≤ v)) := by
  have h : maxI 1 (a - 1) ≤ v ↔ (a - 2 < v ∧ 1 ≤ v) := by
    unfold maxI
    split
    · exact ⟨fun h => ⟨by omega, by omega⟩, fun h => by omega⟩
    · exact ⟨fun h => ⟨by omega, by omega⟩, fun h => by omega⟩
  rw [Bool.eq_iff_iff]
  simp only [inR, Bool.and_eq_true, decide_eq_true_eq, h]
  exact ⟨fun h => ⟨⟨h.1.1, h.2⟩, h.1.2⟩, fun h => ⟨⟨h.1.1, h.2⟩, h.1.2⟩⟩
def servesVersion (x : TSite) (v : Int) : Bool := isSite x && inR v (maxI 1 (x.ver - 1)) x.ver
theorem isSite_ver {x : TSite} (h : isSite x = true) : 1 ≤ x.ver ∧ x.ver ≤ 1000000000000 := by
  simp only [isSite, Bool.and_eq_true] at h
  exact inR_true h.1.2
set_option maxRecDepth 100000 in
set_option maxHeartbeats 4000000 in
theorem implServesVersion_any (vs : Array Value) (x : TSite) (F : List Nat) (v : Int) (w : World) (h : cSite.rep w vs.toList x F) (hn : cSite.sz x ≤ 1048576) (hv : -9223372036854775808 ≤ v ∧ v ≤ 9223372036854775807) :
    Calls Try.prog 29 #[.agg vs, .int .i64 v] w (Gives w (.bool (servesVersion x v))) := by
  have hr := h
  obtain ⟨v2, F2, rfl, -, hok, m2⟩ := TSite.outA h
  clear h
  obtain ⟨A, cp, e2⟩ := cL_form m2
  subst e2
  clear m2
  cases hsite : isSite x
  · have HE := Lib.hid (show servesVersion x v = false by simp [servesVersion, hsite])
    go_enter Try.func29, Try.ntmps29
    go_wp2_with (first | (go_at_call 77; refine (implIsSite_any _ x _ _ (by exact Cod.bel hr (by repeat (first | with_reducible exact Below.refl _ _ | with_reducible assumption | with_reducible refine bel_alloc ?_ _ | with_reducible refine bel_drew ?_ | with_reducible refine bel_drewN ?_ _ | (with_reducible refine bel_set ?_ ?_ _; rotate_left; ((try simp); (try omega)))))) hn).mono ?_; rintro e w1 ⟨rfl, hb1⟩; obtain ⟨hc1, hf1, hz1⟩ := bcell hb1; (try simp at hz1); have hs0 : w.heap.size < w1.heap.size := (by omega); have hB1 : Below w.heap.size w w1 := (bel_then (by repeat (first | with_reducible exact Below.refl _ _ | with_reducible assumption | with_reducible refine bel_alloc ?_ _ | with_reducible refine bel_drew ?_ | with_reducible refine bel_drewN ?_ _ | (with_reducible refine bel_set ?_ ?_ _; rotate_left; ((try simp); (try omega))))) hb1); clear hb1))
    go_ret
    exact ⟨by rw [HE.out]; rfl, (by repeat (first | with_reducible exact Below.refl _ _ | with_reducible assumption | with_reducible refine bel_alloc ?_ _ | with_reducible refine bel_drew ?_ | with_reducible refine bel_drewN ?_ _ | (with_reducible refine bel_set ?_ ?_ _; rotate_left; ((try simp); (try omega)))))⟩
  · have hb := isSite_ver hsite
    have HE := Lib.hid (show servesVersion x v = (decide (x.ver - 2 < v) && decide (v ≤ x.ver) && decide (1 ≤ v)) by rw [← serves_ints]; simp [servesVersion, hsite])
    go_enter Try.func29, Try.ntmps29
    go_wp2_with (first | (go_at_call 77; refine (implIsSite_any _ x _ _ (by exact Cod.bel hr (by repeat (first | with_reducible exact Below.refl _ _ | with_reducible assumption | with_reducible refine bel_alloc ?_ _ | with_reducible refine bel_drew ?_ | with_reducible refine bel_drewN ?_ _ | (with_reducible refine bel_set ?_ ?_ _; rotate_left; ((try simp); (try omega)))))) hn).mono ?_; rintro e w1 ⟨rfl, hb1⟩; obtain ⟨hc1, hf1, hz1⟩ := bcell hb1; (try simp at hz1); have hs0 : w.heap.size < w1.heap.size := (by omega); have hB1 : Below w.heap.size w w1 := (bel_then (by repeat (first | with_reducible exact Below.refl _ _ | with_reducible assumption | with_reducible refine bel_alloc ?_ _ | with_reducible refine bel_drew ?_ | with_reducible refine bel_drewN ?_ _ | (with_reducible refine bel_set ?_ ?_ _; rotate_left; ((try simp); (try omega))))) hb1); clear hb1))
    all_goals go_ret
    all_goals exact ⟨ret_bool (by rw [HE.out]; simp [*]; try omega), (by repeat (first | with_reducible exact Below.refl _ _ | with_reducible assumption | with_reducible refine bel_alloc ?_ _ | with_reducible refine bel_drew ?_ | with_reducible refine bel_drewN ?_ _ | (with_reducible refine bel_set ?_ ?_ _; rotate_left; ((try simp); (try omega)))))⟩
set_option maxRecDepth 100000 in
set_option maxHeartbeats 4000000 in
theorem specServesVersion_any (vs : Array Value) (x : TSite) (F : List Nat) (v : Int) (w : World) (h : cSite.rep w vs.toList x F) (hn : cSite.sz x ≤ 1048576) (hv : -9223372036854775808 ≤ v ∧ v ≤ 9223372036854775807) :
    Calls Try.prog 30 #[.agg vs, .int .i64 v] w (Gives w (.bool (servesVersion x v))) := by
  have hr := h
  obtain ⟨v2, F2, rfl, -, hok, m2⟩ := TSite.outA h
  clear h
  obtain ⟨A, cp, e2⟩ := cL_form m2
  subst e2
  clear m2
  cases hsite : isSite x
  · have HE := Lib.hid (show servesVersion x v = false by simp [servesVersion, hsite])
    have hcs := fun W hb => specIsSite_any _ x _ W (Cod.bel hr hb) hn
    rw [hsite] at hcs
    go_enter Try.func30, Try.ntmps30
    go_wp2_with fail
    generalize hW : World.alloc _ _ = W
    have hWs : W.heap.size = w.heap.size + 1 := by rw [← hW]; clear hW; simp
    have hbW : Below w.heap.size w W := by rw [← hW]; exact (by repeat (first | with_reducible exact Below.refl _ _ | with_reducible assumption | with_reducible refine bel_alloc ?_ _ | with_reducible refine bel_drew ?_ | with_reducible refine bel_drewN ?_ _ | (with_reducible refine bel_set ?_ ?_ _; rotate_left; ((try simp); (try omega)))))
    have HK := Lib.hid (show W.cell? ⟨w.heap.size, 0, none⟩ = some (.string x.name) ∧ W.cell? ⟨w.heap.size, 1, none⟩ = some (.int .i64 x.ver) ∧ W.cell? ⟨w.heap.size, 2, none⟩ = some (.slice A x.files.length cp) ∧ W.cell? ⟨w.heap.size, 3, none⟩ = some (.bool x.shared) from by refine ⟨?_, ?_, ?_, ?_⟩ <;> (rw [← hW]; clear hW; go_simp))
    clear hW
    have hS : ∀ w9, Below W.heap.size W w9 → Below W.heap.size W w9 ∧ w9.cell? ⟨w.heap.size, 0, none⟩ = some (.string x.name) ∧ w9.cell? ⟨w.heap.size, 1, none⟩ = some (.int .i64 x.ver) ∧ w9.cell? ⟨w.heap.size, 2, none⟩ = some (.slice A x.files.length cp) ∧ w9.cell? ⟨w.heap.size, 3, none⟩ = some (.bool x.shared) := fun w9 hb => ⟨hb, (hb.cell (p := ⟨w.heap.size, 0, none⟩) (by (try simp); (try omega))).trans HK.out.1, (hb.cell (p := ⟨w.heap.size, 1, none⟩) (by (try simp); (try omega))).trans HK.out.2.1, (hb.cell (p := ⟨w.heap.size, 2, none⟩) (by (try simp); (try omega))).trans HK.out.2.2.1, (hb.cell (p := ⟨w.heap.size, 3, none⟩) (by (try simp); (try omega))).trans HK.out.2.2.2⟩
    have hwb : Below W.heap.size W W := Below.refl _ _
    refine wp_region_held_drew (S := (fun w9 => Below W.heap.size W w9 ∧ w9.cell? ⟨w.heap.size, 0, none⟩ = some (.string x.name) ∧ w9.cell? ⟨w.heap.size, 1, none⟩ = some (.int .i64 x.ver) ∧ w9.cell? ⟨w.heap.size, 2, none⟩ = some (.slice A x.files.length cp) ∧ w9.cell? ⟨w.heap.size, 3, none⟩ = some (.bool x.shared))) (by kernel_rfl) (by (try dsimp only); exact hS _ (by repeat (first | with_reducible exact Below.refl _ _ | with_reducible assumption | with_reducible refine bel_alloc ?_ _ | with_reducible refine bel_drew ?_ | with_reducible refine bel_drewN ?_ _ | (with_reducible refine bel_set ?_ ?_ _; rotate_left; ((try simp); (try omega)))))) (fun hHeld => ?_)
    refine take_read (i := 0) 5 (v := ?v0) rfl rfl (by kernel_rfl) (by kernel_rfl) (by kernel_rfl) (fun _ _ _ h => h) (by rfl) ?hy0 (by assumption) ?rest0
    case hy0 => (intro w hSw; (try dsimp only at hSw); go_simp; (try with_reducible rfl))
    try simp only [Act.put, List.setIfInBounds_toArray, List.set_cons_zero, List.set_cons_succ]
    refine wpAnyH_ready (rs := [1]) (by kernel_rfl) (by simp) ?_
    refine AllReadyH.cons rfl (fun K hK => ?_) AllReadyH.nil
    go_simp
    (go_at_call 81; refine (hcs _ (bel_then hbW (by repeat (first | with_reducible exact Below.refl _ _ | with_reducible assumption | with_reducible refine bel_alloc ?_ _ | with_reducible refine bel_drew ?_ | with_reducible refine bel_drewN ?_ _ | (with_reducible refine bel_set ?_ ?_ _; rotate_left; ((try simp); (try omega))))))).mono ?_; rintro e w1 ⟨rfl, hb1⟩; have hbw1 : Below W.heap.size W w1 := bel_then (by repeat (first | with_reducible exact Below.refl _ _ | with_reducible assumption | with_reducible refine bel_alloc ?_ _ | with_reducible refine bel_drew ?_ | with_reducible refine bel_drewN ?_ _ | (with_reducible refine bel_set ?_ ?_ _; rotate_left; ((try simp); (try omega))))) hb1)
    try go_wp2_with fail
    refine hK.out _ _ ?_ (fun hHeld => ?_)
    · (try dsimp only)
      exact hS _ (by repeat (first | with_reducible exact Below.refl _ _ | with_reducible assumption | with_reducible refine bel_alloc ?_ _ | with_reducible refine bel_drew ?_ | with_reducible refine bel_drewN ?_ _ | (with_reducible refine bel_set ?_ ?_ _; rotate_left; ((try simp); (try omega)))))
    clear hK K
    try simp only [Act.put, List.setIfInBounds_toArray, List.set_cons_zero, List.set_cons_succ]
    refine take_read (i := 2) 7 (v := ?v2) rfl rfl (by kernel_rfl) (by kernel_rfl) (by kernel_rfl) (fun _ _ _ h => h) (by rfl) ?hy2 (by assumption) ?rest2
    case hy2 => (intro w hSw; (try dsimp only at hSw); go_simp; (try with_reducible rfl))
    try simp only [Act.put, List.setIfInBounds_toArray, List.set_cons_zero, List.set_cons_succ]
    refine take_skip (i := 3) 8 rfl rfl (by kernel_rfl) (by kernel_rfl) (by kernel_rfl) (fun _ _ _ h => h) (by rfl) (by assumption) ?_
    try simp only [Act.put, List.setIfInBounds_toArray, List.set_cons_zero, List.set_cons_succ]
    refine take_skip (i := 4) 9 rfl rfl (by kernel_rfl) (by kernel_rfl) (by kernel_rfl) (fun _ _ _ h => h) (by rfl) (by assumption) ?_
    try simp only [Act.put, List.setIfInBounds_toArray, List.set_cons_zero, List.set_cons_succ]
    refine take_skip (i := 5) 10 rfl rfl (by kernel_rfl) (by kernel_rfl) (by kernel_rfl) (fun _ _ _ h => h) (by rfl) (by assumption) ?_
    try simp only [Act.put, List.setIfInBounds_toArray, List.set_cons_zero, List.set_cons_succ]
    refine take_skip (i := 6) 11 rfl rfl (by kernel_rfl) (by kernel_rfl) (by kernel_rfl) (fun _ _ _ h => h) (by rfl) (by assumption) ?_
    try simp only [Act.put, List.setIfInBounds_toArray, List.set_cons_zero, List.set_cons_succ]
    refine take_skip (i := 7) 12 rfl rfl (by kernel_rfl) (by kernel_rfl) (by kernel_rfl) (fun _ _ _ h => h) (by rfl) (by assumption) ?_
    try simp only [Act.put, List.setIfInBounds_toArray, List.set_cons_zero, List.set_cons_succ]
    refine take_skip (i := 8) 13 rfl rfl (by kernel_rfl) (by kernel_rfl) (by kernel_rfl) (fun _ _ _ h => h) (by rfl) (by assumption) ?_
    try simp only [Act.put, List.setIfInBounds_toArray, List.set_cons_zero, List.set_cons_succ]
    refine take_skip (i := 9) 14 rfl rfl (by kernel_rfl) (by kernel_rfl) (by kernel_rfl) (fun _ _ _ h => h) (by rfl) (by assumption) ?_
    try simp only [Act.put, List.setIfInBounds_toArray, List.set_cons_zero, List.set_cons_succ]
    refine take_skip (i := 10) 15 rfl rfl (by kernel_rfl) (by kernel_rfl) (by kernel_rfl) (fun _ _ _ h => h) (by rfl) (by assumption) ?_
    try simp only [Act.put, List.setIfInBounds_toArray, List.set_cons_zero, List.set_cons_succ]
    refine take_skip (i := 11) 16 rfl rfl (by kernel_rfl) (by kernel_rfl) (by kernel_rfl) (fun _ _ _ h => h) (by rfl) (by assumption) ?_
    try simp only [Act.put, List.setIfInBounds_toArray, List.set_cons_zero, List.set_cons_succ]
    refine take_read (i := 12) 17 (v := ?v12) rfl rfl (by kernel_rfl) (by kernel_rfl) (by kernel_rfl) (fun _ _ _ h => h) (by rfl) ?hy12 (by assumption) ?rest12
    case hy12 => (intro w hSw; (try dsimp only at hSw); go_simp; (try with_reducible rfl))
    try simp only [Act.put, List.setIfInBounds_toArray, List.set_cons_zero, List.set_cons_succ]
    refine take_read (i := 13) 4 (v := ?v13) rfl rfl (by kernel_rfl) (by kernel_rfl) (by kernel_rfl) (fun _ _ _ h => h) (by rfl) ?hy13 (by assumption) ?rest13
    case hy13 => (intro w hSw; (try dsimp only at hSw); go_simp; (try with_reducible rfl))
    try simp only [Act.put, List.setIfInBounds_toArray, List.set_cons_zero, List.set_cons_succ]
    refine wpAnyH_done (by kernel_rfl) ?_ _
    go_wp2_with fail
    go_ret
    exact ⟨by rw [HE.out]; rfl, bel_then hbW (by repeat (first | with_reducible exact Below.refl _ _ | with_reducible assumption | with_reducible refine bel_alloc ?_ _ | with_reducible refine bel_drew ?_ | with_reducible refine bel_drewN ?_ _ | (with_reducible refine bel_set ?_ ?_ _; rotate_left; ((try simp); (try omega)))))⟩
  · have hb := isSite_ver hsite
    have HE := Lib.hid (show servesVersion x v = inR v (maxI 1 (x.ver - 1)) x.ver by simp [servesVersion, hsite])
    have hcs := fun W hb => specIsSite_any _ x _ W (Cod.bel hr hb) hn
    rw [hsite] at hcs
    have HX := Lib.hid (show IntKind.i64.wrap (IntKind.i64.wrap (x.ver - 2) + 1) = x.ver - 1 by rw [show IntKind.i64.wrap (x.ver - 2) = x.ver - 2 from IntWalk.i64_in _ (by omega), show IntKind.i64.wrap (x.ver - 2 + 1) = x.ver - 2 + 1 from IntWalk.i64_in _ (by omega)]; omega)
    go_enter Try.func30, Try.ntmps30
    go_wp2_with fail
    generalize hW : World.alloc _ _ = W
    have hWs : W.heap.size = w.heap.size + 1 := by rw [← hW]; clear hW; simp
    have hbW : Below w.heap.size w W := by rw [← hW]; exact (by repeat (first | with_reducible exact Below.refl _ _ | with_reducible assumption | with_reducible refine bel_alloc ?_ _ | with_reducible refine bel_drew ?_ | with_reducible refine bel_drewN ?_ _ | (with_reducible refine bel_set ?_ ?_ _; rotate_left; ((try simp); (try omega)))))
    have HK := Lib.hid (show W.cell? ⟨w.heap.size, 0, none⟩ = some (.string x.name) ∧ W.cell? ⟨w.heap.size, 1, none⟩ = some (.int .i64 x.ver) ∧ W.cell? ⟨w.heap.size, 2, none⟩ = some (.slice A x.files.length cp) ∧ W.cell? ⟨w.heap.size, 3, none⟩ = some (.bool x.shared) from by refine ⟨?_, ?_, ?_, ?_⟩ <;> (rw [← hW]; clear hW; go_simp))
    clear hW
    have hS : ∀ w9, Below W.heap.size W w9 → Below W.heap.size W w9 ∧ w9.cell? ⟨w.heap.size, 0, none⟩ = some (.string x.name) ∧ w9.cell? ⟨w.heap.size, 1, none⟩ = some (.int .i64 x.ver) ∧ w9.cell? ⟨w.heap.size, 2, none⟩ = some (.slice A x.files.length cp) ∧ w9.cell? ⟨w.heap.size, 3, none⟩ = some (.bool x.shared) := fun w9 hb => ⟨hb, (hb.cell (p := ⟨w.heap.size, 0, none⟩) (by (try simp); (try omega))).trans HK.out.1, (hb.cell (p := ⟨w.heap.size, 1, none⟩) (by (try simp); (try omega))).trans HK.out.2.1, (hb.cell (p := ⟨w.heap.size, 2, none⟩) (by (try simp); (try omega))).trans HK.out.2.2.1, (hb.cell (p := ⟨w.heap.size, 3, none⟩) (by (try simp); (try omega))).trans HK.out.2.2.2⟩
    have hwb : Below W.heap.size W W := Below.refl _ _
    first | (go_region_held3 (fun w9 => Below W.heap.size W w9 ∧ w9.cell? ⟨w.heap.size, 0, none⟩ = some (.string x.name) ∧ w9.cell? ⟨w.heap.size, 1, none⟩ = some (.int .i64 x.ver) ∧ w9.cell? ⟨w.heap.size, 2, none⟩ = some (.slice A x.files.length cp) ∧ w9.cell? ⟨w.heap.size, 3, none⟩ = some (.bool x.shared)) (exact hS _ (by repeat (first | with_reducible exact Below.refl _ _ | with_reducible assumption | with_reducible refine bel_alloc ?_ _ | with_reducible refine bel_drew ?_ | with_reducible refine bel_drewN ?_ _ | (with_reducible refine bel_set ?_ ?_ _; rotate_left; ((try simp); (try omega)))))) (first | (go_at_call 81; refine (hcs _ (bel_then hbW (by repeat (first | with_reducible exact Below.refl _ _ | with_reducible assumption | with_reducible refine bel_alloc ?_ _ | with_reducible refine bel_drew ?_ | with_reducible refine bel_drewN ?_ _ | (with_reducible refine bel_set ?_ ?_ _; rotate_left; ((try simp); (try omega))))))).mono ?_; rintro e w1 ⟨rfl, hb1⟩; have hbw1 : Below W.heap.size W w1 := bel_then (by repeat (first | with_reducible exact Below.refl _ _ | with_reducible assumption | with_reducible refine bel_alloc ?_ _ | with_reducible refine bel_drew ?_ | with_reducible refine bel_drewN ?_ _ | (with_reducible refine bel_set ?_ ?_ _; rotate_left; ((try simp); (try omega))))) hb1) | (go_at_call 84; refine (specMax_any _ _ _).mono ?_; rintro e w1 ⟨rfl, rfl⟩) | (go_at_call 83; refine (l1In_any _ _ _ _).mono ?_; rintro e w1 ⟨rfl, rfl⟩))) | fail
    go_wp2_with fail
    go_ret
    exact ⟨by rw [HE.out, ← HX.out]; rfl, bel_then hbW (by repeat (first | with_reducible exact Below.refl _ _ | with_reducible assumption | with_reducible refine bel_alloc ?_ _ | with_reducible refine bel_drew ?_ | with_reducible refine bel_drewN ?_ _ | (with_reducible refine bel_set ?_ ?_ _; rotate_left; ((try simp); (try omega)))))⟩

def versionFor (r : TReg) (x : TSite) (online : Bool) : Int := bif r.act != 0 then r.act else bif online then x.ver else 0
end Go.Proofs.Ytlicnppfgfjkgaa
namespace Go.Proofs.Ytlicnppfgfjkgaa
open Go.ChangeShapes Go.WideShapes Go.RowKit
set_option linter.unusedVariables false

def hashStep (d x : Int) : Int := (d * 1000003 + x % 2147483647 + 13) % 2147483647
def hashL (l : List Int) : Int := l.foldl hashStep 11
theorem hashL_range (l : List Int) : 0 ≤ hashL l ∧ hashL l < 2147483647 := by
  have : ∀ (l : List Int) (d : Int), 0 ≤ d ∧ d < 2147483647 → 0 ≤ l.foldl hashStep d ∧ l.foldl hashStep d < 2147483647 := by
    intro l
    induction l with
    | nil => exact fun d h => h
    | cons x l ih => exact fun d h => ih _ (by unfold hashStep; omega)
  exact this l 11 (by omega)
theorem hashL_take {l : List Int} {k : Nat} (h : k < l.length) : hashL (l.take (k + 1)) = hashStep (hashL (l.take k)) l[k] := by
  unfold hashL
  rw [List.take_succ_eq_append_getElem h, List.foldl_append]; rfl
def keyedHash (k : Int) (l : List Int) : Int := hashL (([k] ++ l) ++ [k])
def bytesInts (b : List UInt8) : List Int := (b.length : Int) :: b.map fun x => (x.toNat : Int)
def derive (k : Int) (s : ByteArray) : Int := if keyedHash k (bytesInts s.data.toList) = 0 then 1 else keyedHash k (bytesInts s.data.toList)

theorem tmod_mod (n : Int) : (n.tmod 2147483647 + 2147483647).tmod 2147483647 = n % 2147483647 := by
  rcases Int.le_total 0 n with h | h
  · rw [Int.tmod_eq_emod_of_nonneg h, Int.tmod_eq_emod_of_nonneg (by omega)]; omega
  · have h1 : n.tmod 2147483647 = -((-n) % 2147483647) := by rw [← Int.tmod_eq_emod_of_nonneg (by omega : 0 ≤ -n), Int.neg_tmod, Int.neg_neg]
    rw [h1, Int.tmod_eq_emod_of_nonneg (by omega)]; omega
theorem tmod_neg {n : Int} (h : n.tmod 2147483647 < 0) : n.tmod 2147483647 + 2147483647 = n % 2147483647 := by
  rcases Int.le_total 0 n with h0 | h0
  · rw [Int.tmod_eq_emod_of_nonneg h0] at h; omega
  · have h1 : n.tmod 2147483647 = -((-n) % 2147483647) := by rw [← Int.tmod_eq_emod_of_nonneg (by omega : 0 ≤ -n), Int.neg_tmod, Int.neg_neg]
    rw [h1] at h ⊢; omega
theorem tmod_pos {n : Int} (h : ¬ n.tmod 2147483647 < 0) : n.tmod 2147483647 = n % 2147483647 := by
  rcases Int.le_total 0 n with h0 | h0
  · rw [Int.tmod_eq_emod_of_nonneg h0]
  · have h1 : n.tmod 2147483647 = -((-n) % 2147483647) := by rw [← Int.tmod_eq_emod_of_nonneg (by omega : 0 ≤ -n), Int.neg_tmod, Int.neg_neg]
    rw [h1] at h ⊢; omega
theorem tmod_bounds (n : Int) : -2147483647 < n.tmod 2147483647 ∧ n.tmod 2147483647 < 2147483647 := by
  rcases Int.le_total 0 n with h0 | h0
  · rw [Int.tmod_eq_emod_of_nonneg h0]; omega
  · have h1 : n.tmod 2147483647 = -((-n) % 2147483647) := by rw [← Int.tmod_eq_emod_of_nonneg (by omega : 0 ≤ -n), Int.neg_tmod, Int.neg_neg]
    rw [h1]; omega

set_option maxHeartbeats 1000000 in
theorem specMod_any (n : Int) (w : World) (hn : -9223372036854775808 ≤ n ∧ n ≤ 9223372036854775807) :
    Calls Try.prog 170 #[.int .i64 n, .int .i64 2147483647] w fun e w' => e = .returned (.int .i64 (n % 2147483647)) ∧ w = w' := by
  have h1 := tmod_bounds n
  have h2 := tmod_mod n
  obtain ⟨q, hq⟩ : ∃ q, n.tmod 2147483647 = q := ⟨_, rfl⟩
  rw [hq] at h1 h2
  go_enter Try.func170, Try.ntmps170
  go_wp2_with (first | (go_at_call 83; refine (l1In_any _ _ _ _).mono ?_; rintro e w1 ⟨rfl, rfl⟩))
  all_goals go_ret
  all_goals (first | exact ⟨ret_int h2, rfl⟩ | (simp_all [inR]; done) | skip)
set_option maxHeartbeats 1000000 in
theorem implMod_any (n : Int) (w : World) (hn : -9223372036854775808 ≤ n ∧ n ≤ 9223372036854775807) :
    Calls Try.prog 162 #[.int .i64 n, .int .i64 2147483647] w fun e w' => e = .returned (.int .i64 (n % 2147483647)) ∧ w = w' := by
  have h1 := tmod_bounds n
  have h2 := @tmod_neg n
  have h3 := @tmod_pos n
  obtain ⟨q, hq⟩ : ∃ q, n.tmod 2147483647 = q := ⟨_, rfl⟩
  rw [hq] at h1 h2 h3
  by_cases hneg : q < 0
  · have h4 := h2 hneg
    clear h2 h3
    go_enter Try.func162, Try.ntmps162
    go_wp2_with (first | (go_at_call 66; refine (inRange_any _ _ _ _).mono ?_; rintro e w1 ⟨rfl, rfl⟩))
    all_goals go_ret
    all_goals (first | exact ⟨ret_int h4, rfl⟩ | (simp_all [inR]; done) | skip)
  · have h4 := h3 hneg
    clear h2 h3
    go_enter Try.func162, Try.ntmps162
    go_wp2_with (first | (go_at_call 66; refine (inRange_any _ _ _ _).mono ?_; rintro e w1 ⟨rfl, rfl⟩))
    all_goals go_ret
    all_goals (first | exact ⟨ret_int h4, rfl⟩ | (simp_all [inR]; done) | skip)

theorem Own.of_new {α : Type} {c : Cod α} {w : World} {vs : Array Value} {xs : List α} {F : List Nat} (T : TypeId) (n : Nat) (hn : n = xs.length) (hc : 0 < n) (hm : n ≤ maxLen) (hs : vs.size = n * c.wd) (h : c.reps (w.alloc (.cells vs T)) vs.toList xs F) :
    Own c T w.heap.size (w.alloc (.cells vs T)) (.slice (some ⟨w.heap.size, 0, none⟩) n n) xs F := by
  subst hn
  refine .inr ⟨vs.toList, ⟨by simpa using hs, .inr ⟨w.heap.size, xs.length, vs, rfl, Nat.le_refl _, heap_alloc_new w _, Nat.le_refl _, hm, hs, ?_⟩⟩, h⟩
  rw [List.take_of_length_le (by simpa using Nat.le_of_eq hs)]
theorem repsI {w : World} {n : Int} (h : -9223372036854775808 ≤ n ∧ n ≤ 9223372036854775807) : cI.reps w (#[Value.int .i64 n] : Array Value).toList [n] [] := Cod.reps_one ⟨rfl, rfl, h.1, h.2⟩

set_option maxHeartbeats 2000000 in
theorem specHash_any (v : Value) (xs : List Int) (F : List Nat) (w : World) (h : cIS.rep w [v] xs F) (hn : xs.length ≤ 8000000) :
    Calls Try.prog 153 #[v] w fun e w' => e = .returned (.int .i64 (hashL xs)) ∧ w = w' := by
  obtain ⟨A, cp, rfl⟩ := cL_form h
  obtain ⟨-, hcp, hm⟩ := cL_len h
  unfold maxLen at hm
  obtain ⟨n, hxn⟩ : ∃ n, xs.length = n := ⟨_, rfl⟩
  have HN := Lib.hid hxn
  rw [hxn] at h hcp hn ⊢
  clear hxn
  go_enter Try.func153, Try.ntmps153
  go_wp2
  go_loopw [3, 4] (fun a i wr => ∃ k : Nat, k ≤ n ∧ i = .int .i64 k ∧ (∃ d : Int, a = .int .i64 d ∧ d = hashL (xs.take k)) ∧ wr = w) (fun _ i _ => n - (intOf i).toNat)
  case atStart => exact ⟨0, Nat.zero_le _, rfl, ⟨11, rfl, rfl⟩, rfl⟩
  case round =>
    obtain ⟨k, hk, rfl, ⟨d, rfl, hd⟩, rfl⟩ := hrel
    have hr := hashL_range (xs.take k)
    rw [← hd] at hr
    by_cases hlt : k < n
    · have hkx : k < xs.length := by rw [HN.out]; exact hlt
      obtain ⟨g, o, vs, F1, rfl, hgF, ⟨rfl, -, hx1, hx2⟩, -, hc⟩ := cL_get (hw := by decide) (hw2 := by decide) h hkx
      have q0 := (hc 0 _ rfl).1
      rw [show cI.wd = 1 from rfl, Nat.mul_one, Nat.add_zero] at q0
      have hki : (k : Int) < (n : Int) := by omega
      have hs := hashL_take hkx
      rw [← hd] at hs
      have HS := Lib.hid hs
      have hxb : -9223372036854775808 ≤ xs[k] ∧ xs[k] ≤ 9223372036854775807 := ⟨hx1, hx2⟩
      have hmb : 0 ≤ xs[k] % 2147483647 ∧ xs[k] % 2147483647 < 2147483647 := by omega
      have he : (d * 1000003 + xs[k] % 2147483647 + 13).tmod 2147483647 = hashStep d xs[k] := by rw [Int.tmod_eq_emod_of_nonneg (by omega)]; rfl
      have hw1 : IntKind.i64.wrap (d * 1000003) = d * 1000003 := IntWalk.i64_in _ (by omega)
      clear hc hs hd
      obtain ⟨xk, hxk⟩ : ∃ xk, xs[k] = xk := ⟨_, rfl⟩
      rw [hxk] at q0 hxb hmb he HS
      clear hxk hx1 hx2
      obtain ⟨mk, hmk⟩ : ∃ mk, xk % 2147483647 = mk := ⟨_, rfl⟩
      have HM := Lib.hid hmk
      rw [hmk] at hmb he
      clear hmk
      go_wp2_with (go_at_call 170; refine (specMod_any _ _ hxb).mono ?_; rw [HM.out]; rintro e w1 ⟨rfl, rfl⟩)
      go_roundw
      case rel => exact ⟨k + 1, by omega, by go_num, ⟨_, rfl, by first | rw [he, HS.out] | (rw [HS.out, ← he])⟩, by first | rfl | trivial⟩
      case measure => simp [intOf]; omega
    · obtain rfl : k = n := by omega
      have HD := Lib.hid (show d = hashL xs by rw [hd, List.take_of_length_le (by rw [HN.out]; exact Nat.le_refl _)])
      clear hd
      go_wp2
      go_ret
      exact ⟨ret_int HD.out, rfl⟩
set_option maxHeartbeats 2000000 in
theorem implHash_any (v : Value) (xs : List Int) (F : List Nat) (w : World) (h : cIS.rep w [v] xs F) (hn : xs.length ≤ 8000000) :
    Calls Try.prog 134 #[v] w fun e w' => e = .returned (.int .i64 (hashL xs)) ∧ w = w' := by
  obtain ⟨A, cp, rfl⟩ := cL_form h
  obtain ⟨-, hcp, hm⟩ := cL_len h
  unfold maxLen at hm
  obtain ⟨n, hxn⟩ : ∃ n, xs.length = n := ⟨_, rfl⟩
  have HN := Lib.hid hxn
  rw [hxn] at h hcp hn ⊢
  clear hxn
  go_enter Try.func134, Try.ntmps134
  go_wp2
  go_loopw [3, 8] (fun a i wr => ∃ k : Nat, k ≤ n ∧ i = .int .i64 k ∧ (∃ d : Int, a = .int .i64 d ∧ d = hashL (xs.take k)) ∧ wr = w) (fun _ i _ => n - (intOf i).toNat)
  case atStart => exact ⟨0, Nat.zero_le _, rfl, ⟨11, rfl, rfl⟩, rfl⟩
  case round =>
    obtain ⟨k, hk, rfl, ⟨d, rfl, hd⟩, rfl⟩ := hrel
    have hr := hashL_range (xs.take k)
    rw [← hd] at hr
    by_cases hlt : k < n
    · have hkx : k < xs.length := by rw [HN.out]; exact hlt
      obtain ⟨g, o, vs, F1, rfl, hgF, ⟨rfl, -, hx1, hx2⟩, -, hc⟩ := cL_get (hw := by decide) (hw2 := by decide) h hkx
      have q0 := (hc 0 _ rfl).1
      rw [show cI.wd = 1 from rfl, Nat.mul_one, Nat.add_zero] at q0
      have hki : (k : Int) < (n : Int) := by omega
      have hs := hashL_take hkx
      rw [← hd] at hs
      have HS := Lib.hid hs
      have hxb : -9223372036854775808 ≤ xs[k] ∧ xs[k] ≤ 9223372036854775807 := ⟨hx1, hx2⟩
      have hmb : 0 ≤ xs[k] % 2147483647 ∧ xs[k] % 2147483647 < 2147483647 := by omega
      have he : (d * 1000003 + xs[k] % 2147483647 + 13).tmod 2147483647 = hashStep d xs[k] := by rw [Int.tmod_eq_emod_of_nonneg (by omega)]; rfl
      have hw1 : IntKind.i64.wrap (d * 1000003) = d * 1000003 := IntWalk.i64_in _ (by omega)
      clear hc hs hd
      obtain ⟨xk, hxk⟩ : ∃ xk, xs[k] = xk := ⟨_, rfl⟩
      rw [hxk] at q0 hxb hmb he HS
      clear hxk hx1 hx2
      obtain ⟨mk, hmk⟩ : ∃ mk, xk % 2147483647 = mk := ⟨_, rfl⟩
      have HM := Lib.hid hmk
      rw [hmk] at hmb he
      clear hmk
      go_wp2_with (go_at_call 162; refine (implMod_any _ _ hxb).mono ?_; rw [HM.out]; rintro e w1 ⟨rfl, rfl⟩)
      go_roundw
      case rel => exact ⟨k + 1, by omega, by go_num, ⟨_, rfl, by first | rw [he, HS.out] | (rw [HS.out, ← he])⟩, by first | rfl | trivial⟩
      case measure => simp [intOf]; omega
    · obtain rfl : k = n := by omega
      have HD := Lib.hid (show d = hashL xs by rw [hd, List.take_of_length_le (by rw [HN.out]; exact Nat.le_refl _)])
      clear hd
      go_wp2
      go_ret
      exact ⟨ret_int HD.out, rfl⟩

/-! ### KeyedHash -/
set_option maxRecDepth 100000 in
set_option maxHeartbeats 2000000 in
theorem specKeyedHash_any (k : Int) (v : Value) (xs : List Int) (F : List Nat) (w : World) (h : cIS.rep w [v] xs F) (hn : xs.length ≤ 4000000) (hk : -9223372036854775808 ≤ k ∧ k ≤ 9223372036854775807) :
    Calls Try.prog 115 #[.int .i64 k, v] w (Gives w (.int .i64 (keyedHash k xs))) := by
  obtain ⟨i0, hi0, hz0, hz1, hz2⟩ := info_parts infoInt
  obtain ⟨A, cp, rfl⟩ := cL_form h
  have HS := Lib.hid (And.intro hn hk)
  clear hn hk
  go_enter Try.func115, Try.ntmps115
  go_wp2_with (at_builtin; refine wpList_app (c := cI) (B := w.heap.size) (xs := [k]) (ys := xs) (Fi := []) (Fy := []) _ rfl _ _ _ rfl i0 _ _ Try.underlying26 hi0 hz0 hz1 hz2 rfl (by decide) (v := .slice (some ⟨w.heap.size, 0, none⟩) 1 1) rfl (Own.of_new 3 1 rfl (by decide) (by decide) rfl (repsI HS.out.2)) (.slice A xs.length cp) rfl (AppSrc.flat (hw := by decide) (hw2 := by decide) flat_I (Cod.bel h (by repeat (first | with_reducible exact Below.refl _ _ | with_reducible assumption | with_reducible refine bel_alloc ?_ _ | with_reducible refine bel_drew ?_ | with_reducible refine bel_drewN ?_ _ | (with_reducible refine bel_set ?_ ?_ _; rotate_left; ((try simp); (try omega))))))) (by have := HS.out.1; unfold maxLen; simp; omega) (by have := HS.out.1; simp; omega) (by (try simp); (try omega)) (by simp [ownB]) ?_)
  intro v1 w1 ho1 hg1 hat1
  replace ho1 : Own cI 3 w.heap.size w1 v1 ([k] ++ xs) [] := ho1
  have hb1 : Below w.heap.size w w1 := Below.grown (show Below w.heap.size w _ from (by repeat (first | with_reducible exact Below.refl _ _ | with_reducible assumption | with_reducible refine bel_alloc ?_ _ | with_reducible refine bel_drew ?_ | with_reducible refine bel_drewN ?_ _ | (with_reducible refine bel_set ?_ ?_ _; rotate_left; ((try simp); (try omega)))))) hg1 (by (try simp); (try omega)) (fun b hb => by simp [ownB] at hb; omega)
  have hl1 : ([k] ++ xs).length = xs.length + 1 := by simp
  go_wp2_with (at_builtin; refine wpList_app (c := cI) (B := w.heap.size) (xs := [k] ++ xs) (ys := [k]) (Fi := []) (Fy := []) _ rfl _ _ _ rfl i0 _ _ Try.underlying26 hi0 hz0 hz1 hz2 rfl (by decide) (v := v1) rfl (ho1.bel (by repeat (first | with_reducible exact Below.refl _ _ | with_reducible assumption | with_reducible refine bel_alloc ?_ _ | with_reducible refine bel_drew ?_ | with_reducible refine bel_drewN ?_ _ | (with_reducible refine bel_set ?_ ?_ _; rotate_left; ((try simp); (try omega)))))) (.slice (some ⟨w1.heap.size, 0, none⟩) 1 1) rfl ⟨_, 1, [.int .i64 k], rfl, repsI HS.out.2, fun _ => ⟨_, rfl, fun j u hu => by cases j with | zero => (simp at hu; subst hu; rw [Addr.add_lit]; exact (Blk.new w1 3 #[.int .i64 k]).cell 0) | succ j => simp at hu⟩⟩ (by have := HS.out.1; rw [hl1]; unfold maxLen; simp; omega) (by have := HS.out.1; rw [hl1]; simp; omega) (by have := hb1.size; (try simp); (try omega)) (by simp) ?_)
  intro v2 w2 ho2 hg2 hat2
  replace ho2 : Own cI 3 w.heap.size w2 v2 (([k] ++ xs) ++ [k]) [] := ho2
  have hb2 : Below w.heap.size w w2 := Below.grown (show Below w.heap.size w _ from (by repeat (first | with_reducible exact Below.refl _ _ | with_reducible assumption | with_reducible refine bel_alloc ?_ _ | with_reducible refine bel_drew ?_ | with_reducible refine bel_drewN ?_ _ | (with_reducible refine bel_set ?_ ?_ _; rotate_left; ((try simp); (try omega)))))) hg2 (by have := hb1.size; (try simp); (try omega)) (fun b hb => (ho1.lt b hb).1)
  obtain ⟨G, hr2, -, -⟩ := ho2.fresh (hw := by decide) (hw2 := by decide)
  go_wp2_with (go_at_call 153; refine (specHash_any _ (([k] ++ xs) ++ [k]) _ _ (by exact hr2) (by have := HS.out.1; simp; omega)).mono ?_; rintro e w3 ⟨rfl, rfl⟩)
  go_ret
  exact ⟨rfl, hb2⟩
set_option maxRecDepth 100000 in
set_option maxHeartbeats 2000000 in
theorem implKeyedHash_any (k : Int) (v : Value) (xs : List Int) (F : List Nat) (w : World) (h : cIS.rep w [v] xs F) (hn : xs.length ≤ 4000000) (hk : -9223372036854775808 ≤ k ∧ k ≤ 9223372036854775807) :
    Calls Try.prog 85 #[.int .i64 k, v] w (Gives w (.int .i64 (keyedHash k xs))) := by
  obtain ⟨i0, hi0, hz0, hz1, hz2⟩ := info_parts infoInt
  obtain ⟨A, cp, rfl⟩ := cL_form h
  have HS := Lib.hid (And.intro hn hk)
  clear hn hk
  go_enter Try.func85, Try.ntmps85
  go_wp2_with (at_builtin; refine wpList_app (c := cI) (B := w.heap.size) (xs := [k]) (ys := xs) (Fi := []) (Fy := []) _ rfl _ _ _ rfl i0 _ _ Try.underlying26 hi0 hz0 hz1 hz2 rfl (by decide) (v := .slice (some ⟨w.heap.size, 0, none⟩) 1 1) rfl (Own.of_new 3 1 rfl (by decide) (by decide) rfl (repsI HS.out.2)) (.slice A xs.length cp) rfl (AppSrc.flat (hw := by decide) (hw2 := by decide) flat_I (Cod.bel h (by repeat (first | with_reducible exact Below.refl _ _ | with_reducible assumption | with_reducible refine bel_alloc ?_ _ | with_reducible refine bel_drew ?_ | with_reducible refine bel_drewN ?_ _ | (with_reducible refine bel_set ?_ ?_ _; rotate_left; ((try simp); (try omega))))))) (by have := HS.out.1; unfold maxLen; simp; omega) (by have := HS.out.1; simp; omega) (by (try simp); (try omega)) (by simp [ownB]) ?_)
  intro v1 w1 ho1 hg1 hat1
  replace ho1 : Own cI 3 w.heap.size w1 v1 ([k] ++ xs) [] := ho1
  have hb1 : Below w.heap.size w w1 := Below.grown (show Below w.heap.size w _ from (by repeat (first | with_reducible exact Below.refl _ _ | with_reducible assumption | with_reducible refine bel_alloc ?_ _ | with_reducible refine bel_drew ?_ | with_reducible refine bel_drewN ?_ _ | (with_reducible refine bel_set ?_ ?_ _; rotate_left; ((try simp); (try omega)))))) hg1 (by (try simp); (try omega)) (fun b hb => by simp [ownB] at hb; omega)
  have hl1 : ([k] ++ xs).length = xs.length + 1 := by simp
  go_wp2_with (at_builtin; refine wpList_app (c := cI) (B := w.heap.size) (xs := [k] ++ xs) (ys := [k]) (Fi := []) (Fy := []) _ rfl _ _ _ rfl i0 _ _ Try.underlying26 hi0 hz0 hz1 hz2 rfl (by decide) (v := v1) rfl (ho1.bel (by repeat (first | with_reducible exact Below.refl _ _ | with_reducible assumption | with_reducible refine bel_alloc ?_ _ | with_reducible refine bel_drew ?_ | with_reducible refine bel_drewN ?_ _ | (with_reducible refine bel_set ?_ ?_ _; rotate_left; ((try simp); (try omega)))))) (.slice (some ⟨w1.heap.size, 0, none⟩) 1 1) rfl ⟨_, 1, [.int .i64 k], rfl, repsI HS.out.2, fun _ => ⟨_, rfl, fun j u hu => by cases j with | zero => (simp at hu; subst hu; rw [Addr.add_lit]; exact (Blk.new w1 3 #[.int .i64 k]).cell 0) | succ j => simp at hu⟩⟩ (by have := HS.out.1; rw [hl1]; unfold maxLen; simp; omega) (by have := HS.out.1; rw [hl1]; simp; omega) (by have := hb1.size; (try simp); (try omega)) (by simp) ?_)
  intro v2 w2 ho2 hg2 hat2
  replace ho2 : Own cI 3 w.heap.size w2 v2 (([k] ++ xs) ++ [k]) [] := ho2
  have hb2 : Below w.heap.size w w2 := Below.grown (show Below w.heap.size w _ from (by repeat (first | with_reducible exact Below.refl _ _ | with_reducible assumption | with_reducible refine bel_alloc ?_ _ | with_reducible refine bel_drew ?_ | with_reducible refine bel_drewN ?_ _ | (with_reducible refine bel_set ?_ ?_ _; rotate_left; ((try simp); (try omega)))))) hg2 (by have := hb1.size; (try simp); (try omega)) (fun b hb => (ho1.lt b hb).1)
  obtain ⟨G, hr2, -, -⟩ := ho2.fresh (hw := by decide) (hw2 := by decide)
  go_wp2_with (go_at_call 134; refine (implHash_any _ (([k] ++ xs) ++ [k]) _ _ (by exact hr2) (by have := HS.out.1; simp; omega)).mono ?_; rintro e w3 ⟨rfl, rfl⟩)
  go_ret
  exact ⟨rfl, hb2⟩

/-! ### A text's bytes as numbers -/
theorem repsU (w : World) : ∀ l : List UInt8, cU.reps w (l.map fun b => Value.int .u8 (b.toNat : Int)) l []
  | [] => ⟨rfl, rfl⟩
  | b :: l => ⟨[_], _, [], [], rfl, rfl, ⟨rfl, rfl⟩, repsU w l⟩
theorem conv_str (w : World) (s : ByteArray) (hs : s.size ≤ maxLen) : ∃ cp w' F, Sem.run Try.prog (convert 9 22 (.string s)) w = .ok (.slice (some ⟨w.heap.size, 0, none⟩) s.size cp) w' ∧ Below w.heap.size w w' ∧
    cUS.rep w' [.slice (some ⟨w.heap.size, 0, none⟩) s.data.toList.length cp] s.data.toList F := by
  have hlen : s.data.toList.length = s.size := (Array.length_toList : s.data.toList.length = s.data.size)
  have hle := grownCap_ge w s.size 0 5
  have hcm := grownCap_le_maxLen w s.size 0 5 hs
  refine ⟨grownCap w s.size 0 5, _, if s.data.toList = [] then [] else [w.heap.size], run_bytes_of_string (P := Try.prog) w _ _ _ s Try.underlying9 Try.underlying22 Try.underlying5, bel_alloc (Below.refl _ _).drew _, ?_⟩
  by_cases h0 : s.data.toList = []
  · rw [if_pos h0]
    rw [h0]
    exact ⟨_, _, rfl, Nat.zero_le _, hcm, .inl ⟨rfl, rfl⟩⟩
  · rw [if_neg h0]
    refine ⟨_, _, rfl, by rw [hlen]; exact hle, hcm, .inr ⟨h0, w.heap.size, 0, [], _, rfl, rfl, fun j u hu => ?_, repsU _ _⟩⟩
    have hj : j < s.data.size := by
      have := (List.getElem?_eq_some_iff.1 hu).1
      simpa using this
    have hu2 : u = .int .u8 (s.data[j].toNat : Int) := by
      rw [List.getElem?_map] at hu
      simp at hu
      obtain ⟨a, ha, hau⟩ := hu
      rw [Array.getElem?_eq_getElem hj, Option.some.injEq] at ha
      rw [← hau, ← ha]
    subst hu2
    have hh : (w.drew.alloc (.cells (bytesRow s (grownCap w s.size 0 5)) 5 ((bytesRow s (grownCap w s.size 0 5)).size, (bytesRow s (grownCap w s.size 0 5)).size + 1))).heap[w.heap.size]? = some (.cells (bytesRow s (grownCap w s.size 0 5)) 5 ((bytesRow s (grownCap w s.size 0 5)).size, (bytesRow s (grownCap w s.size 0 5)).size + 1)) := heap_alloc_new w.drew _
    have hbs : j < (bytesRow s (grownCap w s.size 0 5)).size := by
      have h9 := bytesRow_at s (grownCap w s.size 0 5) j hj
      exact (Array.getElem?_eq_some_iff.1 h9).1
    refine ⟨?_, ?_⟩
    · rw [cell_of_row _ w.heap.size (0 + j) _ _ _ hh, Nat.zero_add]
      exact bytesRow_at s _ j hj
    · unfold World.frozen?
      rw [hh]
      simp; omega
end Go.Proofs.Ytlicnppfgfjkgaa
namespace Go.Proofs.Ytlicnppfgfjkgaa
open Go.ChangeShapes Go.WideShapes Go.RowKit
set_option linter.unusedVariables false

def biTo (n : Int) (xs : List UInt8) (k : Nat) : List Int := n :: (xs.take k).map fun x => (x.toNat : Int)
theorem bytesInts_take {xs : List UInt8} {k : Nat} (h : k < xs.length) (n : Int) : biTo n xs k ++ [(xs[k].toNat : Int)] = biTo n xs (k + 1) := by
  unfold biTo
  rw [List.take_succ_eq_append_getElem h, List.map_append]; rfl
theorem src_int {w : World} {n : Int} (h : -9223372036854775808 ≤ n ∧ n ≤ 9223372036854775807) : AppSrc cI (w.alloc (.cells #[.int .i64 n] 3)) (.slice (some ⟨w.heap.size, 0, none⟩) 1 1) [n] [] :=
  ⟨_, 1, [.int .i64 n], rfl, repsI h, fun _ => ⟨_, rfl, fun j u hu => by cases j with | zero => (simp at hu; subst hu; rw [Addr.add_lit]; exact (Blk.new w 3 #[.int .i64 n]).cell 0) | succ j => simp at hu⟩⟩
set_option maxRecDepth 100000 in
set_option maxHeartbeats 2000000 in
theorem specBytesToInts_any (v : Value) (xs : List UInt8) (F : List Nat) (w : World) (h : cUS.rep w [v] xs F) (hn : xs.length ≤ 2097152) :
    Calls Try.prog 154 #[v] w (GivesS cIS w (bytesInts xs)) := by
  obtain ⟨i0, hi0, hz0, hz1, hz2⟩ := info_parts infoInt
  obtain ⟨A, cp, rfl⟩ := cL_form h
  obtain ⟨-, hcp, hm⟩ := cL_len h
  unfold maxLen at hm
  obtain ⟨n, hxn⟩ : ∃ n, xs.length = n := ⟨_, rfl⟩
  have HN := Lib.hid hxn
  rw [hxn] at h hcp hn ⊢
  clear hxn
  go_enter Try.func154, Try.ntmps154
  go_wp2
  generalize hW : World.alloc _ _ = W
  have hown0 : Own cI 3 w.heap.size W (.slice (some ⟨w.heap.size, 0, none⟩) 1 1) [(n : Int)] [] := by rw [← hW]; exact Own.of_new 3 1 rfl (by decide) (by decide) rfl (repsI (by omega))
  have hbW : Below w.heap.size w W := by rw [← hW]; exact (by repeat (first | with_reducible exact Below.refl _ _ | with_reducible assumption | with_reducible refine bel_alloc ?_ _ | with_reducible refine bel_drew ?_ | with_reducible refine bel_drewN ?_ _ | (with_reducible refine bel_set ?_ ?_ _; rotate_left; ((try simp); (try omega)))))
  clear hW
  have HO := Lib.hid hown0
  clear hown0
  go_loopw [3, 4] (fun a i wr => ∃ k : Nat, k ≤ n ∧ i = .int .i64 k ∧ Own cI 3 w.heap.size wr a (biTo n xs k) [] ∧ Below w.heap.size w wr) (fun _ i _ => n - (intOf i).toNat)
  case atStart => exact ⟨0, Nat.zero_le _, rfl, HO.out, hbW⟩
  case round =>
    obtain ⟨k, hk, rfl, hown, hB⟩ := hrel
    have hlen : (biTo n xs k).length = k + 1 := by unfold biTo; simp only [List.length_cons, List.length_map, List.length_take]; have := HN.out; omega
    have HW := Lib.hid (And.intro hown hlen)
    clear hown hlen
    by_cases hlt : k < n
    · have hkx : k < xs.length := by rw [HN.out]; exact hlt
      obtain ⟨g, o, vs, F3, rfl, hgF, ⟨rfl, -⟩, -, hc⟩ := cL_get (hw := by decide) (hw2 := by decide) h hkx
      have hgw : g < w.heap.size := Cod.lt _ h g hgF
      have q0 := (hB.cell (p := ⟨g, o + k * 1 + 0, none⟩) hgw).trans ((hc 0 _ rfl).1)
      rw [Nat.mul_one, Nat.add_zero] at q0
      have hl := xs[k].toNat_lt
      have hki : (k : Int) < (n : Int) := by omega
      have hbt := bytesInts_take hkx (n : Int)
      have HT := Lib.hid hbt
      clear hc hbt
      obtain ⟨q, hq⟩ : ∃ q : Nat, xs[k].toNat = q := ⟨_, rfl⟩
      rw [hq] at q0 hl HT
      clear hq
      have hqb : (q : Int) ≤ 255 := by omega
      go_wp2_with (at_builtin; refine wpList_app (c := cI) (B := w.heap.size) (xs := biTo n xs k) (ys := [(q : Int)]) (Fi := []) (Fy := []) _ rfl _ _ _ rfl i0 _ _ Try.underlying26 hi0 hz0 hz1 hz2 rfl (by decide) rfl (HW.out.1.bel (by repeat (first | with_reducible exact Below.refl _ _ | with_reducible assumption | with_reducible refine bel_alloc ?_ _ | with_reducible refine bel_drew ?_ | with_reducible refine bel_drewN ?_ _ | (with_reducible refine bel_set ?_ ?_ _; rotate_left; ((try simp); (try omega)))))) (.slice (some ⟨wr.heap.size, 0, none⟩) 1 1) rfl (src_int (by omega)) (by rw [HW.out.2]; unfold maxLen; simp; omega) (by rw [HW.out.2]; simp; omega) (by have := hB.size; (try simp); (try omega)) (by simp) ?_)
      intro v2 w2 ho2 hg2 hat2
      rw [HT.out] at ho2
      have hb2 : Below w.heap.size w w2 := Below.grown (show Below w.heap.size w _ from (by repeat (first | with_reducible exact Below.refl _ _ | with_reducible assumption | with_reducible refine bel_alloc ?_ _ | with_reducible refine bel_drew ?_ | with_reducible refine bel_drewN ?_ _ | (with_reducible refine bel_set ?_ ?_ _; rotate_left; ((try simp); (try omega)))))) hg2 (by have := hB.size; (try simp); (try omega)) (fun b hb => (HW.out.1.lt b hb).1)
      have HO2 := Lib.hid ho2
      clear ho2 hg2 hat2
      go_wp2_with fail
      go_roundw
      case rel => exact ⟨k + 1, by omega, by go_num, HO2.out, hb2⟩
      case measure => simp [intOf]; omega
    · obtain rfl : k = n := by omega
      obtain ⟨G, hr2, hf2, -⟩ := HW.out.1.fresh (hw := by decide) (hw2 := by decide)
      have htl : xs.take k = xs := List.take_of_length_le (by rw [HN.out]; exact Nat.le_refl _)
      unfold biTo at hr2
      rw [htl] at hr2
      have HR := Lib.hid hr2
      clear hr2 htl
      go_wp2
      go_ret
      exact ⟨_, G, rfl, hB, by have h9 := HR.out; unfold bytesInts; rw [HN.out]; exact h9, hf2⟩
set_option maxRecDepth 100000 in
set_option maxHeartbeats 2000000 in
theorem implBytesToInts_any (v : Value) (xs : List UInt8) (F : List Nat) (w : World) (h : cUS.rep w [v] xs F) (hn : xs.length ≤ 2097152) :
    Calls Try.prog 135 #[v] w (GivesS cIS w (bytesInts xs)) := by
  obtain ⟨i0, hi0, hz0, hz1, hz2⟩ := info_parts infoInt
  obtain ⟨A, cp, rfl⟩ := cL_form h
  obtain ⟨-, hcp, hm⟩ := cL_len h
  unfold maxLen at hm
  obtain ⟨n, hxn⟩ : ∃ n, xs.length = n := ⟨_, rfl⟩
  have HN := Lib.hid hxn
  rw [hxn] at h hcp hn ⊢
  clear hxn
  go_enter Try.func135, Try.ntmps135
  go_wp2
  generalize hW : World.alloc _ _ = W
  have hown0 : Own cI 3 w.heap.size W (.slice (some ⟨w.heap.size, 0, none⟩) 1 1) [(n : Int)] [] := by rw [← hW]; exact Own.of_new 3 1 rfl (by decide) (by decide) rfl (repsI (by omega))
  have hbW : Below w.heap.size w W := by rw [← hW]; exact (by repeat (first | with_reducible exact Below.refl _ _ | with_reducible assumption | with_reducible refine bel_alloc ?_ _ | with_reducible refine bel_drew ?_ | with_reducible refine bel_drewN ?_ _ | (with_reducible refine bel_set ?_ ?_ _; rotate_left; ((try simp); (try omega)))))
  clear hW
  have HO := Lib.hid hown0
  clear hown0
  go_loopw [3, 11] (fun a i wr => ∃ k : Nat, k ≤ n ∧ i = .int .i64 k ∧ Own cI 3 w.heap.size wr a (biTo n xs k) [] ∧ Below w.heap.size w wr) (fun _ i _ => n - (intOf i).toNat)
  case atStart => exact ⟨0, Nat.zero_le _, rfl, HO.out, hbW⟩
  case round =>
    obtain ⟨k, hk, rfl, hown, hB⟩ := hrel
    have hlen : (biTo n xs k).length = k + 1 := by unfold biTo; simp only [List.length_cons, List.length_map, List.length_take]; have := HN.out; omega
    have HW := Lib.hid (And.intro hown hlen)
    clear hown hlen
    by_cases hlt : k < n
    · have hkx : k < xs.length := by rw [HN.out]; exact hlt
      obtain ⟨g, o, vs, F3, rfl, hgF, ⟨rfl, -⟩, -, hc⟩ := cL_get (hw := by decide) (hw2 := by decide) h hkx
      have hgw : g < w.heap.size := Cod.lt _ h g hgF
      have q0 := (hB.cell (p := ⟨g, o + k * 1 + 0, none⟩) hgw).trans ((hc 0 _ rfl).1)
      rw [Nat.mul_one, Nat.add_zero] at q0
      have hl := xs[k].toNat_lt
      have hki : (k : Int) < (n : Int) := by omega
      have hbt := bytesInts_take hkx (n : Int)
      have HT := Lib.hid hbt
      clear hc hbt
      obtain ⟨q, hq⟩ : ∃ q : Nat, xs[k].toNat = q := ⟨_, rfl⟩
      rw [hq] at q0 hl HT
      clear hq
      have hqb : (q : Int) ≤ 255 := by omega
      go_wp2_with (at_builtin; refine wpList_app (c := cI) (B := w.heap.size) (xs := biTo n xs k) (ys := [(q : Int)]) (Fi := []) (Fy := []) _ rfl _ _ _ rfl i0 _ _ Try.underlying26 hi0 hz0 hz1 hz2 rfl (by decide) rfl (HW.out.1.bel (by repeat (first | with_reducible exact Below.refl _ _ | with_reducible assumption | with_reducible refine bel_alloc ?_ _ | with_reducible refine bel_drew ?_ | with_reducible refine bel_drewN ?_ _ | (with_reducible refine bel_set ?_ ?_ _; rotate_left; ((try simp); (try omega)))))) (.slice (some ⟨wr.heap.size, 0, none⟩) 1 1) rfl (src_int (by omega)) (by rw [HW.out.2]; unfold maxLen; simp; omega) (by rw [HW.out.2]; simp; omega) (by have := hB.size; (try simp); (try omega)) (by simp) ?_)
      intro v2 w2 ho2 hg2 hat2
      rw [HT.out] at ho2
      have hb2 : Below w.heap.size w w2 := Below.grown (show Below w.heap.size w _ from (by repeat (first | with_reducible exact Below.refl _ _ | with_reducible assumption | with_reducible refine bel_alloc ?_ _ | with_reducible refine bel_drew ?_ | with_reducible refine bel_drewN ?_ _ | (with_reducible refine bel_set ?_ ?_ _; rotate_left; ((try simp); (try omega)))))) hg2 (by have := hB.size; (try simp); (try omega)) (fun b hb => (HW.out.1.lt b hb).1)
      have HO2 := Lib.hid ho2
      clear ho2 hg2 hat2
      go_wp2_with fail
      go_roundw
      case rel => exact ⟨k + 1, by omega, by go_num, HO2.out, hb2⟩
      case measure => simp [intOf]; omega
    · obtain rfl : k = n := by omega
      obtain ⟨G, hr2, hf2, -⟩ := HW.out.1.fresh (hw := by decide) (hw2 := by decide)
      have htl : xs.take k = xs := List.take_of_length_le (by rw [HN.out]; exact Nat.le_refl _)
      unfold biTo at hr2
      rw [htl] at hr2
      have HR := Lib.hid hr2
      clear hr2 htl
      go_wp2
      go_ret
      exact ⟨_, G, rfl, hB, by have h9 := HR.out; unfold bytesInts; rw [HN.out]; exact h9, hf2⟩
set_option maxRecDepth 100000 in
set_option maxHeartbeats 2000000 in
theorem implDerive_any (k : Int) (s : ByteArray) (w : World) (hk : -9223372036854775808 ≤ k ∧ k ≤ 9223372036854775807) (hs : s.size ≤ 2097152) :
    Calls Try.prog 86 #[.int .i64 k, .string s] w (Gives w (.int .i64 (derive k s))) := by
  obtain ⟨cp, wc, F, hcv, hbc, hrc⟩ := conv_str w s (by unfold maxLen; omega)
  have hsl : s.data.toList.length = s.size := (Array.length_toList : s.data.toList.length = s.data.size)
  have HS := Lib.hid (And.intro hrc (And.intro hsl (And.intro hs hk)))
  obtain ⟨q, hq⟩ : ∃ q, keyedHash k (bytesInts s.data.toList) = q := ⟨_, rfl⟩
  have HQ := Lib.hid hq
  have HD := Lib.hid (show derive k s = if q = 0 then 1 else q by unfold derive; rw [hq])
  have hqr := hashL_range (([k] ++ bytesInts s.data.toList) ++ [k])
  rw [show hashL (([k] ++ bytesInts s.data.toList) ++ [k]) = q from hq] at hqr
  clear hrc hsl hs hk hq
  by_cases h0 : q = 0
  · subst h0
    go_enter Try.func86, Try.ntmps86
    go_wp2_with (first | (go_at_call 135; rw [← HS.out.2.1]; refine (implBytesToInts_any _ _ _ _ (by exact HS.out.1) (by rw [HS.out.2.1]; exact HS.out.2.2.1)).mono ?_; rintro e w1 ⟨v1, G1, rfl, hb1, hr1, hf1⟩; have hb01 : Below w.heap.size w w1 := bel_then hbc hb1) | (go_at_call 85; refine (implKeyedHash_any _ _ _ _ _ (by exact hr1) (by unfold bytesInts; simp only [List.length_cons, List.length_map]; have := HS.out.2; omega) HS.out.2.2.2).mono ?_; rw [HQ.out]; rintro e w2 ⟨rfl, hb2⟩; have hb02 : Below w.heap.size w w2 := bel_then hb01 hb2))
    go_ret
    exact ⟨ret_int (by rw [HD.out]; rfl), hb02⟩
  · have h0b : (q == 0) = false := by simp [h0]
    go_enter Try.func86, Try.ntmps86
    go_wp2_with (first | (go_at_call 135; rw [← HS.out.2.1]; refine (implBytesToInts_any _ _ _ _ (by exact HS.out.1) (by rw [HS.out.2.1]; exact HS.out.2.2.1)).mono ?_; rintro e w1 ⟨v1, G1, rfl, hb1, hr1, hf1⟩; have hb01 : Below w.heap.size w w1 := bel_then hbc hb1) | (go_at_call 85; refine (implKeyedHash_any _ _ _ _ _ (by exact hr1) (by unfold bytesInts; simp only [List.length_cons, List.length_map]; have := HS.out.2; omega) HS.out.2.2.2).mono ?_; rw [HQ.out]; rintro e w2 ⟨rfl, hb2⟩; have hb02 : Below w.heap.size w w2 := bel_then hb01 hb2))
    go_ret
    exact ⟨ret_int (by rw [HD.out, if_neg h0]), hb02⟩
set_option maxRecDepth 100000 in
set_option maxHeartbeats 2000000 in
theorem specDerive_any (k : Int) (s : ByteArray) (w : World) (hk : -9223372036854775808 ≤ k ∧ k ≤ 9223372036854775807) (hs : s.size ≤ 2097152) :
    Calls Try.prog 116 #[.int .i64 k, .string s] w (Gives w (.int .i64 (derive k s))) := by
  obtain ⟨cp, wc, F, hcv, hbc, hrc⟩ := conv_str w s (by unfold maxLen; omega)
  have hsl : s.data.toList.length = s.size := (Array.length_toList : s.data.toList.length = s.data.size)
  have HS := Lib.hid (And.intro hrc (And.intro hsl (And.intro hs hk)))
  obtain ⟨q, hq⟩ : ∃ q, keyedHash k (bytesInts s.data.toList) = q := ⟨_, rfl⟩
  have HQ := Lib.hid hq
  have hqr := hashL_range (([k] ++ bytesInts s.data.toList) ++ [k])
  rw [show hashL (([k] ++ bytesInts s.data.toList) ++ [k]) = q from hq] at hqr
  have HD := Lib.hid (show maxI 1 q = derive k s by unfold derive maxI; rw [hq]; split <;> split <;> omega)
  clear hrc hsl hs hk hq
  go_enter Try.func116, Try.ntmps116
  go_wp2_with (first | (go_at_call 154; rw [← HS.out.2.1]; refine (specBytesToInts_any _ _ _ _ (by exact HS.out.1) (by rw [HS.out.2.1]; exact HS.out.2.2.1)).mono ?_; rintro e w1 ⟨v1, G1, rfl, hb1, hr1, hf1⟩; have hb01 : Below w.heap.size w w1 := bel_then hbc hb1) | (go_at_call 115; refine (specKeyedHash_any _ _ _ _ _ (by exact hr1) (by unfold bytesInts; simp only [List.length_cons, List.length_map]; have := HS.out.2; omega) HS.out.2.2.2).mono ?_; rw [HQ.out]; rintro e w2 ⟨rfl, hb2⟩; have hb02 : Below w.heap.size w w2 := bel_then hb01 hb2) | (go_at_call 84; refine (specMax_any _ _ _).mono ?_; rintro e w1 ⟨rfl, rfl⟩))
  go_ret
  exact ⟨ret_int HD.out, hb02⟩
end Go.Proofs.Ytlicnppfgfjkgaa
namespace Go.Proofs.Ytlicnppfgfjkgaa
open Go.ChangeShapes Go.WideShapes Go.RowKit
set_option linter.unusedVariables false

structure TResp where
  type : Int
  status : Int
  ver : Int
  body : List UInt8
  shares : Bool

def cResp : Cod TResp := cM (cP cI (cP cI (cP cI (cP cUS cB)))) (fun x => (x.type, x.status, x.ver, x.body, x.shares)) (fun a => ⟨a.1, a.2.1, a.2.2.1, a.2.2.2.1, a.2.2.2.2⟩) (fun _ => rfl)

structure TResp.Ok (x : TResp) : Prop where
  h0 : -9223372036854775808 ≤ x.type ∧ x.type ≤ 9223372036854775807
  h1 : -9223372036854775808 ≤ x.status ∧ x.status ≤ 9223372036854775807
  h2 : -9223372036854775808 ≤ x.ver ∧ x.ver ≤ 9223372036854775807

theorem TResp.out {w : World} {vs : List Value} {x : TResp} {F : List Nat} (h : cResp.rep w vs x F) :
    ∃ v3 F3, vs = [Value.int .i64 x.type, .int .i64 x.status, .int .i64 x.ver, v3, .bool x.shares] ∧ F = F3 ∧ x.Ok ∧ cUS.rep w [v3] x.body F3 := by

  obtain ⟨a0, b0, G0, H0, rfl, rfl, ⟨rfl, rfl, h0⟩, a1, b1, G1, H1, rfl, rfl, ⟨rfl, rfl, h1⟩, a2, b2, G2, H2, rfl, rfl, ⟨rfl, rfl, h2⟩, a3, b3, G3, H3, rfl, rfl, h3, rfl, rfl⟩ := h
  obtain ⟨A3, cp3, rfl, k3⟩ := h3
  exact ⟨_, G3, rfl, by simp, ⟨h0, h1, h2⟩, ⟨A3, cp3, rfl, k3⟩⟩

theorem TResp.mk_ {w : World} {x : TResp} {v3 : Value} {F3 : List Nat} (h : x.Ok) (k3 : cUS.rep w [v3] x.body F3) : cResp.rep w [Value.int .i64 x.type, .int .i64 x.status, .int .i64 x.ver, v3, .bool x.shares] x (F3) := by

  exact ⟨[_], _, [], F3, rfl, by simp, ⟨rfl, rfl, h.h0⟩, ⟨[_], _, [], F3, rfl, by simp, ⟨rfl, rfl, h.h1⟩, ⟨[_], _, [], F3, rfl, by simp, ⟨rfl, rfl, h.h2⟩, ⟨[_], _, F3, [], rfl, by simp, k3, ⟨rfl, rfl⟩⟩⟩⟩⟩

theorem opens_lResp : Opens Try.prog 186 cResp := opens_map (opens_struct Try.underlying186 (by kernel_rfl) (opensFs_cons rfl (opens_int Try.underlying3 (by kernel_rfl)) (opensFs_cons rfl (opens_int Try.underlying3 (by kernel_rfl)) (opensFs_cons rfl (opens_int Try.underlying3 (by kernel_rfl)) (opensFs_cons rfl opens_US (opensFs_one rfl (opens_bool Try.underlying4 (by kernel_rfl))))))))

theorem TResp.outA {w : World} {vs : Array Value} {x : TResp} {F : List Nat} (h : cResp.rep w vs.toList x F) :
    ∃ v3 F3, vs = #[Value.int .i64 x.type, .int .i64 x.status, .int .i64 x.ver, v3, .bool x.shares] ∧ F = F3 ∧ x.Ok ∧ cUS.rep w [v3] x.body F3 := by
  obtain ⟨a0, a1, e, f, r⟩ := TResp.out h
  exact ⟨a0, a1, Array.toList_inj.1 e, f, r⟩

end Go.Proofs.Ytlicnppfgfjkgaa
namespace Go.Proofs.Ytlicnppfgfjkgaa
open Go.RowKit
theorem Cod.setA {α : Type} {c : Cod α} {w : World} {vs : List Value} {x : α} {F : List Nat} (h : c.rep w vs x F) {p : Addr} (hp : p.block ∉ F) (v : Value) : c.rep (w.setCell p v) vs x F :=
  c.keep h fun b hb => Below.heap_setCell _ _ _ _ (fun e => hp (by rw [← e]; exact hb))
theorem Cod.allocA {α : Type} {c : Cod α} {w : World} {vs : List Value} {x : α} {F : List Nat} (h : c.rep w vs x F) (o : Obj) : c.rep (w.alloc o) vs x F :=
  Cod.bel h (bel_alloc (Below.refl _ _) o)
theorem Cod.drewA {α : Type} {c : Cod α} {w : World} {vs : List Value} {x : α} {F : List Nat} (h : c.rep w vs x F) : c.rep w.drew vs x F :=
  Cod.bel h (Below.refl _ _).drew
theorem Cod.drewNA {α : Type} {c : Cod α} {w : World} {vs : List Value} {x : α} {F : List Nat} (h : c.rep w vs x F) (n : Nat) : c.rep (w.drewN n) vs x F :=
  Cod.bel h (bel_drewN (Below.refl _ _) n)
end Go.Proofs.Ytlicnppfgfjkgaa
namespace Go.Proofs.Ytlicnppfgfjkgaa
open Go.ChangeShapes Go.WideShapes Go.RowKit
set_option linter.unusedVariables false

theorem infoU8 : (Try.prog.info? 5).map (fun i => (i.zero, i.size, i.bytes)) = some (some (Value.int .u8 0), 1, 1) := by kernel_rfl
theorem TResp.len {x : TResp} (hn : cResp.sz x ≤ 1048576) : x.body.length ≤ 1048576 := by
  have h1 := Cod.len_le cU x.body
  have : cResp.sz x = 0 + (0 + (0 + (cU.szs x.body + 0))) := rfl
  omega
set_option maxRecDepth 100000 in
set_option maxHeartbeats 2000000 in
theorem implCopyBytes_any (v : Value) (xs : List UInt8) (F : List Nat) (w : World) (h : cUS.rep w [v] xs F) (hn : xs.length ≤ 1048576) :
    Calls Try.prog 140 #[v] w (GivesS cUS w xs) := by
  obtain ⟨i0, hi0, hz0, hz1, hz2⟩ := info_parts infoU8
  obtain ⟨A, c, rfl⟩ := cL_form h
  have HS := Lib.hid hn
  clear hn
  go_enter Try.func140, Try.ntmps140
  go_wp2_with (at_builtin; refine wpList_app (c := cU) (xs := []) (ys := xs) (Fi := []) (Fy := []) _ rfl _ _ _ rfl i0 _ _ Try.underlying22 hi0 hz0 hz1 hz2 rfl (by decide) (v := .slice (some _) 0 0) rfl (Own.empty _) (.slice A xs.length c) rfl (AppSrc.flat (hw := by decide) (hw2 := by decide) flat_U (Cod.bel h (by repeat (first | with_reducible exact Below.refl _ _ | with_reducible assumption | with_reducible refine bel_alloc ?_ _ | with_reducible refine bel_drew ?_ | with_reducible refine bel_drewN ?_ _ | (with_reducible refine bel_set ?_ ?_ _; rotate_left; ((try simp); (try omega))))))) (by have := HS.out; unfold maxLen; simp; omega) (by have := HS.out; simp; omega) (Nat.le_refl _) (by simp [ownB]) ?_)
  intro v1 w1 ho hg hat
  replace ho : Own cU 5 _ w1 v1 xs [] := ho
  have hb : Below _ _ w1 := (Below.refl _ _).grown hg (Nat.le_refl _) (by simp [ownB])
  have hb1 : Below w.heap.size w w1 := bel_then (by repeat (first | with_reducible exact Below.refl _ _ | with_reducible assumption | with_reducible refine bel_alloc ?_ _ | with_reducible refine bel_drew ?_ | with_reducible refine bel_drewN ?_ _ | (with_reducible refine bel_set ?_ ?_ _; rotate_left; ((try simp); (try omega))))) hb
  obtain ⟨G, k2, f2, g2⟩ := ho.fresh (hw := by decide) (hw2 := by decide)
  go_wp2_with fail
  go_ret
  exact ⟨_, G, rfl, hb1, k2, f2.mono (by simp)⟩
set_option maxRecDepth 100000 in
set_option maxHeartbeats 4000000 in
theorem implCopyResp_any (vs : Array Value) (x : TResp) (F : List Nat) (w : World) (h : cResp.rep w vs.toList x F) (hn : cResp.sz x ≤ 1048576) :
    Calls Try.prog 94 #[.agg vs] w (GivesR cResp w x) := by
  have hlen := TResp.len hn
  obtain ⟨u3, F3, rfl, -, hok, m3⟩ := TResp.outA h
  obtain ⟨A3, c3, rfl⟩ := cL_form m3
  clear h hn
  go_enter Try.func94, Try.ntmps94
  go_wp2_with fail
  refine (implCopyBytes_any _ x.body _ _ (by exact Cod.bel m3 (by repeat (first | with_reducible exact Below.refl _ _ | with_reducible assumption | with_reducible refine bel_alloc ?_ _ | with_reducible refine bel_drew ?_ | with_reducible refine bel_drewN ?_ _ | (with_reducible refine bel_set ?_ ?_ _; rotate_left; ((try simp); (try omega)))))) hlen).mono ?_
  rintro e w1 ⟨v1, G1, rfl, hb1, n1, f1⟩
  obtain ⟨B1, d1, e1⟩ := cL_form n1
  subst e1
  have hz_w1 := hb1.size
  (try simp at hz_w1)
  have ha0_w1 : w.heap.size < w1.heap.size := by omega
  have ha1_w1 : w.heap.size + 1 < w1.heap.size := by omega
  obtain ⟨hc_w1, hf_w1, -⟩ := bcell hb1
  have hb_w1 : Below w.heap.size w w1 := bel_then (by repeat (first | with_reducible exact Below.refl _ _ | with_reducible assumption | with_reducible refine bel_alloc ?_ _ | with_reducible refine bel_drew ?_ | with_reducible refine bel_drewN ?_ _ | (with_reducible refine bel_set ?_ ?_ _; rotate_left; ((try simp); (try omega))))) hb1
  have k0 : w1.cell? ⟨w.heap.size, 0, none⟩ = some (.int .i64 x.type) := by go_simp
  have k1 : w1.cell? ⟨w.heap.size, 1, none⟩ = some (.int .i64 x.status) := by go_simp
  have k2 : w1.cell? ⟨w.heap.size, 2, none⟩ = some (.int .i64 x.ver) := by go_simp
  have k3 : w1.cell? ⟨w.heap.size, 3, none⟩ = some (.slice A3 x.body.length c3) := by go_simp
  have k4 : w1.cell? ⟨w.heap.size, 4, none⟩ = some (.bool x.shares) := by go_simp
  have j0 : w1.cell? ⟨w.heap.size + 1, 0, none⟩ = some (.int .i64 0) := by go_simp
  have j1 : w1.cell? ⟨w.heap.size + 1, 1, none⟩ = some (.int .i64 0) := by go_simp
  have j2 : w1.cell? ⟨w.heap.size + 1, 2, none⟩ = some (.int .i64 0) := by go_simp
  have j3 : w1.cell? ⟨w.heap.size + 1, 3, none⟩ = some (.slice none 0 0) := by go_simp
  have j4 : w1.cell? ⟨w.heap.size + 1, 4, none⟩ = some (.bool false) := by go_simp
  have f1' : Fresh (w.heap.size + 1 + 1) G1 := f1.mono (by simp)
  clear hb1 f1
  go_wp2_with fail
  refine bodyPost_ret (v := .agg #[.int .i64 x.type, .int .i64 x.status, .int .i64 x.ver, .slice B1 x.body.length d1, .bool x.shares]) (by simp [results, Try.results94, go_sem, *]) rfl ?_
  exact ⟨_, G1, rfl, (by repeat (first | with_reducible exact Below.refl _ _ | with_reducible assumption | with_reducible refine bel_alloc ?_ _ | with_reducible refine bel_drew ?_ | with_reducible refine bel_drewN ?_ _ | (with_reducible refine bel_set ?_ ?_ _; rotate_left; ((try simp); (try omega))))), TResp.mk_ hok (Cod.keep2 n1 f1' (by repeat (first | with_reducible exact Keep.refl _ _ | with_reducible assumption | with_reducible refine Keep.alloc ?_ _ | with_reducible refine Keep.drew ?_ | with_reducible refine Keep.drewN ?_ _ | (with_reducible refine Keep.set_ ?_ ?_ _; rotate_left; ((try simp); (try omega)))))), f1'.mono (by (try simp); (try omega))⟩
set_option maxRecDepth 100000 in
set_option maxHeartbeats 4000000 in
theorem specCopyResp_any (vs : Array Value) (x : TResp) (F : List Nat) (w : World) (h : cResp.rep w vs.toList x F) (hn : cResp.sz x ≤ 1048576) :
    Calls Try.prog 97 #[.agg vs] w (GivesR cResp w x) := by
  obtain ⟨i0, hi0, hz0, hz1, hz2⟩ := info_parts infoU8
  have HS := Lib.hid (TResp.len hn)
  obtain ⟨u3, F3, rfl, -, hok, m3⟩ := TResp.outA h
  obtain ⟨A3, c3, rfl⟩ := cL_form m3
  clear h hn
  go_enter Try.func97, Try.ntmps97
  go_wp2_with (at_builtin; refine wpList_app (c := cU) (xs := []) (ys := x.body) (Fi := []) (Fy := []) _ rfl _ _ _ rfl i0 _ _ Try.underlying22 hi0 hz0 hz1 hz2 rfl (by decide) (v := .slice (some _) 0 0) rfl (Own.empty _) (.slice A3 x.body.length c3) rfl (AppSrc.flat (hw := by decide) (hw2 := by decide) flat_U (Cod.bel m3 (by repeat (first | with_reducible exact Below.refl _ _ | with_reducible assumption | with_reducible refine bel_alloc ?_ _ | with_reducible refine bel_drew ?_ | with_reducible refine bel_drewN ?_ _ | (with_reducible refine bel_set ?_ ?_ _; rotate_left; ((try simp); (try omega))))))) (by have := HS.out; unfold maxLen; simp; omega) (by have := HS.out; simp; omega) (Nat.le_refl _) (by simp [ownB]) ?_)
  intro v1 w1 ho hg hat
  replace ho : Own cU 5 _ w1 v1 x.body [] := ho
  obtain ⟨B1, d1, e1⟩ := ho.slice
  subst e1
  have hb1 : Below _ _ w1 := (Below.refl _ _).grown hg (Nat.le_refl _) (by simp [ownB])
  have hz_w1 := hb1.size
  (try simp at hz_w1)
  have ha0_w1 : w.heap.size < w1.heap.size := by omega
  have ha1_w1 : w.heap.size + 1 < w1.heap.size := by omega
  have ha2_w1 : w.heap.size + 1 + 1 < w1.heap.size := by omega
  obtain ⟨hc_w1, hf_w1, -⟩ := bcell hb1
  have hb_w1 : Below w.heap.size w w1 := bel_then (by repeat (first | with_reducible exact Below.refl _ _ | with_reducible assumption | with_reducible refine bel_alloc ?_ _ | with_reducible refine bel_drew ?_ | with_reducible refine bel_drewN ?_ _ | (with_reducible refine bel_set ?_ ?_ _; rotate_left; ((try simp); (try omega))))) hb1
  have k0 : w1.cell? ⟨w.heap.size, 0, none⟩ = some (.int .i64 x.type) := by go_simp
  have k1 : w1.cell? ⟨w.heap.size, 1, none⟩ = some (.int .i64 x.status) := by go_simp
  have k2 : w1.cell? ⟨w.heap.size, 2, none⟩ = some (.int .i64 x.ver) := by go_simp
  have k3 : w1.cell? ⟨w.heap.size, 3, none⟩ = some (.slice A3 x.body.length c3) := by go_simp
  have k4 : w1.cell? ⟨w.heap.size, 4, none⟩ = some (.bool x.shares) := by go_simp
  have j0 : w1.cell? ⟨w.heap.size + 1, 0, none⟩ = some (.int .i64 0) := by go_simp
  have j1 : w1.cell? ⟨w.heap.size + 1, 1, none⟩ = some (.int .i64 0) := by go_simp
  have j2 : w1.cell? ⟨w.heap.size + 1, 2, none⟩ = some (.int .i64 0) := by go_simp
  have j3 : w1.cell? ⟨w.heap.size + 1, 3, none⟩ = some (.slice none 0 0) := by go_simp
  have j4 : w1.cell? ⟨w.heap.size + 1, 4, none⟩ = some (.bool false) := by go_simp
  have l0 : w1.cell? ⟨w.heap.size + 1 + 1, 0, none⟩ = some (.int .i64 x.type) := by go_simp
  have l1 : w1.cell? ⟨w.heap.size + 1 + 1, 1, none⟩ = some (.int .i64 x.status) := by go_simp
  have l2 : w1.cell? ⟨w.heap.size + 1 + 1, 2, none⟩ = some (.int .i64 x.ver) := by go_simp
  have l3 : w1.cell? ⟨w.heap.size + 1 + 1, 3, none⟩ = some (.slice A3 x.body.length c3) := by go_simp
  have l4 : w1.cell? ⟨w.heap.size + 1 + 1, 4, none⟩ = some (.bool x.shares) := by go_simp
  obtain ⟨G1, n1, f1, g1⟩ := ho.fresh (hw := by decide) (hw2 := by decide)
  have f1' : Fresh (w.heap.size + 1 + 1 + 1) G1 := f1.mono (by simp)
  clear hb1 hg hat ho g1 f1
  go_wp2_with fail
  refine bodyPost_ret (v := .agg #[.int .i64 x.type, .int .i64 x.status, .int .i64 x.ver, .slice B1 x.body.length d1, .bool x.shares]) (by simp [results, Try.results97, go_sem, *]) rfl ?_
  exact ⟨_, G1, rfl, (by repeat (first | with_reducible exact Below.refl _ _ | with_reducible assumption | with_reducible refine bel_alloc ?_ _ | with_reducible refine bel_drew ?_ | with_reducible refine bel_drewN ?_ _ | (with_reducible refine bel_set ?_ ?_ _; rotate_left; ((try simp); (try omega))))), TResp.mk_ hok (Cod.keep2 n1 f1' (by repeat (first | with_reducible exact Keep.refl _ _ | with_reducible assumption | with_reducible refine Keep.alloc ?_ _ | with_reducible refine Keep.drew ?_ | with_reducible refine Keep.drewN ?_ _ | (with_reducible refine Keep.set_ ?_ ?_ _; rotate_left; ((try simp); (try omega)))))), f1'.mono (by (try simp); (try omega))⟩
end Go.Proofs.Ytlicnppfgfjkgaa
namespace Go.Proofs.Ytlicnppfgfjkgaa
open Go.ChangeShapes Go.WideShapes Go.RowKit
set_option linter.unusedVariables false

def bodyHash (s : TSite) (pa : ByteArray) (v : Int) : Int := keyedHash (IntKind.i64.wrap (1 + v)) [103, derive 107 s.name, derive 109 pa]
def bodyByte (h : Int) (j : Nat) : UInt8 := UInt8.ofNat ((h / 2 ^ (8 * (5 - j))) % 256).toNat
def bodyTo (h : Int) (k : Nat) : List UInt8 := if k = 0 then [] else bodyTo h (k - 1) ++ [bodyByte h (k - 1)]
termination_by k
decreasing_by omega
def bodyOf (s : TSite) (pa : ByteArray) (v : Int) : List UInt8 := bodyTo (bodyHash s pa v) 6
theorem bodyTo_zero (h : Int) : bodyTo h 0 = [] := by unfold bodyTo; rfl
theorem bodyTo_succ (h : Int) (k : Nat) : bodyTo h k ++ [bodyByte h k] = bodyTo h (k + 1) := by
  conv => rhs; unfold bodyTo
  rw [if_neg (by omega), Nat.add_sub_cancel]
theorem bodyTo_len (h : Int) : ∀ k : Nat, (bodyTo h k).length = k
  | 0 => by rw [bodyTo_zero]; rfl
  | k + 1 => by rw [← bodyTo_succ, List.length_append, bodyTo_len h k]; rfl
theorem derive_range (k : Int) (s : ByteArray) : 1 ≤ derive k s ∧ derive k s < 2147483647 := by
  have h := hashL_range (([k] ++ bytesInts s.data.toList) ++ [k])
  unfold derive
  split
  · omega
  · exact ⟨by have h2 : 0 ≤ keyedHash k (bytesInts s.data.toList) := h.1; omega, h.2⟩
theorem keyed_range (k : Int) (l : List Int) : 0 ≤ keyedHash k l ∧ keyedHash k l < 2147483647 := hashL_range _
theorem and255 (n : Int) : bits .and .i64 n 255 = n % 256 := by
  have h255 : (BitVec.ofInt 64 255).toNat = 2 ^ 8 - 1 := by decide
  have key : (BitVec.ofInt 64 n &&& BitVec.ofInt 64 255).toNat = (n % ((2 ^ 64 : Nat) : Int)).toNat % 2 ^ 8 := by
    rw [BitVec.toNat_and, BitVec.toNat_ofInt, h255, Nat.and_two_pow_sub_one_eq_mod]
  show IntKind.i64.wrap ((BitVec.ofInt 64 n &&& BitVec.ofInt 64 255).toNat : Nat) = n % 256
  rw [key, IntKind.wrap_i64]
  omega
theorem bodyByte_nat (q : Int) (j : Nat) : ((bodyByte q j).toNat : Int) = (q / 2 ^ (8 * (5 - j))) % 256 := by
  unfold bodyByte
  generalize q / 2 ^ (8 * (5 - j)) = z
  rw [UInt8.toNat_ofNat']; omega
theorem src_u8 {w : World} {b : UInt8} {B : Int} (h : (b.toNat : Int) = B) : AppSrc cU (w.alloc (.cells #[.int .u8 B] 5)) (.slice (some ⟨w.heap.size, 0, none⟩) 1 1) [b] [] := by
  subst h
  exact ⟨_, 1, [.int .u8 (b.toNat : Int)], rfl, Cod.reps_one ⟨rfl, rfl⟩, fun _ => ⟨_, rfl, fun j u hu => by cases j with | zero => (simp at hu; subst hu; rw [Addr.add_lit]; exact (Blk.new w 5 #[.int .u8 (b.toNat : Int)]).cell 0) | succ j => simp at hu⟩⟩
theorem src_three {w : World} {a b c : Int} (ha : -9223372036854775808 ≤ a ∧ a ≤ 9223372036854775807) (hb : -9223372036854775808 ≤ b ∧ b ≤ 9223372036854775807) (hc : -9223372036854775808 ≤ c ∧ c ≤ 9223372036854775807) :
    cIS.rep (w.alloc (.cells #[.int .i64 a, .int .i64 b, .int .i64 c] 3)) [.slice (some ⟨w.heap.size, 0, none⟩) 3 3] [a, b, c] [w.heap.size] :=
  ⟨_, 3, rfl, Nat.le_refl _, by decide, .inr ⟨by simp, w.heap.size, 0, [], [.int .i64 a, .int .i64 b, .int .i64 c], rfl, rfl, fun j u hu => ⟨by rw [Nat.zero_add, (Blk.new w 3 _).cell]; simpa using hu, (Blk.new w 3 _).frozen _⟩,
    ⟨[_], _, [], [], rfl, rfl, ⟨rfl, rfl, ha⟩, ⟨[_], _, [], [], rfl, rfl, ⟨rfl, rfl, hb⟩, ⟨[_], _, [], [], rfl, rfl, ⟨rfl, rfl, hc⟩, rfl, rfl⟩⟩⟩⟩⟩

set_option maxRecDepth 100000 in
set_option maxHeartbeats 2000000 in
theorem specBodyOf_any (vs : Array Value) (x : TSite) (F : List Nat) (pa : ByteArray) (v : Int) (w : World) (h : cSite.rep w vs.toList x F) (hn : cSite.sz x ≤ 1048576) (hpa : pa.size ≤ 2097152) (hv : -9223372036854775808 ≤ v ∧ v ≤ 9223372036854775807) :
    Calls Try.prog 55 #[.agg vs, .string pa, .int .i64 v] w (GivesS cUS w (bodyOf x pa v)) := by
  obtain ⟨i0, hi0, hz0, hz1, hz2⟩ := info_parts infoU8
  obtain ⟨v2, F2, rfl, -, hok, m2⟩ := TSite.outA h
  have hns : x.name.size ≤ 2097152 := by
    have h1 : cSite.sz x = x.name.size + (0 + (Cod.szs cS x.files + 0)) := rfl
    omega
  have hd1 := derive_range 107 x.name
  have hd2 := derive_range 109 pa
  have hwr : -9223372036854775808 ≤ IntKind.i64.wrap (1 + v) ∧ IntKind.i64.wrap (1 + v) ≤ 9223372036854775807 := by rw [IntKind.wrap_i64]; omega
  obtain ⟨kk, hkk⟩ : ∃ kk, IntKind.i64.wrap (1 + v) = kk := ⟨_, rfl⟩
  rw [hkk] at hwr
  have HW9 := Lib.hid hwr
  have hhr := keyed_range kk [103, derive 107 x.name, derive 109 pa]
  obtain ⟨e1, he1⟩ : ∃ e1, derive 107 x.name = e1 := ⟨_, rfl⟩
  obtain ⟨e2, he2⟩ : ∃ e2, derive 109 pa = e2 := ⟨_, rfl⟩
  have HE1 := Lib.hid he1
  have HE2 := Lib.hid he2
  rw [he1] at hd1 hhr
  rw [he2] at hd2 hhr
  have hb : bodyHash x pa v = keyedHash kk [103, e1, e2] := by unfold bodyHash; rw [he1, he2, hkk]
  obtain ⟨q, hq⟩ : ∃ q, keyedHash kk [103, e1, e2] = q := ⟨_, rfl⟩
  rw [hq] at hhr
  have HQ := Lib.hid hq
  have HB := Lib.hid (show bodyOf x pa v = bodyTo q 6 by unfold bodyOf; rw [hb, hq])
  have HS := Lib.hid (And.intro hns hpa)
  clear he1 he2 hb hq hns hpa h hwr
  go_enter Try.func55, Try.ntmps55
  go_wp2_with fail
  refine (specDerive_any _ _ _ (by omega) HS.out.1).mono ?_
  rw [HE1.out]
  rintro e w1 ⟨rfl, hb1⟩
  have hB1 : Below w.heap.size w w1 := bel_then (by repeat (first | with_reducible exact Below.refl _ _ | with_reducible assumption | with_reducible refine bel_alloc ?_ _ | with_reducible refine bel_drew ?_ | with_reducible refine bel_drewN ?_ _ | (with_reducible refine bel_set ?_ ?_ _; rotate_left; ((try simp); (try omega))))) hb1
  clear hb1
  go_wp2_with fail
  refine (specDerive_any _ _ _ (by omega) HS.out.2).mono ?_
  rw [HE2.out]
  rintro e w2 ⟨rfl, hb2⟩
  have hB2 : Below w.heap.size w w2 := bel_then hB1 hb2
  clear hb2
  go_wp2_with fail
  refine (specKeyedHash_any _ _ _ _ _ (by exact src_three (by omega) (by omega) (by omega)) (by simp) HW9.out).mono ?_
  rw [HQ.out]
  rintro e w3 ⟨rfl, hb3⟩
  have hB3 : Below w.heap.size w w3 := bel_then hB2 (bel_then (by repeat (first | with_reducible exact Below.refl _ _ | with_reducible assumption | with_reducible refine bel_alloc ?_ _ | with_reducible refine bel_drew ?_ | with_reducible refine bel_drewN ?_ _ | (with_reducible refine bel_set ?_ ?_ _; rotate_left; ((try simp); (try omega))))) hb3)
  clear hb3
  go_wp2
  generalize hW : World.alloc _ _ = W
  have hbW : Below w.heap.size w W := by rw [← hW]; exact (by repeat (first | with_reducible exact Below.refl _ _ | with_reducible assumption | with_reducible refine bel_alloc ?_ _ | with_reducible refine bel_drew ?_ | with_reducible refine bel_drewN ?_ _ | (with_reducible refine bel_set ?_ ?_ _; rotate_left; ((try simp); (try omega)))))
  clear hW
  go_loopw [8, 9] (fun a i wr => ∃ j : Nat, j ≤ 6 ∧ i = .int .i64 (5 - (j : Int)) ∧ Own cU 5 w.heap.size wr a (bodyTo q j) [] ∧ Below w.heap.size w wr) (fun _ i _ => (intOf i + 1).toNat)
  case atStart => exact ⟨0, by omega, by simp, by rw [bodyTo_zero]; exact Own.empty _, hbW⟩
  case round =>
    obtain ⟨j, hj, rfl, hown, hB⟩ := hrel
    have HO := Lib.hid hown
    have hand : ∀ n, bits .and .i64 n 255 = n % 256 := and255
    clear hown
    rcases (by omega : j = 0 ∨ j = 1 ∨ j = 2 ∨ j = 3 ∨ j = 4 ∨ j = 5 ∨ j = 6) with rfl | rfl | rfl | rfl | rfl | rfl | rfl
    · go_wp2_with (at_builtin; refine wpList_app (c := cU) (B := w.heap.size) (xs := bodyTo q 0) (ys := [bodyByte q 0]) (Fi := []) (Fy := []) _ rfl _ _ _ rfl i0 _ _ Try.underlying22 hi0 hz0 hz1 hz2 rfl (by decide) rfl (HO.out.bel (by repeat (first | with_reducible exact Below.refl _ _ | with_reducible assumption | with_reducible refine bel_alloc ?_ _ | with_reducible refine bel_drew ?_ | with_reducible refine bel_drewN ?_ _ | (with_reducible refine bel_set ?_ ?_ _; rotate_left; ((try simp); (try omega)))))) (.slice (some ⟨wr.heap.size, 0, none⟩) 1 1) rfl (src_u8 (by have h := bodyByte_nat q 0; simp at h; omega)) (by rw [bodyTo_len]; unfold maxLen; simp) (by rw [bodyTo_len]; simp) (by have := hB.size; (try simp); (try omega)) (by simp) ?_)
      intro v2 w2 ho2 hg2 hat2
      rw [bodyTo_succ] at ho2
      have hb2 : Below w.heap.size w w2 := Below.grown (show Below w.heap.size w _ from (by repeat (first | with_reducible exact Below.refl _ _ | with_reducible assumption | with_reducible refine bel_alloc ?_ _ | with_reducible refine bel_drew ?_ | with_reducible refine bel_drewN ?_ _ | (with_reducible refine bel_set ?_ ?_ _; rotate_left; ((try simp); (try omega)))))) hg2 (by have := hB.size; (try simp); (try omega)) (fun b hb => (HO.out.lt b hb).1)
      have HO2 := Lib.hid ho2
      clear ho2 hg2 hat2
      go_wp2_with fail
      go_roundw
      case rel => exact ⟨1, by omega, by simp, HO2.out, hb2⟩
      case measure => simp [intOf]
    · go_wp2_with (at_builtin; refine wpList_app (c := cU) (B := w.heap.size) (xs := bodyTo q 1) (ys := [bodyByte q 1]) (Fi := []) (Fy := []) _ rfl _ _ _ rfl i0 _ _ Try.underlying22 hi0 hz0 hz1 hz2 rfl (by decide) rfl (HO.out.bel (by repeat (first | with_reducible exact Below.refl _ _ | with_reducible assumption | with_reducible refine bel_alloc ?_ _ | with_reducible refine bel_drew ?_ | with_reducible refine bel_drewN ?_ _ | (with_reducible refine bel_set ?_ ?_ _; rotate_left; ((try simp); (try omega)))))) (.slice (some ⟨wr.heap.size, 0, none⟩) 1 1) rfl (src_u8 (by have h := bodyByte_nat q 1; simp at h; omega)) (by rw [bodyTo_len]; unfold maxLen; simp) (by rw [bodyTo_len]; simp) (by have := hB.size; (try simp); (try omega)) (by simp) ?_)
      intro v2 w2 ho2 hg2 hat2
      rw [bodyTo_succ] at ho2
      have hb2 : Below w.heap.size w w2 := Below.grown (show Below w.heap.size w _ from (by repeat (first | with_reducible exact Below.refl _ _ | with_reducible assumption | with_reducible refine bel_alloc ?_ _ | with_reducible refine bel_drew ?_ | with_reducible refine bel_drewN ?_ _ | (with_reducible refine bel_set ?_ ?_ _; rotate_left; ((try simp); (try omega)))))) hg2 (by have := hB.size; (try simp); (try omega)) (fun b hb => (HO.out.lt b hb).1)
      have HO2 := Lib.hid ho2
      clear ho2 hg2 hat2
      go_wp2_with fail
      go_roundw
      case rel => exact ⟨2, by omega, by simp, HO2.out, hb2⟩
      case measure => simp [intOf]
    · go_wp2_with (at_builtin; refine wpList_app (c := cU) (B := w.heap.size) (xs := bodyTo q 2) (ys := [bodyByte q 2]) (Fi := []) (Fy := []) _ rfl _ _ _ rfl i0 _ _ Try.underlying22 hi0 hz0 hz1 hz2 rfl (by decide) rfl (HO.out.bel (by repeat (first | with_reducible exact Below.refl _ _ | with_reducible assumption | with_reducible refine bel_alloc ?_ _ | with_reducible refine bel_drew ?_ | with_reducible refine bel_drewN ?_ _ | (with_reducible refine bel_set ?_ ?_ _; rotate_left; ((try simp); (try omega)))))) (.slice (some ⟨wr.heap.size, 0, none⟩) 1 1) rfl (src_u8 (by have h := bodyByte_nat q 2; simp at h; omega)) (by rw [bodyTo_len]; unfold maxLen; simp) (by rw [bodyTo_len]; simp) (by have := hB.size; (try simp); (try omega)) (by simp) ?_)
      intro v2 w2 ho2 hg2 hat2
      rw [bodyTo_succ] at ho2
      have hb2 : Below w.heap.size w w2 := Below.grown (show Below w.heap.size w _ from (by repeat (first | with_reducible exact Below.refl _ _ | with_reducible assumption | with_reducible refine bel_alloc ?_ _ | with_reducible refine bel_drew ?_ | with_reducible refine bel_drewN ?_ _ | (with_reducible refine bel_set ?_ ?_ _; rotate_left; ((try simp); (try omega)))))) hg2 (by have := hB.size; (try simp); (try omega)) (fun b hb => (HO.out.lt b hb).1)
      have HO2 := Lib.hid ho2
      clear ho2 hg2 hat2
      go_wp2_with fail
      go_roundw
      case rel => exact ⟨3, by omega, by simp, HO2.out, hb2⟩
      case measure => simp [intOf]
    · go_wp2_with (at_builtin; refine wpList_app (c := cU) (B := w.heap.size) (xs := bodyTo q 3) (ys := [bodyByte q 3]) (Fi := []) (Fy := []) _ rfl _ _ _ rfl i0 _ _ Try.underlying22 hi0 hz0 hz1 hz2 rfl (by decide) rfl (HO.out.bel (by repeat (first | with_reducible exact Below.refl _ _ | with_reducible assumption | with_reducible refine bel_alloc ?_ _ | with_reducible refine bel_drew ?_ | with_reducible refine bel_drewN ?_ _ | (with_reducible refine bel_set ?_ ?_ _; rotate_left; ((try simp); (try omega)))))) (.slice (some ⟨wr.heap.size, 0, none⟩) 1 1) rfl (src_u8 (by have h := bodyByte_nat q 3; simp at h; omega)) (by rw [bodyTo_len]; unfold maxLen; simp) (by rw [bodyTo_len]; simp) (by have := hB.size; (try simp); (try omega)) (by simp) ?_)
      intro v2 w2 ho2 hg2 hat2
      rw [bodyTo_succ] at ho2
      have hb2 : Below w.heap.size w w2 := Below.grown (show Below w.heap.size w _ from (by repeat (first | with_reducible exact Below.refl _ _ | with_reducible assumption | with_reducible refine bel_alloc ?_ _ | with_reducible refine bel_drew ?_ | with_reducible refine bel_drewN ?_ _ | (with_reducible refine bel_set ?_ ?_ _; rotate_left; ((try simp); (try omega)))))) hg2 (by have := hB.size; (try simp); (try omega)) (fun b hb => (HO.out.lt b hb).1)
      have HO2 := Lib.hid ho2
      clear ho2 hg2 hat2
      go_wp2_with fail
      go_roundw
      case rel => exact ⟨4, by omega, by simp, HO2.out, hb2⟩
      case measure => simp [intOf]
    · go_wp2_with (at_builtin; refine wpList_app (c := cU) (B := w.heap.size) (xs := bodyTo q 4) (ys := [bodyByte q 4]) (Fi := []) (Fy := []) _ rfl _ _ _ rfl i0 _ _ Try.underlying22 hi0 hz0 hz1 hz2 rfl (by decide) rfl (HO.out.bel (by repeat (first | with_reducible exact Below.refl _ _ | with_reducible assumption | with_reducible refine bel_alloc ?_ _ | with_reducible refine bel_drew ?_ | with_reducible refine bel_drewN ?_ _ | (with_reducible refine bel_set ?_ ?_ _; rotate_left; ((try simp); (try omega)))))) (.slice (some ⟨wr.heap.size, 0, none⟩) 1 1) rfl (src_u8 (by have h := bodyByte_nat q 4; simp at h; omega)) (by rw [bodyTo_len]; unfold maxLen; simp) (by rw [bodyTo_len]; simp) (by have := hB.size; (try simp); (try omega)) (by simp) ?_)
      intro v2 w2 ho2 hg2 hat2
      rw [bodyTo_succ] at ho2
      have hb2 : Below w.heap.size w w2 := Below.grown (show Below w.heap.size w _ from (by repeat (first | with_reducible exact Below.refl _ _ | with_reducible assumption | with_reducible refine bel_alloc ?_ _ | with_reducible refine bel_drew ?_ | with_reducible refine bel_drewN ?_ _ | (with_reducible refine bel_set ?_ ?_ _; rotate_left; ((try simp); (try omega)))))) hg2 (by have := hB.size; (try simp); (try omega)) (fun b hb => (HO.out.lt b hb).1)
      have HO2 := Lib.hid ho2
      clear ho2 hg2 hat2
      go_wp2_with fail
      go_roundw
      case rel => exact ⟨5, by omega, by simp, HO2.out, hb2⟩
      case measure => simp [intOf]
    · go_wp2_with (at_builtin; refine wpList_app (c := cU) (B := w.heap.size) (xs := bodyTo q 5) (ys := [bodyByte q 5]) (Fi := []) (Fy := []) _ rfl _ _ _ rfl i0 _ _ Try.underlying22 hi0 hz0 hz1 hz2 rfl (by decide) rfl (HO.out.bel (by repeat (first | with_reducible exact Below.refl _ _ | with_reducible assumption | with_reducible refine bel_alloc ?_ _ | with_reducible refine bel_drew ?_ | with_reducible refine bel_drewN ?_ _ | (with_reducible refine bel_set ?_ ?_ _; rotate_left; ((try simp); (try omega)))))) (.slice (some ⟨wr.heap.size, 0, none⟩) 1 1) rfl (src_u8 (by have h := bodyByte_nat q 5; simp at h; omega)) (by rw [bodyTo_len]; unfold maxLen; simp) (by rw [bodyTo_len]; simp) (by have := hB.size; (try simp); (try omega)) (by simp) ?_)
      intro v2 w2 ho2 hg2 hat2
      rw [bodyTo_succ] at ho2
      have hb2 : Below w.heap.size w w2 := Below.grown (show Below w.heap.size w _ from (by repeat (first | with_reducible exact Below.refl _ _ | with_reducible assumption | with_reducible refine bel_alloc ?_ _ | with_reducible refine bel_drew ?_ | with_reducible refine bel_drewN ?_ _ | (with_reducible refine bel_set ?_ ?_ _; rotate_left; ((try simp); (try omega)))))) hg2 (by have := hB.size; (try simp); (try omega)) (fun b hb => (HO.out.lt b hb).1)
      have HO2 := Lib.hid ho2
      clear ho2 hg2 hat2
      go_wp2_with fail
      go_roundw
      case rel => exact ⟨6, by omega, by simp, HO2.out, hb2⟩
      case measure => simp [intOf]
    · obtain ⟨G, hr2, hf2, -⟩ := HO.out.fresh (hw := by decide) (hw2 := by decide)
      have HR := Lib.hid hr2
      clear hr2
      go_wp2
      go_ret
      exact ⟨_, G, rfl, hB, by rw [HB.out]; exact HR.out, hf2⟩
set_option maxRecDepth 100000 in
set_option maxHeartbeats 2000000 in
theorem implBodyOf_any (vs : Array Value) (x : TSite) (F : List Nat) (pa : ByteArray) (v : Int) (w : World) (h : cSite.rep w vs.toList x F) (hn : cSite.sz x ≤ 1048576) (hpa : pa.size ≤ 2097152) (hv : -9223372036854775808 ≤ v ∧ v ≤ 9223372036854775807) :
    Calls Try.prog 33 #[.agg vs, .string pa, .int .i64 v] w (GivesS cUS w (bodyOf x pa v)) := by
  obtain ⟨i0, hi0, hz0, hz1, hz2⟩ := info_parts infoU8
  obtain ⟨v2, F2, rfl, -, hok, m2⟩ := TSite.outA h
  have hns : x.name.size ≤ 2097152 := by
    have h1 : cSite.sz x = x.name.size + (0 + (Cod.szs cS x.files + 0)) := rfl
    omega
  have hd1 := derive_range 107 x.name
  have hd2 := derive_range 109 pa
  have hwr : -9223372036854775808 ≤ IntKind.i64.wrap (1 + v) ∧ IntKind.i64.wrap (1 + v) ≤ 9223372036854775807 := by rw [IntKind.wrap_i64]; omega
  obtain ⟨kk, hkk⟩ : ∃ kk, IntKind.i64.wrap (1 + v) = kk := ⟨_, rfl⟩
  rw [hkk] at hwr
  have HW9 := Lib.hid hwr
  have hhr := keyed_range kk [103, derive 107 x.name, derive 109 pa]
  obtain ⟨e1, he1⟩ : ∃ e1, derive 107 x.name = e1 := ⟨_, rfl⟩
  obtain ⟨e2, he2⟩ : ∃ e2, derive 109 pa = e2 := ⟨_, rfl⟩
  have HE1 := Lib.hid he1
  have HE2 := Lib.hid he2
  rw [he1] at hd1 hhr
  rw [he2] at hd2 hhr
  have hb : bodyHash x pa v = keyedHash kk [103, e1, e2] := by unfold bodyHash; rw [he1, he2, hkk]
  obtain ⟨q, hq⟩ : ∃ q, keyedHash kk [103, e1, e2] = q := ⟨_, rfl⟩
  rw [hq] at hhr
  have HQ := Lib.hid hq
  have HB := Lib.hid (show bodyOf x pa v = bodyTo q 6 by unfold bodyOf; rw [hb, hq])
  have HS := Lib.hid (And.intro hns hpa)
  clear he1 he2 hb hq hns hpa h hwr
  go_enter Try.func33, Try.ntmps33
  go_wp2_with fail
  refine (implDerive_any _ _ _ (by omega) HS.out.1).mono ?_
  rw [HE1.out]
  rintro e w1 ⟨rfl, hb1⟩
  have hB1 : Below w.heap.size w w1 := bel_then (by repeat (first | with_reducible exact Below.refl _ _ | with_reducible assumption | with_reducible refine bel_alloc ?_ _ | with_reducible refine bel_drew ?_ | with_reducible refine bel_drewN ?_ _ | (with_reducible refine bel_set ?_ ?_ _; rotate_left; ((try simp); (try omega))))) hb1
  clear hb1
  go_wp2_with fail
  refine (implDerive_any _ _ _ (by omega) HS.out.2).mono ?_
  rw [HE2.out]
  rintro e w2 ⟨rfl, hb2⟩
  have hB2 : Below w.heap.size w w2 := bel_then hB1 hb2
  clear hb2
  go_wp2_with fail
  refine (implKeyedHash_any _ _ _ _ _ (by exact src_three (by omega) (by omega) (by omega)) (by simp) HW9.out).mono ?_
  rw [HQ.out]
  rintro e w3 ⟨rfl, hb3⟩
  have hB3 : Below w.heap.size w w3 := bel_then hB2 (bel_then (by repeat (first | with_reducible exact Below.refl _ _ | with_reducible assumption | with_reducible refine bel_alloc ?_ _ | with_reducible refine bel_drew ?_ | with_reducible refine bel_drewN ?_ _ | (with_reducible refine bel_set ?_ ?_ _; rotate_left; ((try simp); (try omega))))) hb3)
  clear hb3
  go_wp2
  generalize hW : World.alloc _ _ = W
  have hbW : Below w.heap.size w W := by rw [← hW]; exact (by repeat (first | with_reducible exact Below.refl _ _ | with_reducible assumption | with_reducible refine bel_alloc ?_ _ | with_reducible refine bel_drew ?_ | with_reducible refine bel_drewN ?_ _ | (with_reducible refine bel_set ?_ ?_ _; rotate_left; ((try simp); (try omega)))))
  clear hW
  go_loopw [8, 9] (fun a i wr => ∃ j : Nat, j ≤ 6 ∧ i = .int .i64 (5 - (j : Int)) ∧ Own cU 5 w.heap.size wr a (bodyTo q j) [] ∧ Below w.heap.size w wr) (fun _ i _ => (intOf i + 1).toNat)
  case atStart => exact ⟨0, by omega, by simp, by rw [bodyTo_zero]; exact Own.empty _, hbW⟩
  case round =>
    obtain ⟨j, hj, rfl, hown, hB⟩ := hrel
    have HO := Lib.hid hown
    have hand : ∀ n, bits .and .i64 n 255 = n % 256 := and255
    clear hown
    rcases (by omega : j = 0 ∨ j = 1 ∨ j = 2 ∨ j = 3 ∨ j = 4 ∨ j = 5 ∨ j = 6) with rfl | rfl | rfl | rfl | rfl | rfl | rfl
    · go_wp2_with (at_builtin; refine wpList_app (c := cU) (B := w.heap.size) (xs := bodyTo q 0) (ys := [bodyByte q 0]) (Fi := []) (Fy := []) _ rfl _ _ _ rfl i0 _ _ Try.underlying22 hi0 hz0 hz1 hz2 rfl (by decide) rfl (HO.out.bel (by repeat (first | with_reducible exact Below.refl _ _ | with_reducible assumption | with_reducible refine bel_alloc ?_ _ | with_reducible refine bel_drew ?_ | with_reducible refine bel_drewN ?_ _ | (with_reducible refine bel_set ?_ ?_ _; rotate_left; ((try simp); (try omega)))))) (.slice (some ⟨wr.heap.size, 0, none⟩) 1 1) rfl (src_u8 (by have h := bodyByte_nat q 0; simp at h; omega)) (by rw [bodyTo_len]; unfold maxLen; simp) (by rw [bodyTo_len]; simp) (by have := hB.size; (try simp); (try omega)) (by simp) ?_)
      intro v2 w2 ho2 hg2 hat2
      rw [bodyTo_succ] at ho2
      have hb2 : Below w.heap.size w w2 := Below.grown (show Below w.heap.size w _ from (by repeat (first | with_reducible exact Below.refl _ _ | with_reducible assumption | with_reducible refine bel_alloc ?_ _ | with_reducible refine bel_drew ?_ | with_reducible refine bel_drewN ?_ _ | (with_reducible refine bel_set ?_ ?_ _; rotate_left; ((try simp); (try omega)))))) hg2 (by have := hB.size; (try simp); (try omega)) (fun b hb => (HO.out.lt b hb).1)
      have HO2 := Lib.hid ho2
      clear ho2 hg2 hat2
      go_wp2_with fail
      go_roundw
      case rel => exact ⟨1, by omega, by simp, HO2.out, hb2⟩
      case measure => simp [intOf]
    · go_wp2_with (at_builtin; refine wpList_app (c := cU) (B := w.heap.size) (xs := bodyTo q 1) (ys := [bodyByte q 1]) (Fi := []) (Fy := []) _ rfl _ _ _ rfl i0 _ _ Try.underlying22 hi0 hz0 hz1 hz2 rfl (by decide) rfl (HO.out.bel (by repeat (first | with_reducible exact Below.refl _ _ | with_reducible assumption | with_reducible refine bel_alloc ?_ _ | with_reducible refine bel_drew ?_ | with_reducible refine bel_drewN ?_ _ | (with_reducible refine bel_set ?_ ?_ _; rotate_left; ((try simp); (try omega)))))) (.slice (some ⟨wr.heap.size, 0, none⟩) 1 1) rfl (src_u8 (by have h := bodyByte_nat q 1; simp at h; omega)) (by rw [bodyTo_len]; unfold maxLen; simp) (by rw [bodyTo_len]; simp) (by have := hB.size; (try simp); (try omega)) (by simp) ?_)
      intro v2 w2 ho2 hg2 hat2
      rw [bodyTo_succ] at ho2
      have hb2 : Below w.heap.size w w2 := Below.grown (show Below w.heap.size w _ from (by repeat (first | with_reducible exact Below.refl _ _ | with_reducible assumption | with_reducible refine bel_alloc ?_ _ | with_reducible refine bel_drew ?_ | with_reducible refine bel_drewN ?_ _ | (with_reducible refine bel_set ?_ ?_ _; rotate_left; ((try simp); (try omega)))))) hg2 (by have := hB.size; (try simp); (try omega)) (fun b hb => (HO.out.lt b hb).1)
      have HO2 := Lib.hid ho2
      clear ho2 hg2 hat2
      go_wp2_with fail
      go_roundw
      case rel => exact ⟨2, by omega, by simp, HO2.out, hb2⟩
      case measure => simp [intOf]
    · go_wp2_with (at_builtin; refine wpList_app (c := cU) (B := w.heap.size) (xs := bodyTo q 2) (ys := [bodyByte q 2]) (Fi := []) (Fy := []) _ rfl _ _ _ rfl i0 _ _ Try.underlying22 hi0 hz0 hz1 hz2 rfl (by decide) rfl (HO.out.bel (by repeat (first | with_reducible exact Below.refl _ _ | with_reducible assumption | with_reducible refine bel_alloc ?_ _ | with_reducible refine bel_drew ?_ | with_reducible refine bel_drewN ?_ _ | (with_reducible refine bel_set ?_ ?_ _; rotate_left; ((try simp); (try omega)))))) (.slice (some ⟨wr.heap.size, 0, none⟩) 1 1) rfl (src_u8 (by have h := bodyByte_nat q 2; simp at h; omega)) (by rw [bodyTo_len]; unfold maxLen; simp) (by rw [bodyTo_len]; simp) (by have := hB.size; (try simp); (try omega)) (by simp) ?_)
      intro v2 w2 ho2 hg2 hat2
      rw [bodyTo_succ] at ho2
      have hb2 : Below w.heap.size w w2 := Below.grown (show Below w.heap.size w _ from (by repeat (first | with_reducible exact Below.refl _ _ | with_reducible assumption | with_reducible refine bel_alloc ?_ _ | with_reducible refine bel_drew ?_ | with_reducible refine bel_drewN ?_ _ | (with_reducible refine bel_set ?_ ?_ _; rotate_left; ((try simp); (try omega)))))) hg2 (by have := hB.size; (try simp); (try omega)) (fun b hb => (HO.out.lt b hb).1)
      have HO2 := Lib.hid ho2
      clear ho2 hg2 hat2
      go_wp2_with fail
      go_roundw
      case rel => exact ⟨3, by omega, by simp, HO2.out, hb2⟩
      case measure => simp [intOf]
    · go_wp2_with (at_builtin; refine wpList_app (c := cU) (B := w.heap.size) (xs := bodyTo q 3) (ys := [bodyByte q 3]) (Fi := []) (Fy := []) _ rfl _ _ _ rfl i0 _ _ Try.underlying22 hi0 hz0 hz1 hz2 rfl (by decide) rfl (HO.out.bel (by repeat (first | with_reducible exact Below.refl _ _ | with_reducible assumption | with_reducible refine bel_alloc ?_ _ | with_reducible refine bel_drew ?_ | with_reducible refine bel_drewN ?_ _ | (with_reducible refine bel_set ?_ ?_ _; rotate_left; ((try simp); (try omega)))))) (.slice (some ⟨wr.heap.size, 0, none⟩) 1 1) rfl (src_u8 (by have h := bodyByte_nat q 3; simp at h; omega)) (by rw [bodyTo_len]; unfold maxLen; simp) (by rw [bodyTo_len]; simp) (by have := hB.size; (try simp); (try omega)) (by simp) ?_)
      intro v2 w2 ho2 hg2 hat2
      rw [bodyTo_succ] at ho2
      have hb2 : Below w.heap.size w w2 := Below.grown (show Below w.heap.size w _ from (by repeat (first | with_reducible exact Below.refl _ _ | with_reducible assumption | with_reducible refine bel_alloc ?_ _ | with_reducible refine bel_drew ?_ | with_reducible refine bel_drewN ?_ _ | (with_reducible refine bel_set ?_ ?_ _; rotate_left; ((try simp); (try omega)))))) hg2 (by have := hB.size; (try simp); (try omega)) (fun b hb => (HO.out.lt b hb).1)
      have HO2 := Lib.hid ho2
      clear ho2 hg2 hat2
      go_wp2_with fail
      go_roundw
      case rel => exact ⟨4, by omega, by simp, HO2.out, hb2⟩
      case measure => simp [intOf]
    · go_wp2_with (at_builtin; refine wpList_app (c := cU) (B := w.heap.size) (xs := bodyTo q 4) (ys := [bodyByte q 4]) (Fi := []) (Fy := []) _ rfl _ _ _ rfl i0 _ _ Try.underlying22 hi0 hz0 hz1 hz2 rfl (by decide) rfl (HO.out.bel (by repeat (first | with_reducible exact Below.refl _ _ | with_reducible assumption | with_reducible refine bel_alloc ?_ _ | with_reducible refine bel_drew ?_ | with_reducible refine bel_drewN ?_ _ | (with_reducible refine bel_set ?_ ?_ _; rotate_left; ((try simp); (try omega)))))) (.slice (some ⟨wr.heap.size, 0, none⟩) 1 1) rfl (src_u8 (by have h := bodyByte_nat q 4; simp at h; omega)) (by rw [bodyTo_len]; unfold maxLen; simp) (by rw [bodyTo_len]; simp) (by have := hB.size; (try simp); (try omega)) (by simp) ?_)
      intro v2 w2 ho2 hg2 hat2
      rw [bodyTo_succ] at ho2
      have hb2 : Below w.heap.size w w2 := Below.grown (show Below w.heap.size w _ from (by repeat (first | with_reducible exact Below.refl _ _ | with_reducible assumption | with_reducible refine bel_alloc ?_ _ | with_reducible refine bel_drew ?_ | with_reducible refine bel_drewN ?_ _ | (with_reducible refine bel_set ?_ ?_ _; rotate_left; ((try simp); (try omega)))))) hg2 (by have := hB.size; (try simp); (try omega)) (fun b hb => (HO.out.lt b hb).1)
      have HO2 := Lib.hid ho2
      clear ho2 hg2 hat2
      go_wp2_with fail
      go_roundw
      case rel => exact ⟨5, by omega, by simp, HO2.out, hb2⟩
      case measure => simp [intOf]
    · go_wp2_with (at_builtin; refine wpList_app (c := cU) (B := w.heap.size) (xs := bodyTo q 5) (ys := [bodyByte q 5]) (Fi := []) (Fy := []) _ rfl _ _ _ rfl i0 _ _ Try.underlying22 hi0 hz0 hz1 hz2 rfl (by decide) rfl (HO.out.bel (by repeat (first | with_reducible exact Below.refl _ _ | with_reducible assumption | with_reducible refine bel_alloc ?_ _ | with_reducible refine bel_drew ?_ | with_reducible refine bel_drewN ?_ _ | (with_reducible refine bel_set ?_ ?_ _; rotate_left; ((try simp); (try omega)))))) (.slice (some ⟨wr.heap.size, 0, none⟩) 1 1) rfl (src_u8 (by have h := bodyByte_nat q 5; simp at h; omega)) (by rw [bodyTo_len]; unfold maxLen; simp) (by rw [bodyTo_len]; simp) (by have := hB.size; (try simp); (try omega)) (by simp) ?_)
      intro v2 w2 ho2 hg2 hat2
      rw [bodyTo_succ] at ho2
      have hb2 : Below w.heap.size w w2 := Below.grown (show Below w.heap.size w _ from (by repeat (first | with_reducible exact Below.refl _ _ | with_reducible assumption | with_reducible refine bel_alloc ?_ _ | with_reducible refine bel_drew ?_ | with_reducible refine bel_drewN ?_ _ | (with_reducible refine bel_set ?_ ?_ _; rotate_left; ((try simp); (try omega)))))) hg2 (by have := hB.size; (try simp); (try omega)) (fun b hb => (HO.out.lt b hb).1)
      have HO2 := Lib.hid ho2
      clear ho2 hg2 hat2
      go_wp2_with fail
      go_roundw
      case rel => exact ⟨6, by omega, by simp, HO2.out, hb2⟩
      case measure => simp [intOf]
    · obtain ⟨G, hr2, hf2, -⟩ := HO.out.fresh (hw := by decide) (hw2 := by decide)
      have HR := Lib.hid hr2
      clear hr2
      go_wp2
      go_ret
      exact ⟨_, G, rfl, hB, by rw [HB.out]; exact HR.out, hf2⟩
theorem bodyOf_sz (x : TSite) (pa : ByteArray) (v : Int) : cUS.sz (bodyOf x pa v) ≤ 12 := by
  have h1 : cUS.sz (bodyOf x pa v) = cU.szs (bodyOf x pa v) := rfl
  rw [h1, Cod.szs_flat (fun _ => rfl)]
  unfold bodyOf
  rw [bodyTo_len]; omega
theorem bodyOf_len (x : TSite) (pa : ByteArray) (v : Int) : (bodyOf x pa v).length = 6 := bodyTo_len _ _
end Go.Proofs.Ytlicnppfgfjkgaa
