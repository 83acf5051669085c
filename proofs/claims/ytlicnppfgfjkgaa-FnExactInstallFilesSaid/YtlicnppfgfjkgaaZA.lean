/-
  Words, codecs and types of this seat in one text. No conditions.
-/
import Derived.WalkKit
import Derived.ProofKit
import Derived.OpenShut
import Derived.Carry
import Derived.Below
import Derived.Outline
import Derived.Lib.Hide
import Derived.WalkLawsBesides
import Derived.ChangeSame
import Derived.Deep.Draws
import Derived.Deep.Slices
import Derived.Deep.QuietTactic
import Derived.BigQuiet
import Derived.Laws.Rows
import Derived.Laws.MakeOwn
import Derived.Test.YtlicnppfgfjkgaaRows
import Derived.LoopTactic
import Derived.StillTailTactics
import Derived.Maps.AppendAt
import Derived.Deep.AppendLies
import Derived.ArgAppend
import Derived.RegionTactic
import Derived.OwnWalk
import Derived.Laws.IdiomStrings
import Derived.Laws.BytesArg
import Derived.Deep.RegionHeld3
import Derived.Lib.SliceRun
namespace Go.Proofs.Ytlicnppfgfjkgaa
open Go.ChangeShapes Go.WideShapes Go.RowKit

/-! ### The step from a walk to a law's row -/
section
variable {H : Type} {enc : TypeId × Value → H} {P : Program}

theorem trodAll_keep (hl : laidOutB P = true) {W W' : World} (hb : Below W.heap.size W W') {sp : Nat → Bool} : ∀ (ts : List TypeId) (vs : List Value) (ds : List (DataW H)) (ps : List MemPlace),
    (ts.all fun t => P.readableRec t && decide (t < P.types.size)) = true → DataW.TrodAll enc P W 0 (fun _ => true) true ts vs ds ps → (∀ x ∈ ps, x.block < W.heap.size) → (∀ x ∈ ps, sp x.block = true) →
    DataW.TrodAll enc P W' 0 sp true ts vs ds ps
  | [], [], [], _, _, h, _, _ => h
  | [], [], _ :: _, _, _, h, _, _ => h.elim
  | [], _ :: _, _, _, _, h, _, _ => h.elim
  | _ :: _, [], _, _, _, h, _, _ => h.elim
  | _ :: _, _ :: _, [], _, _, h, _, _ => h.elim
  | t :: ts, v :: vs, d :: ds, ps, hts, h, hlt, hsp => by
    obtain ⟨p, q, h1, h2, rfl⟩ := h
    simp only [List.all_cons, Bool.and_eq_true, decide_eq_true_eq] at hts
    exact ⟨p, q, WideElems.Trod_stays hl hts.1.1 hts.1.2 h1 (fun x hx => hb.same (hlt x (by simp [hx]))) (fun x hx => hsp x (by simp [hx])),
      trodAll_keep hl hb ts vs ds q hts.2 h2 (fun x hx => hlt x (by simp [hx])) (fun x hx => hsp x (by simp [hx])), rfl⟩

theorem trodAll_len : ∀ (ts : List TypeId) (vs : List Value) (ds : List (DataW H)) (ps : List MemPlace) {W : World} {b : Nat} {sp : Nat → Bool} {hd : Bool},
    DataW.TrodAll enc P W b sp hd ts vs ds ps → ds.length = ts.length
  | [], [], [], _, _, _, _, _, _ => rfl
  | [], [], _ :: _, _, _, _, _, _, h => h.elim
  | [], _ :: _, _, _, _, _, _, _, h => h.elim
  | _ :: _, [], _, _, _, _, _, _, h => h.elim
  | _ :: _, _ :: _, [], _, _, _, _, _, h => h.elim
  | t :: ts, v :: vs, d :: ds, ps, _, _, _, _, h => by
    obtain ⟨p, q, _, h2, rfl⟩ := h
    simp [trodAll_len ts vs ds q h2]

/-- From a walk that returns true and leaves all that was there, to the row's step. -/
theorem law_post {f : Func} {s : ChangeSpec} {W W' : World} {args : Array Value} {ds gs : List (DataW H)} {before : List MemPlace} {tb : TypeId}
    (hl : laidOutB P = true) (hv : s.vars = []) (hrt : f.resultTypes = #[tb]) (htb : P.underlying tb = some .bool)
    (hts : (f.params.toList.all fun t => P.readableRec t && decide (t < P.types.size)) = true)
    (hs : ∀ ds : List (DataW H), ds.length = f.params.size → (s.fn H ds).results = [.lit (.bool true)] ∧ (s.fn H ds).args = ds ∧ (s.fn H ds).vars = [])
    (hW : DataW.Whole enc P f.params.toList s.vars false W args.toList ds gs before) (hb : Below W.heap.size W W') :
    s.post enc P f false true false false W args (.bool true) W' := by
  have hlt : ∀ p ∈ before, p.block < W.heap.size := fun p hp => hW.lt p hp
  have hW' := hW
  obtain ⟨p, q, hA, hV, rfl, hfz, hnd⟩ := hW
  rw [hv] at hV
  have hg : gs = [] := by
    cases gs with
    | nil => rfl
    | cons a b => exact hV.elim
  subst hg
  obtain rfl : q = [] := hV
  have hlen : ds.length = f.params.size := by simpa using trodAll_len _ _ _ _ hA
  obtain ⟨e1, e2, e3⟩ := hs (ds ++ []) (by simpa using hlen)
  refine ⟨ds, [], p ++ [], [], p, [], hW', ?_, ?_, ?_, hb.frame _, fun h => by cases h⟩
  · rw [e1, hrt]
    exact trodAll_mk1 (shut_bool htb _)
  · rw [e2, List.append_nil]
    exact trodAll_keep hl hb _ _ _ _ hts hA (fun x hx => hlt x (by simp [hx])) (fun x hx => by simpa using hlt x (by simp [hx]))
  · rw [hv, e3]; rfl

end

/-! ### New blocks, step by step -/
theorem bel_alloc {w w' : World} (h : Below w.heap.size w w') (o : Obj) : Below w.heap.size w (w'.alloc o) := h.alloc h.size o
theorem bel_then {w w' w'' : World} (h : Below w.heap.size w w') (k : Below w'.heap.size w' w'') : Below w.heap.size w w'' := h.trans (k.mono h.size)
theorem bel_drew {w w' : World} (h : Below w.heap.size w w') : Below w.heap.size w w'.drew := h.drew
theorem bel_drewN {w w' : World} (h : Below w.heap.size w w') (n : Nat) : Below w.heap.size w (w'.drewN n) := ⟨h.os, h.tape, h.output, h.size, h.block⟩
/-- A contract that leaves the world alone, in a region that draws its order. -/
theorem quiet_left {P : Program} {f : FuncId} {args : Array Value} {w : World} {n : Nat} {v : Value}
    (h : Calls P f args (w.drewN n) fun e w' => e = .returned v ∧ w.drewN n = w') : Calls P f args (w.drewN n) fun e w'' => e = .returned v ∧ ∃ m, w'' = w.drewN m :=
  h.mono fun _ _ ⟨he, hm⟩ => ⟨he, n, hm.symm⟩
theorem quiet_add_left {P : Program} {f : FuncId} {args : Array Value} {w : World} {a n : Nat} {v : Value}
    (h : Calls P f args (w.drewN (a + n)) fun e w' => e = .returned v ∧ w.drewN (a + n) = w') : Calls P f args (w.drewN (a + n)) fun e w'' => e = .returned v ∧ ∃ m, w'' = w.drewN (a + m) :=
  h.mono fun _ _ ⟨he, hm⟩ => ⟨he, n, hm.symm⟩

/-- A call returns this value and leaves all that was there. -/
def Gives (w : World) (v : Value) (e : Ending) (w' : World) : Prop := e = .returned v ∧ Below w.heap.size w w'
/-- What is left of a budget: -1 where it does not reach. -/
def leftOf (n k : Int) : Int := if n - k < 0 then -1 else n - k
theorem leftOf_neg {n k : Int} (h : n - k < 0) : leftOf n k = -1 := if_pos h
theorem leftOf_pos {n k : Int} (h : ¬ n - k < 0) : leftOf n k = n - k := if_neg h
theorem ret_int {k : IntKind} {a b : Int} (h : a = b) : Ending.returned (.int k a) = .returned (.int k b) := by rw [h]
theorem ret_bool {a b : Bool} (h : a = b) : Ending.returned (.bool a) = .returned (.bool b) := by rw [h]

theorem bel_set {w w' : World} (h : Below w.heap.size w w') {p : Addr} (hp : w.heap.size ≤ p.block) (u : Value) : Below w.heap.size w (w'.setCell p u) := h.setCell hp u

/-- What a walk takes of a call that made memory: old cells, old marks, the heap's size. -/
theorem bcell {W w1 : World} (hb : Below W.heap.size W w1) : (∀ b o, b < W.heap.size → w1.cell? ⟨b, o, none⟩ = W.cell? ⟨b, o, none⟩) ∧ (∀ b o, b < W.heap.size → w1.frozen? ⟨b, o, none⟩ = W.frozen? ⟨b, o, none⟩) ∧ W.heap.size ≤ w1.heap.size :=
  ⟨fun b o h => hb.cell (p := ⟨b, o, none⟩) h, fun b o h => hb.frozen (p := ⟨b, o, none⟩) h, hb.size⟩

end Go.Proofs.Ytlicnppfgfjkgaa
namespace Go.Proofs.Ytlicnppfgfjkgaa
open Go.ChangeShapes Go.WideShapes Go.RowKit

/-! ### Cells in a row -/
def CellsAt (w : World) (g o : Nat) (us : List Value) : Prop :=
  ∀ j u, us[j]? = some u → w.cell? ⟨g, o + j, none⟩ = some u ∧ w.frozen? ⟨g, o + j, none⟩ = false

theorem CellsAt.keep {w w' : World} {g o : Nat} {us : List Value} (h : CellsAt w g o us) (hb : w'.heap[g]? = w.heap[g]?) : CellsAt w' g o us := by
  intro j u hu
  obtain ⟨h1, h2⟩ := h j u hu
  exact ⟨(World.cell?_of_block (w := w) (a := ⟨g, o + j, none⟩) hb).trans h1, (World.frozen?_of_block (w := w) (a := ⟨g, o + j, none⟩) hb).trans h2⟩

theorem CellsAt.lt {w : World} {g o : Nat} {us : List Value} (h : CellsAt w g o us) (hn : us ≠ []) : g < w.heap.size := by
  cases us with
  | nil => exact absurd rfl hn
  | cons u us =>
    have := (h 0 u rfl).1
    unfold World.cell? at this
    cases hh : w.heap[g]? with
    | none => simp [hh] at this
    | some x => exact (Array.getElem?_eq_some_iff.1 hh).1

theorem CellsAt.nil (w : World) (g o : Nat) : CellsAt w g o [] := fun _ _ h => by simp at h
theorem CellsAt.left {w : World} {g o : Nat} {us vs : List Value} (h : CellsAt w g o (us ++ vs)) : CellsAt w g o us := by
  intro j u hu
  exact h j u (by rw [List.getElem?_append_left (List.getElem?_eq_some_iff.1 hu).1]; exact hu)
theorem CellsAt.right {w : World} {g o : Nat} {us vs : List Value} (h : CellsAt w g o (us ++ vs)) : CellsAt w g (o + us.length) vs := by
  intro j u hu
  have := h (us.length + j) u (by rw [List.getElem?_append_right (by omega)]; simpa using hu)
  rwa [← Nat.add_assoc] at this
theorem CellsAt.app {w : World} {g o : Nat} {us vs : List Value} (h : CellsAt w g o us) (k : CellsAt w g (o + us.length) vs) : CellsAt w g o (us ++ vs) := by
  intro j u hu
  by_cases hj : j < us.length
  · exact h j u (by rwa [List.getElem?_append_left hj] at hu)
  · rw [List.getElem?_append_right (by omega)] at hu
    have := k (j - us.length) u hu
    rwa [Nat.add_assoc, Nat.add_sub_of_le (by omega)] at this

/-! ### Marks: the texts and numbers that the laws lay into memory -/
def mtGo : Nat → Nat → List UInt8 → List UInt8
  | 0, _, acc => acc
  | f + 1, k, acc => if k = 0 then acc else mtGo f (k / 10) (UInt8.ofNat (48 + k % 10) :: acc)
def markText (k : Int) : ByteArray := if k ≤ 0 then ⟨#[109, 48]⟩ else ⟨(109 :: mtGo k.toNat k.toNat []).toArray⟩
theorem mtGo_len : ∀ (f k : Nat) (acc : List UInt8), (mtGo f k acc).length ≤ f + acc.length
  | 0, _, acc => by simp [mtGo]
  | f + 1, k, acc => by
    unfold mtGo
    split
    · omega
    · have := mtGo_len f (k / 10) (UInt8.ofNat (48 + k % 10) :: acc)
      simp only [List.length_cons] at this
      omega
theorem mtGo_more : ∀ (f k : Nat) (acc : List UInt8), k ≤ f → mtGo f k acc = mtGo k k acc
  | 0, k, acc, h => by
    obtain rfl : k = 0 := by omega
    rfl
  | f + 1, k, acc, h => by
    cases k with
    | zero => simp [mtGo]
    | succ k =>
      have h10 : (k + 1) / 10 ≤ k := by omega
      have hf : (k + 1) / 10 ≤ f := by omega
      show (if k + 1 = 0 then acc else mtGo f ((k + 1) / 10) (UInt8.ofNat (48 + (k + 1) % 10) :: acc)) = (if k + 1 = 0 then acc else mtGo k ((k + 1) / 10) (UInt8.ofNat (48 + (k + 1) % 10) :: acc))
      rw [if_neg (by omega), if_neg (by omega), mtGo_more f _ _ hf, mtGo_more k _ _ h10]
theorem markText_size {k : Int} (h : k ≤ 1000000000) : (markText k).size ≤ maxLen := by
  unfold markText maxLen
  split
  · show 2 ≤ 2 ^ 63 - 1
    omega
  · have := mtGo_len k.toNat k.toNat []
    have e : (⟨(109 :: mtGo k.toNat k.toNat []).toArray⟩ : ByteArray).size = (mtGo k.toNat k.toNat []).length + 1 := by simp [ByteArray.size]
    rw [e]
    simp only [List.length_nil] at this
    omega

/-! ### Codecs -/
structure Cod (α : Type) where
  wd : Nat
  rep : World → List Value → α → List Nat → Prop
  sz : α → Nat
  mrk : Int → α → α
  cn : α → Nat
  mkcn : ∀ k x, cn (mrk k x) = cn x
  cnle : ∀ x, cn x ≤ wd + 32 * sz x
  len : ∀ {w vs x F}, rep w vs x F → vs.length = wd
  keep : ∀ {w w' vs x F}, rep w vs x F → (∀ b, b ∈ F → w'.heap[b]? = w.heap[b]?) → rep w' vs x F
  lt : ∀ {w vs x F}, rep w vs x F → ∀ b, b ∈ F → b < w.heap.size
  ones : ∀ {w vs x F}, rep w vs x F → ∀ v, v ∈ vs → v.oneCell' = true

def cI : Cod Int where
  wd := 1
  rep := fun _ vs n F => vs = [.int .i64 n] ∧ F = [] ∧ -9223372036854775808 ≤ n ∧ n ≤ 9223372036854775807
  sz := fun _ => 0
  mrk := fun k _ => k
  cn := fun _ => 1
  mkcn := fun _ _ => rfl
  cnle := fun _ => Nat.le_refl _
  len := fun h => by rw [h.1]; rfl
  keep := fun h _ => h
  lt := fun h b hb => by rw [h.2.1] at hb; simp at hb
  ones := fun h v hv => by rw [h.1] at hv; simp at hv; subst hv; rfl

def cU : Cod UInt8 where
  wd := 1
  rep := fun _ vs n F => vs = [.int .u8 (n.toNat : Int)] ∧ F = []
  sz := fun _ => 0
  mrk := fun k _ => UInt8.ofNat (k % 256).toNat
  cn := fun _ => 1
  mkcn := fun _ _ => rfl
  cnle := fun _ => Nat.le_refl _
  len := fun h => by rw [h.1]; rfl
  keep := fun h _ => h
  lt := fun h b hb => by rw [h.2] at hb; simp at hb
  ones := fun h v hv => by rw [h.1] at hv; simp at hv; subst hv; rfl

def cB : Cod Bool where
  wd := 1
  rep := fun _ vs b F => vs = [.bool b] ∧ F = []
  sz := fun _ => 0
  mrk := fun k _ => k % 3 == 0
  cn := fun _ => 1
  mkcn := fun _ _ => rfl
  cnle := fun _ => Nat.le_refl _
  len := fun h => by rw [h.1]; rfl
  keep := fun h _ => h
  lt := fun h b hb => by rw [h.2] at hb; simp at hb
  ones := fun h v hv => by rw [h.1] at hv; simp at hv; subst hv; rfl

def cS : Cod ByteArray where
  wd := 1
  rep := fun _ vs s F => vs = [.string s] ∧ F = [] ∧ s.size ≤ maxLen
  sz := fun s => s.size
  mrk := fun k _ => markText k
  cn := fun _ => 1
  mkcn := fun _ _ => rfl
  cnle := fun _ => by omega
  len := fun h => by rw [h.1]; rfl
  keep := fun h _ => h
  lt := fun h b hb => by rw [h.2.1] at hb; simp at hb
  ones := fun h v hv => by rw [h.1] at hv; simp at hv; subst hv; rfl

def cP {α β : Type} (c : Cod α) (d : Cod β) : Cod (α × β) where
  wd := c.wd + d.wd
  rep := fun w vs x F => ∃ v1 v2 F1 F2, vs = v1 ++ v2 ∧ F = F1 ++ F2 ∧ c.rep w v1 x.1 F1 ∧ d.rep w v2 x.2 F2
  sz := fun x => c.sz x.1 + d.sz x.2
  mrk := fun k x => (c.mrk k x.1, d.mrk (k + c.cn x.1) x.2)
  cn := fun x => c.cn x.1 + d.cn x.2
  mkcn := fun k x => by simp only [c.mkcn, d.mkcn]
  cnle := fun x => by have := c.cnle x.1; have := d.cnle x.2; omega
  len := fun ⟨v1, v2, _, _, h, _, h1, h2⟩ => by rw [h, List.length_append, c.len h1, d.len h2]
  keep := fun ⟨v1, v2, F1, F2, h, hF, h1, h2⟩ hb => ⟨v1, v2, F1, F2, h, hF, c.keep h1 fun b hm => hb b (by rw [hF]; simp [hm]), d.keep h2 fun b hm => hb b (by rw [hF]; simp [hm])⟩
  lt := fun ⟨_, _, _, _, _, hF, h1, h2⟩ b hb => by
    rw [hF, List.mem_append] at hb
    rcases hb with hb | hb
    · exact c.lt h1 b hb
    · exact d.lt h2 b hb
  ones := fun ⟨_, _, _, _, h, _, h1, h2⟩ v hv => by
    rw [h, List.mem_append] at hv
    rcases hv with hv | hv
    · exact c.ones h1 v hv
    · exact d.ones h2 v hv

def cM {α σ : Type} (c : Cod α) (f : σ → α) (g : α → σ) (hg : ∀ a, f (g a) = a) : Cod σ where
  wd := c.wd
  rep := fun w vs x F => c.rep w vs (f x) F
  sz := fun x => c.sz (f x)
  mrk := fun k x => g (c.mrk k (f x))
  cn := fun x => c.cn (f x)
  mkcn := fun k x => by rw [hg, c.mkcn]
  cnle := fun x => c.cnle (f x)
  len := fun h => c.len h
  keep := fun h hb => c.keep h hb
  lt := fun h => c.lt h
  ones := fun h => c.ones h

/-- A list of values, one behind the other. -/
def Cod.reps {α : Type} (c : Cod α) (w : World) : List Value → List α → List Nat → Prop
  | us, [], F => us = [] ∧ F = []
  | us, x :: xs, F => ∃ v1 v2 F1 F2, us = v1 ++ v2 ∧ F = F1 ++ F2 ∧ c.rep w v1 x F1 ∧ c.reps w v2 xs F2

section
variable {α : Type} {c : Cod α} {w w' : World}

theorem Cod.reps_len : ∀ {us : List Value} {xs : List α} {F : List Nat}, c.reps w us xs F → us.length = xs.length * c.wd
  | us, [], F, h => by rw [h.1]; simp
  | us, x :: xs, F, ⟨v1, v2, F1, F2, h, _, h1, h2⟩ => by rw [h, List.length_append, c.len h1, Cod.reps_len h2, List.length_cons, Nat.add_mul]; omega
theorem Cod.reps_keep : ∀ {us : List Value} {xs : List α} {F : List Nat}, c.reps w us xs F → (∀ b, b ∈ F → w'.heap[b]? = w.heap[b]?) → c.reps w' us xs F
  | us, [], F, h, _ => h
  | us, x :: xs, F, ⟨v1, v2, F1, F2, h, hF, h1, h2⟩, hb =>
    ⟨v1, v2, F1, F2, h, hF, c.keep h1 fun b hm => hb b (by rw [hF]; simp [hm]), Cod.reps_keep h2 fun b hm => hb b (by rw [hF]; simp [hm])⟩
theorem Cod.reps_lt : ∀ {us : List Value} {xs : List α} {F : List Nat}, c.reps w us xs F → ∀ b, b ∈ F → b < w.heap.size
  | us, [], F, h, b, hb => by rw [h.2] at hb; simp at hb
  | us, x :: xs, F, ⟨v1, v2, F1, F2, _, hF, h1, h2⟩, b, hb => by
    rw [hF, List.mem_append] at hb
    rcases hb with hb | hb
    · exact c.lt h1 b hb
    · exact Cod.reps_lt h2 b hb
theorem Cod.reps_ones : ∀ {us : List Value} {xs : List α} {F : List Nat}, c.reps w us xs F → ∀ v, v ∈ us → v.oneCell' = true
  | us, [], F, h, v, hv => by rw [h.1] at hv; simp at hv
  | us, x :: xs, F, ⟨v1, v2, F1, F2, h, _, h1, h2⟩, v, hv => by
    rw [h, List.mem_append] at hv
    rcases hv with hv | hv
    · exact c.ones h1 v hv
    · exact Cod.reps_ones h2 v hv

/-- The i-th value: its cells and its blocks. -/
theorem Cod.reps_get : ∀ {us : List Value} {xs : List α} {F : List Nat}, c.reps w us xs F → ∀ (i : Nat) (hi : i < xs.length),
    ∃ vs F1, c.rep w vs xs[i] F1 ∧ (∀ b, b ∈ F1 → b ∈ F) ∧ ∀ j u, vs[j]? = some u → us[i * c.wd + j]? = some u
  | us, [], F, _, i, hi => absurd hi (by simp)
  | us, x :: xs, F, ⟨v1, v2, F1, F2, h, hF, h1, h2⟩, 0, _ =>
    ⟨v1, F1, h1, fun b hb => by rw [hF]; simp [hb], fun j u hu => by rw [h, Nat.zero_mul, Nat.zero_add, List.getElem?_append_left (List.getElem?_eq_some_iff.1 hu).1]; exact hu⟩
  | us, x :: xs, F, ⟨v1, v2, F1, F2, h, hF, h1, h2⟩, i + 1, hi => by
    obtain ⟨vs, F', k1, k2, k3⟩ := Cod.reps_get h2 i (by simpa using hi)
    refine ⟨vs, F', by simpa using k1, fun b hb => by rw [hF]; simp [k2 b hb], fun j u hu => ?_⟩
    have hl := c.len h1
    rw [h, List.getElem?_append_right (by rw [hl, Nat.add_mul]; omega), hl]
    rw [show (i + 1) * c.wd + j - c.wd = i * c.wd + j by rw [Nat.add_mul]; omega]
    exact k3 j u hu

theorem Cod.reps_app : ∀ {us vs : List Value} {xs ys : List α} {F G : List Nat}, c.reps w us xs F → c.reps w vs ys G → c.reps w (us ++ vs) (xs ++ ys) (F ++ G)
  | us, vs, [], ys, F, G, h, k => by rw [h.1, h.2]; simpa using k
  | us, vs, x :: xs, ys, F, G, ⟨v1, v2, F1, F2, h, hF, h1, h2⟩, k =>
    ⟨v1, v2 ++ vs, F1, F2 ++ G, by rw [h, List.append_assoc], by rw [hF, List.append_assoc], h1, Cod.reps_app h2 k⟩
theorem Cod.reps_one {vs : List Value} {x : α} {F : List Nat} (h : c.rep w vs x F) : c.reps w vs [x] F :=
  ⟨vs, [], F, [], by simp, by simp, h, rfl, rfl⟩
theorem Cod.reps_cut : ∀ {us : List Value} {xs ys : List α} {F : List Nat}, c.reps w us (xs ++ ys) F →
    ∃ u1 u2 F1 F2, us = u1 ++ u2 ∧ F = F1 ++ F2 ∧ c.reps w u1 xs F1 ∧ c.reps w u2 ys F2
  | us, [], ys, F, h => ⟨[], us, [], F, rfl, rfl, ⟨rfl, rfl⟩, h⟩
  | us, x :: xs, ys, F, ⟨v1, v2, F1, F2, h, hF, h1, h2⟩ => by
    obtain ⟨u1, u2, G1, G2, e, eF, k1, k2⟩ := Cod.reps_cut h2
    exact ⟨v1 ++ u1, u2, F1 ++ G1, G2, by rw [h, e, List.append_assoc], by rw [hF, eF, List.append_assoc], ⟨v1, u1, F1, G1, rfl, rfl, h1, k1⟩, k2⟩
end

def Cod.szs {α : Type} (c : Cod α) : List α → Nat
  | [] => 0
  | x :: xs => c.sz x + 1 + c.szs xs

def Cod.mks {α : Type} (c : Cod α) : Int → List α → List α
  | _, [] => []
  | k, x :: xs => c.mrk k x :: c.mks (k + c.cn x) xs
def Cod.cns {α : Type} (c : Cod α) : List α → Nat
  | [] => 0
  | x :: xs => c.cn x + c.cns xs
theorem Cod.mks_len {α : Type} (c : Cod α) : ∀ (k : Int) (xs : List α), (c.mks k xs).length = xs.length
  | _, [] => rfl
  | k, x :: xs => by simp [Cod.mks, Cod.mks_len c _ xs]
theorem Cod.mks_cns {α : Type} (c : Cod α) : ∀ (k : Int) (xs : List α), c.cns (c.mks k xs) = c.cns xs
  | _, [] => rfl
  | k, x :: xs => by simp [Cod.mks, Cod.cns, c.mkcn, Cod.mks_cns c _ xs]
theorem Cod.cns_le {α : Type} (c : Cod α) (h : c.wd ≤ 32) : ∀ xs : List α, c.cns xs ≤ 32 * c.szs xs
  | [] => Nat.le_refl _
  | x :: xs => by
    have := c.cnle x
    have := Cod.cns_le c h xs
    simp only [Cod.cns, Cod.szs]
    omega
theorem Cod.cns_app {α : Type} (c : Cod α) : ∀ xs ys : List α, c.cns (xs ++ ys) = c.cns xs + c.cns ys
  | [], ys => by simp [Cod.cns]
  | x :: xs, ys => by simp [Cod.cns, Cod.cns_app c xs ys]; omega
theorem Cod.mks_app {α : Type} (c : Cod α) : ∀ (k : Int) (xs ys : List α), c.mks k (xs ++ ys) = c.mks k xs ++ c.mks (k + c.cns xs) ys
  | k, [], ys => by simp [Cod.mks, Cod.cns]
  | k, x :: xs, ys => by simp [Cod.mks, Cod.cns, Cod.mks_app c _ xs ys, Int.add_assoc]

/-- A slice. -/
def cL {α : Type} (c : Cod α) (hw : 0 < c.wd) (hw2 : c.wd ≤ 32) : Cod (List α) where
  wd := 1
  rep := fun w vs xs F => ∃ A cp, vs = [.slice A xs.length cp] ∧ xs.length ≤ cp ∧ cp ≤ maxLen ∧
    ((xs = [] ∧ F = []) ∨ (xs ≠ [] ∧ ∃ g o Fs us, A = some ⟨g, o, none⟩ ∧ F = g :: Fs ∧ CellsAt w g o us ∧ c.reps w us xs Fs))
  sz := c.szs
  mrk := c.mks
  cn := c.cns
  mkcn := c.mks_cns
  cnle := fun xs => Nat.le_trans (Cod.cns_le c hw2 xs) (by omega)
  len := fun ⟨_, _, h, _⟩ => by rw [h]; rfl
  keep := fun ⟨A, cp, h, hl, hm, hr⟩ hb => ⟨A, cp, h, hl, hm, by
    rcases hr with hr | ⟨hne, g, o, Fs, us, hA, hF, hc, hr⟩
    · exact .inl hr
    · exact .inr ⟨hne, g, o, Fs, us, hA, hF, hc.keep (hb g (by rw [hF]; simp)), Cod.reps_keep hr fun b hm => hb b (by rw [hF]; simp [hm])⟩⟩
  lt := fun ⟨A, cp, h, hl, hm, hr⟩ b hb => by
    rcases hr with ⟨_, hr⟩ | ⟨hne, g, o, Fs, us, hA, hF, hc, hr⟩
    · rw [hr] at hb; simp at hb
    · rw [hF, List.mem_cons] at hb
      rcases hb with rfl | hb
      · refine hc.lt fun e => ?_
        have := Cod.reps_len hr
        rw [e, List.length_nil] at this
        rcases Nat.mul_eq_zero.1 this.symm with h0 | h0
        · exact hne (List.eq_nil_of_length_eq_zero h0)
        · omega
      · exact Cod.reps_lt hr b hb
  ones := fun ⟨_, _, h, _⟩ v hv => by rw [h] at hv; simp at hv; subst hv; rfl

end Go.Proofs.Ytlicnppfgfjkgaa
namespace Go.Proofs.Ytlicnppfgfjkgaa
open Go.ChangeShapes Go.WideShapes Go.RowKit Go.Deep

/-- Whatever reads as data of type t reads by the codec. -/
def Opens {α : Type} (P : Program) (t : TypeId) (c : Cod α) : Prop :=
  P.cellsOf t = c.wd ∧ ∀ (H : Type) (enc : TypeId × Value → H) (w : World) (fuel : Nat) (cs : List Value) (x : DataW H × List MemPlace),
    DataW.trod enc P w 0 (fun _ => true) true fuel t cs = some x → w.noneFrozen x.2 → ∃ a F, c.rep w cs a F

section
variable {P : Program} {t e : TypeId}

theorem noneFrozen_mono {w : World} {p q : List MemPlace} (h : w.noneFrozen q) (hs : ∀ x, x ∈ p → x ∈ q) : w.noneFrozen p := fun b o hb => h b o (hs _ hb)

theorem opens_int (h : P.underlying t = some (.int .i64)) (hk : P.cellsOf t = 1) : Opens P t cI := by
  refine ⟨hk, fun H enc w fuel cs x hx _ => ?_⟩
  obtain ⟨n, rfl, _, hw⟩ := DataW.trod_int h hx
  exact ⟨n, [], rfl, rfl, by simpa [Lit.wf, IntKind.min, IntKind.max, IntKind.signed, IntKind.bits] using hw⟩
theorem opens_u8 (h : P.underlying t = some (.int .u8)) (hk : P.cellsOf t = 1) : Opens P t cU := by
  refine ⟨hk, fun H enc w fuel cs x hx _ => ?_⟩
  obtain ⟨n, rfl, _, hw⟩ := DataW.trod_int h hx
  have hr : 0 ≤ n ∧ n ≤ 255 := by simpa [Lit.wf, IntKind.min, IntKind.max, IntKind.signed, IntKind.bits] using hw
  refine ⟨UInt8.ofNat n.toNat, [], ?_, rfl⟩
  have : (UInt8.ofNat n.toNat).toNat = n.toNat := by
    rw [UInt8.toNat_ofNat']; omega
  rw [this, Int.toNat_of_nonneg hr.1]
theorem opens_bool (h : P.underlying t = some .bool) (hk : P.cellsOf t = 1) : Opens P t cB := by
  refine ⟨hk, fun H enc w fuel cs x hx _ => ?_⟩
  obtain ⟨b, rfl, _⟩ := DataW.trod_bool h hx
  exact ⟨b, [], rfl, rfl⟩
theorem opens_string (h : P.underlying t = some .string) (hk : P.cellsOf t = 1) : Opens P t cS := by
  refine ⟨hk, fun H enc w fuel cs x hx _ => ?_⟩
  obtain ⟨s, rfl, _, hs⟩ := DataW.trod_string h hx
  exact ⟨s, [], rfl, rfl, hs⟩

theorem addr_spot {w : World} {a : Addr} {v : Value} (h : w.cell? a = some v) : a.spot = none := World.cell?_spot h
theorem add_at (g o k : Nat) : (⟨g, o, none⟩ : Addr).add k = ⟨g, o + k, none⟩ := by
  unfold Addr.add; split <;> simp_all

theorem opens_slice {α : Type} {c : Cod α} {hw : 0 < c.wd} {hw2 : c.wd ≤ 32} (ht : P.underlying t = some (.slice e)) (he : Opens P e c) (hk : P.cellsOf t = 1) : Opens P t (cL c hw hw2) := by
  obtain ⟨hc, he⟩ := he
  refine ⟨hk, fun H enc w fuel cs x hx hf => ?_⟩
  rcases open_slice ht hx with ⟨rfl, _⟩ | ⟨a, len, cap, m, n, D, Pl, rfl, _, hl, hm, hmm, rfl, hi⟩
  · exact ⟨[], [], none, 0, rfl, Nat.le_refl _, by unfold maxLen; omega, .inl ⟨rfl, rfl⟩⟩
  · simp only [if_true] at hmm
    subst hmm
    have hfr : ∀ j, j < m * c.wd → w.frozen? ⟨a.block, a.off + j, none⟩ = false := fun j hj => hf _ _ (by
      simp only [List.mem_append]; left
      simp only [MemPlace.row, List.mem_map, List.mem_range]
      exact ⟨j, by rw [hc]; exact hj, rfl⟩)
    have hpl : ∀ i, i < m → w.noneFrozen (Pl i) := fun i him => noneFrozen_mono hf fun y hy => by
      simp only [List.mem_append, List.mem_flatMap, List.mem_range]
      exact .inr ⟨i, him, hy⟩
    -- the values, one by one
    have key : ∀ k, k ≤ len → ∃ us xs F, xs.length = k ∧ (∀ j u, us[j]? = some u → w.cell? (a.add j) = some u) ∧ c.reps w us xs F := by
      intro k
      induction k with
      | zero => exact fun _ => ⟨[], [], [], rfl, fun j u hu => by simp at hu, rfl, rfl⟩
      | succ k ih =>
        intro hk'
        obtain ⟨us, xs, F, hxl, hcell, hr⟩ := ih (by omega)
        obtain ⟨cs', h1, h2⟩ := hi k (by omega)
        obtain ⟨y, G, hy⟩ := he H enc w n cs' _ h2 (hpl k (by omega))
        obtain ⟨_, hcl, hat⟩ := World.cells?_some h1
        refine ⟨us ++ cs', xs ++ [y], F ++ G, by simp [hxl], fun j u hu => ?_, Cod.reps_app hr (Cod.reps_one hy)⟩
        have hul := Cod.reps_len hr
        by_cases hj : j < us.length
        · rw [List.getElem?_append_left hj] at hu
          exact hcell j u hu
        · rw [List.getElem?_append_right (by omega)] at hu
          have hj2 : j - us.length < P.cellsOf e := by rw [← hcl]; exact (List.getElem?_eq_some_iff.1 hu).1
          have := hat (j - us.length) hj2
          rw [hu, add_add, hc] at this
          rwa [hul, hxl, show k * c.wd + (j - k * c.wd) = j by rw [hul, hxl] at hj; omega] at this
    obtain ⟨us, xs, F, hxl, hcell, hr⟩ := key len (Nat.le_refl _)
    by_cases h0 : len = 0
    · subst h0
      obtain rfl := List.eq_nil_of_length_eq_zero hxl
      exact ⟨[], [], some a, m, by simp, by simp, hm, .inl ⟨rfl, rfl⟩⟩
    · have hul := Cod.reps_len hr
      have hul0 : 0 < us.length := by rw [hul, hxl]; exact Nat.mul_pos (by omega) hw
      obtain ⟨g, o, sp⟩ := a
      have hsp : sp = none := by
        have := hcell 0 us[0] (List.getElem?_eq_getElem hul0)
        have := addr_spot this
        simpa [Addr.add] using this
      subst hsp
      refine ⟨xs, g :: F, some ⟨g, o, none⟩, m, by rw [hxl], by rw [hxl]; exact hl, hm, .inr ⟨fun e => h0 (by rw [← hxl, e]; rfl), g, o, F, us, rfl, rfl, fun j u hu => ?_, hr⟩⟩
      refine ⟨by rw [← add_at]; exact hcell j u hu, hfr j ?_⟩
      have hj : j < us.length := (List.getElem?_eq_some_iff.1 hu).1
      rw [hul, hxl] at hj
      exact Nat.lt_of_lt_of_le hj (Nat.mul_le_mul_right _ hl)

/-- The fields from one place on. -/
def OpensFs {α : Type} (P : Program) (fs : List Field) (o : Nat) (c : Cod α) : Prop :=
  ∀ (H : Type) (enc : TypeId × Value → H) (w : World) (n : Nat) (cs : List Value) (xs : List (DataW H × List MemPlace)), cs.length = o + c.wd → xs.length = fs.length →
    (∀ (i : Nat) (f : Field), fs[i]? = some f → DataW.trod enc P w 0 (fun _ => true) true n f.type ((cs.drop f.offset).take (P.cellsOf f.type)) = xs[i]?) →
    w.noneFrozen (xs.flatMap (·.2)) → ∃ a F, c.rep w (cs.drop o) a F

theorem opensFs_one {α : Type} {c : Cod α} {f : Field} {o : Nat} (ho : f.offset = o) (h : Opens P f.type c) : OpensFs P [f] o c := by
  intro H enc w n cs xs hl hx hi hf
  match xs, hx with
  | [x], _ =>
    have h0 := hi 0 f rfl
    rw [ho, h.1, List.take_of_length_le (by rw [List.length_drop, hl]; omega)] at h0
    exact h.2 H enc w n _ x h0 (by simpa using hf)

theorem opensFs_cons {α β : Type} {c : Cod α} {d : Cod β} {f : Field} {fs : List Field} {o : Nat} (ho : f.offset = o) (h : Opens P f.type c) (k : OpensFs P fs (o + c.wd) d) : OpensFs P (f :: fs) o (cP c d) := by
  intro H enc w n cs xs hl hx hi hf
  match xs, hx with
  | x :: xs, hx =>
    have h0 := hi 0 f rfl
    rw [ho, h.1] at h0
    obtain ⟨a, F, ha⟩ := h.2 H enc w n _ x h0 (noneFrozen_mono hf fun y hy => by simp [hy])
    obtain ⟨b, G, hb⟩ := k H enc w n cs xs (by rw [hl]; show o + (c.wd + d.wd) = _; omega) (by simpa using hx) (fun i f hf => by simpa using hi (i + 1) f hf) (noneFrozen_mono hf fun y hy => by
      simp only [List.flatMap_cons, List.mem_append]; exact .inr hy)
    exact ⟨(a, b), F ++ G, _, _, F, G, by rw [← List.drop_drop, List.take_append_drop], rfl, ha, hb⟩

theorem opens_struct {α : Type} {c : Cod α} {fs : Array Field} (ht : P.underlying t = some (.struct fs)) (hk : P.cellsOf t = c.wd) (h : OpensFs P fs.toList 0 c) : Opens P t c := by
  refine ⟨hk, fun H enc w fuel cs x hx hf => ?_⟩
  obtain ⟨xs, n, _, rfl, hl, hxl, hi⟩ := DataW.trod_struct ht hx
  have := h H enc w n cs xs (by rw [hl, hk]; omega) (by simpa using hxl) (fun i f hf => hi i f (by simpa using hf)) hf
  simpa using this

theorem opens_map {α σ : Type} {c : Cod α} {f : σ → α} {g : α → σ} {hg : ∀ a, f (g a) = a} (h : Opens P t c) : Opens P t (cM c f g hg) := by
  refine ⟨h.1, fun H enc w fuel cs x hx hz => ?_⟩
  obtain ⟨a, F, ha⟩ := h.2 H enc w fuel cs x hx hz
  exact ⟨g a, F, by show c.rep w cs (f (g a)) F; rw [hg]; exact ha⟩

/-- A struct that came in. -/
theorem Opens.struct_ {α : Type} {c : Cod α} {fs : Array Field} (h : Opens P t c) (ht : P.underlying t = some (.struct fs)) {H : Type} {enc : TypeId × Value → H} {w : World} {base : Nat} {v : Value} {d : DataW H} {p : List MemPlace}
    (hv : Value.okWide P w .any base t v) (hd : DataW.Trod enc P w 0 (fun _ => true) true t v d p) (hf : w.noneFrozen p) : ∃ cs a F, v = .agg cs ∧ c.rep w cs.toList a F := by
  obtain ⟨cs, rfl, _⟩ := okWide_struct ht hv
  obtain ⟨n, hn⟩ := hd
  obtain ⟨a, F, ha⟩ := h.2 H enc w n _ _ hn hf
  exact ⟨cs, a, F, rfl, ha⟩
theorem Opens.slice_ {α : Type} {c : Cod α} (h : Opens P t c) (ht : P.underlying t = some (.slice e)) {H : Type} {enc : TypeId × Value → H} {w : World} {base : Nat} {v : Value} {d : DataW H} {p : List MemPlace}
    (hv : Value.okWide P w .any base t v) (hd : DataW.Trod enc P w 0 (fun _ => true) true t v d p) (hf : w.noneFrozen p) : ∃ a F, c.rep w [v] a F := by
  obtain ⟨A, len, cap, rfl⟩ := okWide_slice ht hv
  obtain ⟨n, hn⟩ := hd
  exact h.2 H enc w n _ _ hn hf
end

end Go.Proofs.Ytlicnppfgfjkgaa
namespace Go.Proofs.Ytlicnppfgfjkgaa
open Go.RowKit

/-! ### Only some blocks have turned -/
structure Only (F : List Nat) (w w' : World) : Prop where
  os : w'.os = w.os
  tape : w'.tape = w.tape
  output : w'.output = w.output
  size : w.heap.size ≤ w'.heap.size
  block : ∀ b, b < w.heap.size → b ∉ F → w'.heap[b]? = w.heap[b]?

theorem Only.refl (F : List Nat) (w : World) : Only F w w := ⟨rfl, rfl, rfl, Nat.le_refl _, fun _ _ _ => rfl⟩
theorem Only.of_below {F : List Nat} {w w' : World} (h : Below w.heap.size w w') : Only F w w' := ⟨h.os, h.tape, h.output, h.size, fun b hb _ => h.block b hb⟩
theorem Only.trans {F : List Nat} {a b c : World} (h : Only F a b) (k : Only F b c) : Only F a c :=
  ⟨k.os.trans h.os, k.tape.trans h.tape, k.output.trans h.output, Nat.le_trans h.size k.size, fun i hi hn => (k.block i (Nat.lt_of_lt_of_le hi h.size) hn).trans (h.block i hi hn)⟩
theorem Only.mono {F G : List Nat} {a b : World} (h : Only F a b) (hs : ∀ x, x ∈ F → x ∈ G) : Only G a b := ⟨h.os, h.tape, h.output, h.size, fun i hi hn => h.block i hi fun hf => hn (hs i hf)⟩
theorem Only.alloc {F : List Nat} {a b : World} (h : Only F a b) (o : Obj) : Only F a (b.alloc o) := h.trans (.of_below (bel_alloc (Below.refl _ _) o))
theorem Only.drew {F : List Nat} {a b : World} (h : Only F a b) : Only F a b.drew := ⟨h.os, h.tape, h.output, h.size, h.block⟩
theorem Only.drewN {F : List Nat} {a b : World} (h : Only F a b) (n : Nat) : Only F a (b.drewN n) := ⟨h.os, h.tape, h.output, h.size, h.block⟩
theorem Only.set_ {F : List Nat} {a b : World} (h : Only F a b) {p : Addr} (hp : p.block ∈ F) (u : Value) : Only F a (b.setCell p u) :=
  h.trans ⟨rfl, rfl, rfl, by simp, fun i _ hn => Below.heap_setCell _ _ _ _ (fun e => hn (e ▸ hp))⟩
theorem Only.bel {F : List Nat} {a b : World} (h : Only F a b) (B : Nat) (hB : B ≤ a.heap.size) (hF : ∀ x, x ∈ F → B ≤ x) : Below B a b :=
  ⟨h.os, h.tape, h.output, h.size, fun k hk => h.block k (by omega) fun hf => by have := hF k hf; omega⟩

/-! ### Readings kept -/
theorem Cod.bel {α : Type} {c : Cod α} {w w' : World} {vs : List Value} {x : α} {F : List Nat} (h : c.rep w vs x F) (hb : Below w.heap.size w w') : c.rep w' vs x F :=
  c.keep h fun b hm => hb.block b (c.lt h b hm)
theorem Cod.only {α : Type} {c : Cod α} {w w' : World} {vs : List Value} {x : α} {F G : List Nat} (h : c.rep w vs x F) (hb : Only G w w') (hd : ∀ b, b ∈ F → b ∉ G) : c.rep w' vs x F :=
  c.keep h fun b hm => hb.block b (c.lt h b hm) (hd b hm)
theorem Cod.reps_bel {α : Type} {c : Cod α} {w w' : World} {vs : List Value} {x : List α} {F : List Nat} (h : c.reps w vs x F) (hb : Below w.heap.size w w') : c.reps w' vs x F :=
  Cod.reps_keep h fun b hm => hb.block b (Cod.reps_lt h b hm)

/-- blocks of a call's own, none twice -/
def Fresh (B : Nat) (F : List Nat) : Prop := (∀ b, b ∈ F → B ≤ b) ∧ F.Nodup
theorem Fresh.nil (B : Nat) : Fresh B [] := ⟨fun b h => by simp at h, List.nodup_nil⟩
theorem Fresh.mono {B B' : Nat} {F : List Nat} (h : Fresh B F) (hB : B' ≤ B) : Fresh B' F := ⟨fun b hb => Nat.le_trans hB (h.1 b hb), h.2⟩
theorem Fresh.app {B C : Nat} {F G : List Nat} (h : Fresh B F) (hlt : ∀ b, b ∈ F → b < C) (k : Fresh C G) (hBC : B ≤ C) : Fresh B (F ++ G) :=
  ⟨fun b hb => by
    rcases List.mem_append.1 hb with hb | hb
    · exact h.1 b hb
    · exact Nat.le_trans hBC (k.1 b hb),
   List.nodup_append.2 ⟨h.2, k.2, fun a ha b hb e => by have := hlt a ha; have := k.1 b hb; omega⟩⟩

/-- A call returns a value of one cell that reads as x, in memory of its own. -/
def GivesS {α : Type} (c : Cod α) (w : World) (x : α) (e : Ending) (w' : World) : Prop :=
  ∃ v F, e = .returned v ∧ Below w.heap.size w w' ∧ c.rep w' [v] x F ∧ Fresh w.heap.size F
/-- .. a struct. -/
def GivesR {α : Type} (c : Cod α) (w : World) (x : α) (e : Ending) (w' : World) : Prop :=
  ∃ vs F, e = .returned (.agg vs) ∧ Below w.heap.size w w' ∧ c.rep w' vs.toList x F ∧ Fresh w.heap.size F

/-- From block L on nothing that was there has turned. -/
structure Keep (L : Nat) (w w' : World) : Prop where
  size : w.heap.size ≤ w'.heap.size
  block : ∀ b, L ≤ b → b < w.heap.size → w'.heap[b]? = w.heap[b]?
theorem Keep.refl (L : Nat) (w : World) : Keep L w w := ⟨Nat.le_refl _, fun _ _ _ => rfl⟩
theorem Keep.mono {L L' : Nat} {w w' : World} (h : Keep L w w') (hL : L ≤ L') : Keep L' w w' := ⟨h.size, fun b h1 h2 => h.block b (Nat.le_trans hL h1) h2⟩
theorem Keep.bel {L : Nat} {a w w' : World} (h : Keep L a w) (hb : Below w.heap.size w w') : Keep L a w' :=
  ⟨Nat.le_trans h.size hb.size, fun b h1 h2 => (hb.block b (Nat.lt_of_lt_of_le h2 h.size)).trans (h.block b h1 h2)⟩
theorem Keep.alloc {L : Nat} {a w : World} (h : Keep L a w) (o : Obj) : Keep L a (w.alloc o) := h.bel (bel_alloc (Below.refl _ _) o)
theorem Keep.drew {L : Nat} {a w : World} (h : Keep L a w) : Keep L a w.drew := h.bel (Below.refl _ _).drew
theorem Keep.drewN {L : Nat} {a w : World} (h : Keep L a w) (n : Nat) : Keep L a (w.drewN n) := h.bel (bel_drewN (Below.refl _ _) n)
theorem Keep.set_ {L : Nat} {a w : World} (h : Keep L a w) {p : Addr} (hp : p.block < L) (u : Value) : Keep L a (w.setCell p u) :=
  ⟨by simpa using h.size, fun b h1 h2 => (Below.heap_setCell _ _ _ _ (by omega)).trans (h.block b h1 h2)⟩
theorem Cod.keep2 {α : Type} {c : Cod α} {w w' : World} {vs : List Value} {x : α} {F : List Nat} {L : Nat} (h : c.rep w vs x F) (hf : Fresh L F) (hk : Keep L w w') : c.rep w' vs x F :=
  c.keep h fun b hm => hk.block b (hf.1 b hm) (c.lt h b hm)
theorem Fresh.then_ {B L : Nat} {F G : List Nat} {w1 : World} (h : Fresh B F) (hlt : ∀ b, b ∈ F → b < w1.heap.size) (hL : w1.heap.size ≤ L) (k : Fresh L G) (hBL : B ≤ L) : Fresh B (F ++ G) :=
  h.app (fun b hb => Nat.lt_of_lt_of_le (hlt b hb) hL) k hBL
theorem mem_lt {F G : List Nat} {a b : Nat} (h1 : ∀ x, x ∈ F → x < a) (h2 : ∀ x, x ∈ G → x < b) (hab : a ≤ b) : ∀ x, x ∈ F ++ G → x < b := fun x hx => by
  rcases List.mem_append.1 hx with hx | hx
  · have := h1 x hx; omega
  · exact h2 x hx

/-! ### Sizes -/
def Cod.sumSz {α : Type} (c : Cod α) : List α → Nat
  | [] => 0
  | x :: xs => c.sz x + c.sumSz xs
theorem Cod.szs_sum {α : Type} (c : Cod α) : ∀ xs : List α, c.szs xs = xs.length + c.sumSz xs
  | [] => rfl
  | x :: xs => by simp only [Cod.szs, Cod.sumSz, List.length_cons, Cod.szs_sum c xs]; omega
theorem Cod.szs_flat {α : Type} {c : Cod α} (h : ∀ x, c.sz x = 0) : ∀ xs : List α, c.szs xs = xs.length
  | [] => rfl
  | x :: xs => by simp [Cod.szs, h, Cod.szs_flat h xs, Nat.add_comm]
theorem Cod.len_le {α : Type} (c : Cod α) (xs : List α) : xs.length ≤ c.szs xs := by rw [Cod.szs_sum]; omega
theorem Cod.sz_mem {α : Type} (c : Cod α) : ∀ (xs : List α) (x : α), x ∈ xs → c.sz x ≤ c.szs xs
  | y :: ys, x, h => by
    simp only [Cod.szs]
    rcases List.mem_cons.1 h with rfl | h
    · omega
    · have := Cod.sz_mem c ys x h; omega
theorem Cod.sumSz_le {α : Type} (c : Cod α) (xs : List α) : ∀ k, c.sumSz (xs.take k) ≤ c.sumSz xs := by
  induction xs with
  | nil => intro k; simp
  | cons x xs ih =>
    intro k
    cases k with
    | zero => simp [Cod.sumSz]
    | succ k => simp only [List.take_succ_cons, Cod.sumSz]; have := ih k; omega
theorem Cod.sumSz_succ {α : Type} (c : Cod α) : ∀ (xs : List α) (k : Nat) (h : k < xs.length), c.sumSz (xs.take (k + 1)) = c.sumSz (xs.take k) + c.sz xs[k]
  | x :: xs, 0, _ => by simp [Cod.sumSz]
  | x :: xs, k + 1, h => by
    have := Cod.sumSz_succ c xs k (by simpa using h)
    simp only [List.take_succ_cons, Cod.sumSz, List.getElem_cons_succ, this]; omega

/-- .. a struct and one, two values more; a slice and one value more. -/
def GivesR2 {α : Type} (c : Cod α) (w : World) (x : α) (r1 : Value) (e : Ending) (w' : World) : Prop :=
  ∃ vs F, e = .returned (.tuple #[.agg vs, r1]) ∧ Below w.heap.size w w' ∧ c.rep w' vs.toList x F ∧ Fresh w.heap.size F
def GivesR3 {α : Type} (c : Cod α) (w : World) (x : α) (r1 r2 : Value) (e : Ending) (w' : World) : Prop :=
  ∃ vs F, e = .returned (.tuple #[.agg vs, r1, r2]) ∧ Below w.heap.size w w' ∧ c.rep w' vs.toList x F ∧ Fresh w.heap.size F
def GivesS2 {α : Type} (c : Cod α) (w : World) (x : α) (r1 : Value) (e : Ending) (w' : World) : Prop :=
  ∃ v F, e = .returned (.tuple #[v, r1]) ∧ Below w.heap.size w w' ∧ c.rep w' [v] x F ∧ Fresh w.heap.size F

/-! ### A slice's cells -/
section
variable {α : Type} {c : Cod α} {hw : 0 < c.wd} {hw2 : c.wd ≤ 32} {w : World} {A : Option Addr} {n cp : Nat} {xs : List α} {F : List Nat}

theorem cL_len (h : (cL c hw hw2).rep w [.slice A n cp] xs F) : n = xs.length ∧ n ≤ cp ∧ cp ≤ maxLen := by
  obtain ⟨A', cp', hv, hl, hm, _⟩ := h
  simp only [List.cons.injEq, Value.slice.injEq, and_true] at hv
  obtain ⟨rfl, rfl, rfl⟩ := hv
  exact ⟨rfl, hl, hm⟩
theorem cL_form {v : Value} (h : (cL c hw hw2).rep w [v] xs F) : ∃ A cp, v = .slice A xs.length cp := by
  obtain ⟨A', cp', hv, _⟩ := h
  simp only [List.cons.injEq, and_true] at hv
  exact ⟨A', cp', hv⟩
theorem cL_get (h : (cL c hw hw2).rep w [.slice A n cp] xs F) {k : Nat} (hk : k < xs.length) :
    ∃ g o vs F1, A = some ⟨g, o, none⟩ ∧ g ∈ F ∧ c.rep w vs xs[k] F1 ∧ (∀ b, b ∈ F1 → b ∈ F) ∧
      ∀ j v, vs[j]? = some v → w.cell? ⟨g, o + k * c.wd + j, none⟩ = some v ∧ w.frozen? ⟨g, o + k * c.wd + j, none⟩ = false := by
  obtain ⟨A', cp', hv, hl, hm, hr⟩ := h
  simp only [List.cons.injEq, Value.slice.injEq, and_true] at hv
  obtain ⟨rfl, rfl, rfl⟩ := hv
  rcases hr with ⟨rfl, _⟩ | ⟨_, g, o, Fs, us, rfl, rfl, hc, hr⟩
  · simp at hk
  · obtain ⟨vs, F1, h1, h2, h3⟩ := Cod.reps_get hr k hk
    refine ⟨g, o, vs, F1, rfl, by simp, h1, fun b hb => by simp [h2 b hb], fun j v hj => ?_⟩
    have := hc _ _ (h3 j v hj)
    rwa [← Nat.add_assoc] at this
end

/-! ### A block that is known whole -/
def Blk (w : World) (g : Nat) (t : TypeId) (cs : Array Value) : Prop := w.heap[g]? = some (.cells cs t (0, 0))
section
variable {w w' : World} {g : Nat} {t : TypeId} {cs : Array Value}
theorem Blk.lt (h : Blk w g t cs) : g < w.heap.size := (Array.getElem?_eq_some_iff.1 h).1
theorem Blk.cell (h : Blk w g t cs) (i : Nat) : w.cell? ⟨g, i, none⟩ = cs[i]? := cell_of_row w g i cs t (0, 0) h
theorem Blk.frozen (h : Blk w g t cs) (i : Nat) : w.frozen? ⟨g, i, none⟩ = false := by
  unfold Blk at h
  simp [World.frozen?, h]
theorem Blk.new (w : World) (t : TypeId) (cs : Array Value) : Blk (w.alloc (.cells cs t)) w.heap.size t cs := heap_alloc_new w _
theorem Blk.set_ (h : Blk w g t cs) (i : Nat) (u : Value) : Blk (w.setCell ⟨g, i, none⟩ u) g t (cs.setIfInBounds i u) := by
  unfold Blk at h ⊢
  simp [World.setCell, Array.getElem?_modify, h]
theorem Blk.bel (h : Blk w g t cs) (hb : Below w.heap.size w w') : Blk w' g t cs := (hb.block g h.lt).trans h
theorem Blk.only {F : List Nat} (h : Blk w g t cs) (hb : Only F w w') (hg : g ∉ F) : Blk w' g t cs := (hb.block g h.lt hg).trans h
end

/-- Cells written one behind the other. -/
def putCells (w : World) (g : Nat) : Nat → List Value → World
  | _, [] => w
  | i, v :: vs => putCells (w.setCell ⟨g, i, none⟩ v) g (i + 1) vs
def putRow (cs : Array Value) : Nat → List Value → Array Value
  | _, [] => cs
  | i, v :: vs => putRow (cs.setIfInBounds i v) (i + 1) vs
theorem Blk.put {g : Nat} {t : TypeId} : ∀ {w : World} {cs : Array Value} (i : Nat) (vs : List Value), Blk w g t cs → Blk (putCells w g i vs) g t (putRow cs i vs)
  | _, _, _, [], h => h
  | _, _, i, v :: vs, h => Blk.put (i + 1) vs (h.set_ i v)
theorem putRow_size : ∀ (cs : Array Value) (i : Nat) (vs : List Value), (putRow cs i vs).size = cs.size
  | _, _, [] => rfl
  | cs, i, v :: vs => by unfold putRow; rw [putRow_size]; simp
theorem putRow_take : ∀ (cs : Array Value) (i : Nat) (vs : List Value), i + vs.length ≤ cs.size → (putRow cs i vs).toList.take (i + vs.length) = cs.toList.take i ++ vs
  | cs, i, [], _ => by simp [putRow]
  | cs, i, v :: vs, h => by
    simp only [List.length_cons] at h
    unfold putRow
    have h1 : (cs.setIfInBounds i v).toList.take (i + 1) = cs.toList.take i ++ [v] := by
      have hl : i < (cs.setIfInBounds i v).toList.length := by simp; omega
      rw [List.take_succ_eq_append_getElem hl]
      congr 1
      · simp only [Array.toList_setIfInBounds, List.take_set]
        rw [List.set_eq_of_length_le (by simp; omega)]
      · simp
    have := putRow_take (cs.setIfInBounds i v) (i + 1) vs (by simp; omega)
    rw [List.length_cons, show i + (vs.length + 1) = i + 1 + vs.length by omega, this, h1, List.append_assoc]; rfl
theorem putCells_only {F : List Nat} {g : Nat} (hg : g ∈ F) : ∀ {a w : World} (i : Nat) (vs : List Value), Only F a w → Only F a (putCells w g i vs)
  | _, _, _, [], h => h
  | _, _, i, v :: vs, h => putCells_only hg (i + 1) vs (h.set_ (p := ⟨g, i, none⟩) hg v)

/-! ### A new row filled element by element -/
section
variable {α : Type} {c : Cod α} {w wr w1 : World} {E : TypeId} {n k : Nat} {xs : List α}

/-- The new block w.heap.size holds room for n elements; the first k are those of xs. -/
def Filled (c : Cod α) (w : World) (E : TypeId) (xs : List α) (k : Nat) (wr : World) : Prop :=
  ∃ cs Fs, Blk wr w.heap.size E cs ∧ cs.size = xs.length * c.wd ∧ c.reps wr (cs.toList.take (k * c.wd)) (xs.take k) Fs ∧ Fresh (w.heap.size + 1) Fs ∧ Below w.heap.size w wr

theorem Filled.start (cs : Array Value) (hcs : cs.size = xs.length * c.wd) : Filled c w E xs 0 (w.alloc (.cells cs E)) :=
  ⟨cs, [], Blk.new w E cs, hcs, by simp [Cod.reps], Fresh.nil _, bel_alloc (Below.refl _ _) _⟩
theorem Filled.bel (h : Filled c w E xs k wr) : Below w.heap.size w wr := by
  obtain ⟨_, _, _, _, _, _, h⟩ := h; exact h
theorem Filled.lt (h : Filled c w E xs k wr) : w.heap.size < wr.heap.size := by
  obtain ⟨_, _, h, _⟩ := h; exact h.lt
theorem Filled.cell (h : Filled c w E xs k wr) (hk : k < xs.length) (hb : Below wr.heap.size wr w1) : ∀ j, j < c.wd → (∃ v, w1.cell? ⟨w.heap.size, k * c.wd + j, none⟩ = some v) ∧ w1.frozen? ⟨w.heap.size, k * c.wd + j, none⟩ = false := by
  obtain ⟨cs, Fs, hblk, hcs, _⟩ := h
  intro j hj
  have hlt : k * c.wd + j < cs.size := by
    rw [hcs]
    have : (k + 1) * c.wd ≤ xs.length * c.wd := Nat.mul_le_mul_right _ hk
    rw [Nat.add_mul] at this; omega
  exact ⟨⟨cs[k * c.wd + j], by rw [(hblk.bel hb).cell, Array.getElem?_eq_getElem hlt]⟩, (hblk.bel hb).frozen _⟩
theorem Filled.step (h : Filled c w E xs k wr) (hk : k < xs.length) (hb : Below wr.heap.size wr w1) {vs : List Value} {F1 : List Nat} (hv : c.rep w1 vs xs[k] F1) (hf : Fresh wr.heap.size F1) :
    Filled c w E xs (k + 1) (putCells w1 w.heap.size (k * c.wd) vs) := by
  obtain ⟨cs, Fs, hblk, hcs, hr, hfr, hB⟩ := h
  have hl := c.len hv
  have hle : k * c.wd + c.wd ≤ cs.size := by
    rw [hcs]
    have : (k + 1) * c.wd ≤ xs.length * c.wd := Nat.mul_le_mul_right _ hk
    rwa [Nat.add_mul, Nat.one_mul] at this
  have ho : Only [w.heap.size] w1 (putCells w1 w.heap.size (k * c.wd) vs) := putCells_only (by simp) _ _ (Only.refl _ _)
  have hlt := hblk.lt
  refine ⟨putRow cs (k * c.wd) vs, Fs ++ F1, (hblk.bel hb).put _ _, by rw [putRow_size]; exact hcs, ?_, ?_, ?_⟩
  · rw [Nat.add_mul, Nat.one_mul, ← hl, putRow_take _ _ _ (by rw [hl]; exact hle), List.take_succ_eq_append_getElem hk]
    have k1 := Cod.reps_keep (Cod.reps_bel hr hb) (w' := putCells w1 w.heap.size (k * c.wd) vs) fun b hm => ho.block b (Nat.lt_of_lt_of_le (Cod.reps_lt hr b hm) hb.size) (by have := hfr.1 b hm; simp; omega)
    have k2 := c.keep hv (w' := putCells w1 w.heap.size (k * c.wd) vs) fun b hm => ho.block b (c.lt hv b hm) (by have := hf.1 b hm; simp; omega)
    rw [hl]
    exact Cod.reps_app k1 (Cod.reps_one k2)
  · exact hfr.app (fun b hm => Cod.reps_lt hr b hm) hf (by omega)
  · exact hB.trans ((hb.mono hB.size).trans (ho.bel _ (Nat.le_trans hB.size hb.size) (fun x hx => by simp at hx; omega)))
theorem Filled.done {hw : 0 < c.wd} {hw2 : c.wd ≤ 32} (h : Filled c w E xs xs.length wr) (hm : xs.length ≤ maxLen) :
    ∃ F, (cL c hw hw2).rep wr [.slice (some ⟨w.heap.size, 0, none⟩) xs.length xs.length] xs F ∧ Fresh w.heap.size F := by
  obtain ⟨cs, Fs, hblk, hcs, hr, hfr, hB⟩ := h
  rw [List.take_length, List.take_of_length_le (by simp [hcs])] at hr
  by_cases h0 : xs = []
  · subst h0
    exact ⟨[], ⟨_, _, rfl, Nat.le_refl _, hm, .inl ⟨rfl, rfl⟩⟩, Fresh.nil _⟩
  · refine ⟨w.heap.size :: Fs, ⟨_, _, rfl, Nat.le_refl _, hm, .inr ⟨h0, w.heap.size, 0, Fs, cs.toList, rfl, rfl, fun j u hu => ?_, hr⟩⟩, ?_, ?_⟩
    · rw [Nat.zero_add]
      exact ⟨by rw [hblk.cell]; simpa using hu, hblk.frozen _⟩
    · intro b hb
      rcases List.mem_cons.1 hb with rfl | hb
      · exact Nat.le_refl _
      · have := hfr.1 b hb; omega
    · exact List.nodup_cons.2 ⟨fun hm => by have := hfr.1 _ hm; omega, hfr.2⟩
end

theorem run_make_rowN {P : Program} (t e : TypeId) (i : TypeInfo) (z : Value) (ht : P.underlying t = some (.slice e)) (hi : P.info? e = some i) (hz : i.zero = some z)
    (kl kc : IntKind) (n c : Nat) (hnc : n ≤ c) (hbytes : i.bytes * c ≤ 281474976710656) (h63 : c ≤ 9223372036854775807) (w : World) :
    (Instr.makeSlice t (.int kl (n : Int)) (.int kc (c : Int))).run P w = .ok (.slice (some ⟨w.heap.size, 0, none⟩) n c) (w.alloc (.cells (madeCells z.cells (c * i.size)) e)) := by
  have hb : (i.bytes : Int) * (c : Int) ≤ 281474976710656 := by
    have h : ((i.bytes * c : Nat) : Int) ≤ 281474976710656 := by omega
    rwa [Int.natCast_mul] at h
  have hr := run_make (P := P) w t e i z ht hi hz kl kc n c (by omega) (by omega) hb (by omega)
  simp only [Int.toNat_natCast] at hr
  exact hr

end Go.Proofs.Ytlicnppfgfjkgaa
namespace Go.Proofs.Ytlicnppfgfjkgaa
open Go.ChangeShapes Go.WideShapes Go.RowKit
set_option linter.unusedVariables false

def cUS : Cod (List UInt8) := cL cU (by decide) (by decide)
theorem opens_US : Opens Try.prog 22 cUS := opens_slice Try.underlying22 (opens_u8 Try.underlying5 (by kernel_rfl)) (by kernel_rfl)

end Go.Proofs.Ytlicnppfgfjkgaa
namespace Go.Proofs.Ytlicnppfgfjkgaa
open Go.ChangeShapes Go.WideShapes Go.RowKit
set_option linter.unusedVariables false

structure TResp where
  type : Int
  status : Int
  ver : Int
  body : List UInt8
  shares : Bool

def cResp : Cod TResp := cM (cP cI (cP cI (cP cI (cP cUS cB)))) (fun x => (x.type, x.status, x.ver, x.body, x.shares)) (fun a => ⟨a.1, a.2.1, a.2.2.1, a.2.2.2.1, a.2.2.2.2⟩) (fun _ => rfl)

structure TResp.Ok (x : TResp) : Prop where
  h0 : -9223372036854775808 ≤ x.type ∧ x.type ≤ 9223372036854775807
  h1 : -9223372036854775808 ≤ x.status ∧ x.status ≤ 9223372036854775807
  h2 : -9223372036854775808 ≤ x.ver ∧ x.ver ≤ 9223372036854775807

theorem TResp.out {w : World} {vs : List Value} {x : TResp} {F : List Nat} (h : cResp.rep w vs x F) :
    ∃ v3 F3, vs = [Value.int .i64 x.type, .int .i64 x.status, .int .i64 x.ver, v3, .bool x.shares] ∧ F = F3 ∧ x.Ok ∧ cUS.rep w [v3] x.body F3 := by

  obtain ⟨a0, b0, G0, H0, rfl, rfl, ⟨rfl, rfl, h0⟩, a1, b1, G1, H1, rfl, rfl, ⟨rfl, rfl, h1⟩, a2, b2, G2, H2, rfl, rfl, ⟨rfl, rfl, h2⟩, a3, b3, G3, H3, rfl, rfl, h3, rfl, rfl⟩ := h
  obtain ⟨A3, cp3, rfl, k3⟩ := h3
  exact ⟨_, G3, rfl, by simp, ⟨h0, h1, h2⟩, ⟨A3, cp3, rfl, k3⟩⟩

theorem TResp.mk_ {w : World} {x : TResp} {v3 : Value} {F3 : List Nat} (h : x.Ok) (k3 : cUS.rep w [v3] x.body F3) : cResp.rep w [Value.int .i64 x.type, .int .i64 x.status, .int .i64 x.ver, v3, .bool x.shares] x (F3) := by

  exact ⟨[_], _, [], F3, rfl, by simp, ⟨rfl, rfl, h.h0⟩, ⟨[_], _, [], F3, rfl, by simp, ⟨rfl, rfl, h.h1⟩, ⟨[_], _, [], F3, rfl, by simp, ⟨rfl, rfl, h.h2⟩, ⟨[_], _, F3, [], rfl, by simp, k3, ⟨rfl, rfl⟩⟩⟩⟩⟩

theorem opens_lResp : Opens Try.prog 186 cResp := opens_map (opens_struct Try.underlying186 (by kernel_rfl) (opensFs_cons rfl (opens_int Try.underlying3 (by kernel_rfl)) (opensFs_cons rfl (opens_int Try.underlying3 (by kernel_rfl)) (opensFs_cons rfl (opens_int Try.underlying3 (by kernel_rfl)) (opensFs_cons rfl opens_US (opensFs_one rfl (opens_bool Try.underlying4 (by kernel_rfl))))))))

theorem TResp.outA {w : World} {vs : Array Value} {x : TResp} {F : List Nat} (h : cResp.rep w vs.toList x F) :
    ∃ v3 F3, vs = #[Value.int .i64 x.type, .int .i64 x.status, .int .i64 x.ver, v3, .bool x.shares] ∧ F = F3 ∧ x.Ok ∧ cUS.rep w [v3] x.body F3 := by
  obtain ⟨a0, a1, e, f, r⟩ := TResp.out h
  exact ⟨a0, a1, Array.toList_inj.1 e, f, r⟩

end Go.Proofs.Ytlicnppfgfjkgaa
namespace Go.Proofs.Ytlicnppfgfjkgaa
open Go.ChangeShapes Go.WideShapes Go.RowKit
set_option linter.unusedVariables false

structure TCached where
  site : ByteArray
  path : ByteArray
  resp : TResp

def cCached : Cod TCached := cM (cP cS (cP cS (cP cI (cP cI (cP cI (cP cUS cB)))))) (fun x => (x.site, x.path, x.resp.type, x.resp.status, x.resp.ver, x.resp.body, x.resp.shares)) (fun a => ⟨a.1, a.2.1, ⟨a.2.2.1, a.2.2.2.1, a.2.2.2.2.1, a.2.2.2.2.2.1, a.2.2.2.2.2.2⟩⟩) (fun _ => rfl)

structure TCached.Ok (x : TCached) : Prop where
  h0 : x.site.size ≤ maxLen
  h1 : x.path.size ≤ maxLen
  h2 : -9223372036854775808 ≤ x.resp.type ∧ x.resp.type ≤ 9223372036854775807
  h3 : -9223372036854775808 ≤ x.resp.status ∧ x.resp.status ≤ 9223372036854775807
  h4 : -9223372036854775808 ≤ x.resp.ver ∧ x.resp.ver ≤ 9223372036854775807

theorem TCached.out {w : World} {vs : List Value} {x : TCached} {F : List Nat} (h : cCached.rep w vs x F) :
    ∃ v5 F5, vs = [Value.string x.site, .string x.path, .int .i64 x.resp.type, .int .i64 x.resp.status, .int .i64 x.resp.ver, v5, .bool x.resp.shares] ∧ F = F5 ∧ x.Ok ∧ cUS.rep w [v5] x.resp.body F5 := by

  obtain ⟨a0, b0, G0, H0, rfl, rfl, ⟨rfl, rfl, h0⟩, a1, b1, G1, H1, rfl, rfl, ⟨rfl, rfl, h1⟩, a2, b2, G2, H2, rfl, rfl, ⟨rfl, rfl, h2⟩, a3, b3, G3, H3, rfl, rfl, ⟨rfl, rfl, h3⟩, a4, b4, G4, H4, rfl, rfl, ⟨rfl, rfl, h4⟩, a5, b5, G5, H5, rfl, rfl, h5, rfl, rfl⟩ := h
  obtain ⟨A5, cp5, rfl, k5⟩ := h5
  exact ⟨_, G5, rfl, by simp, ⟨h0, h1, h2, h3, h4⟩, ⟨A5, cp5, rfl, k5⟩⟩

theorem TCached.mk_ {w : World} {x : TCached} {v5 : Value} {F5 : List Nat} (h : x.Ok) (k5 : cUS.rep w [v5] x.resp.body F5) : cCached.rep w [Value.string x.site, .string x.path, .int .i64 x.resp.type, .int .i64 x.resp.status, .int .i64 x.resp.ver, v5, .bool x.resp.shares] x (F5) := by

  exact ⟨[_], _, [], F5, rfl, by simp, ⟨rfl, rfl, h.h0⟩, ⟨[_], _, [], F5, rfl, by simp, ⟨rfl, rfl, h.h1⟩, ⟨[_], _, [], F5, rfl, by simp, ⟨rfl, rfl, h.h2⟩, ⟨[_], _, [], F5, rfl, by simp, ⟨rfl, rfl, h.h3⟩, ⟨[_], _, [], F5, rfl, by simp, ⟨rfl, rfl, h.h4⟩, ⟨[_], _, F5, [], rfl, by simp, k5, ⟨rfl, rfl⟩⟩⟩⟩⟩⟩⟩

/-- by its parts -/
def cCachedN : Cod TCached := cM (cP cS (cP cS cResp)) (fun x => (x.site, x.path, x.resp)) (fun a => ⟨a.1, a.2.1, a.2.2⟩) (fun _ => rfl)

theorem cCachedN_flat {w : World} {vs : List Value} {x : TCached} {F : List Nat} (h : cCachedN.rep w vs x F) : cCached.rep w vs x F := by

  obtain ⟨a0, b0, G0, H0, rfl, rfl, ⟨rfl, rfl, n0⟩, a1, b1, G1, H1, rfl, rfl, ⟨rfl, rfl, n1⟩, n2⟩ := h

  obtain ⟨w2_3, Q2_3, rfl, rfl, e2, m2_3⟩ := TResp.out n2

  have key := TCached.mk_ (w := w) (x := x) ⟨n0, n1, e2.h0, e2.h1, e2.h2⟩ m2_3

  simpa using key

theorem opens_lCached : Opens Try.prog 188 cCached := by
  have h : Opens Try.prog 188 cCachedN := opens_map (opens_struct Try.underlying188 (by kernel_rfl) (opensFs_cons rfl (opens_string Try.underlying9 (by kernel_rfl)) (opensFs_cons rfl (opens_string Try.underlying9 (by kernel_rfl)) (opensFs_one rfl opens_lResp))))
  exact ⟨h.1, fun H enc w fuel cs x hx hz => by obtain ⟨a, F, ha⟩ := h.2 H enc w fuel cs x hx hz; exact ⟨a, F, cCachedN_flat ha⟩⟩

theorem TCached.outA {w : World} {vs : Array Value} {x : TCached} {F : List Nat} (h : cCached.rep w vs.toList x F) :
    ∃ v5 F5, vs = #[Value.string x.site, .string x.path, .int .i64 x.resp.type, .int .i64 x.resp.status, .int .i64 x.resp.ver, v5, .bool x.resp.shares] ∧ F = F5 ∧ x.Ok ∧ cUS.rep w [v5] x.resp.body F5 := by
  obtain ⟨a0, a1, e, f, r⟩ := TCached.out h
  exact ⟨a0, a1, Array.toList_inj.1 e, f, r⟩

end Go.Proofs.Ytlicnppfgfjkgaa
namespace Go.Proofs.Ytlicnppfgfjkgaa
open Go.ChangeShapes Go.WideShapes Go.RowKit
set_option linter.unusedVariables false

def cCachedS : Cod (List TCached) := cL cCached (by decide) (by decide)
theorem opens_lCachedS : Opens Try.prog 169 cCachedS := opens_slice Try.underlying169 opens_lCached (by kernel_rfl)

end Go.Proofs.Ytlicnppfgfjkgaa
namespace Go.Proofs.Ytlicnppfgfjkgaa
open Go.ChangeShapes Go.WideShapes Go.RowKit
set_option linter.unusedVariables false

structure TCache where
  ver : Int
  entries : List TCached

def cCache : Cod TCache := cM (cP cI cCachedS) (fun x => (x.ver, x.entries)) (fun a => ⟨a.1, a.2⟩) (fun _ => rfl)

structure TCache.Ok (x : TCache) : Prop where
  h0 : -9223372036854775808 ≤ x.ver ∧ x.ver ≤ 9223372036854775807

theorem TCache.out {w : World} {vs : List Value} {x : TCache} {F : List Nat} (h : cCache.rep w vs x F) :
    ∃ v1 F1, vs = [Value.int .i64 x.ver, v1] ∧ F = F1 ∧ x.Ok ∧ cCachedS.rep w [v1] x.entries F1 := by

  obtain ⟨a0, b0, G0, H0, rfl, rfl, ⟨rfl, rfl, h0⟩, h1⟩ := h
  obtain ⟨A1, cp1, rfl, k1⟩ := h1
  exact ⟨_, H0, rfl, by simp, ⟨h0⟩, ⟨A1, cp1, rfl, k1⟩⟩

theorem TCache.mk_ {w : World} {x : TCache} {v1 : Value} {F1 : List Nat} (h : x.Ok) (k1 : cCachedS.rep w [v1] x.entries F1) : cCache.rep w [Value.int .i64 x.ver, v1] x (F1) := by

  exact ⟨[_], _, [], F1, rfl, by simp, ⟨rfl, rfl, h.h0⟩, k1⟩

theorem opens_lCache : Opens Try.prog 171 cCache := opens_map (opens_struct Try.underlying171 (by kernel_rfl) (opensFs_cons rfl (opens_int Try.underlying3 (by kernel_rfl)) (opensFs_one rfl opens_lCachedS)))

theorem TCache.outA {w : World} {vs : Array Value} {x : TCache} {F : List Nat} (h : cCache.rep w vs.toList x F) :
    ∃ v1 F1, vs = #[Value.int .i64 x.ver, v1] ∧ F = F1 ∧ x.Ok ∧ cCachedS.rep w [v1] x.entries F1 := by
  obtain ⟨a0, a1, e, f, r⟩ := TCache.out h
  exact ⟨a0, a1, Array.toList_inj.1 e, f, r⟩

end Go.Proofs.Ytlicnppfgfjkgaa
namespace Go.Proofs.Ytlicnppfgfjkgaa
open Go.ChangeShapes Go.WideShapes Go.RowKit
set_option linter.unusedVariables false

def cCacheS : Cod (List TCache) := cL cCache (by decide) (by decide)
theorem opens_lCacheS : Opens Try.prog 84 cCacheS := opens_slice Try.underlying84 opens_lCache (by kernel_rfl)

end Go.Proofs.Ytlicnppfgfjkgaa
namespace Go.Proofs.Ytlicnppfgfjkgaa
open Go.ChangeShapes Go.WideShapes Go.RowKit
set_option linter.unusedVariables false

set_option maxHeartbeats 1000000 in
theorem eqByteS_any (v1 v2 : Value) (xs : List UInt8) (F1 F2 : List Nat) (w : World) (h1 : cUS.rep w [v1] xs F1) (h2 : cUS.rep w [v2] xs F2) :
    Calls Try.prog 183 #[v1, v2] w (Gives w (.bool true)) := by
  obtain ⟨A, cp, rfl⟩ := cL_form h1
  obtain ⟨B, cq, rfl⟩ := cL_form h2
  obtain ⟨-, hcp, hm⟩ := cL_len h1
  obtain ⟨n, hxn⟩ : ∃ n, xs.length = n := ⟨_, rfl⟩
  have HN := Lib.hid hxn
  rw [hxn] at hcp ⊢
  clear hxn
  unfold maxLen at hm
  go_enter Try.func183, Try.ntmps183
  go_wp2
  go_loopw [5] (fun i wr => ∃ k : Nat, k ≤ n ∧ i = .int .i64 k ∧ Below w.heap.size w wr) (fun i _ => n - (intOf i).toNat)
  case atStart => exact ⟨0, Nat.zero_le _, rfl, Below.refl _ _⟩
  case round =>
    obtain ⟨k, hk, rfl, hB⟩ := hrel
    by_cases hlt : k < n
    · have hkx : k < xs.length := by rw [HN.out]; exact hlt
      obtain ⟨g, o, vs, G1, rfl, -, hx, -, hc⟩ := cL_get (hw := by decide) (hw2 := by decide) (Cod.bel h1 hB) hkx
      obtain ⟨g2, o2, vs2, G2, rfl, -, hx2, -, hc2⟩ := cL_get (hw := by decide) (hw2 := by decide) (Cod.bel h2 hB) hkx
      have hy := hx
      have hy2 := hx2
      obtain ⟨rfl, rfl⟩ := hx
      obtain ⟨rfl, rfl⟩ := hx2
      have q0 : wr.cell? ⟨g, o + k, none⟩ = some _ := (by have h1 := (hc 0 _ rfl).1; rwa [show (cU).wd = 1 from rfl, Nat.mul_one, Nat.add_zero] at h1)
      have r0 : wr.cell? ⟨g2, o2 + k, none⟩ = some _ := (by have h1 := (hc2 0 _ rfl).1; rwa [show (cU).wd = 1 from rfl, Nat.mul_one, Nat.add_zero] at h1)
      clear hc hc2
      have hki : ((k : Int) < (n : Int)) := by omega
      go_wp2
      go_quiet (fail)
      go_wp2
      go_roundw
      case rel => exact ⟨k + 1, by omega, by go_num, bel_drewN hB _⟩
      case measure => simp [intOf]; omega
    · obtain rfl : k = n := by omega
      go_wp2
      go_ret
      exact ⟨rfl, hB⟩

end Go.Proofs.Ytlicnppfgfjkgaa
namespace Go.Proofs.Ytlicnppfgfjkgaa
open Go.ChangeShapes Go.WideShapes Go.RowKit
set_option linter.unusedVariables false

set_option maxHeartbeats 1000000 in
theorem eqResponse_any (vs1 vs2 : Array Value) (x : TResp) (F1 F2 : List Nat) (w : World) (h1 : cResp.rep w vs1.toList x F1) (h2 : cResp.rep w vs2.toList x F2) :
    Calls Try.prog 179 #[.agg vs1, .agg vs2] w (Gives w (.bool true)) := by
  obtain ⟨a3, F3, rfl, rfl, hok, m3⟩ := TResp.outA h1
  obtain ⟨b3, Q3, rfl, rfl, -, n3⟩ := TResp.outA h2
  go_enter Try.func179, Try.ntmps179
  go_wp2_with fail
  refine (eqByteS_any _ _ x.body _ _ _ (by exact Cod.bel m3 (by repeat (first | with_reducible exact Below.refl _ _ | with_reducible assumption | with_reducible refine bel_alloc ?_ _ | with_reducible refine bel_drew ?_ | with_reducible refine bel_drewN ?_ _ | (with_reducible refine bel_set ?_ ?_ _; rotate_left; ((try simp); (try omega)))))) (by exact Cod.bel n3 (by repeat (first | with_reducible exact Below.refl _ _ | with_reducible assumption | with_reducible refine bel_alloc ?_ _ | with_reducible refine bel_drew ?_ | with_reducible refine bel_drewN ?_ _ | (with_reducible refine bel_set ?_ ?_ _; rotate_left; ((try simp); (try omega))))))).mono ?_
  rintro e w1 ⟨rfl, hb1⟩
  have hz1 := hb1.size
  (try simp at hz1)
  have hs1_0 : w.heap.size < w1.heap.size := by omega
  have hs1_1 : w.heap.size + 1 < w1.heap.size := by omega
  have hB1 : Below w.heap.size w w1 := bel_then (by repeat (first | with_reducible exact Below.refl _ _ | with_reducible assumption | with_reducible refine bel_alloc ?_ _ | with_reducible refine bel_drew ?_ | with_reducible refine bel_drewN ?_ _ | (with_reducible refine bel_set ?_ ?_ _; rotate_left; ((try simp); (try omega))))) hb1
  obtain ⟨hc1, hfz1, -⟩ := bcell hb1
  clear hb1
  go_wp2_with fail
  go_ret
  exact ⟨rfl, (by repeat (first | with_reducible exact Below.refl _ _ | with_reducible assumption | with_reducible refine bel_alloc ?_ _ | with_reducible refine bel_drew ?_ | with_reducible refine bel_drewN ?_ _ | (with_reducible refine bel_set ?_ ?_ _; rotate_left; ((try simp); (try omega)))))⟩

end Go.Proofs.Ytlicnppfgfjkgaa
namespace Go.Proofs.Ytlicnppfgfjkgaa
open Go.ChangeShapes Go.WideShapes Go.RowKit
set_option linter.unusedVariables false

set_option maxHeartbeats 1000000 in
theorem eqCached_any (vs1 vs2 : Array Value) (x : TCached) (F1 F2 : List Nat) (w : World) (h1 : cCached.rep w vs1.toList x F1) (h2 : cCached.rep w vs2.toList x F2) :
    Calls Try.prog 175 #[.agg vs1, .agg vs2] w (Gives w (.bool true)) := by
  obtain ⟨a5, F5, rfl, rfl, hok, m5⟩ := TCached.outA h1
  obtain ⟨b5, Q5, rfl, rfl, -, n5⟩ := TCached.outA h2
  go_enter Try.func175, Try.ntmps175
  go_wp2_with fail
  refine (eqResponse_any _ _ x.resp _ _ _ (by exact TResp.mk_ ⟨hok.h2, hok.h3, hok.h4⟩ (Cod.bel m5 (by repeat (first | with_reducible exact Below.refl _ _ | with_reducible assumption | with_reducible refine bel_alloc ?_ _ | with_reducible refine bel_drew ?_ | with_reducible refine bel_drewN ?_ _ | (with_reducible refine bel_set ?_ ?_ _; rotate_left; ((try simp); (try omega))))))) (by exact TResp.mk_ ⟨hok.h2, hok.h3, hok.h4⟩ (Cod.bel n5 (by repeat (first | with_reducible exact Below.refl _ _ | with_reducible assumption | with_reducible refine bel_alloc ?_ _ | with_reducible refine bel_drew ?_ | with_reducible refine bel_drewN ?_ _ | (with_reducible refine bel_set ?_ ?_ _; rotate_left; ((try simp); (try omega)))))))).mono ?_
  rintro e w1 ⟨rfl, hb1⟩
  have hz1 := hb1.size
  (try simp at hz1)
  have hs1_0 : w.heap.size < w1.heap.size := by omega
  have hs1_1 : w.heap.size + 1 < w1.heap.size := by omega
  have hB1 : Below w.heap.size w w1 := bel_then (by repeat (first | with_reducible exact Below.refl _ _ | with_reducible assumption | with_reducible refine bel_alloc ?_ _ | with_reducible refine bel_drew ?_ | with_reducible refine bel_drewN ?_ _ | (with_reducible refine bel_set ?_ ?_ _; rotate_left; ((try simp); (try omega))))) hb1
  obtain ⟨hc1, hfz1, -⟩ := bcell hb1
  clear hb1
  go_wp2_with fail
  go_ret
  exact ⟨rfl, (by repeat (first | with_reducible exact Below.refl _ _ | with_reducible assumption | with_reducible refine bel_alloc ?_ _ | with_reducible refine bel_drew ?_ | with_reducible refine bel_drewN ?_ _ | (with_reducible refine bel_set ?_ ?_ _; rotate_left; ((try simp); (try omega)))))⟩

end Go.Proofs.Ytlicnppfgfjkgaa
namespace Go.Proofs.Ytlicnppfgfjkgaa
open Go.ChangeShapes Go.WideShapes Go.RowKit
set_option linter.unusedVariables false

set_option maxRecDepth 100000 in
set_option maxHeartbeats 1000000 in
theorem eqCachedS_any (v1 v2 : Value) (xs : List TCached) (F1 F2 : List Nat) (w : World) (h1 : cCachedS.rep w [v1] xs F1) (h2 : cCachedS.rep w [v2] xs F2) :
    Calls Try.prog 167 #[v1, v2] w (Gives w (.bool true)) := by
  obtain ⟨A, cp, rfl⟩ := cL_form h1
  obtain ⟨B, cq, rfl⟩ := cL_form h2
  obtain ⟨-, hcp, hm⟩ := cL_len h1
  obtain ⟨n, hxn⟩ : ∃ n, xs.length = n := ⟨_, rfl⟩
  have HN := Lib.hid hxn
  rw [hxn] at hcp ⊢
  clear hxn
  unfold maxLen at hm
  go_enter Try.func167, Try.ntmps167
  go_wp2
  go_loopw [5] (fun i wr => ∃ k : Nat, k ≤ n ∧ i = .int .i64 k ∧ Below w.heap.size w wr) (fun i _ => n - (intOf i).toNat)
  case atStart => exact ⟨0, Nat.zero_le _, rfl, Below.refl _ _⟩
  case round =>
    obtain ⟨k, hk, rfl, hB⟩ := hrel
    by_cases hlt : k < n
    · have hkx : k < xs.length := by rw [HN.out]; exact hlt
      obtain ⟨g, o, vs, G1, rfl, -, hx, -, hc⟩ := cL_get (hw := by decide) (hw2 := by decide) (Cod.bel h1 hB) hkx
      obtain ⟨g2, o2, vs2, G2, rfl, -, hx2, -, hc2⟩ := cL_get (hw := by decide) (hw2 := by decide) (Cod.bel h2 hB) hkx
      have hy := hx
      have hy2 := hx2
      obtain ⟨a5, Q5, rfl, rfl, -, m5⟩ := TCached.out hx
      obtain ⟨b5, R5, rfl, rfl, -, n5⟩ := TCached.out hx2
      have q0 : wr.cell? ⟨g, o + k * 7, none⟩ = some _ := (hc 0 _ rfl).1
      have q1 : wr.cell? ⟨g, o + k * 7 + 1, none⟩ = some _ := (hc 1 _ rfl).1
      have q2 : wr.cell? ⟨g, o + k * 7 + 2, none⟩ = some _ := (hc 2 _ rfl).1
      have q3 : wr.cell? ⟨g, o + k * 7 + 3, none⟩ = some _ := (hc 3 _ rfl).1
      have q4 : wr.cell? ⟨g, o + k * 7 + 4, none⟩ = some _ := (hc 4 _ rfl).1
      have q5 : wr.cell? ⟨g, o + k * 7 + 5, none⟩ = some _ := (hc 5 _ rfl).1
      have q6 : wr.cell? ⟨g, o + k * 7 + 6, none⟩ = some _ := (hc 6 _ rfl).1
      have r0 : wr.cell? ⟨g2, o2 + k * 7, none⟩ = some _ := (hc2 0 _ rfl).1
      have r1 : wr.cell? ⟨g2, o2 + k * 7 + 1, none⟩ = some _ := (hc2 1 _ rfl).1
      have r2 : wr.cell? ⟨g2, o2 + k * 7 + 2, none⟩ = some _ := (hc2 2 _ rfl).1
      have r3 : wr.cell? ⟨g2, o2 + k * 7 + 3, none⟩ = some _ := (hc2 3 _ rfl).1
      have r4 : wr.cell? ⟨g2, o2 + k * 7 + 4, none⟩ = some _ := (hc2 4 _ rfl).1
      have r5 : wr.cell? ⟨g2, o2 + k * 7 + 5, none⟩ = some _ := (hc2 5 _ rfl).1
      have r6 : wr.cell? ⟨g2, o2 + k * 7 + 6, none⟩ = some _ := (hc2 6 _ rfl).1
      clear hc hc2
      have hki : ((k : Int) < (n : Int)) := by omega
      go_wp2
      go_still_tail 8, (by kernel_rfl)
      change wpList _ _ _ _ _ wr.drew
      have hB2 : Below w.heap.size w wr.drew := bel_drew hB
      have hbd : Below wr.heap.size wr wr.drew := bel_drew (Below.refl _ _)
      generalize wr.drew = wd at hB2 hbd ⊢
      go_wp2_with fail
      refine (eqCached_any _ _ xs[k] _ _ _ (by exact Cod.bel hy hbd) (by exact Cod.bel hy2 hbd)).mono ?_
      rintro e w1 ⟨rfl, hb1⟩
      have hB1 : Below w.heap.size w w1 := bel_then hB2 hb1
      go_wp2_with fail
      go_roundw
      case rel => exact ⟨k + 1, by omega, by go_num, hB1⟩
      case measure => simp [intOf]; omega
    · obtain rfl : k = n := by omega
      go_wp2
      go_ret
      exact ⟨rfl, hB⟩

end Go.Proofs.Ytlicnppfgfjkgaa
namespace Go.Proofs.Ytlicnppfgfjkgaa
open Go.ChangeShapes Go.WideShapes Go.RowKit
set_option linter.unusedVariables false

set_option maxHeartbeats 1000000 in
theorem eqCache_any (vs1 vs2 : Array Value) (x : TCache) (F1 F2 : List Nat) (w : World) (h1 : cCache.rep w vs1.toList x F1) (h2 : cCache.rep w vs2.toList x F2) :
    Calls Try.prog 149 #[.agg vs1, .agg vs2] w (Gives w (.bool true)) := by
  obtain ⟨a1, F1, rfl, rfl, hok, m1⟩ := TCache.outA h1
  obtain ⟨b1, Q1, rfl, rfl, -, n1⟩ := TCache.outA h2
  go_enter Try.func149, Try.ntmps149
  go_wp2_with fail
  refine (eqCachedS_any _ _ x.entries _ _ _ (by exact Cod.bel m1 (by repeat (first | with_reducible exact Below.refl _ _ | with_reducible assumption | with_reducible refine bel_alloc ?_ _ | with_reducible refine bel_drew ?_ | with_reducible refine bel_drewN ?_ _ | (with_reducible refine bel_set ?_ ?_ _; rotate_left; ((try simp); (try omega)))))) (by exact Cod.bel n1 (by repeat (first | with_reducible exact Below.refl _ _ | with_reducible assumption | with_reducible refine bel_alloc ?_ _ | with_reducible refine bel_drew ?_ | with_reducible refine bel_drewN ?_ _ | (with_reducible refine bel_set ?_ ?_ _; rotate_left; ((try simp); (try omega))))))).mono ?_
  rintro e w1 ⟨rfl, hb1⟩
  have hz1 := hb1.size
  (try simp at hz1)
  have hs1_0 : w.heap.size < w1.heap.size := by omega
  have hs1_1 : w.heap.size + 1 < w1.heap.size := by omega
  have hB1 : Below w.heap.size w w1 := bel_then (by repeat (first | with_reducible exact Below.refl _ _ | with_reducible assumption | with_reducible refine bel_alloc ?_ _ | with_reducible refine bel_drew ?_ | with_reducible refine bel_drewN ?_ _ | (with_reducible refine bel_set ?_ ?_ _; rotate_left; ((try simp); (try omega))))) hb1
  obtain ⟨hc1, hfz1, -⟩ := bcell hb1
  clear hb1
  go_wp2_with fail
  go_ret
  exact ⟨rfl, (by repeat (first | with_reducible exact Below.refl _ _ | with_reducible assumption | with_reducible refine bel_alloc ?_ _ | with_reducible refine bel_drew ?_ | with_reducible refine bel_drewN ?_ _ | (with_reducible refine bel_set ?_ ?_ _; rotate_left; ((try simp); (try omega)))))⟩

end Go.Proofs.Ytlicnppfgfjkgaa
namespace Go.Proofs.Ytlicnppfgfjkgaa
open Go.ChangeShapes Go.WideShapes Go.RowKit
set_option linter.unusedVariables false

set_option maxRecDepth 100000 in
set_option maxHeartbeats 1000000 in
theorem eqCacheS_any (v1 v2 : Value) (xs : List TCache) (F1 F2 : List Nat) (w : World) (h1 : cCacheS.rep w [v1] xs F1) (h2 : cCacheS.rep w [v2] xs F2) :
    Calls Try.prog 110 #[v1, v2] w (Gives w (.bool true)) := by
  obtain ⟨A, cp, rfl⟩ := cL_form h1
  obtain ⟨B, cq, rfl⟩ := cL_form h2
  obtain ⟨-, hcp, hm⟩ := cL_len h1
  obtain ⟨n, hxn⟩ : ∃ n, xs.length = n := ⟨_, rfl⟩
  have HN := Lib.hid hxn
  rw [hxn] at hcp ⊢
  clear hxn
  unfold maxLen at hm
  go_enter Try.func110, Try.ntmps110
  go_wp2
  go_loopw [5] (fun i wr => ∃ k : Nat, k ≤ n ∧ i = .int .i64 k ∧ Below w.heap.size w wr) (fun i _ => n - (intOf i).toNat)
  case atStart => exact ⟨0, Nat.zero_le _, rfl, Below.refl _ _⟩
  case round =>
    obtain ⟨k, hk, rfl, hB⟩ := hrel
    by_cases hlt : k < n
    · have hkx : k < xs.length := by rw [HN.out]; exact hlt
      obtain ⟨g, o, vs, G1, rfl, -, hx, -, hc⟩ := cL_get (hw := by decide) (hw2 := by decide) (Cod.bel h1 hB) hkx
      obtain ⟨g2, o2, vs2, G2, rfl, -, hx2, -, hc2⟩ := cL_get (hw := by decide) (hw2 := by decide) (Cod.bel h2 hB) hkx
      have hy := hx
      have hy2 := hx2
      obtain ⟨a1, Q1, rfl, rfl, -, m1⟩ := TCache.out hx
      obtain ⟨b1, R1, rfl, rfl, -, n1⟩ := TCache.out hx2
      have q0 : wr.cell? ⟨g, o + k * 2, none⟩ = some _ := (hc 0 _ rfl).1
      have q1 : wr.cell? ⟨g, o + k * 2 + 1, none⟩ = some _ := (hc 1 _ rfl).1
      have r0 : wr.cell? ⟨g2, o2 + k * 2, none⟩ = some _ := (hc2 0 _ rfl).1
      have r1 : wr.cell? ⟨g2, o2 + k * 2 + 1, none⟩ = some _ := (hc2 1 _ rfl).1
      clear hc hc2
      have hki : ((k : Int) < (n : Int)) := by omega
      go_wp2
      go_still_tail 8, (by kernel_rfl)
      change wpList _ _ _ _ _ wr.drew
      have hB2 : Below w.heap.size w wr.drew := bel_drew hB
      have hbd : Below wr.heap.size wr wr.drew := bel_drew (Below.refl _ _)
      generalize wr.drew = wd at hB2 hbd ⊢
      go_wp2_with fail
      refine (eqCache_any _ _ xs[k] _ _ _ (by exact Cod.bel hy hbd) (by exact Cod.bel hy2 hbd)).mono ?_
      rintro e w1 ⟨rfl, hb1⟩
      have hB1 : Below w.heap.size w w1 := bel_then hB2 hb1
      go_wp2_with fail
      go_roundw
      case rel => exact ⟨k + 1, by omega, by go_num, hB1⟩
      case measure => simp [intOf]; omega
    · obtain rfl : k = n := by omega
      go_wp2
      go_ret
      exact ⟨rfl, hB⟩

end Go.Proofs.Ytlicnppfgfjkgaa
namespace Go.Proofs.Ytlicnppfgfjkgaa
open Go.ChangeShapes Go.WideShapes Go.RowKit
set_option linter.unusedVariables false

structure TCSet where
  caches : List TCache

def cCSet : Cod TCSet := cM cCacheS (fun x => x.caches) (fun a => ⟨a⟩) (fun _ => rfl)

def TCSet.Ok (_x : TCSet) : Prop := True

theorem TCSet.out {w : World} {vs : List Value} {x : TCSet} {F : List Nat} (h : cCSet.rep w vs x F) :
    ∃ v0 F0, vs = [v0] ∧ F = F0 ∧ x.Ok ∧ cCacheS.rep w [v0] x.caches F0 := by

  obtain ⟨A, cp, rfl, h0⟩ := h
  exact ⟨_, F, rfl, rfl, trivial, A, cp, rfl, h0⟩

theorem TCSet.mk_ {w : World} {x : TCSet} {v0 : Value} {F0 : List Nat} (h : x.Ok) (k0 : cCacheS.rep w [v0] x.caches F0) : cCSet.rep w [v0] x (F0) := by

  clear h

  exact k0

theorem opens_lCSet : Opens Try.prog 86 cCSet := opens_map (opens_struct Try.underlying86 (by kernel_rfl) (opensFs_one rfl opens_lCacheS))

theorem TCSet.outA {w : World} {vs : Array Value} {x : TCSet} {F : List Nat} (h : cCSet.rep w vs.toList x F) :
    ∃ v0 F0, vs = #[v0] ∧ F = F0 ∧ x.Ok ∧ cCacheS.rep w [v0] x.caches F0 := by
  obtain ⟨a0, a1, e, f, r⟩ := TCSet.out h
  exact ⟨a0, a1, Array.toList_inj.1 e, f, r⟩

end Go.Proofs.Ytlicnppfgfjkgaa
namespace Go.Proofs.Ytlicnppfgfjkgaa
open Go.ChangeShapes Go.WideShapes Go.RowKit
set_option linter.unusedVariables false

set_option maxHeartbeats 1000000 in
theorem eqCacheSet_any (vs1 vs2 : Array Value) (x : TCSet) (F1 F2 : List Nat) (w : World) (h1 : cCSet.rep w vs1.toList x F1) (h2 : cCSet.rep w vs2.toList x F2) :
    Calls Try.prog 49 #[.agg vs1, .agg vs2] w (Gives w (.bool true)) := by
  obtain ⟨a0, F0, rfl, rfl, hok, m0⟩ := TCSet.outA h1
  obtain ⟨b0, Q0, rfl, rfl, -, n0⟩ := TCSet.outA h2
  go_enter Try.func49, Try.ntmps49
  go_wp2_with fail
  refine (eqCacheS_any _ _ x.caches _ _ _ (by exact Cod.bel m0 (by repeat (first | with_reducible exact Below.refl _ _ | with_reducible assumption | with_reducible refine bel_alloc ?_ _ | with_reducible refine bel_drew ?_ | with_reducible refine bel_drewN ?_ _ | (with_reducible refine bel_set ?_ ?_ _; rotate_left; ((try simp); (try omega)))))) (by exact Cod.bel n0 (by repeat (first | with_reducible exact Below.refl _ _ | with_reducible assumption | with_reducible refine bel_alloc ?_ _ | with_reducible refine bel_drew ?_ | with_reducible refine bel_drewN ?_ _ | (with_reducible refine bel_set ?_ ?_ _; rotate_left; ((try simp); (try omega))))))).mono ?_
  rintro e w1 ⟨rfl, hb1⟩
  have hz1 := hb1.size
  (try simp at hz1)
  have hs1_0 : w.heap.size < w1.heap.size := by omega
  have hs1_1 : w.heap.size + 1 < w1.heap.size := by omega
  have hB1 : Below w.heap.size w w1 := bel_then (by repeat (first | with_reducible exact Below.refl _ _ | with_reducible assumption | with_reducible refine bel_alloc ?_ _ | with_reducible refine bel_drew ?_ | with_reducible refine bel_drewN ?_ _ | (with_reducible refine bel_set ?_ ?_ _; rotate_left; ((try simp); (try omega))))) hb1
  obtain ⟨hc1, hfz1, -⟩ := bcell hb1
  clear hb1
  go_wp2_with fail
  go_ret
  exact ⟨rfl, (by repeat (first | with_reducible exact Below.refl _ _ | with_reducible assumption | with_reducible refine bel_alloc ?_ _ | with_reducible refine bel_drew ?_ | with_reducible refine bel_drewN ?_ _ | (with_reducible refine bel_set ?_ ?_ _; rotate_left; ((try simp); (try omega)))))⟩

end Go.Proofs.Ytlicnppfgfjkgaa
namespace Go.Proofs.Ytlicnppfgfjkgaa
open Go.ChangeShapes Go.WideShapes Go.RowKit
set_option linter.unusedVariables false

def cStS : Cod (List ByteArray) := cL cS (by decide) (by decide)
theorem opens_StS : Opens Try.prog 57 cStS := opens_slice Try.underlying57 (opens_string Try.underlying9 (by kernel_rfl)) (by kernel_rfl)

end Go.Proofs.Ytlicnppfgfjkgaa
namespace Go.Proofs.Ytlicnppfgfjkgaa
open Go.ChangeShapes Go.WideShapes Go.RowKit
set_option linter.unusedVariables false

set_option maxHeartbeats 1000000 in
theorem eqStringS_any (v1 v2 : Value) (xs : List ByteArray) (F1 F2 : List Nat) (w : World) (h1 : cStS.rep w [v1] xs F1) (h2 : cStS.rep w [v2] xs F2) :
    Calls Try.prog 119 #[v1, v2] w (Gives w (.bool true)) := by
  obtain ⟨A, cp, rfl⟩ := cL_form h1
  obtain ⟨B, cq, rfl⟩ := cL_form h2
  obtain ⟨-, hcp, hm⟩ := cL_len h1
  obtain ⟨n, hxn⟩ : ∃ n, xs.length = n := ⟨_, rfl⟩
  have HN := Lib.hid hxn
  rw [hxn] at hcp ⊢
  clear hxn
  unfold maxLen at hm
  go_enter Try.func119, Try.ntmps119
  go_wp2
  go_loopw [5] (fun i wr => ∃ k : Nat, k ≤ n ∧ i = .int .i64 k ∧ Below w.heap.size w wr) (fun i _ => n - (intOf i).toNat)
  case atStart => exact ⟨0, Nat.zero_le _, rfl, Below.refl _ _⟩
  case round =>
    obtain ⟨k, hk, rfl, hB⟩ := hrel
    by_cases hlt : k < n
    · have hkx : k < xs.length := by rw [HN.out]; exact hlt
      obtain ⟨g, o, vs, G1, rfl, -, hx, -, hc⟩ := cL_get (hw := by decide) (hw2 := by decide) (Cod.bel h1 hB) hkx
      obtain ⟨g2, o2, vs2, G2, rfl, -, hx2, -, hc2⟩ := cL_get (hw := by decide) (hw2 := by decide) (Cod.bel h2 hB) hkx
      have hy := hx
      have hy2 := hx2
      obtain ⟨rfl, rfl, hk1⟩ := hx
      obtain ⟨rfl, rfl, hk2⟩ := hx2
      have q0 : wr.cell? ⟨g, o + k, none⟩ = some _ := (by have h1 := (hc 0 _ rfl).1; rwa [show (cS).wd = 1 from rfl, Nat.mul_one, Nat.add_zero] at h1)
      have r0 : wr.cell? ⟨g2, o2 + k, none⟩ = some _ := (by have h1 := (hc2 0 _ rfl).1; rwa [show (cS).wd = 1 from rfl, Nat.mul_one, Nat.add_zero] at h1)
      clear hc hc2
      have hki : ((k : Int) < (n : Int)) := by omega
      go_wp2
      go_quiet (fail)
      go_wp2
      go_roundw
      case rel => exact ⟨k + 1, by omega, by go_num, bel_drewN hB _⟩
      case measure => simp [intOf]; omega
    · obtain rfl : k = n := by omega
      go_wp2
      go_ret
      exact ⟨rfl, hB⟩

end Go.Proofs.Ytlicnppfgfjkgaa
namespace Go.Proofs.Ytlicnppfgfjkgaa
open Go.ChangeShapes Go.WideShapes Go.RowKit
set_option linter.unusedVariables false

structure TSite where
  name : ByteArray
  ver : Int
  files : List ByteArray
  shared : Bool

def cSite : Cod TSite := cM (cP cS (cP cI (cP cStS cB))) (fun x => (x.name, x.ver, x.files, x.shared)) (fun a => ⟨a.1, a.2.1, a.2.2.1, a.2.2.2⟩) (fun _ => rfl)

structure TSite.Ok (x : TSite) : Prop where
  h0 : x.name.size ≤ maxLen
  h1 : -9223372036854775808 ≤ x.ver ∧ x.ver ≤ 9223372036854775807

theorem TSite.out {w : World} {vs : List Value} {x : TSite} {F : List Nat} (h : cSite.rep w vs x F) :
    ∃ v2 F2, vs = [Value.string x.name, .int .i64 x.ver, v2, .bool x.shared] ∧ F = F2 ∧ x.Ok ∧ cStS.rep w [v2] x.files F2 := by

  obtain ⟨a0, b0, G0, H0, rfl, rfl, ⟨rfl, rfl, h0⟩, a1, b1, G1, H1, rfl, rfl, ⟨rfl, rfl, h1⟩, a2, b2, G2, H2, rfl, rfl, h2, rfl, rfl⟩ := h
  obtain ⟨A2, cp2, rfl, k2⟩ := h2
  exact ⟨_, G2, rfl, by simp, ⟨h0, h1⟩, ⟨A2, cp2, rfl, k2⟩⟩

theorem TSite.mk_ {w : World} {x : TSite} {v2 : Value} {F2 : List Nat} (h : x.Ok) (k2 : cStS.rep w [v2] x.files F2) : cSite.rep w [Value.string x.name, .int .i64 x.ver, v2, .bool x.shared] x (F2) := by

  exact ⟨[_], _, [], F2, rfl, by simp, ⟨rfl, rfl, h.h0⟩, ⟨[_], _, [], F2, rfl, by simp, ⟨rfl, rfl, h.h1⟩, ⟨[_], _, F2, [], rfl, by simp, k2, ⟨rfl, rfl⟩⟩⟩⟩

theorem opens_lSite : Opens Try.prog 93 cSite := opens_map (opens_struct Try.underlying93 (by kernel_rfl) (opensFs_cons rfl (opens_string Try.underlying9 (by kernel_rfl)) (opensFs_cons rfl (opens_int Try.underlying3 (by kernel_rfl)) (opensFs_cons rfl opens_StS (opensFs_one rfl (opens_bool Try.underlying4 (by kernel_rfl)))))))

theorem TSite.outA {w : World} {vs : Array Value} {x : TSite} {F : List Nat} (h : cSite.rep w vs.toList x F) :
    ∃ v2 F2, vs = #[Value.string x.name, .int .i64 x.ver, v2, .bool x.shared] ∧ F = F2 ∧ x.Ok ∧ cStS.rep w [v2] x.files F2 := by
  obtain ⟨a0, a1, e, f, r⟩ := TSite.out h
  exact ⟨a0, a1, Array.toList_inj.1 e, f, r⟩

end Go.Proofs.Ytlicnppfgfjkgaa
namespace Go.Proofs.Ytlicnppfgfjkgaa
open Go.ChangeShapes Go.WideShapes Go.RowKit
set_option linter.unusedVariables false

set_option maxHeartbeats 1000000 in
theorem eqSite_any (vs1 vs2 : Array Value) (x : TSite) (F1 F2 : List Nat) (w : World) (h1 : cSite.rep w vs1.toList x F1) (h2 : cSite.rep w vs2.toList x F2) :
    Calls Try.prog 58 #[.agg vs1, .agg vs2] w (Gives w (.bool true)) := by
  obtain ⟨a2, F2, rfl, rfl, hok, m2⟩ := TSite.outA h1
  obtain ⟨b2, Q2, rfl, rfl, -, n2⟩ := TSite.outA h2
  go_enter Try.func58, Try.ntmps58
  go_wp2_with fail
  refine (eqStringS_any _ _ x.files _ _ _ (by exact Cod.bel m2 (by repeat (first | with_reducible exact Below.refl _ _ | with_reducible assumption | with_reducible refine bel_alloc ?_ _ | with_reducible refine bel_drew ?_ | with_reducible refine bel_drewN ?_ _ | (with_reducible refine bel_set ?_ ?_ _; rotate_left; ((try simp); (try omega)))))) (by exact Cod.bel n2 (by repeat (first | with_reducible exact Below.refl _ _ | with_reducible assumption | with_reducible refine bel_alloc ?_ _ | with_reducible refine bel_drew ?_ | with_reducible refine bel_drewN ?_ _ | (with_reducible refine bel_set ?_ ?_ _; rotate_left; ((try simp); (try omega))))))).mono ?_
  rintro e w1 ⟨rfl, hb1⟩
  have hz1 := hb1.size
  (try simp at hz1)
  have hs1_0 : w.heap.size < w1.heap.size := by omega
  have hs1_1 : w.heap.size + 1 < w1.heap.size := by omega
  have hB1 : Below w.heap.size w w1 := bel_then (by repeat (first | with_reducible exact Below.refl _ _ | with_reducible assumption | with_reducible refine bel_alloc ?_ _ | with_reducible refine bel_drew ?_ | with_reducible refine bel_drewN ?_ _ | (with_reducible refine bel_set ?_ ?_ _; rotate_left; ((try simp); (try omega))))) hb1
  obtain ⟨hc1, hfz1, -⟩ := bcell hb1
  clear hb1
  go_wp2_with fail
  go_ret
  exact ⟨rfl, (by repeat (first | with_reducible exact Below.refl _ _ | with_reducible assumption | with_reducible refine bel_alloc ?_ _ | with_reducible refine bel_drew ?_ | with_reducible refine bel_drewN ?_ _ | (with_reducible refine bel_set ?_ ?_ _; rotate_left; ((try simp); (try omega)))))⟩

end Go.Proofs.Ytlicnppfgfjkgaa
namespace Go.Proofs.Ytlicnppfgfjkgaa
open Go.RowKit
set_option linter.unusedVariables false

/-- the block that an append may write in place -/
def ownB : Value → Option Nat
  | .slice (some a) _ (_ + 1) => some a.block
  | _ => none

theorem ownB_own : ∀ {v : Value} {g : Nat}, ownB v = some g → v.ownBlock = some g
  | .slice (some a) _ (_ + 1), _, h => h
  | .slice (some a) _ 0, _, h => by simp [ownB] at h
  | .slice none _ _, _, h => by simp [ownB] at h

section
variable {α : Type}
def Own (c : Cod α) (e : TypeId) (B : Nat) (w : World) (v : Value) (xs : List α) (Fi : List Nat) : Prop :=
  (xs = [] ∧ Fi = [] ∧ ∃ A, v = .slice A 0 0) ∨ ∃ us, w.ownsRow B e c.wd v xs.length us ∧ c.reps w us xs Fi

variable {c : Cod α} {e : TypeId} {B : Nat} {w w' : World} {v : Value} {xs ys : List α} {Fi Fy : List Nat}

theorem Own.empty (A : Option Addr) : Own c e B w (.slice A 0 0) [] [] := .inl ⟨rfl, rfl, A, rfl⟩
/-- The forms of an owned row. -/
theorem Own.form (h : Own c e B w v xs Fi) : (xs = [] ∧ Fi = [] ∧ ∃ A, v = .slice A 0 0) ∨
    ∃ g cap cur us, v = .slice (some ⟨g, 0, none⟩) xs.length (cap + 1) ∧ B ≤ g ∧ w.heap[g]? = some (.cells cur e) ∧ xs.length ≤ cap + 1 ∧ cap + 1 ≤ maxLen ∧
      cur.size = (cap + 1) * c.wd ∧ cur.toList.take (xs.length * c.wd) = us ∧ w.ownsRow B e c.wd v xs.length us ∧ c.reps w us xs Fi := by
  rcases h with h | ⟨us, h, hr⟩
  · exact .inl h
  · have h' := h
    obtain ⟨hl, ⟨rfl, hn⟩ | ⟨g, cap, cur, rfl, hB, hg, hnc, hcm, hsz, ht⟩⟩ := h'
    · have hx : xs = [] := List.eq_nil_of_length_eq_zero hn
      subst hx
      exact .inl ⟨rfl, hr.2, none, rfl⟩
    · cases cap with
      | zero =>
        have hx : xs = [] := List.eq_nil_of_length_eq_zero (by omega)
        subst hx
        exact .inl ⟨rfl, hr.2, _, rfl⟩
      | succ cap => exact .inr ⟨g, cap, cur, us, rfl, hB, hg, hnc, hcm, hsz, ht, h, hr⟩
theorem Own.slice (h : Own c e B w v xs Fi) : ∃ A cp, v = .slice A xs.length cp := by
  rcases h.form with ⟨rfl, -, A, rfl⟩ | ⟨g, cap, cur, us, rfl, -⟩
  · exact ⟨A, 0, rfl⟩
  · exact ⟨_, _, rfl⟩
theorem Own.lt (h : Own c e B w v xs Fi) : ∀ g, ownB v = some g → B ≤ g ∧ g < w.heap.size := by
  intro g hg
  rcases h.form with ⟨-, -, A, rfl⟩ | ⟨g', cap, cur, us, rfl, hB, hh, -⟩
  · cases A <;> simp [ownB] at hg
  · simp only [ownB, Option.some.injEq] at hg
    subst hg
    exact ⟨hB, (Array.getElem?_eq_some_iff.1 hh).1⟩
theorem Own.inner_lt (h : Own c e B w v xs Fi) : ∀ b, b ∈ Fi → b < w.heap.size := by
  intro b hb
  rcases h.form with ⟨-, rfl, -⟩ | ⟨g', cap, cur, us, -, -, -, -, -, -, -, -, hr⟩
  · simp at hb
  · exact Cod.reps_lt hr b hb
theorem Own.mono {B' : Nat} (h : Own c e B w v xs Fi) (hB : B' ≤ B) : Own c e B' w v xs Fi := by
  rcases h with h | ⟨us, ⟨hl, h⟩, hr⟩
  · exact .inl h
  · refine .inr ⟨us, ⟨hl, ?_⟩, hr⟩
    rcases h with h | ⟨g, cap, cur, h1, h2, h3⟩
    · exact .inl h
    · exact .inr ⟨g, cap, cur, h1, Nat.le_trans hB h2, h3⟩
/-- kept where its blocks are -/
theorem Own.keep (h : Own c e B w v xs Fi) (hg : ∀ g, ownB v = some g → w'.heap[g]? = w.heap[g]?) (hi : ∀ b, b ∈ Fi → w'.heap[b]? = w.heap[b]?) : Own c e B w' v xs Fi := by
  rcases h.form with h | ⟨g, cap, cur, us, rfl, hB, hh, hn, hm, hs, ht, ho, hr⟩
  · exact .inl h
  · exact .inr ⟨us, ⟨ho.1, .inr ⟨g, cap + 1, cur, rfl, hB, (hg g rfl).trans hh, hn, hm, hs, ht⟩⟩, Cod.reps_keep hr hi⟩
theorem Own.bel (h : Own c e B w v xs Fi) (hb : Below w.heap.size w w') : Own c e B w' v xs Fi :=
  h.keep (fun g hg => hb.block g (h.lt g hg).2) (fun b hm => hb.block b (h.inner_lt b hm))
theorem Own.grown (h : Own c e B w v xs Fi) {row : Option Nat} (hg : w.grownBy w' row) (hne : ∀ g, row = some g → ownB v ≠ some g ∧ g ∉ Fi) : Own c e B w' v xs Fi :=
  h.keep (fun g hv => hg.block g (h.lt g hv).2 (fun e => (hne g e.symm).1 hv)) (fun b hm => hg.block b (h.inner_lt b hm) (fun e => (hne b e.symm).2 hm))
/-- what it reads as -/
theorem Own.rep {hw : 0 < c.wd} {hw2 : c.wd ≤ 32} (h : Own c e B w v xs Fi) : ∃ F, (cL c hw hw2).rep w [v] xs F ∧ (∀ b, b ∈ F → ownB v = some b ∨ b ∈ Fi) ∧ ((∀ g, ownB v = some g → g ∉ Fi) → Fi.Nodup → F.Nodup) := by
  rcases h.form with ⟨rfl, rfl, A, rfl⟩ | ⟨g, cap, cur, us, rfl, hB, hh, hn, hm, hs, ht, ho, hr⟩
  · exact ⟨[], ⟨A, 0, rfl, Nat.le_refl _, by decide, .inl ⟨rfl, rfl⟩⟩, by simp, by simp⟩
  · cases xs with
    | nil => exact ⟨[], ⟨_, cap + 1, rfl, hn, hm, .inl ⟨rfl, rfl⟩⟩, by simp, by simp⟩
    | cons x xs =>
      refine ⟨g :: Fi, ⟨_, cap + 1, rfl, hn, hm, .inr ⟨by simp, g, 0, Fi, us, rfl, rfl, fun j u hu => ?_, hr⟩⟩, fun b hb => ?_, fun h1 h2 => ?_⟩
      · have hj := (List.getElem?_eq_some_iff.1 hu).1
        rw [ho.1] at hj
        rw [Nat.zero_add]
        exact ⟨(ho.cellAt j hj).trans hu, ho.frozenAt j⟩
      · rcases List.mem_cons.1 hb with rfl | hb
        · exact .inl rfl
        · exact .inr hb
      · exact List.nodup_cons.2 ⟨h1 g rfl, h2⟩

/-- blocks that are the call's own -/
theorem Own.fresh {hw : 0 < c.wd} {hw2 : c.wd ≤ 32} (h : Own c e B w v xs []) : ∃ F, (cL c hw hw2).rep w [v] xs F ∧ Fresh B F ∧ ∀ b, b ∈ F → ownB v = some b := by
  obtain ⟨F, h1, h2, h3⟩ := h.rep (hw := hw) (hw2 := hw2)
  have h4 : ∀ b, b ∈ F → ownB v = some b := fun b hb => by
    rcases h2 b hb with h | h
    · exact h
    · simp at h
  exact ⟨F, h1, ⟨fun b hb => (h.lt b (h4 b hb)).1, h3 (by simp) (by simp)⟩, h4⟩
end

theorem belB_alloc {B : Nat} {a w : World} (hB : B ≤ a.heap.size) (h : Below B a w) (o : Obj) : Below B a (w.alloc o) := h.trans ((bel_alloc (Below.refl _ _) o).mono (Nat.le_trans hB h.size))
theorem belB_drew {B : Nat} {a w : World} (h : Below B a w) : Below B a w.drew := h.drew
theorem belB_drewN {B : Nat} {a w : World} (h : Below B a w) (n : Nat) : Below B a (w.drewN n) := ⟨h.os, h.tape, h.output, h.size, h.block⟩
theorem belB_set {B : Nat} {a w : World} {p : Addr} (hp : B ≤ p.block) (h : Below B a w) (u : Value) : Below B a (w.setCell p u) :=
  h.trans ⟨rfl, rfl, rfl, by simp, fun i hi => Below.heap_setCell _ _ _ _ (by omega)⟩
theorem belB_then {B : Nat} {a w w' : World} (hB : B ≤ a.heap.size) (h : Below B a w) (k : Below w.heap.size w w') : Below B a w' := h.trans (k.mono (Nat.le_trans hB h.size))
theorem Own.keepF {α : Type} {c : Cod α} {e : TypeId} {B : Nat} {w w' : World} {v : Value} {xs : List α} (h : Own c e B w v xs []) (hk : Keep B w w') : Own c e B w' v xs [] :=
  h.keep (fun g hg => hk.block g (h.lt g hg).1 (h.lt g hg).2) (fun b hb => by simp at hb)

theorem Own.set_ {α : Type} {c : Cod α} {e : TypeId} {B : Nat} {w : World} {v : Value} {xs : List α} (h : Own c e B w v xs []) {p : Addr} (hp : ownB v ≠ some p.block) (u : Value) : Own c e B (w.setCell p u) v xs [] :=
  h.keep (fun g hg => Below.heap_setCell _ _ _ _ (fun e => hp (e ▸ hg))) (fun b hb => by simp at hb)

/-! ### append -/
section
variable {α : Type} {c : Cod α} {e : TypeId} {B : Nat} {v : Value} {xs ys : List α} {Fi Fy : List Nat} {P : Program} (w : World)

theorem run_append_zero (t ty e : TypeId) (i : TypeInfo) (ht : P.underlying t = some (.slice e)) (hi : P.info? e = some i) (A D : Option Addr) (n cap d : Nat) (hn : n ≤ cap) :
    (Builtin.append_ #[t, t] ty #[.slice A n cap, .slice D 0 d]).run P w = .ok (.slice A n cap) w := by
  cases A <;> cases D <;> simp [Builtin.append_, run_underlying ht, sizeOf, typeInfo, hi, Builtin.lenOf, Builtin.firstCells, hn, storeCells, loadCells, loadCellsFrom]

/-- what is appended: nothing, or cells that lie in a row -/
def AppSrc (c : Cod α) (w : World) (x : Value) (ys : List α) (Fy : List Nat) : Prop :=
  ∃ A d news, x = .slice A ys.length d ∧ c.reps w news ys Fy ∧ (0 < ys.length → ∃ ad, A = some ad ∧ ∀ j u, news[j]? = some u → w.cell? (ad.add j) = some u)

theorem AppSrc.of_rep {hw : 0 < c.wd} {hw2 : c.wd ≤ 32} {x : Value} {F : List Nat} (h : (cL c hw hw2).rep w [x] ys F) : ∃ Fy, AppSrc c w x ys Fy ∧ ∀ b, b ∈ Fy → b ∈ F := by
  obtain ⟨A, cp, hx, hl, hm, ⟨rfl, rfl⟩ | ⟨hne, g, o, Fs, us, rfl, rfl, hc, hr⟩⟩ := h
  · simp only [List.cons.injEq, and_true] at hx
    subst hx
    exact ⟨[], ⟨A, cp, [], rfl, ⟨rfl, rfl⟩, fun h => by simp at h⟩, by simp⟩
  · simp only [List.cons.injEq, and_true] at hx
    subst hx
    refine ⟨Fs, ⟨_, cp, us, rfl, hr, fun _ => ⟨_, rfl, fun j u hu => ?_⟩⟩, fun b hb => by simp [hb]⟩
    rw [Addr.add_lit]; exact (hc j u hu).1

theorem run_app (t ty : TypeId) (i : TypeInfo) (z : Value) (bytes : Nat) (ht : P.underlying t = some (.slice e)) (hi : P.info? e = some i) (hz : i.zero = some z)
    (hsize : i.size = c.wd) (hby : i.bytes = bytes) (hzs : z.cells.size = c.wd) (hw : 0 < c.wd)
    (hown : Own c e B w v xs Fi) (x : Value) (hx : AppSrc c w x ys Fy)
    (h63 : xs.length + ys.length ≤ maxLen) (hbytes : (xs.length + ys.length) * bytes ≤ 140737488355328) (hB : B ≤ w.heap.size)
    (hd : ∀ g, ownB v = some g → g ∉ Fi ∧ g ∉ Fy) :
    ∃ v' w', (Builtin.append_ #[t, t] ty #[v, x]).run P w = .ok v' w' ∧ Own c e B w' v' (xs ++ ys) (Fi ++ Fy) ∧ w.grownBy w' (ownB v) ∧
      (∀ g, ownB v' = some g → ownB v = some g ∨ w.heap.size ≤ g) := by
  obtain ⟨A, d, news, rfl, hr, hA⟩ := hx
  cases ys with
  | nil =>
    obtain rfl : Fy = [] := hr.2
    rcases hown.form with ⟨rfl, rfl, A', rfl⟩ | ⟨g, cap, cur, us, rfl, hBg, hg, hn, hm, hs, hu, ho, hro⟩
    · exact ⟨_, w, run_append_zero w t ty e i ht hi A' A 0 0 d (Nat.le_refl _), .inl ⟨rfl, rfl, A', rfl⟩, World.grownBy.refl w _, fun g h => .inl h⟩
    · exact ⟨_, w, run_append_zero w t ty e i ht hi _ A _ _ d hn, by simpa using hown, World.grownBy.refl w _, fun g h => .inl h⟩
  | cons y ys =>
    obtain ⟨ad, rfl, hc⟩ := hA (by simp)
    have hl := Cod.reps_len hr
    have h1 := Cod.reps_ones hr
    rcases hown.form with ⟨rfl, rfl, A', rfl⟩ | ⟨g, cap, cur, us, rfl, hBg, hg, hn, hm, hs, hu, ho, hro⟩
    · have key : ∃ v' w', (Builtin.append_ #[t, t] ty #[.slice A' 0 0, .slice (some ad) (y :: ys).length d]).run P w = .ok v' w' ∧ w'.ownsRow w.heap.size e c.wd v' (0 + (y :: ys).length) ([] ++ news) ∧ w.grownBy w' none := by
        cases A' with
        | none =>
          obtain ⟨v', w', k1, k2, k3, -⟩ := run_append_own (P := P) w w.heap.size t ty e i z c.wd bytes ht hi hz hsize hby hzs hw (.slice none 0 0) 0 [] ⟨by simp, .inl ⟨rfl, rfl⟩⟩ ad (y :: ys).length d news hl hc h1 (by simpa using h63) (by simpa using hbytes) (Nat.le_refl _)
          exact ⟨v', w', k1, k2, k3⟩
        | some b =>
          exact run_append_arg_grows (P := P) w t ty e i z c.wd bytes ht hi hz hsize hby hzs hw b 0 0 [] (by simp) (fun j u h => by simp at h) ad (y :: ys).length d news hl hc (by simp) (by simpa using h63) (by simpa using hbytes)
      obtain ⟨v', w', k1, k2, k3⟩ := key
      have hown' : Own c e w.heap.size w' v' (y :: ys) Fy := by
        refine .inr ⟨news, by simpa using k2, Cod.reps_keep hr fun b hb => k3.block b (Cod.reps_lt hr b hb) (by simp)⟩
      refine ⟨v', w', k1, by simpa using hown'.mono hB, by cases A' <;> exact k3, fun g h => .inr (hown'.lt g h).1⟩
    · obtain ⟨v', w', k1, k2, k3, -, k5⟩ := run_append_own_at (P := P) w B t ty e i z c.wd bytes ht hi hz hsize hby hzs hw _ xs.length us ho ad (y :: ys).length d news hl hc h1 h63 hbytes hB
      have hdg := hd g rfl
      refine ⟨v', w', k1, ?_, k3, fun g' h => ?_⟩
      · refine .inr ⟨us ++ news, by rw [List.length_append]; exact k2, Cod.reps_app (Cod.reps_keep hro fun b hb => k3.block b (Cod.reps_lt hro b hb) (fun h => ?_)) (Cod.reps_keep hr fun b hb => k3.block b (Cod.reps_lt hr b hb) (fun h => ?_))⟩
        · simp only [Value.ownBlock, Option.some.injEq] at h; subst h; exact hdg.1 hb
        · simp only [Value.ownBlock, Option.some.injEq] at h; subst h; exact hdg.2 hb
      · have h2 := ownB_own h
        rcases k5 with k5 | k5
        · rw [k5] at h2; exact .inl h2
        · rw [k5, Option.some.injEq] at h2; exact .inr (by omega)

theorem wp_app {o : Oper} {a : Act} {K : Act → World → Prop} {Q : Exit → Act → World → Prop} (s x' : Operand) (t : TypeId)
    (ho : o.op = .call { callee := .builtin .append, args := #[s, x'], argTypes := #[t, t] })
    (i : TypeInfo) (z : Value) (bytes : Nat) (ht : P.underlying t = some (.slice e)) (hi : P.info? e = some i) (hz : i.zero = some z)
    (hsize : i.size = c.wd) (hby : i.bytes = bytes) (hzs : z.cells.size = c.wd) (hw : 0 < c.wd)
    (hs : a.eval s = v) (hown : Own c e B w v xs Fi) (x : Value) (hx' : a.eval x' = x) (hx : AppSrc c w x ys Fy)
    (h63 : xs.length + ys.length ≤ maxLen) (hbytes : (xs.length + ys.length) * bytes ≤ 140737488355328) (hB : B ≤ w.heap.size)
    (hd : ∀ g, ownB v = some g → g ∉ Fi ∧ g ∉ Fy)
    (h : ∀ v' w', Own c e B w' v' (xs ++ ys) (Fi ++ Fy) → w.grownBy w' (ownB v) → (∀ g, ownB v' = some g → ownB v = some g ∨ w.heap.size ≤ g) → K (a.put o.dst v') w') : o.wp P a w K Q := by
  obtain ⟨v', w', hrun, h2, h3, h4⟩ := run_app (P := P) w t o.type i z bytes ht hi hz hsize hby hzs hw hown x hx h63 hbytes hB hd
  unfold Oper.wp execOp
  simp only [ho, resolve, invoke, builtin, Sem.run_bind, Sem.run_pure, Result.andThen_ok, List.map_toArray, List.map_cons, List.map_nil, hs, hx', hrun]
  exact h v' w' h2 h3 h4
theorem wpList_app {ops : Array Oper} {rest : List Oper} {o : Oper} {a : Act} {Q : Exit → Act → World → Prop} (hgd : o.guard = none) (s x' : Operand) (t : TypeId)
    (ho : o.op = .call { callee := .builtin .append, args := #[s, x'], argTypes := #[t, t] })
    (i : TypeInfo) (z : Value) (bytes : Nat) (ht : P.underlying t = some (.slice e)) (hi : P.info? e = some i) (hz : i.zero = some z)
    (hsize : i.size = c.wd) (hby : i.bytes = bytes) (hzs : z.cells.size = c.wd) (hw : 0 < c.wd)
    (hs : a.eval s = v) (hown : Own c e B w v xs Fi) (x : Value) (hx' : a.eval x' = x) (hx : AppSrc c w x ys Fy)
    (h63 : xs.length + ys.length ≤ maxLen) (hbytes : (xs.length + ys.length) * bytes ≤ 140737488355328) (hB : B ≤ w.heap.size)
    (hd : ∀ g, ownB v = some g → g ∉ Fi ∧ g ∉ Fy)
    (h : ∀ v' w', Own c e B w' v' (xs ++ ys) (Fi ++ Fy) → w.grownBy w' (ownB v) → (∀ g, ownB v' = some g → ownB v = some g ∨ w.heap.size ≤ g) → wpList P ops Q rest (a.put o.dst v') w') : wpList P ops Q (o :: rest) a w :=
  wpList_plain hgd fun _ hK => wp_app w s x' t ho i z bytes ht hi hz hsize hby hzs hw hs hown x hx' hx h63 hbytes hB hd fun v' w' h2 h3 h4 => hK _ _ (h v' w' h2 h3 h4)
theorem step_app {ops : Array Oper} {o : Oper} {a : Act} {K : Act → World → Prop} {Q : Exit → Act → World → Prop} {E : Prop} (hgd : o.guard = none) (s x' : Operand) (t : TypeId)
    (ho : o.op = .call { callee := .builtin .append, args := #[s, x'], argTypes := #[t, t] })
    (i : TypeInfo) (z : Value) (bytes : Nat) (ht : P.underlying t = some (.slice e)) (hi : P.info? e = some i) (hz : i.zero = some z)
    (hsize : i.size = c.wd) (hby : i.bytes = bytes) (hzs : z.cells.size = c.wd) (hw : 0 < c.wd)
    (hs : a.eval s = v) (hown : Own c e B w v xs Fi) (x : Value) (hx' : a.eval x' = x) (hx : AppSrc c w x ys Fy)
    (h63 : xs.length + ys.length ≤ maxLen) (hbytes : (xs.length + ys.length) * bytes ≤ 140737488355328) (hB : B ≤ w.heap.size)
    (hd : ∀ g, ownB v = some g → g ∉ Fi ∧ g ∉ Fy)
    (h : ∀ v' w', Own c e B w' v' (xs ++ ys) (Fi ++ Fy) → w.grownBy w' (ownB v) → (∀ g, ownB v' = some g → ownB v = some g ∨ w.heap.size ≤ g) → K (a.put o.dst v') w') :
    if Region.wanted o (yielded ops a.tmps) = true then Oper.wp P o a w K Q else E := by
  have hw' : Region.wanted o (yielded ops a.tmps) = true := by simp [Region.wanted, hgd]
  rw [if_pos hw']
  exact wp_app w s x' t ho i z bytes ht hi hz hsize hby hzs hw hs hown x hx' hx h63 hbytes hB hd h
end

/-! ### Flat values: their cells alone, no blocks -/
def Flat {α : Type} (c : Cod α) : Prop := ∀ {w vs x F}, c.rep w vs x F → F = []
theorem flat_I : Flat cI := fun h => h.2.1
theorem flat_S : Flat cS := fun h => h.2.1
theorem flat_U : Flat cU := fun h => h.2
theorem Flat.reps {α : Type} {c : Cod α} (hf : Flat c) {w : World} : ∀ {us : List Value} {xs : List α} {F : List Nat}, c.reps w us xs F → F = []
  | us, [], F, h => h.2
  | us, x :: xs, F, ⟨v1, v2, F1, F2, _, hF, h1, h2⟩ => by rw [hF, hf h1, Flat.reps hf h2]; rfl
theorem AppSrc.flat {α : Type} {c : Cod α} {hw : 0 < c.wd} {hw2 : c.wd ≤ 32} (hf : Flat c) {w : World} {x : Value} {ys : List α} {F : List Nat} (h : (cL c hw hw2).rep w [x] ys F) : AppSrc c w x ys [] := by
  obtain ⟨Fy, h1, -⟩ := AppSrc.of_rep _ h
  obtain ⟨A, d, news, e1, hr, hA⟩ := h1
  obtain rfl := hf.reps hr
  exact ⟨A, d, news, e1, hr, hA⟩

/-! ### A slice cut -/
theorem cL_cut {α : Type} {c : Cod α} {hw : 0 < c.wd} {hw2 : c.wd ≤ 32} {w : World} {A : Option Addr} {n cp : Nat} {xs : List α} {F : List Nat}
    (h : (cL c hw hw2).rep w [.slice A n cp] xs F) (k : Nat) (hk : k ≤ n) : ∃ G, (cL c hw hw2).rep w [.slice (if cp = k then A else A.map (·.add (k * c.wd))) (n - k) (cp - k)] (xs.drop k) G ∧ (∀ b, b ∈ G → b ∈ F) ∧ (F.Nodup → G.Nodup) := by
  obtain ⟨A', cp', hv, hl, hm, hr⟩ := h
  simp only [List.cons.injEq, Value.slice.injEq, and_true] at hv
  obtain ⟨rfl, rfl, rfl⟩ := hv
  have hlen : (xs.drop k).length = xs.length - k := List.length_drop
  by_cases hd : xs.drop k = []
  · exact ⟨[], ⟨_, _, by rw [hlen], by rw [hlen]; omega, by omega, .inl ⟨hd, rfl⟩⟩, by simp, by simp⟩
  · rcases hr with ⟨rfl, -⟩ | ⟨hne, g, o, Fs, us, rfl, rfl, hc, hr⟩
    · simp at hd
    · rw [← List.take_append_drop k xs] at hr
      obtain ⟨u1, u2, F1, F2, rfl, rfl, h1, h2⟩ := Cod.reps_cut hr
      have hl1 := Cod.reps_len h1
      rw [List.length_take, Nat.min_eq_left hk] at hl1
      have hpos : 0 < (xs.drop k).length := List.length_pos_iff.2 hd
      refine ⟨g :: F2, ⟨_, _, by rw [hlen], by rw [hlen]; omega, by omega, .inr ⟨hd, g, o + k * c.wd, F2, u2, ?_, rfl, ?_, h2⟩⟩, fun b hb => ?_, fun hnd => ?_⟩
      · rw [if_neg (by omega)]; simp [Addr.add_lit]
      · rw [← hl1]; exact hc.right
      · rcases List.mem_cons.1 hb with rfl | hb
        · simp
        · simp [hb]
      · rw [List.nodup_cons, List.nodup_append] at hnd
        exact List.nodup_cons.2 ⟨fun hm => hnd.1 (by simp [hm]), hnd.2.2.1⟩
end Go.Proofs.Ytlicnppfgfjkgaa
namespace Go.Proofs.Ytlicnppfgfjkgaa
open Go.RowKit

theorem cell?_set_same {w : World} {a : Addr} {u v : Value} (h : w.cell? a = some u) : (w.setCell a v).cell? a = some v := by
  obtain ⟨b, o, sp⟩ := a
  have hs : sp = none := by simpa using World.cell?_spot h
  subst hs
  unfold World.cell? at h ⊢
  cases hh : w.heap[b]? with
  | none => simp [hh] at h
  | some x =>
    cases x with
    | cells c e fz =>
      simp only [hh] at h
      have ho : o < c.size := (Array.getElem?_eq_some_iff.1 (by simpa using h)).1
      simp [World.setCell, Array.getElem?_modify, hh, ho]
    | map _ _ => simp [hh] at h
    | _ => simp [hh] at h
theorem frozen?_set (w : World) (a b : Addr) (v : Value) : (w.setCell a v).frozen? b = w.frozen? b := by
  unfold World.frozen? World.setCell
  by_cases h : b.block = a.block
  · simp only [Array.getElem?_modify, h]
    cases hh : w.heap[a.block]? with
    | none => simp
    | some x => cases x <;> simp
  · simp only [Array.getElem?_modify]
    rw [if_neg (by omega)]

/-- A row of cells in block g that is being rewritten; Fi: the blocks that the row leads to. -/
structure RS (w0 w : World) (g lo : Nat) (cells : List Value) (Fi : List Nat) : Prop where
  glt : g < w0.heap.size
  only : Only (g :: Fi) w0 w
  out : ∀ off, (off < lo ∨ lo + cells.length ≤ off) → w.cell? ⟨g, off, none⟩ = w0.cell? ⟨g, off, none⟩
  frz : ∀ off, w.frozen? ⟨g, off, none⟩ = w0.frozen? ⟨g, off, none⟩
  cell : ∀ j v, cells[j]? = some v → w.cell? ⟨g, lo + j, none⟩ = some v

section
variable {w0 w w' : World} {g lo : Nat} {cells : List Value} {Fi : List Nat}
theorem RS.set (h : RS w0 w g lo cells Fi) {j : Nat} (hj : j < cells.length) (v : Value) : RS w0 (w.setCell ⟨g, lo + j, none⟩ v) g lo (cells.set j v) Fi := by
  have h0 : w.cell? ⟨g, lo + j, none⟩ = some cells[j] := h.cell j _ (List.getElem?_eq_getElem hj)
  refine ⟨h.glt, h.only.set_ (p := ⟨g, lo + j, none⟩) (by simp) v, fun off hoff => ?_, fun off => ?_, fun i u hu => ?_⟩
  · rw [List.length_set] at hoff
    rw [World.cell?_setCell_other w ⟨g, lo + j, none⟩ ⟨g, off, none⟩ v (fun e => by injection e with _ e; omega)]
    exact h.out off hoff
  · rw [frozen?_set]; exact h.frz off
  · by_cases hij : i = j
    · subst hij
      rw [List.getElem?_set_self hj] at hu
      injection hu with hu
      subst hu
      exact cell?_set_same h0
    · rw [List.getElem?_set_ne (by omega)] at hu
      rw [World.cell?_setCell_other w ⟨g, lo + j, none⟩ ⟨g, lo + i, none⟩ v (fun e => by injection e with _ e; omega)]
      exact h.cell i u hu
theorem RS.set0 (h : RS w0 w g lo cells Fi) (hj : 0 < cells.length) (v : Value) : RS w0 (w.setCell ⟨g, lo, none⟩ v) g lo (cells.set 0 v) Fi := h.set hj v
theorem RS.bel (h : RS w0 w g lo cells Fi) (hb : Below w.heap.size w w') : RS w0 w' g lo cells Fi := by
  have hg : g < w.heap.size := Nat.lt_of_lt_of_le h.glt h.only.size
  exact ⟨h.glt, h.only.trans (.of_below hb), fun off ho => (hb.cell (p := ⟨g, off, none⟩) hg).trans (h.out off ho), fun off => (hb.frozen (p := ⟨g, off, none⟩) hg).trans (h.frz off), fun j v hv => (hb.cell (p := ⟨g, lo + j, none⟩) hg).trans (h.cell j v hv)⟩
theorem RS.sub (h : RS w0 w g lo cells Fi) {G : List Nat} (ho : Only G w w') (hG : ∀ x, x ∈ G → x ∈ Fi) (hg : g ∉ Fi) : RS w0 w' g lo cells Fi := by
  have hgl : g < w.heap.size := Nat.lt_of_lt_of_le h.glt h.only.size
  have hb : w'.heap[g]? = w.heap[g]? := ho.block g hgl (fun hm => hg (hG g hm))
  exact ⟨h.glt, h.only.trans (ho.mono fun x hx => List.mem_cons_of_mem _ (hG x hx)), fun off ho => (World.cell?_of_block (w := w) (a := ⟨g, off, none⟩) hb).trans (h.out off ho),
    fun off => (World.frozen?_of_block (w := w) (a := ⟨g, off, none⟩) hb).trans (h.frz off), fun j v hv => (World.cell?_of_block (w := w) (a := ⟨g, lo + j, none⟩) hb).trans (h.cell j v hv)⟩
end

section
variable {α : Type} {c : Cod α} {hw : 0 < c.wd} {hw2 : c.wd ≤ 32} {w : World} {A : Option Addr} {n cp : Nat} {xs : List α} {F : List Nat}

theorem cL_upd (h : (cL c hw hw2).rep w [.slice A n cp] xs F) (hnd : F.Nodup) {i : Nat} (hi : i < xs.length) :
    ∃ g o vs Fi, A = some ⟨g, o, none⟩ ∧ g ∈ F ∧ g ∉ Fi ∧ (∀ b, b ∈ Fi → b ∈ F) ∧ Fi.Nodup ∧ c.rep w vs xs[i] Fi ∧ RS w w g (o + i * c.wd) vs Fi ∧
      (∀ j, j < c.wd → w.frozen? ⟨g, o + i * c.wd + j, none⟩ = false) ∧
      ∀ w' vs' y', RS w w' g (o + i * c.wd) vs' Fi → c.rep w' vs' y' Fi → (cL c hw hw2).rep w' [.slice A n cp] (xs.set i y') F := by
  obtain ⟨A', cp', hv, hl, hm, hr⟩ := h
  simp only [List.cons.injEq, Value.slice.injEq, and_true] at hv
  obtain ⟨rfl, rfl, rfl⟩ := hv
  rcases hr with ⟨rfl, _⟩ | ⟨hne, g, o, Fs, us, rfl, rfl, hc, hr⟩
  · simp at hi
  · have hsp : xs = xs.take i ++ xs[i] :: xs.drop (i + 1) := by rw [← List.drop_eq_getElem_cons hi, List.take_append_drop]
    have hr' : c.reps w us (xs.take i ++ xs[i] :: xs.drop (i + 1)) Fs := by rw [← hsp]; exact hr
    obtain ⟨u1, u2, G1, G2, rfl, rfl, r1, v1, v2, H1, H2, rfl, rfl, hx, r2⟩ := Cod.reps_cut hr'
    have hu1 := Cod.reps_len r1
    rw [List.length_take, Nat.min_eq_left (by omega)] at hu1
    have hv1 := c.len hx
    have hglt : g < w.heap.size := hc.lt (by intro e; have := congrArg List.length e; simp [hu1, hv1] at this; omega)
    have hnd' := List.nodup_cons.1 hnd
    have hndF := List.nodup_append.1 hnd'.2
    have hndH := List.nodup_append.1 hndF.2.1
    have hgH : g ∉ H1 := fun hm => hnd'.1 (by simp [hm])
    have hcv : CellsAt w g (o + i * c.wd) v1 := by
      have := hc.right.left
      rwa [hu1] at this
    refine ⟨g, o, v1, H1, rfl, by simp, hgH, fun b hb => by simp [hb], hndH.1, hx, ⟨hglt, Only.refl _ _, fun _ _ => rfl, fun _ => rfl, fun j v hj => (hcv j v hj).1⟩, fun j hj => (hcv j _ (List.getElem?_eq_getElem (by omega))).2, ?_⟩
    intro w' vs' y' hrs hy
    have hvl := c.len hy
    have hlen : (xs.set i y').length = xs.length := List.length_set
    have hset : xs.set i y' = xs.take i ++ y' :: xs.drop (i + 1) := List.set_eq_take_append_cons_drop.trans (by rw [if_pos hi])
    have hkeep : ∀ b, b ∈ G1 ∨ b ∈ H2 → b < w.heap.size → w'.heap[b]? = w.heap[b]? := fun b hb hlt => hrs.only.block b hlt (by
      intro hm
      rcases List.mem_cons.1 hm with rfl | hm
      · exact hnd'.1 (by rcases hb with hb | hb <;> simp [hb])
      · rcases hb with hb | hb
        · exact hndF.2.2 b hb b (by simp [hm]) rfl
        · exact hndH.2.2 b hm b hb rfl)
    refine ⟨some ⟨g, o, none⟩, cp, by rw [hlen], by rw [hlen]; exact hl, hm, .inr ⟨by intro e; have := congrArg List.length e; rw [hlen] at this; simp at this; exact hne this, g, o, G1 ++ (H1 ++ H2), u1 ++ (vs' ++ v2), rfl, rfl, ?_, ?_⟩⟩
    · intro j u hu
      by_cases h1 : j < i * c.wd
      · rw [List.getElem?_append_left (by omega)] at hu
        have h2 := hc j u (by rw [List.getElem?_append_left (by omega)]; exact hu)
        exact ⟨(hrs.out (o + j) (.inl (by omega))).trans h2.1, (hrs.frz _).trans h2.2⟩
      · rw [List.getElem?_append_right (by omega)] at hu
        by_cases h3 : j - u1.length < vs'.length
        · rw [List.getElem?_append_left h3] at hu
          have h4 := hrs.cell _ _ hu
          have h5 := (hcv (j - u1.length) _ (List.getElem?_eq_getElem (by omega))).2
          rw [show o + i * c.wd + (j - u1.length) = o + j by omega] at h4 h5
          exact ⟨h4, (hrs.frz _).trans h5⟩
        · have h2 := hc j u (by rw [List.getElem?_append_right (by omega), List.getElem?_append_right (by omega)]; rw [List.getElem?_append_right (by omega)] at hu; rw [hvl, ← hv1] at hu; exact hu)
          exact ⟨(hrs.out (o + j) (.inr (by omega))).trans h2.1, (hrs.frz _).trans h2.2⟩
    · rw [hset]
      refine Cod.reps_app (Cod.reps_keep r1 fun b hb => hkeep b (.inl hb) (Cod.reps_lt r1 b hb)) ⟨vs', v2, H1, H2, rfl, rfl, hy, Cod.reps_keep r2 fun b hb => hkeep b (.inr hb) (Cod.reps_lt r2 b hb)⟩
end

theorem Cod.set_ {α : Type} {c : Cod α} {w : World} {vs : List Value} {x : α} {F : List Nat} (h : c.rep w vs x F) {g : Nat} (hg : g ∉ F) (i : Nat) (v : Value) : c.rep (w.setCell ⟨g, i, none⟩ v) vs x F :=
  c.keep h fun b hb => Below.heap_setCell _ _ _ _ (fun e => hg (by subst e; exact hb))
theorem mark_byte (k : Int) : (((UInt8.ofNat (k % 256).toNat).toNat : Nat) : Int) = k % 256 := by
  rw [UInt8.toNat_ofNat']; omega

/-! ### Lists marked from the front -/
section
variable {α : Type} (c : Cod α)
def Cod.mkTo (k : Int) (xs : List α) (i : Nat) : List α := c.mks k (xs.take i) ++ xs.drop i
theorem Cod.mkTo_zero (k : Int) (xs : List α) : c.mkTo k xs 0 = xs := by simp [Cod.mkTo, Cod.mks]
theorem Cod.mkTo_end (k : Int) (xs : List α) : c.mkTo k xs xs.length = c.mks k xs := by simp [Cod.mkTo]
theorem Cod.mkTo_len (k : Int) (xs : List α) (i : Nat) : (c.mkTo k xs i).length = xs.length := by
  simp only [Cod.mkTo, List.length_append, Cod.mks_len, List.length_take, List.length_drop]; omega
theorem Cod.mkTo_get (k : Int) (xs : List α) (i : Nat) (hi : i < xs.length) (h : i < (c.mkTo k xs i).length) : (c.mkTo k xs i)[i] = xs[i] := by
  simp only [Cod.mkTo]
  rw [List.getElem_append_right (by rw [Cod.mks_len, List.length_take]; omega)]
  simp only [Cod.mks_len, List.length_take, Nat.min_eq_left (Nat.le_of_lt hi), Nat.sub_self]
  rw [List.getElem_drop]; simp
theorem Cod.mkTo_set (k : Int) (xs : List α) (i : Nat) (hi : i < xs.length) : (c.mkTo k xs i).set i (c.mrk (k + c.cns (xs.take i)) xs[i]) = c.mkTo k xs (i + 1) := by
  simp only [Cod.mkTo]
  have hl : (c.mks k (xs.take i)).length = i := by rw [Cod.mks_len, List.length_take, Nat.min_eq_left (Nat.le_of_lt hi)]
  rw [List.set_append_right _ _ (by omega), hl, Nat.sub_self, List.drop_eq_getElem_cons hi, List.set_cons_zero, List.take_succ_eq_append_getElem hi, Cod.mks_app, List.append_assoc]
  simp [Cod.mks]
theorem Cod.cns_succ (xs : List α) (i : Nat) (hi : i < xs.length) : c.cns (xs.take (i + 1)) = c.cns (xs.take i) + c.cn xs[i] := by
  rw [List.take_succ_eq_append_getElem hi, Cod.cns_app]; simp [Cod.cns]
theorem Cod.cns_take_le (xs : List α) (i : Nat) : c.cns (xs.take i) ≤ c.cns xs := by
  conv => rhs; rw [← List.take_append_drop i xs, Cod.cns_app]
  omega
theorem Cod.mks_get (k : Int) : ∀ (xs : List α) (i : Nat) (hi : i < xs.length) (h : i < (c.mks k xs).length), (c.mks k xs)[i] = c.mrk (k + c.cns (xs.take i)) xs[i] := by
  intro xs i hi h
  have h1 : c.mks k xs = c.mks k (xs.take i) ++ c.mks (k + c.cns (xs.take i)) (xs.drop i) := by rw [← Cod.mks_app, List.take_append_drop]
  have hl : (c.mks k (xs.take i)).length = i := by rw [Cod.mks_len, List.length_take, Nat.min_eq_left (Nat.le_of_lt hi)]
  simp only [h1]
  rw [List.getElem_append_right (by omega)]
  simp only [hl, Nat.sub_self, List.drop_eq_getElem_cons hi, Cod.mks, List.getElem_cons_zero]
end

end Go.Proofs.Ytlicnppfgfjkgaa
namespace Go.Proofs.Ytlicnppfgfjkgaa
open Go.RowKit
set_option linter.unusedVariables false

section
variable {α : Type} {c : Cod α} {e : TypeId} {B : Nat} {w w' : World} {v : Value} {xs : List α} {Fi : List Nat}
theorem Own.raise (h : Own c e 0 w v xs Fi) (hB : ∀ g, ownB v = some g → B ≤ g) : Own c e B w v xs Fi := by
  rcases h.form with h | ⟨g, cap, cur, us, rfl, h0, hh, hn, hm, hs, ht, ho, hr⟩
  · exact .inl h
  · exact .inr ⟨us, ⟨ho.1, .inr ⟨g, cap + 1, cur, rfl, hB g rfl, hh, hn, hm, hs, ht⟩⟩, hr⟩
theorem Own.norm (h : Own c e B w v xs Fi) : ownB v = none → Fi = [] := by
  intro hv
  rcases h.form with ⟨-, h, -⟩ | ⟨g, cap, cur, us, rfl, -⟩
  · exact h
  · simp [ownB] at hv
end

def ownL (v : Value) : List Nat := match ownB v with | some g => [g] | none => []
theorem mem_ownL {v : Value} {b : Nat} : b ∈ ownL v ↔ ownB v = some b := by
  unfold ownL
  cases h : ownB v with
  | none => simp
  | some g => simp [eq_comm]

/-- A slice that is a row of the call's own, from its block's start on, the room behind it too. -/
def cO {α : Type} (c : Cod α) (e : TypeId) (hw2 : c.wd ≤ 32) : Cod (List α) where
  wd := 1
  rep := fun w vs xs F => ∃ v Fi, vs = [v] ∧ Own c e 0 w v xs Fi ∧ F = ownL v ++ Fi
  sz := c.szs
  mrk := c.mks
  cn := c.cns
  mkcn := c.mks_cns
  cnle := fun xs => Nat.le_trans (Cod.cns_le c hw2 xs) (by omega)
  len := fun ⟨_, _, h, _⟩ => by rw [h]; rfl
  keep := fun ⟨v, Fi, h, ho, hF⟩ hb => ⟨v, Fi, h, ho.keep (fun g hg => hb g (by rw [hF]; simp [mem_ownL, hg])) (fun b hm => hb b (by rw [hF]; simp [hm])), hF⟩
  lt := fun ⟨v, Fi, h, ho, hF⟩ b hb => by
    rw [hF, List.mem_append, mem_ownL] at hb
    rcases hb with hb | hb
    · exact (ho.lt b hb).2
    · exact ho.inner_lt b hb
  ones := fun ⟨v, Fi, h, ho, hF⟩ u hu => by
    rw [h] at hu; simp at hu; subst hu
    obtain ⟨A, cp, rfl⟩ := ho.slice
    rfl

theorem cO_form {α : Type} {c : Cod α} {e : TypeId} {hw2 : c.wd ≤ 32} {w : World} {v : Value} {xs : List α} {F : List Nat} (h : (cO c e hw2).rep w [v] xs F) : ∃ A cp, v = .slice A xs.length cp := by
  obtain ⟨v', Fi, hv, ho, -⟩ := h
  simp only [List.cons.injEq, and_true] at hv
  subst hv
  exact ho.slice
theorem cO_lt {α : Type} {c : Cod α} {e : TypeId} {hw2 : c.wd ≤ 32} {w : World} {v : List Value} {xs : List α} {F : List Nat} (h : (cO c e hw2).rep w v xs F) : ∀ b, b ∈ F → b < w.heap.size := (cO c e hw2).lt h
theorem cO_own {α : Type} {c : Cod α} {e : TypeId} {hw2 : c.wd ≤ 32} {w : World} {v : Value} {xs : List α} {F : List Nat} {B : Nat} (h : (cO c e hw2).rep w [v] xs F) (hf : Fresh B F) :
    ∃ Fi, F = ownL v ++ Fi ∧ Own c e B w v xs Fi ∧ Fresh B Fi ∧ (∀ g, ownB v = some g → g ∉ Fi) ∧ ∀ g, ownB v = some g → B ≤ g := by
  obtain ⟨v', Fi, hv, ho, rfl⟩ := h
  simp only [List.cons.injEq, and_true] at hv
  subst hv
  have hB : ∀ g, ownB v = some g → B ≤ g := fun g hg => hf.1 g (by simp [mem_ownL, hg])
  have hnd := List.nodup_append.1 hf.2
  exact ⟨Fi, rfl, ho.raise hB, ⟨fun b hb => hf.1 b (by simp [hb]), hnd.2.1⟩, fun g hg hm => hnd.2.2 g (mem_ownL.2 hg) g hm rfl, hB⟩
theorem Own.toO {α : Type} {c : Cod α} {e : TypeId} {hw2 : c.wd ≤ 32} {w : World} {v : Value} {xs : List α} {Fi : List Nat} {B : Nat} (h : Own c e B w v xs Fi) (hf : Fresh B Fi) (hd : ∀ g, ownB v = some g → g ∉ Fi) :
    (cO c e hw2).rep w [v] xs (ownL v ++ Fi) ∧ Fresh B (ownL v ++ Fi) := by
  refine ⟨⟨v, Fi, rfl, h.mono (Nat.zero_le _), rfl⟩, fun b hb => ?_, List.nodup_append.2 ⟨?_, hf.2, fun a ha b hb hab => ?_⟩⟩
  · rcases List.mem_append.1 hb with hb | hb
    · exact (h.lt b (mem_ownL.1 hb)).1
    · exact hf.1 b hb
  · unfold ownL; split <;> simp
  · subst hab; exact hd a (mem_ownL.1 ha) hb

/-! ### What a codec says less -/
def Weak {α : Type} (c d : Cod α) : Prop := c.wd = d.wd ∧ ∀ {w vs x F}, c.rep w vs x F → ∃ G, d.rep w vs x G ∧ G.Sublist F
theorem Weak.refl {α : Type} (c : Cod α) : Weak c c := ⟨rfl, fun h => ⟨_, h, List.Sublist.refl _⟩⟩
theorem Weak.reps {α : Type} {c d : Cod α} (k : Weak c d) {w : World} : ∀ {us : List Value} {xs : List α} {F : List Nat}, c.reps w us xs F → ∃ G, d.reps w us xs G ∧ G.Sublist F
  | us, [], F, h => ⟨[], ⟨h.1, rfl⟩, by rw [h.2]; exact List.Sublist.refl _⟩
  | us, x :: xs, F, ⟨v1, v2, F1, F2, h, hF, h1, h2⟩ => by
    obtain ⟨G1, k1, s1⟩ := k.2 h1
    obtain ⟨G2, k2, s2⟩ := Weak.reps k h2
    exact ⟨G1 ++ G2, ⟨v1, v2, G1, G2, h, rfl, k1, k2⟩, by rw [hF]; exact s1.append s2⟩
theorem Weak.list {α : Type} {c d : Cod α} (k : Weak c d) {hw : 0 < c.wd} {hw2 : c.wd ≤ 32} {kw : 0 < d.wd} {kw2 : d.wd ≤ 32} : Weak (cL c hw hw2) (cL d kw kw2) := by
  refine ⟨rfl, ?_⟩
  rintro w vs xs F ⟨A, cp, hv, hl, hm, ⟨rfl, rfl⟩ | ⟨hne, g, o, Fs, us, hA, rfl, hc, hr⟩⟩
  · exact ⟨[], ⟨A, cp, hv, hl, hm, .inl ⟨rfl, rfl⟩⟩, List.Sublist.refl _⟩
  · obtain ⟨G, h1, h2⟩ := k.reps hr
    exact ⟨g :: G, ⟨A, cp, hv, hl, hm, .inr ⟨hne, g, o, G, us, hA, rfl, hc, h1⟩⟩, h2.cons_cons g⟩
theorem Weak.own {α : Type} {c d : Cod α} (k : Weak c d) {e : TypeId} {hw2 : c.wd ≤ 32} {kw : 0 < d.wd} {kw2 : d.wd ≤ 32} : Weak (cO c e hw2) (cL d kw kw2) := by
  refine ⟨rfl, ?_⟩
  rintro w vs xs F ⟨v, Fi, rfl, ho, rfl⟩
  rcases ho.form with ⟨rfl, rfl, A, rfl⟩ | ⟨g, cap, cur, us, rfl, h0, hh, hn, hm, hs, ht, ho', hr⟩
  · exact ⟨[], ⟨A, 0, rfl, Nat.le_refl _, by decide, .inl ⟨rfl, rfl⟩⟩, List.nil_sublist _⟩
  · obtain ⟨G, h1, h2⟩ := k.reps hr
    cases xs with
    | nil => exact ⟨[], ⟨_, cap + 1, rfl, hn, hm, .inl ⟨rfl, rfl⟩⟩, List.nil_sublist _⟩
    | cons x xs =>
      refine ⟨g :: G, ⟨_, cap + 1, rfl, hn, hm, .inr ⟨by simp, g, 0, G, us, rfl, rfl, fun j u hu => ?_, h1⟩⟩, ?_⟩
      · have hj := (List.getElem?_eq_some_iff.1 hu).1
        rw [ho'.1] at hj
        rw [Nat.zero_add]
        exact ⟨(ho'.cellAt j hj).trans hu, ho'.frozenAt j⟩
      · show (g :: G).Sublist ([g] ++ Fi)
        exact h2.cons_cons g
theorem Weak.pair {α β : Type} {c d : Cod α} {c' d' : Cod β} (k : Weak c d) (k' : Weak c' d') : Weak (cP c c') (cP d d') := by
  refine ⟨by show c.wd + c'.wd = _; rw [k.1, k'.1]; rfl, ?_⟩
  rintro w vs x F ⟨v1, v2, F1, F2, h, rfl, h1, h2⟩
  obtain ⟨G1, k1, s1⟩ := k.2 h1
  obtain ⟨G2, k2, s2⟩ := k'.2 h2
  exact ⟨G1 ++ G2, ⟨v1, v2, G1, G2, h, rfl, k1, k2⟩, s1.append s2⟩
theorem Weak.map {α σ : Type} {c d : Cod α} (k : Weak c d) {f : σ → α} {g : α → σ} {hg hg' : ∀ a, f (g a) = a} : Weak (cM c f g hg) (cM d f g hg') := ⟨k.1, fun h => k.2 h⟩
theorem Weak.fresh {α : Type} {c d : Cod α} (k : Weak c d) {w : World} {vs : List Value} {x : α} {F : List Nat} {B : Nat} (h : c.rep w vs x F) (hf : Fresh B F) : ∃ G, d.rep w vs x G ∧ Fresh B G ∧ ∀ b, b ∈ G → b ∈ F := by
  obtain ⟨G, h1, h2⟩ := k.2 h
  exact ⟨G, h1, ⟨fun b hb => hf.1 b (h2.subset hb), h2.nodup hf.2⟩, fun b hb => h2.subset hb⟩
theorem GivesR.weak {α : Type} {c d : Cod α} (k : Weak c d) {w w' : World} {x : α} {e : Ending} (h : GivesR c w x e w') : GivesR d w x e w' := by
  obtain ⟨vs, F, he, hb, hr, hf⟩ := h
  obtain ⟨G, h1, h2, -⟩ := k.fresh hr hf
  exact ⟨vs, G, he, hb, h1, h2⟩

/-! ### A box that holds a row, while a loop appends to it -/
/-- The cell o of the box xb of the world V holds a row of the call's own (blocks from V's end on) that reads as es; of what was there in V only that cell has turned. -/
structure BoxAt {α : Type} (c : Cod α) (T : TypeId) (V wr : World) (xb o : Nat) (es : List α) (vE : Value) (Fi : List Nat) : Prop where
  cell : wr.cell? ⟨xb, o, none⟩ = some vE
  own : Own c T V.heap.size wr vE es Fi
  fresh : Fresh V.heap.size Fi
  ne : ∀ g, ownB vE = some g → g ∉ Fi
  only : Only [xb] V wr
  fz : ∀ i, wr.frozen? ⟨xb, i, none⟩ = V.frozen? ⟨xb, i, none⟩
  oth : ∀ i, i ≠ o → wr.cell? ⟨xb, i, none⟩ = V.cell? ⟨xb, i, none⟩
def BoxRow {α : Type} (c : Cod α) (T : TypeId) (V wr : World) (xb o : Nat) (es : List α) : Prop := ∃ vE Fi, BoxAt c T V wr xb o es vE Fi
/-- what the append left, ahead of the store; and what the store will leave -/
structure BoxAfter {α : Type} (c : Cod α) (T : TypeId) (V W4 w2 : World) (xb o : Nat) (es : List α) (vE v2 : Value) : Prop where
  cell : w2.cell? ⟨xb, o, none⟩ = some vE
  fz : ∀ i, w2.frozen? ⟨xb, i, none⟩ = V.frozen? ⟨xb, i, none⟩
  size : W4.heap.size ≤ w2.heap.size
  row : BoxRow c T V (w2.setCell ⟨xb, o, none⟩ v2) xb o es

section
variable {α : Type} {c : Cod α} {T : TypeId} {V wr W4 w2 : World} {xb o : Nat} {es ys : List α} {vE v2 : Value} {Fi G : List Nat}
theorem BoxRow.start {A : Option Addr} (h : V.cell? ⟨xb, o, none⟩ = some (.slice A 0 0)) : BoxRow c T V V xb o [] :=
  ⟨_, [], h, Own.empty _, Fresh.nil _, by simp [ownB], Only.refl _ _, fun _ => rfl, fun _ _ => rfl⟩
theorem cell_lt {a : Addr} {v : Value} (h : V.cell? a = some v) : a.block < V.heap.size := World.block_lt_of_cell? V a h
theorem boxAfter (hx : xb < V.heap.size) (H : BoxAt c T V wr xb o es vE Fi) (hb : Below wr.heap.size wr W4) (hG : Fresh wr.heap.size G) (hGl : ∀ b, b ∈ G → b < W4.heap.size)
    (ho2 : Own c T V.heap.size w2 v2 (es ++ ys) (Fi ++ G)) (hg2 : W4.grownBy w2 (ownB vE)) (hat2 : ∀ g, ownB v2 = some g → ownB vE = some g ∨ W4.heap.size ≤ g) :
    BoxAfter c T V W4 w2 xb o (es ++ ys) vE v2 := by
  obtain ⟨hX, hown, hFi, hEF, hO, hfz, hoth⟩ := H
  have hVr := hO.size
  have hs4 := hb.size
  have hs2 := hg2.size
  have hxr : xb < wr.heap.size := Nat.lt_of_lt_of_le hx hVr
  have hne : ownB vE ≠ some xb := fun e => by have := (hown.lt _ e).1; omega
  have hk : w2.heap[xb]? = wr.heap[xb]? := (hg2.block xb (Nat.lt_of_lt_of_le hxr hb.size) (fun e => hne e.symm)).trans (hb.block xb hxr)
  have hX2 : w2.cell? ⟨xb, o, none⟩ = some vE := (World.cell?_of_block hk).trans hX
  have hf2 : ∀ i, w2.frozen? ⟨xb, i, none⟩ = wr.frozen? ⟨xb, i, none⟩ := fun i => World.frozen?_of_block hk
  have hc2 : ∀ i, w2.cell? ⟨xb, i, none⟩ = wr.cell? ⟨xb, i, none⟩ := fun i => World.cell?_of_block hk
  have hx2 : ownB v2 ≠ some xb := fun e => by have := (ho2.lt _ e).1; omega
  have hFG : ∀ b, b ∈ Fi ++ G → V.heap.size ≤ b ∧ b < W4.heap.size := fun b hm => by
    rcases List.mem_append.1 hm with hm | hm
    · have h1 := hFi.1 b hm; have h2 := hown.inner_lt b hm; omega
    · have h1 := hG.1 b hm; have h2 := hGl b hm; omega
  refine ⟨hX2, fun i => (hf2 i).trans (hfz i), hs2, v2, Fi ++ G, cell?_set_same hX2, ho2.keep (fun g hg => Below.heap_setCell _ _ _ _ (fun e => hx2 (hg.trans (congrArg some e)))) (fun b hm => Below.heap_setCell _ _ _ _ (fun e => by have := hFG b hm; have e' : b = xb := e; omega)), ⟨fun b hm => (hFG b hm).1, List.nodup_append.2 ⟨hFi.2, hG.2, fun a ha b hm e => by have h1 := hown.inner_lt a ha; have h2 := hG.1 b hm; omega⟩⟩, fun g hg hm => ?_, ?_, fun i => (frozen?_set _ _ _ _).trans ((hf2 i).trans (hfz i)), fun i hi => ?_⟩
  · rcases hat2 g hg with h1 | h1
    · rcases List.mem_append.1 hm with hm | hm
      · exact hEF g h1 hm
      · have h2 := (hown.lt g h1).2; have h3 := hG.1 g hm; omega
    · have h2 := hFG g hm; omega
  · have hgb : Below V.heap.size W4 w2 := Below.grown (Below.refl _ _) hg2 (Nat.le_trans hVr hs4) (fun b hb => (hown.lt b hb).1)
    refine Only.set_ ⟨hgb.os.trans (hb.os.trans hO.os), hgb.tape.trans (hb.tape.trans hO.tape), hgb.output.trans (hb.output.trans hO.output), by omega, fun b hbl hn => ?_⟩ (by simp) _
    refine (hg2.block b (by omega) (fun e => by have := (hown.lt b e.symm).1; omega)).trans ((hb.block b (by omega)).trans (hO.block b hbl hn))
  · rw [World.cell?_setCell_other w2 ⟨xb, o, none⟩ ⟨xb, i, none⟩ _ (fun e => by injection e with _ e; omega)]
    exact (hc2 i).trans (hoth i hi)

variable {P : Program}
theorem wpList_box {ops : Array Oper} {rest : List Oper} {op : Oper} {a : Act} {Q : Exit → Act → World → Prop} (hgd : op.guard = none) (s x' : Operand) (t : TypeId)
    (hop : op.op = .call { callee := .builtin .append, args := #[s, x'], argTypes := #[t, t] })
    (i : TypeInfo) (z : Value) (bytes : Nat) (ht : P.underlying t = some (.slice T)) (hi : P.info? T = some i) (hz : i.zero = some z)
    (hsize : i.size = c.wd) (hby : i.bytes = bytes) (hzs : z.cells.size = c.wd) (hw : 0 < c.wd)
    (hs : a.eval s = vE) (x : Value) (hx' : a.eval x' = x) (hxb : xb < V.heap.size) (H : BoxAt c T V wr xb o es vE Fi) (hb : Below wr.heap.size wr W4) (hG : Fresh wr.heap.size G) (hGl : ∀ b, b ∈ G → b < W4.heap.size)
    (hsrc : AppSrc c W4 x ys G) (m : Nat) (hm : (es ++ ys).length = m)
    (h63 : m ≤ maxLen) (hbytes : m * bytes ≤ 140737488355328)
    (h : ∀ A2 c2 w2, BoxAfter c T V W4 w2 xb o (es ++ ys) vE (.slice A2 m c2) → wpList P ops Q rest (a.put op.dst (.slice A2 m c2)) w2) : wpList P ops Q (op :: rest) a W4 := by
  have hVr := H.only.size
  have hs4 := hb.size
  have hm' : es.length + ys.length = m := by rw [← hm, List.length_append]
  refine wpList_app (c := c) (B := V.heap.size) W4 hgd s x' t hop i z bytes ht hi hz hsize hby hzs hw hs (H.own.bel hb) x hx' hsrc (by omega) (by rw [hm']; exact hbytes) (Nat.le_trans hVr hs4) (fun g hg => ⟨H.ne g hg, fun hm => by have h1 := (H.own.lt g hg).2; have h2 := hG.1 g hm; omega⟩) (fun v' w' h2 h3 h4 => ?_)
  obtain ⟨A2, c2, rfl⟩ := h2.slice
  rw [hm] at h2 h4 ⊢
  exact h A2 c2 w' (boxAfter hxb H hb hG hGl h2 h3 h4)
theorem step_box {ops : Array Oper} {op : Oper} {a : Act} {K : Act → World → Prop} {Q : Exit → Act → World → Prop} {E : Prop} (hgd : op.guard = none) (s x' : Operand) (t : TypeId)
    (hop : op.op = .call { callee := .builtin .append, args := #[s, x'], argTypes := #[t, t] })
    (i : TypeInfo) (z : Value) (bytes : Nat) (ht : P.underlying t = some (.slice T)) (hi : P.info? T = some i) (hz : i.zero = some z)
    (hsize : i.size = c.wd) (hby : i.bytes = bytes) (hzs : z.cells.size = c.wd) (hw : 0 < c.wd)
    (hs : a.eval s = vE) (x : Value) (hx' : a.eval x' = x) (hxb : xb < V.heap.size) (H : BoxAt c T V wr xb o es vE Fi) (hb : Below wr.heap.size wr W4) (hG : Fresh wr.heap.size G) (hGl : ∀ b, b ∈ G → b < W4.heap.size)
    (hsrc : AppSrc c W4 x ys G) (m : Nat) (hm : (es ++ ys).length = m)
    (h63 : m ≤ maxLen) (hbytes : m * bytes ≤ 140737488355328)
    (h : ∀ A2 c2 w2, BoxAfter c T V W4 w2 xb o (es ++ ys) vE (.slice A2 m c2) → K (a.put op.dst (.slice A2 m c2)) w2) :
    if Region.wanted op (yielded ops a.tmps) = true then Oper.wp P op a W4 K Q else E := by
  have hVr := H.only.size
  have hs4 := hb.size
  have hm' : es.length + ys.length = m := by rw [← hm, List.length_append]
  refine step_app (c := c) (B := V.heap.size) W4 hgd s x' t hop i z bytes ht hi hz hsize hby hzs hw hs (H.own.bel hb) x hx' hsrc (by omega) (by rw [hm']; exact hbytes) (Nat.le_trans hVr hs4) (fun g hg => ⟨H.ne g hg, fun hm => by have h1 := (H.own.lt g hg).2; have h2 := hG.1 g hm; omega⟩) (fun v' w' h2 h3 h4 => ?_)
  obtain ⟨A2, c2, rfl⟩ := h2.slice
  rw [hm] at h2 h4 ⊢
  exact h A2 c2 w' (boxAfter hxb H hb hG hGl h2 h3 h4)
end

theorem AppSrc.bel {α : Type} {c : Cod α} {w w' : World} {x : Value} {ys : List α} {Fy : List Nat} (h : AppSrc c w x ys Fy) (hb : Below w.heap.size w w') : AppSrc c w' x ys Fy := by
  obtain ⟨A, d, news, hx, hr, hA⟩ := h
  refine ⟨A, d, news, hx, Cod.reps_bel hr hb, fun hp => ?_⟩
  obtain ⟨ad, h1, h2⟩ := hA hp
  exact ⟨ad, h1, fun j u hu => (hb.cell (cell_lt (h2 j u hu))).trans (h2 j u hu)⟩
/-- one cell with a row behind it -/
theorem src_cells {α : Type} {c : Cod α} {w : World} {vs : List Value} {x : α} {F : List Nat} {g : Nat} (h : c.rep w vs x F) (hc : ∀ j u, vs[j]? = some u → w.cell? ⟨g, j, none⟩ = some u) : AppSrc c w (.slice (some ⟨g, 0, none⟩) 1 1) [x] F :=
  ⟨some ⟨g, 0, none⟩, 1, vs, rfl, Cod.reps_one h, fun _ => ⟨_, rfl, fun j u hu => by rw [Addr.add_lit, Nat.zero_add]; exact hc j u hu⟩⟩
theorem src_new {α : Type} {c : Cod α} {w : World} {vs : Array Value} {x : α} {F : List Nat} (T : TypeId) (g : Nat) (hg : w.heap.size = g) (h : c.rep w vs.toList x F) : AppSrc c (w.alloc (.cells vs T)) (.slice (some ⟨g, 0, none⟩) 1 1) [x] F := by
  subst hg
  exact src_cells (Cod.bel h (bel_alloc (Below.refl _ _) _)) (fun j u hu => by rw [(Blk.new w T vs).cell]; simpa using hu)
end Go.Proofs.Ytlicnppfgfjkgaa
namespace Go.Proofs.Ytlicnppfgfjkgaa
open Go.ChangeShapes Go.WideShapes Go.RowKit
set_option linter.unusedVariables false

def cCachedO : Cod (List TCached) := cO cCached 129 (by decide)
def cCacheO : Cod TCache := cM (cP cI cCachedO) (fun x => (x.ver, x.entries)) (fun a => ⟨a.1, a.2⟩) (fun _ => rfl)
def cCachesO : Cod (List TCache) := cO cCacheO 125 (by decide)
def cCSetO : Cod TCSet := cM cCachesO (fun x => x.caches) (fun a => ⟨a⟩) (fun _ => rfl)

theorem weak_cache : Weak cCacheO cCache := Weak.map (Weak.pair (Weak.refl _) (Weak.own (Weak.refl _)))
theorem weak_caches : Weak cCachesO cCacheS := Weak.own weak_cache
theorem weak_cset : Weak cCSetO cCSet := Weak.map weak_caches

theorem TCache.outO {w : World} {vs : List Value} {x : TCache} {F : List Nat} (h : cCacheO.rep w vs x F) :
    ∃ A cp, vs = [Value.int .i64 x.ver, .slice A x.entries.length cp] ∧ x.Ok ∧ cCachedO.rep w [.slice A x.entries.length cp] x.entries F := by
  obtain ⟨a0, b0, G0, H0, rfl, rfl, ⟨rfl, rfl, h0⟩, h1⟩ := h
  obtain ⟨v, Fi, rfl, ho, rfl⟩ := h1
  obtain ⟨A, cp, rfl⟩ := ho.slice
  exact ⟨A, cp, rfl, ⟨h0⟩, ⟨_, Fi, rfl, ho, rfl⟩⟩
theorem TCache.mkO {w : World} {x : TCache} {v1 : Value} {F1 : List Nat} (h : x.Ok) (k1 : cCachedO.rep w [v1] x.entries F1) : cCacheO.rep w [Value.int .i64 x.ver, v1] x F1 :=
  ⟨[_], _, [], F1, rfl, by simp, ⟨rfl, rfl, h.h0⟩, k1⟩
theorem TCSet.outO {w : World} {vs : Array Value} {x : TCSet} {F : List Nat} (h : cCSetO.rep w vs.toList x F) :
    ∃ A cp, vs = #[.slice A x.caches.length cp] ∧ cCachesO.rep w [.slice A x.caches.length cp] x.caches F := by
  obtain ⟨v, Fi, hv, ho, rfl⟩ := h
  obtain ⟨A, cp, rfl⟩ := ho.slice
  exact ⟨A, cp, Array.toList_inj.1 hv, ⟨_, Fi, rfl, ho, rfl⟩⟩
theorem TCSet.mkO {w : World} {x : TCSet} {v0 : Value} {F0 : List Nat} (k0 : cCachesO.rep w [v0] x.caches F0) : cCSetO.rep w [v0] x F0 := k0
end Go.Proofs.Ytlicnppfgfjkgaa
namespace Go.Proofs.Ytlicnppfgfjkgaa
open Go.RowKit
theorem Cod.setA {α : Type} {c : Cod α} {w : World} {vs : List Value} {x : α} {F : List Nat} (h : c.rep w vs x F) {p : Addr} (hp : p.block ∉ F) (v : Value) : c.rep (w.setCell p v) vs x F :=
  c.keep h fun b hb => Below.heap_setCell _ _ _ _ (fun e => hp (by rw [← e]; exact hb))
theorem Cod.allocA {α : Type} {c : Cod α} {w : World} {vs : List Value} {x : α} {F : List Nat} (h : c.rep w vs x F) (o : Obj) : c.rep (w.alloc o) vs x F :=
  Cod.bel h (bel_alloc (Below.refl _ _) o)
theorem Cod.drewA {α : Type} {c : Cod α} {w : World} {vs : List Value} {x : α} {F : List Nat} (h : c.rep w vs x F) : c.rep w.drew vs x F :=
  Cod.bel h (Below.refl _ _).drew
theorem Cod.drewNA {α : Type} {c : Cod α} {w : World} {vs : List Value} {x : α} {F : List Nat} (h : c.rep w vs x F) (n : Nat) : c.rep (w.drewN n) vs x F :=
  Cod.bel h (bel_drewN (Below.refl _ _) n)
end Go.Proofs.Ytlicnppfgfjkgaa
namespace Go.Proofs.Ytlicnppfgfjkgaa
open Go.ChangeShapes Go.WideShapes Go.RowKit
set_option linter.unusedVariables false

theorem infoU8 : (Try.prog.info? 5).map (fun i => (i.zero, i.size, i.bytes)) = some (some (Value.int .u8 0), 1, 1) := by kernel_rfl
theorem TResp.len {x : TResp} (hn : cResp.sz x ≤ 1048576) : x.body.length ≤ 1048576 := by
  have h1 := Cod.len_le cU x.body
  have : cResp.sz x = 0 + (0 + (0 + (cU.szs x.body + 0))) := rfl
  omega
set_option maxRecDepth 100000 in
set_option maxHeartbeats 2000000 in
theorem implCopyBytes_any (v : Value) (xs : List UInt8) (F : List Nat) (w : World) (h : cUS.rep w [v] xs F) (hn : xs.length ≤ 1048576) :
    Calls Try.prog 140 #[v] w (GivesS cUS w xs) := by
  obtain ⟨i0, hi0, hz0, hz1, hz2⟩ := info_parts infoU8
  obtain ⟨A, c, rfl⟩ := cL_form h
  have HS := Lib.hid hn
  clear hn
  go_enter Try.func140, Try.ntmps140
  go_wp2_with (at_builtin; refine wpList_app (c := cU) (xs := []) (ys := xs) (Fi := []) (Fy := []) _ rfl _ _ _ rfl i0 _ _ Try.underlying22 hi0 hz0 hz1 hz2 rfl (by decide) (v := .slice (some _) 0 0) rfl (Own.empty _) (.slice A xs.length c) rfl (AppSrc.flat (hw := by decide) (hw2 := by decide) flat_U (Cod.bel h (by repeat (first | with_reducible exact Below.refl _ _ | with_reducible assumption | with_reducible refine bel_alloc ?_ _ | with_reducible refine bel_drew ?_ | with_reducible refine bel_drewN ?_ _ | (with_reducible refine bel_set ?_ ?_ _; rotate_left; ((try simp); (try omega))))))) (by have := HS.out; unfold maxLen; simp; omega) (by have := HS.out; simp; omega) (Nat.le_refl _) (by simp [ownB]) ?_)
  intro v1 w1 ho hg hat
  replace ho : Own cU 5 _ w1 v1 xs [] := ho
  have hb : Below _ _ w1 := (Below.refl _ _).grown hg (Nat.le_refl _) (by simp [ownB])
  have hb1 : Below w.heap.size w w1 := bel_then (by repeat (first | with_reducible exact Below.refl _ _ | with_reducible assumption | with_reducible refine bel_alloc ?_ _ | with_reducible refine bel_drew ?_ | with_reducible refine bel_drewN ?_ _ | (with_reducible refine bel_set ?_ ?_ _; rotate_left; ((try simp); (try omega))))) hb
  obtain ⟨G, k2, f2, g2⟩ := ho.fresh (hw := by decide) (hw2 := by decide)
  go_wp2_with fail
  go_ret
  exact ⟨_, G, rfl, hb1, k2, f2.mono (by simp)⟩
set_option maxRecDepth 100000 in
set_option maxHeartbeats 4000000 in
theorem implCopyResp_any (vs : Array Value) (x : TResp) (F : List Nat) (w : World) (h : cResp.rep w vs.toList x F) (hn : cResp.sz x ≤ 1048576) :
    Calls Try.prog 94 #[.agg vs] w (GivesR cResp w x) := by
  have hlen := TResp.len hn
  obtain ⟨u3, F3, rfl, -, hok, m3⟩ := TResp.outA h
  obtain ⟨A3, c3, rfl⟩ := cL_form m3
  clear h hn
  go_enter Try.func94, Try.ntmps94
  go_wp2_with fail
  refine (implCopyBytes_any _ x.body _ _ (by exact Cod.bel m3 (by repeat (first | with_reducible exact Below.refl _ _ | with_reducible assumption | with_reducible refine bel_alloc ?_ _ | with_reducible refine bel_drew ?_ | with_reducible refine bel_drewN ?_ _ | (with_reducible refine bel_set ?_ ?_ _; rotate_left; ((try simp); (try omega)))))) hlen).mono ?_
  rintro e w1 ⟨v1, G1, rfl, hb1, n1, f1⟩
  obtain ⟨B1, d1, e1⟩ := cL_form n1
  subst e1
  have hz_w1 := hb1.size
  (try simp at hz_w1)
  have ha0_w1 : w.heap.size < w1.heap.size := by omega
  have ha1_w1 : w.heap.size + 1 < w1.heap.size := by omega
  obtain ⟨hc_w1, hf_w1, -⟩ := bcell hb1
  have hb_w1 : Below w.heap.size w w1 := bel_then (by repeat (first | with_reducible exact Below.refl _ _ | with_reducible assumption | with_reducible refine bel_alloc ?_ _ | with_reducible refine bel_drew ?_ | with_reducible refine bel_drewN ?_ _ | (with_reducible refine bel_set ?_ ?_ _; rotate_left; ((try simp); (try omega))))) hb1
  have k0 : w1.cell? ⟨w.heap.size, 0, none⟩ = some (.int .i64 x.type) := by go_simp
  have k1 : w1.cell? ⟨w.heap.size, 1, none⟩ = some (.int .i64 x.status) := by go_simp
  have k2 : w1.cell? ⟨w.heap.size, 2, none⟩ = some (.int .i64 x.ver) := by go_simp
  have k3 : w1.cell? ⟨w.heap.size, 3, none⟩ = some (.slice A3 x.body.length c3) := by go_simp
  have k4 : w1.cell? ⟨w.heap.size, 4, none⟩ = some (.bool x.shares) := by go_simp
  have j0 : w1.cell? ⟨w.heap.size + 1, 0, none⟩ = some (.int .i64 0) := by go_simp
  have j1 : w1.cell? ⟨w.heap.size + 1, 1, none⟩ = some (.int .i64 0) := by go_simp
  have j2 : w1.cell? ⟨w.heap.size + 1, 2, none⟩ = some (.int .i64 0) := by go_simp
  have j3 : w1.cell? ⟨w.heap.size + 1, 3, none⟩ = some (.slice none 0 0) := by go_simp
  have j4 : w1.cell? ⟨w.heap.size + 1, 4, none⟩ = some (.bool false) := by go_simp
  have f1' : Fresh (w.heap.size + 1 + 1) G1 := f1.mono (by simp)
  clear hb1 f1
  go_wp2_with fail
  refine bodyPost_ret (v := .agg #[.int .i64 x.type, .int .i64 x.status, .int .i64 x.ver, .slice B1 x.body.length d1, .bool x.shares]) (by simp [results, Try.results94, go_sem, *]) rfl ?_
  exact ⟨_, G1, rfl, (by repeat (first | with_reducible exact Below.refl _ _ | with_reducible assumption | with_reducible refine bel_alloc ?_ _ | with_reducible refine bel_drew ?_ | with_reducible refine bel_drewN ?_ _ | (with_reducible refine bel_set ?_ ?_ _; rotate_left; ((try simp); (try omega))))), TResp.mk_ hok (Cod.keep2 n1 f1' (by repeat (first | with_reducible exact Keep.refl _ _ | with_reducible assumption | with_reducible refine Keep.alloc ?_ _ | with_reducible refine Keep.drew ?_ | with_reducible refine Keep.drewN ?_ _ | (with_reducible refine Keep.set_ ?_ ?_ _; rotate_left; ((try simp); (try omega)))))), f1'.mono (by (try simp); (try omega))⟩
set_option maxRecDepth 100000 in
set_option maxHeartbeats 4000000 in
theorem specCopyResp_any (vs : Array Value) (x : TResp) (F : List Nat) (w : World) (h : cResp.rep w vs.toList x F) (hn : cResp.sz x ≤ 1048576) :
    Calls Try.prog 97 #[.agg vs] w (GivesR cResp w x) := by
  obtain ⟨i0, hi0, hz0, hz1, hz2⟩ := info_parts infoU8
  have HS := Lib.hid (TResp.len hn)
  obtain ⟨u3, F3, rfl, -, hok, m3⟩ := TResp.outA h
  obtain ⟨A3, c3, rfl⟩ := cL_form m3
  clear h hn
  go_enter Try.func97, Try.ntmps97
  go_wp2_with (at_builtin; refine wpList_app (c := cU) (xs := []) (ys := x.body) (Fi := []) (Fy := []) _ rfl _ _ _ rfl i0 _ _ Try.underlying22 hi0 hz0 hz1 hz2 rfl (by decide) (v := .slice (some _) 0 0) rfl (Own.empty _) (.slice A3 x.body.length c3) rfl (AppSrc.flat (hw := by decide) (hw2 := by decide) flat_U (Cod.bel m3 (by repeat (first | with_reducible exact Below.refl _ _ | with_reducible assumption | with_reducible refine bel_alloc ?_ _ | with_reducible refine bel_drew ?_ | with_reducible refine bel_drewN ?_ _ | (with_reducible refine bel_set ?_ ?_ _; rotate_left; ((try simp); (try omega))))))) (by have := HS.out; unfold maxLen; simp; omega) (by have := HS.out; simp; omega) (Nat.le_refl _) (by simp [ownB]) ?_)
  intro v1 w1 ho hg hat
  replace ho : Own cU 5 _ w1 v1 x.body [] := ho
  obtain ⟨B1, d1, e1⟩ := ho.slice
  subst e1
  have hb1 : Below _ _ w1 := (Below.refl _ _).grown hg (Nat.le_refl _) (by simp [ownB])
  have hz_w1 := hb1.size
  (try simp at hz_w1)
  have ha0_w1 : w.heap.size < w1.heap.size := by omega
  have ha1_w1 : w.heap.size + 1 < w1.heap.size := by omega
  have ha2_w1 : w.heap.size + 1 + 1 < w1.heap.size := by omega
  obtain ⟨hc_w1, hf_w1, -⟩ := bcell hb1
  have hb_w1 : Below w.heap.size w w1 := bel_then (by repeat (first | with_reducible exact Below.refl _ _ | with_reducible assumption | with_reducible refine bel_alloc ?_ _ | with_reducible refine bel_drew ?_ | with_reducible refine bel_drewN ?_ _ | (with_reducible refine bel_set ?_ ?_ _; rotate_left; ((try simp); (try omega))))) hb1
  have k0 : w1.cell? ⟨w.heap.size, 0, none⟩ = some (.int .i64 x.type) := by go_simp
  have k1 : w1.cell? ⟨w.heap.size, 1, none⟩ = some (.int .i64 x.status) := by go_simp
  have k2 : w1.cell? ⟨w.heap.size, 2, none⟩ = some (.int .i64 x.ver) := by go_simp
  have k3 : w1.cell? ⟨w.heap.size, 3, none⟩ = some (.slice A3 x.body.length c3) := by go_simp
  have k4 : w1.cell? ⟨w.heap.size, 4, none⟩ = some (.bool x.shares) := by go_simp
  have j0 : w1.cell? ⟨w.heap.size + 1, 0, none⟩ = some (.int .i64 0) := by go_simp
  have j1 : w1.cell? ⟨w.heap.size + 1, 1, none⟩ = some (.int .i64 0) := by go_simp
  have j2 : w1.cell? ⟨w.heap.size + 1, 2, none⟩ = some (.int .i64 0) := by go_simp
  have j3 : w1.cell? ⟨w.heap.size + 1, 3, none⟩ = some (.slice none 0 0) := by go_simp
  have j4 : w1.cell? ⟨w.heap.size + 1, 4, none⟩ = some (.bool false) := by go_simp
  have l0 : w1.cell? ⟨w.heap.size + 1 + 1, 0, none⟩ = some (.int .i64 x.type) := by go_simp
  have l1 : w1.cell? ⟨w.heap.size + 1 + 1, 1, none⟩ = some (.int .i64 x.status) := by go_simp
  have l2 : w1.cell? ⟨w.heap.size + 1 + 1, 2, none⟩ = some (.int .i64 x.ver) := by go_simp
  have l3 : w1.cell? ⟨w.heap.size + 1 + 1, 3, none⟩ = some (.slice A3 x.body.length c3) := by go_simp
  have l4 : w1.cell? ⟨w.heap.size + 1 + 1, 4, none⟩ = some (.bool x.shares) := by go_simp
  obtain ⟨G1, n1, f1, g1⟩ := ho.fresh (hw := by decide) (hw2 := by decide)
  have f1' : Fresh (w.heap.size + 1 + 1 + 1) G1 := f1.mono (by simp)
  clear hb1 hg hat ho g1 f1
  go_wp2_with fail
  refine bodyPost_ret (v := .agg #[.int .i64 x.type, .int .i64 x.status, .int .i64 x.ver, .slice B1 x.body.length d1, .bool x.shares]) (by simp [results, Try.results97, go_sem, *]) rfl ?_
  exact ⟨_, G1, rfl, (by repeat (first | with_reducible exact Below.refl _ _ | with_reducible assumption | with_reducible refine bel_alloc ?_ _ | with_reducible refine bel_drew ?_ | with_reducible refine bel_drewN ?_ _ | (with_reducible refine bel_set ?_ ?_ _; rotate_left; ((try simp); (try omega))))), TResp.mk_ hok (Cod.keep2 n1 f1' (by repeat (first | with_reducible exact Keep.refl _ _ | with_reducible assumption | with_reducible refine Keep.alloc ?_ _ | with_reducible refine Keep.drew ?_ | with_reducible refine Keep.drewN ?_ _ | (with_reducible refine Keep.set_ ?_ ?_ _; rotate_left; ((try simp); (try omega)))))), f1'.mono (by (try simp); (try omega))⟩
end Go.Proofs.Ytlicnppfgfjkgaa
namespace Go.Proofs.Ytlicnppfgfjkgaa

def strEq (a b : ByteArray) : Bool := a.toList == b.toList
theorem strEq_comm (a b : ByteArray) : strEq a b = strEq b a := by
  unfold strEq; exact BEq.comm
theorem strEq_refl (a : ByteArray) : strEq a a = true := by simp [strEq]

section
variable {α : Type} (p : α → Bool)
def noneTo (xs : List α) (k : Nat) : Bool := (xs.take k).all fun y => !p y
theorem noneTo_zero (xs : List α) : noneTo p xs 0 = true := by simp [noneTo]
theorem noneTo_succ (xs : List α) (k : Nat) (h : k < xs.length) (h1 : noneTo p xs k = true) (h2 : p xs[k] = false) : noneTo p xs (k + 1) = true := by
  unfold noneTo at h1 ⊢
  rw [List.take_succ_eq_append_getElem h, List.all_append, h1]; simp [h2]
/-- the first place at which p holds, or -1 -/
def idxP : List α → Int
  | [] => -1
  | x :: xs => bif p x then 0 else if idxP xs < 0 then -1 else idxP xs + 1
theorem idxP_ge (xs : List α) : -1 ≤ idxP p xs := by
  induction xs with
  | nil => simp [idxP]
  | cons x xs ih =>
    simp only [idxP]
    cases p x
    · simp only [cond_false]; split <;> omega
    · simp
theorem idxP_lt (xs : List α) : idxP p xs < xs.length := by
  induction xs with
  | nil => simp [idxP]
  | cons x xs ih =>
    simp only [idxP, List.length_cons]
    cases p x
    · simp only [cond_false]; split <;> omega
    · simp only [cond_true]; omega
theorem idxP_hit : ∀ (xs : List α) (k : Nat) (h : k < xs.length), noneTo p xs k = true → p xs[k] = true → idxP p xs = k
  | x :: xs, 0, _, _, h2 => by
    simp only [List.getElem_cons_zero] at h2
    simp [idxP, h2]
  | x :: xs, k + 1, h, h1, h2 => by
    simp only [noneTo, List.take_succ_cons, List.all_cons, Bool.and_eq_true, Bool.not_eq_true'] at h1
    have := idxP_hit xs k (by simpa using h) h1.2 (by simpa using h2)
    simp only [idxP, h1.1, cond_false, this]
    rw [if_neg (by omega)]; omega
theorem idxP_miss : ∀ (xs : List α), noneTo p xs xs.length = true → idxP p xs = -1
  | [], _ => rfl
  | x :: xs, h => by
    simp only [noneTo, List.length_cons, List.take_succ_cons, List.all_cons, Bool.and_eq_true, Bool.not_eq_true'] at h
    have := idxP_miss xs h.2
    simp [idxP, h.1, this]
theorem idxP_any (xs : List α) : xs.any p = decide (0 ≤ idxP p xs) := by
  induction xs with
  | nil => simp [idxP]
  | cons x xs ih =>
    have hg := idxP_ge p xs
    cases hp : p x
    · have e : idxP p (x :: xs) = if idxP p xs < 0 then -1 else idxP p xs + 1 := by simp [idxP, hp]
      rw [List.any_cons, hp, ih, e, Bool.false_or]
      by_cases hn : idxP p xs < 0
      · rw [if_pos hn, decide_eq_false (by omega), decide_eq_false (by omega)]
      · rw [if_neg hn, decide_eq_true (by omega), decide_eq_true (by omega)]
    · have e : idxP p (x :: xs) = 0 := by simp [idxP, hp]
      rw [List.any_cons, hp, e]; rfl
theorem any_hit (xs : List α) (k : Nat) (h : k < xs.length) (h2 : p xs[k] = true) : xs.any p = true := List.any_eq_true.2 ⟨xs[k], List.getElem_mem h, h2⟩
theorem any_miss (xs : List α) (h : noneTo p xs xs.length = true) : xs.any p = false := by
  rw [idxP_any, idxP_miss p xs h]; rfl
end
end Go.Proofs.Ytlicnppfgfjkgaa
namespace Go.Proofs.Ytlicnppfgfjkgaa
open Go.ChangeShapes Go.WideShapes Go.RowKit
set_option linter.unusedVariables false

def findCache (s : TCSet) (v : Int) : Int := idxP (fun c => c.ver == v) s.caches
set_option maxRecDepth 100000 in
set_option maxHeartbeats 1000000 in
theorem indexCache_any (A : Option Addr) (cp : Nat) (b : Nat) (xs : List TCache) (v : Int) (F : List Nat) (w : World) (h : cCacheS.rep w [.slice A xs.length cp] xs F) (hv : w.cell? ⟨b, 0, none⟩ = some (.int .i64 v)) (hb : b < w.heap.size) :
    Calls Try.prog 105 #[.slice A xs.length cp, .func (.func 106) #[] #[.pointer (some ⟨b, 0, none⟩)]] w (Gives w (.int .i64 (idxP (fun c => c.ver == v) xs))) := by
  obtain ⟨-, hcp, hm⟩ := cL_len h
  obtain ⟨n, hxn⟩ : ∃ n, xs.length = n := ⟨_, rfl⟩
  have HN := Lib.hid hxn
  rw [hxn] at hcp ⊢
  clear hxn
  unfold maxLen at hm
  go_enter Try.func105, Try.ntmps105
  go_wp2
  go_loopw [8] (fun i wr => ∃ k : Nat, k ≤ n ∧ i = .int .i64 k ∧ noneTo (fun c : TCache => c.ver == v) xs k = true ∧ Below w.heap.size w wr) (fun i _ => n - (intOf i).toNat)
  case atStart => exact ⟨0, Nat.zero_le _, rfl, noneTo_zero _ _, Below.refl _ _⟩
  case round =>
    obtain ⟨k, hk, rfl, hno, hB⟩ := hrel
    have HO := Lib.hid hno
    clear hno
    have hvr : wr.cell? ⟨b, 0, none⟩ = some (.int .i64 v) := (hB.cell (p := ⟨b, 0, none⟩) hb).trans hv
    have hbr : b < wr.heap.size := Nat.lt_of_lt_of_le hb hB.size
    have hbne : ¬ b = wr.heap.size := by omega
    by_cases hlt : k < n
    · have hkx : k < xs.length := by rw [HN.out]; exact hlt
      obtain ⟨g, o, vs, F1, rfl, hgF, hx, -, hc⟩ := cL_get (hw := by decide) (hw2 := by decide) (Cod.bel h hB) hkx
      obtain ⟨v1, F2, rfl, -, hok, m1⟩ := TCache.out hx
      have q0 : wr.cell? ⟨g, o + k * 2, none⟩ = some _ := (hc 0 _ rfl).1
      have q1 : wr.cell? ⟨g, o + k * 2 + 1, none⟩ = some _ := (hc 1 _ rfl).1
      clear hc hx
      cases he : (xs[k].ver == v)
      · have HI := Lib.hid he
        go_wp2
        go_roundw
        case rel => exact ⟨k + 1, by omega, by go_num, noneTo_succ _ xs k hkx HO.out HI.out, (by repeat (first | with_reducible exact Below.refl _ _ | with_reducible assumption | with_reducible refine bel_alloc ?_ _ | with_reducible refine bel_drew ?_ | with_reducible refine bel_drewN ?_ _ | (with_reducible refine bel_set ?_ ?_ _; rotate_left; ((try simp); (try omega)))))⟩
        case measure => simp [intOf]; omega
      · have HI := Lib.hid (idxP_hit (fun c : TCache => c.ver == v) xs k hkx HO.out he)
        go_wp2
        go_ret
        exact ⟨ret_int HI.out.symm, (by repeat (first | with_reducible exact Below.refl _ _ | with_reducible assumption | with_reducible refine bel_alloc ?_ _ | with_reducible refine bel_drew ?_ | with_reducible refine bel_drewN ?_ _ | (with_reducible refine bel_set ?_ ?_ _; rotate_left; ((try simp); (try omega)))))⟩
    · obtain rfl : k = n := by omega
      have HI := Lib.hid (idxP_miss (fun c : TCache => c.ver == v) xs (by rw [HN.out]; exact HO.out))
      go_wp2
      go_ret
      exact ⟨ret_int HI.out.symm, (by repeat (first | with_reducible exact Below.refl _ _ | with_reducible assumption | with_reducible refine bel_alloc ?_ _ | with_reducible refine bel_drew ?_ | with_reducible refine bel_drewN ?_ _ | (with_reducible refine bel_set ?_ ?_ _; rotate_left; ((try simp); (try omega)))))⟩
set_option maxRecDepth 100000 in
set_option maxHeartbeats 1000000 in
theorem implFindCache_any (vs : Array Value) (x : TCSet) (F : List Nat) (v : Int) (w : World) (h : cCSet.rep w vs.toList x F) (hn : cCSet.sz x ≤ 1048576) (_hv : -9223372036854775808 ≤ v ∧ v ≤ 9223372036854775807) :
    Calls Try.prog 44 #[.agg vs, .int .i64 v] w (Gives w (.int .i64 (findCache x v))) := by
  obtain ⟨v0, F0, rfl, -, hok, m0⟩ := TCSet.outA h
  clear h
  obtain ⟨A, cp, rfl⟩ := cL_form m0
  go_enter Try.func44, Try.ntmps44
  go_wp2_with fail
  refine (indexCache_any A cp (w.heap.size + 1) x.caches v _ _ (by exact Cod.bel m0 (by repeat (first | with_reducible exact Below.refl _ _ | with_reducible assumption | with_reducible refine bel_alloc ?_ _ | with_reducible refine bel_drew ?_ | with_reducible refine bel_drewN ?_ _ | (with_reducible refine bel_set ?_ ?_ _; rotate_left; ((try simp); (try omega)))))) (by go_simp) (by simp)).mono ?_
  rintro e w1 ⟨rfl, hb1⟩
  have hB : Below w.heap.size w w1 := bel_then (by repeat (first | with_reducible exact Below.refl _ _ | with_reducible assumption | with_reducible refine bel_alloc ?_ _ | with_reducible refine bel_drew ?_ | with_reducible refine bel_drewN ?_ _ | (with_reducible refine bel_set ?_ ?_ _; rotate_left; ((try simp); (try omega))))) hb1
  clear hb1
  go_wp2_with fail
  go_ret
  exact ⟨rfl, (by repeat (first | with_reducible exact Below.refl _ _ | with_reducible assumption | with_reducible refine bel_alloc ?_ _ | with_reducible refine bel_drew ?_ | with_reducible refine bel_drewN ?_ _ | (with_reducible refine bel_set ?_ ?_ _; rotate_left; ((try simp); (try omega)))))⟩
set_option maxRecDepth 100000 in
set_option maxHeartbeats 1000000 in
theorem specFindCache_any (vs : Array Value) (x : TCSet) (F : List Nat) (v : Int) (w : World) (h : cCSet.rep w vs.toList x F) (hn : cCSet.sz x ≤ 1048576) (_hv : -9223372036854775808 ≤ v ∧ v ≤ 9223372036854775807) :
    Calls Try.prog 96 #[.agg vs, .int .i64 v] w (Gives w (.int .i64 (findCache x v))) := by
  obtain ⟨v0, F0, rfl, -, hok, m0⟩ := TCSet.outA h
  clear h
  obtain ⟨A, cp, rfl⟩ := cL_form m0
  obtain ⟨-, hcp, hm⟩ := cL_len m0
  obtain ⟨n, hxn⟩ : ∃ n, x.caches.length = n := ⟨_, rfl⟩
  have HN := Lib.hid hxn
  rw [hxn] at hcp ⊢
  clear hxn
  unfold maxLen at hm
  go_enter Try.func96, Try.ntmps96
  go_wp2
  generalize hW : World.alloc _ _ = W
  have hWs : W.heap.size = w.heap.size + 1 := by rw [← hW]; clear hW; simp
  have hbW : Below w.heap.size w W := by rw [← hW]; exact (by repeat (first | with_reducible exact Below.refl _ _ | with_reducible assumption | with_reducible refine bel_alloc ?_ _ | with_reducible refine bel_drew ?_ | with_reducible refine bel_drewN ?_ _ | (with_reducible refine bel_set ?_ ?_ _; rotate_left; ((try simp); (try omega)))))
  have HK := Lib.hid (show W.cell? ⟨w.heap.size, 0, none⟩ = some (.slice A n cp) from by (rw [← hW]; clear hW; go_simp))
  clear hW
  go_loopw [5] (fun i wr => ∃ k : Nat, k ≤ n ∧ i = .int .i64 k ∧ noneTo (fun c : TCache => c.ver == v) x.caches k = true ∧ Below W.heap.size W wr) (fun i _ => n - (intOf i).toNat)
  case atStart => exact ⟨0, Nat.zero_le _, rfl, noneTo_zero _ _, Below.refl _ _⟩
  case round =>
    obtain ⟨k, hk, rfl, hno, hB⟩ := hrel
    have HO := Lib.hid hno
    clear hno
    have hws_wr : w.heap.size < wr.heap.size := by have := hB.size; omega
    have hbw : Below w.heap.size w wr := bel_then hbW hB
    have k0_wr : wr.cell? ⟨w.heap.size, 0, none⟩ = some (.slice A n cp) := (hB.cell (p := ⟨w.heap.size, 0, none⟩) (by (try simp); (try omega))).trans HK.out
    by_cases hlt : k < n
    · have hkx : k < x.caches.length := by rw [HN.out]; exact hlt
      obtain ⟨g, o, vs, F1, rfl, hgF, hx, -, hc⟩ := cL_get (hw := by decide) (hw2 := by decide) (Cod.bel m0 hbw) hkx
      obtain ⟨v1, F2, rfl, -, hok, m1⟩ := TCache.out hx
      have q0 : wr.cell? ⟨g, o + k * 2, none⟩ = some _ := (hc 0 _ rfl).1
      have q1 : wr.cell? ⟨g, o + k * 2 + 1, none⟩ = some _ := (hc 1 _ rfl).1
      clear hc hx
      cases he : (x.caches[k].ver == v)
      · have HI := Lib.hid he
        go_wp2
        go_roundw
        case rel => exact ⟨k + 1, by omega, by go_num, noneTo_succ _ x.caches k hkx HO.out HI.out, hB⟩
        case measure => simp [intOf]; omega
      · have HI := Lib.hid (idxP_hit (fun c : TCache => c.ver == v) x.caches k hkx HO.out he)
        go_wp2
        go_ret
        exact ⟨ret_int HI.out.symm, (by repeat (first | with_reducible exact Below.refl _ _ | with_reducible assumption | with_reducible refine bel_alloc ?_ _ | with_reducible refine bel_drew ?_ | with_reducible refine bel_drewN ?_ _ | (with_reducible refine bel_set ?_ ?_ _; rotate_left; ((try simp); (try omega)))))⟩
    · obtain rfl : k = n := by omega
      have HI := Lib.hid (idxP_miss (fun c : TCache => c.ver == v) x.caches (by rw [HN.out]; exact HO.out))
      go_wp2
      go_ret
      exact ⟨ret_int HI.out.symm, (by repeat (first | with_reducible exact Below.refl _ _ | with_reducible assumption | with_reducible refine bel_alloc ?_ _ | with_reducible refine bel_drew ?_ | with_reducible refine bel_drewN ?_ _ | (with_reducible refine bel_set ?_ ?_ _; rotate_left; ((try simp); (try omega)))))⟩
end Go.Proofs.Ytlicnppfgfjkgaa
namespace Go.Proofs.Ytlicnppfgfjkgaa
open Go.ChangeShapes Go.WideShapes Go.RowKit
set_option linter.unusedVariables false

def sameEntry (e : TCached) (st pa : ByteArray) : Bool := strEq e.site st && strEq e.path pa
def entryIx (es : List TCached) (st pa : ByteArray) : Int := idxP (fun e => sameEntry e st pa) es
set_option maxRecDepth 100000 in
set_option maxHeartbeats 2000000 in
theorem indexEntry_any (A : Option Addr) (cp : Nat) (b1 b2 : Nat) (xs : List TCached) (st pa : ByteArray) (F : List Nat) (w : World) (h : cCachedS.rep w [.slice A xs.length cp] xs F) (hv1 : w.cell? ⟨b1, 0, none⟩ = some (.string st)) (hb1 : b1 < w.heap.size) (hv2 : w.cell? ⟨b2, 0, none⟩ = some (.string pa)) (hb2 : b2 < w.heap.size) :
    Calls Try.prog 138 #[.slice A xs.length cp, .func (.func 139) #[] #[.pointer (some ⟨b1, 0, none⟩), .pointer (some ⟨b2, 0, none⟩)]] w (Gives w (.int .i64 (entryIx xs st pa))) := by
  obtain ⟨-, hcp, hm⟩ := cL_len h
  obtain ⟨n, hxn⟩ : ∃ n, xs.length = n := ⟨_, rfl⟩
  have HN := Lib.hid hxn
  rw [hxn] at hcp ⊢
  clear hxn
  unfold maxLen at hm
  go_enter Try.func138, Try.ntmps138
  go_wp2
  go_loopw [8] (fun i wr => ∃ k : Nat, k ≤ n ∧ i = .int .i64 k ∧ noneTo (fun e : TCached => sameEntry e st pa) xs k = true ∧ Below w.heap.size w wr) (fun i _ => n - (intOf i).toNat)
  case atStart => exact ⟨0, Nat.zero_le _, rfl, noneTo_zero _ _, Below.refl _ _⟩
  case round =>
    obtain ⟨k, hk, rfl, hno, hB⟩ := hrel
    have HO := Lib.hid hno
    clear hno
    have hvr1 : wr.cell? ⟨b1, 0, none⟩ = some (.string st) := (hB.cell (p := ⟨b1, 0, none⟩) hb1).trans hv1
    have hvr2 : wr.cell? ⟨b2, 0, none⟩ = some (.string pa) := (hB.cell (p := ⟨b2, 0, none⟩) hb2).trans hv2
    have hbr1 : b1 < wr.heap.size := Nat.lt_of_lt_of_le hb1 hB.size
    have hbr2 : b2 < wr.heap.size := Nat.lt_of_lt_of_le hb2 hB.size
    have hbne1 : ¬ b1 = wr.heap.size := by omega
    have hbne2 : ¬ b2 = wr.heap.size := by omega
    by_cases hlt : k < n
    · have hkx : k < xs.length := by rw [HN.out]; exact hlt
      obtain ⟨g, o, vs, F1, rfl, hgF, hx, -, hc⟩ := cL_get (hw := by decide) (hw2 := by decide) (Cod.bel h hB) hkx
      obtain ⟨v5, F2, rfl, -, hok, m1⟩ := TCached.out hx
      obtain ⟨A5, c5, hv5⟩ := cL_form m1
      subst hv5
      have q0 : wr.cell? ⟨g, o + k * 7, none⟩ = some _ := (hc 0 _ rfl).1
      have q1 : wr.cell? ⟨g, o + k * 7 + 1, none⟩ = some _ := (hc 1 _ rfl).1
      have q2 : wr.cell? ⟨g, o + k * 7 + 2, none⟩ = some _ := (hc 2 _ rfl).1
      have q3 : wr.cell? ⟨g, o + k * 7 + 3, none⟩ = some _ := (hc 3 _ rfl).1
      have q4 : wr.cell? ⟨g, o + k * 7 + 4, none⟩ = some _ := (hc 4 _ rfl).1
      have q5 : wr.cell? ⟨g, o + k * 7 + 5, none⟩ = some _ := (hc 5 _ rfl).1
      have q6 : wr.cell? ⟨g, o + k * 7 + 6, none⟩ = some _ := (hc 6 _ rfl).1
      clear hc hx
      have HC := fun h1 => Lib.hid (idxP_hit (fun e : TCached => sameEntry e st pa) xs k hkx HO.out h1)
      have hse : sameEntry xs[k] st pa = (xs[k].site.toList == st.toList && xs[k].path.toList == pa.toList) := rfl
      have HSE := Lib.hid hse
      clear hse
      cases e1 : (xs[k].site.toList == st.toList)
      · have HI := Lib.hid (show sameEntry xs[k] st pa = false by rw [HSE.out]; simp [*])
        clear HC
        go_wp2
        go_roundw
        case rel => exact ⟨k + 1, by omega, by go_num, noneTo_succ _ xs k hkx HO.out HI.out, (by repeat (first | with_reducible exact Below.refl _ _ | with_reducible assumption | with_reducible refine bel_alloc ?_ _ | with_reducible refine bel_drew ?_ | with_reducible refine bel_drewN ?_ _ | (with_reducible refine bel_set ?_ ?_ _; rotate_left; ((try simp); (try omega)))))⟩
        case measure => simp [intOf]; omega
      ·
        cases e2 : (xs[k].path.toList == pa.toList)
        · have HI := Lib.hid (show sameEntry xs[k] st pa = false by rw [HSE.out]; simp [*])
          clear HC
          go_wp2
          go_roundw
          case rel => exact ⟨k + 1, by omega, by go_num, noneTo_succ _ xs k hkx HO.out HI.out, (by repeat (first | with_reducible exact Below.refl _ _ | with_reducible assumption | with_reducible refine bel_alloc ?_ _ | with_reducible refine bel_drew ?_ | with_reducible refine bel_drewN ?_ _ | (with_reducible refine bel_set ?_ ?_ _; rotate_left; ((try simp); (try omega)))))⟩
          case measure => simp [intOf]; omega
        ·
          have HI := HC (by rw [HSE.out, e1, e2]; rfl)
          clear HC
          go_wp2
          go_ret
          exact ⟨ret_int HI.out.symm, (by repeat (first | with_reducible exact Below.refl _ _ | with_reducible assumption | with_reducible refine bel_alloc ?_ _ | with_reducible refine bel_drew ?_ | with_reducible refine bel_drewN ?_ _ | (with_reducible refine bel_set ?_ ?_ _; rotate_left; ((try simp); (try omega)))))⟩
    · obtain rfl : k = n := by omega
      have HI := Lib.hid (idxP_miss (fun e : TCached => sameEntry e st pa) xs (by rw [HN.out]; exact HO.out))
      go_wp2
      go_ret
      exact ⟨ret_int HI.out.symm, (by repeat (first | with_reducible exact Below.refl _ _ | with_reducible assumption | with_reducible refine bel_alloc ?_ _ | with_reducible refine bel_drew ?_ | with_reducible refine bel_drewN ?_ _ | (with_reducible refine bel_set ?_ ?_ _; rotate_left; ((try simp); (try omega)))))⟩
set_option maxRecDepth 100000 in
set_option maxHeartbeats 1000000 in
theorem implEntry_any (ver : Int) (A : Option Addr) (n cp : Nat) (es : List TCached) (st pa : ByteArray) (F : List Nat) (w : World) (h : cCachedS.rep w [.slice A n cp] es F) :
    Calls Try.prog 93 #[.agg #[.int .i64 ver, .slice A n cp], .string st, .string pa] w (Gives w (.int .i64 (entryIx es st pa))) := by
  obtain ⟨rfl, -, -⟩ := cL_len h
  go_enter Try.func93, Try.ntmps93
  go_wp2_with fail
  refine (indexEntry_any A cp (w.heap.size + 1) (w.heap.size + 1 + 1) es st pa _ _ (by exact Cod.bel h (by repeat (first | with_reducible exact Below.refl _ _ | with_reducible assumption | with_reducible refine bel_alloc ?_ _ | with_reducible refine bel_drew ?_ | with_reducible refine bel_drewN ?_ _ | (with_reducible refine bel_set ?_ ?_ _; rotate_left; ((try simp); (try omega)))))) (by go_simp) (by simp) (by go_simp) (by simp)).mono ?_
  rintro e w1 ⟨rfl, hb1⟩
  have hB : Below w.heap.size w w1 := bel_then (by repeat (first | with_reducible exact Below.refl _ _ | with_reducible assumption | with_reducible refine bel_alloc ?_ _ | with_reducible refine bel_drew ?_ | with_reducible refine bel_drewN ?_ _ | (with_reducible refine bel_set ?_ ?_ _; rotate_left; ((try simp); (try omega))))) hb1
  clear hb1
  go_wp2_with fail
  go_ret
  exact ⟨rfl, (by repeat (first | with_reducible exact Below.refl _ _ | with_reducible assumption | with_reducible refine bel_alloc ?_ _ | with_reducible refine bel_drew ?_ | with_reducible refine bel_drewN ?_ _ | (with_reducible refine bel_set ?_ ?_ _; rotate_left; ((try simp); (try omega)))))⟩
set_option maxRecDepth 100000 in
set_option maxHeartbeats 2000000 in
theorem specEntry_any (ver : Int) (A : Option Addr) (n cp : Nat) (es : List TCached) (st pa : ByteArray) (F : List Nat) (w : World) (h : cCachedS.rep w [.slice A n cp] es F) :
    Calls Try.prog 98 #[.agg #[.int .i64 ver, .slice A n cp], .string st, .string pa] w (Gives w (.int .i64 (entryIx es st pa))) := by
  obtain ⟨hxn, hcp, hm⟩ := cL_len h
  have HN := Lib.hid hxn.symm
  clear hxn
  unfold maxLen at hm
  go_enter Try.func98, Try.ntmps98
  go_wp2
  generalize hW : World.alloc _ _ = W
  have hWs : W.heap.size = w.heap.size + 1 := by rw [← hW]; clear hW; simp
  have hbW : Below w.heap.size w W := by rw [← hW]; exact (by repeat (first | with_reducible exact Below.refl _ _ | with_reducible assumption | with_reducible refine bel_alloc ?_ _ | with_reducible refine bel_drew ?_ | with_reducible refine bel_drewN ?_ _ | (with_reducible refine bel_set ?_ ?_ _; rotate_left; ((try simp); (try omega)))))
  have HK := Lib.hid (show W.cell? ⟨w.heap.size, 0, none⟩ = some (.int .i64 ver) ∧ W.cell? ⟨w.heap.size, 1, none⟩ = some (.slice A n cp) from by refine ⟨?_, ?_⟩ <;> (rw [← hW]; clear hW; go_simp))
  clear hW
  go_loopw [7] (fun i wr => ∃ k : Nat, k ≤ n ∧ i = .int .i64 k ∧ noneTo (fun e : TCached => sameEntry e st pa) es k = true ∧ Below W.heap.size W wr) (fun i _ => n - (intOf i).toNat)
  case atStart => exact ⟨0, Nat.zero_le _, rfl, noneTo_zero _ _, Below.refl _ _⟩
  case round =>
    obtain ⟨k, hk, rfl, hno, hB⟩ := hrel
    have HO := Lib.hid hno
    clear hno
    have hws_wr : w.heap.size < wr.heap.size := by have := hB.size; omega
    have hbw : Below w.heap.size w wr := bel_then hbW hB
    have k0_wr : wr.cell? ⟨w.heap.size, 0, none⟩ = some (.int .i64 ver) := (hB.cell (p := ⟨w.heap.size, 0, none⟩) (by (try simp); (try omega))).trans HK.out.1
    have k1_wr : wr.cell? ⟨w.heap.size, 1, none⟩ = some (.slice A n cp) := (hB.cell (p := ⟨w.heap.size, 1, none⟩) (by (try simp); (try omega))).trans HK.out.2
    by_cases hlt : k < n
    · have hkx : k < es.length := by rw [HN.out]; exact hlt
      obtain ⟨g, o, vs, F1, rfl, hgF, hx, -, hc⟩ := cL_get (hw := by decide) (hw2 := by decide) (Cod.bel h hbw) hkx
      obtain ⟨v5, F2, rfl, -, hok, m1⟩ := TCached.out hx
      obtain ⟨A5, c5, hv5⟩ := cL_form m1
      subst hv5
      have q0 : wr.cell? ⟨g, o + k * 7, none⟩ = some _ := (hc 0 _ rfl).1
      have q1 : wr.cell? ⟨g, o + k * 7 + 1, none⟩ = some _ := (hc 1 _ rfl).1
      have q2 : wr.cell? ⟨g, o + k * 7 + 2, none⟩ = some _ := (hc 2 _ rfl).1
      have q3 : wr.cell? ⟨g, o + k * 7 + 3, none⟩ = some _ := (hc 3 _ rfl).1
      have q4 : wr.cell? ⟨g, o + k * 7 + 4, none⟩ = some _ := (hc 4 _ rfl).1
      have q5 : wr.cell? ⟨g, o + k * 7 + 5, none⟩ = some _ := (hc 5 _ rfl).1
      have q6 : wr.cell? ⟨g, o + k * 7 + 6, none⟩ = some _ := (hc 6 _ rfl).1
      clear hc hx
      have HC := fun h1 => Lib.hid (idxP_hit (fun e : TCached => sameEntry e st pa) es k hkx HO.out h1)
      have hse : sameEntry es[k] st pa = (es[k].site.toList == st.toList && es[k].path.toList == pa.toList) := rfl
      have HSE := Lib.hid hse
      clear hse
      cases e1 : (es[k].site.toList == st.toList)
      · have HI := Lib.hid (show sameEntry es[k] st pa = false by rw [HSE.out]; simp [*])
        clear HC
        go_wp2
        go_roundw
        case rel => exact ⟨k + 1, by omega, by go_num, noneTo_succ _ es k hkx HO.out HI.out, hB⟩
        case measure => simp [intOf]; omega
      ·
        cases e2 : (es[k].path.toList == pa.toList)
        · have HI := Lib.hid (show sameEntry es[k] st pa = false by rw [HSE.out]; simp [*])
          clear HC
          go_wp2
          go_roundw
          case rel => exact ⟨k + 1, by omega, by go_num, noneTo_succ _ es k hkx HO.out HI.out, hB⟩
          case measure => simp [intOf]; omega
        ·
          have HI := HC (by rw [HSE.out, e1, e2]; rfl)
          clear HC
          go_wp2
          go_ret
          exact ⟨ret_int HI.out.symm, (by repeat (first | with_reducible exact Below.refl _ _ | with_reducible assumption | with_reducible refine bel_alloc ?_ _ | with_reducible refine bel_drew ?_ | with_reducible refine bel_drewN ?_ _ | (with_reducible refine bel_set ?_ ?_ _; rotate_left; ((try simp); (try omega)))))⟩
    · obtain rfl : k = n := by omega
      have HI := Lib.hid (idxP_miss (fun e : TCached => sameEntry e st pa) es (by rw [HN.out]; exact HO.out))
      go_wp2
      go_ret
      exact ⟨ret_int HI.out.symm, (by repeat (first | with_reducible exact Below.refl _ _ | with_reducible assumption | with_reducible refine bel_alloc ?_ _ | with_reducible refine bel_drew ?_ | with_reducible refine bel_drewN ?_ _ | (with_reducible refine bel_set ?_ ?_ _; rotate_left; ((try simp); (try omega)))))⟩
end Go.Proofs.Ytlicnppfgfjkgaa
namespace Go.Proofs.Ytlicnppfgfjkgaa
set_option linter.unusedVariables false

section
variable {α : Type} (p : α → α → Bool)
def eqBy : List α → List α → Bool
  | [], [] => true
  | x :: xs, y :: ys => p x y && eqBy xs ys
  | _, _ => false
def sameTo (xs ys : List α) (k : Nat) : Prop := ∀ i (h1 : i < xs.length) (h2 : i < ys.length), i < k → p xs[i] ys[i] = true
theorem sameTo_zero (xs ys : List α) : sameTo p xs ys 0 := fun i _ _ h => absurd h (Nat.not_lt_zero _)
theorem sameTo_succ (xs ys : List α) (k : Nat) (h1 : k < xs.length) (h2 : k < ys.length) (h : sameTo p xs ys k) (e : p xs[k] ys[k] = true) : sameTo p xs ys (k + 1) := fun i a b c => by
  by_cases hi : i = k
  · subst hi; exact e
  · exact h i a b (by omega)
theorem eqBy_len : ∀ (xs ys : List α), xs.length ≠ ys.length → eqBy p xs ys = false
  | [], [], h => absurd rfl h
  | [], _ :: _, _ => rfl
  | _ :: _, [], _ => rfl
  | x :: xs, y :: ys, h => by
    have := eqBy_len xs ys (fun e => h (by simp [e]))
    simp [eqBy, this]
theorem eqBy_hit : ∀ (xs ys : List α), xs.length = ys.length → sameTo p xs ys xs.length → eqBy p xs ys = true
  | [], [], _, _ => rfl
  | [], _ :: _, h, _ => by simp at h
  | _ :: _, [], h, _ => by simp at h
  | x :: xs, y :: ys, h, k => by
    have h0 := k 0 (by simp) (by simp) (by simp)
    have := eqBy_hit xs ys (by simpa using h) (fun i a b c => by have := k (i + 1) (by simpa using a) (by simpa using b) (by simpa using c); simpa using this)
    simp only [List.getElem_cons_zero] at h0
    simp [eqBy, this, h0]
theorem eqBy_miss : ∀ (xs ys : List α) (k : Nat) (h1 : k < xs.length) (h2 : k < ys.length), p xs[k] ys[k] = false → eqBy p xs ys = false
  | [], _, _, h1, _, _ => by simp at h1
  | _ :: _, [], _, _, h2, _ => by simp at h2
  | x :: xs, y :: ys, 0, _, _, e => by simp only [List.getElem_cons_zero] at e; simp [eqBy, e]
  | x :: xs, y :: ys, k + 1, h1, h2, e => by
    have := eqBy_miss xs ys k (by simpa using h1) (by simpa using h2) (by simpa using e)
    simp [eqBy, this]
end
end Go.Proofs.Ytlicnppfgfjkgaa
namespace Go.Proofs.Ytlicnppfgfjkgaa
open Go.ChangeShapes Go.WideShapes Go.RowKit
set_option linter.unusedVariables false


def eqU8 (a b : UInt8) : Bool := (a.toNat : Int) == (b.toNat : Int)
def bytesEq (xs ys : List UInt8) : Bool := eqBy eqU8 xs ys
theorem eqU8_eq (a b : UInt8) : eqU8 a b = (a == b) := by
  unfold eqU8
  rw [Bool.eq_iff_iff, beq_iff_eq, beq_iff_eq]
  exact ⟨fun h => UInt8.toNat_inj.1 (by exact_mod_cast h), fun h => by rw [h]⟩
theorem bytesEq_eq : ∀ xs ys : List UInt8, bytesEq xs ys = (xs == ys)
  | [], [] => rfl
  | [], _ :: _ => rfl
  | _ :: _, [] => rfl
  | x :: xs, y :: ys => by
    have := bytesEq_eq xs ys
    unfold bytesEq at this ⊢
    simp only [eqBy, eqU8_eq, this, List.cons_beq_cons]

theorem conv_bytes {w : World} {A : Option Addr} {n cp : Nat} {xs : List UInt8} {F : List Nat} (h : cUS.rep w [.slice A n cp] xs F) :
    Sem.run Try.prog (convert 22 9 (.slice A n cp)) w = .ok (.string ⟨xs.toArray⟩) w := by
  obtain ⟨hn, -, -⟩ := cL_len h
  subst hn
  cases A with
  | none =>
    cases xs with
    | nil => exact run_convert_bytes_nil (P := Try.prog) w _ 5 Try.underlying22 Try.underlying5 _ _ _ Try.underlying9
    | cons x xs =>
      obtain ⟨g, o, vs, F1, hA, -⟩ := cL_get (hw := by decide) (hw2 := by decide) h (k := 0) (by simp)
      simp at hA
  | some a =>
    refine run_convert_bytes_back (P := Try.prog) w _ _ 5 a _ xs Try.underlying22 Try.underlying5 Try.underlying9 (fun j hj => ?_)
    obtain ⟨g, o, vs, F1, hA, -, hx, -, hc⟩ := cL_get (hw := by decide) (hw2 := by decide) h hj
    simp only [Option.some.injEq] at hA
    subst hA
    obtain ⟨rfl, -⟩ := hx
    have h1 := (hc 0 _ rfl).1
    rw [show (cU).wd = 1 from rfl, Nat.mul_one, Nat.add_zero] at h1
    rw [Addr.add_lit]; exact h1


set_option maxHeartbeats 1000000 in
theorem equalBytes_any (v1 v2 : Value) (xs ys : List UInt8) (F1 F2 : List Nat) (w : World) (h1 : cUS.rep w [v1] xs F1) (h2 : cUS.rep w [v2] ys F2) :
    Calls Try.prog 133 #[v1, v2] w (Gives w (.bool (bytesEq xs ys))) := by
  obtain ⟨A, cp, rfl⟩ := cL_form h1
  obtain ⟨B, cq, rfl⟩ := cL_form h2
  obtain ⟨-, hcp, hm⟩ := cL_len h1
  obtain ⟨-, hcp2, hm2⟩ := cL_len h2
  obtain ⟨n, hxn⟩ : ∃ n, xs.length = n := ⟨_, rfl⟩
  obtain ⟨m, hxm⟩ : ∃ m, ys.length = m := ⟨_, rfl⟩
  have HN := Lib.hid hxn
  have HM := Lib.hid hxm
  rw [hxn] at hcp ⊢
  rw [hxm] at hcp2 ⊢
  clear hxn hxm
  unfold maxLen at hm hm2
  by_cases hnm : n = m
  · have HE := Lib.hid hnm
    subst hnm
    go_enter Try.func133, Try.ntmps133
    go_wp2
    go_loopw [13] (fun i wr => ∃ k : Nat, k ≤ n ∧ i = .int .i64 k ∧ sameTo eqU8 xs ys k ∧ Below w.heap.size w wr) (fun i _ => n - (intOf i).toNat)
    case atStart => exact ⟨0, Nat.zero_le _, rfl, sameTo_zero _ _ _, Below.refl _ _⟩
    case round =>
      obtain ⟨k, hk, rfl, hsm, hB⟩ := hrel
      have HS := Lib.hid hsm
      clear hsm
      by_cases hlt : k < n
      · have hkx : k < xs.length := by rw [HN.out]; exact hlt
        have hky : k < ys.length := by rw [HM.out]; exact hlt
        obtain ⟨g, o, vs, G1, rfl, -, hx, -, hc⟩ := cL_get (hw := by decide) (hw2 := by decide) (Cod.bel h1 hB) hkx
        obtain ⟨g2, o2, vs2, G2, rfl, -, hx2, -, hc2⟩ := cL_get (hw := by decide) (hw2 := by decide) (Cod.bel h2 hB) hky
        obtain ⟨rfl, rfl⟩ := hx
        obtain ⟨rfl, rfl⟩ := hx2
        have q0 : wr.cell? ⟨g, o + k, none⟩ = some _ := (by have h1 := (hc 0 _ rfl).1; rwa [show (cU).wd = 1 from rfl, Nat.mul_one, Nat.add_zero] at h1)
        have r0 : wr.cell? ⟨g2, o2 + k, none⟩ = some _ := (by have h1 := (hc2 0 _ rfl).1; rwa [show (cU).wd = 1 from rfl, Nat.mul_one, Nat.add_zero] at h1)
        clear hc hc2
        have hki : ((k : Int) < (n : Int)) := by omega
        cases he : eqU8 xs[k] ys[k]
        · have hne : ((xs[k].toNat : Int) != (ys[k].toNat : Int)) = true := by have := he; unfold eqU8 at this; simpa using this
          go_wp2
          go_quiet (fail)
          go_wp2
          go_ret
          exact ⟨ret_bool (eqBy_miss eqU8 xs ys k hkx hky he).symm, (by repeat (first | with_reducible exact Below.refl _ _ | with_reducible assumption | with_reducible refine bel_alloc ?_ _ | with_reducible refine bel_drew ?_ | with_reducible refine bel_drewN ?_ _ | (with_reducible refine bel_set ?_ ?_ _; rotate_left; ((try simp); (try omega)))))⟩
        · have hne : ((xs[k].toNat : Int) != (ys[k].toNat : Int)) = false := by have := he; unfold eqU8 at this; simpa using this
          go_wp2
          go_quiet (fail)
          go_wp2
          go_roundw
          case rel => exact ⟨k + 1, by omega, by go_num, sameTo_succ _ _ _ _ hkx hky HS.out he, bel_drewN hB _⟩
          case measure => simp [intOf]; omega
      · obtain rfl : k = n := by omega
        go_wp2
        go_ret
        exact ⟨ret_bool (eqBy_hit eqU8 xs ys (by rw [HN.out, HM.out]) (by rw [HN.out]; exact HS.out)).symm, hB⟩
  · have hne : ((n : Int) != (m : Int)) = true := by simp; omega
    go_enter Try.func133, Try.ntmps133
    go_wp2
    go_ret
    exact ⟨ret_bool (eqBy_len eqU8 xs ys (by rw [HN.out, HM.out]; exact hnm)).symm, (by repeat (first | with_reducible exact Below.refl _ _ | with_reducible assumption | with_reducible refine bel_alloc ?_ _ | with_reducible refine bel_drew ?_ | with_reducible refine bel_drewN ?_ _ | (with_reducible refine bel_set ?_ ?_ _; rotate_left; ((try simp); (try omega)))))⟩

theorem implEqualBytes_any (v1 v2 : Value) (xs ys : List UInt8) (F1 F2 : List Nat) (w : World) (h1 : cUS.rep w [v1] xs F1) (h2 : cUS.rep w [v2] ys F2) :
    Calls Try.prog 80 #[v1, v2] w (Gives w (.bool (bytesEq xs ys))) := by
  obtain ⟨A, cp, rfl⟩ := cL_form h1
  obtain ⟨B, cq, rfl⟩ := cL_form h2
  go_enter Try.func80, Try.ntmps80
  go_wp2_with fail
  refine (equalBytes_any _ _ xs ys _ _ _ (by exact Cod.bel h1 (by repeat (first | with_reducible exact Below.refl _ _ | with_reducible assumption | with_reducible refine bel_alloc ?_ _ | with_reducible refine bel_drew ?_ | with_reducible refine bel_drewN ?_ _ | (with_reducible refine bel_set ?_ ?_ _; rotate_left; ((try simp); (try omega)))))) (by exact Cod.bel h2 (by repeat (first | with_reducible exact Below.refl _ _ | with_reducible assumption | with_reducible refine bel_alloc ?_ _ | with_reducible refine bel_drew ?_ | with_reducible refine bel_drewN ?_ _ | (with_reducible refine bel_set ?_ ?_ _; rotate_left; ((try simp); (try omega))))))).mono ?_
  rintro e w1 ⟨rfl, hb⟩
  go_wp2_with fail
  go_ret
  exact ⟨rfl, (by repeat (first | with_reducible exact Below.refl _ _ | with_reducible assumption | with_reducible refine bel_alloc ?_ _ | with_reducible refine bel_drew ?_ | with_reducible refine bel_drewN ?_ _ | (with_reducible refine bel_set ?_ ?_ _; rotate_left; ((try simp); (try omega)))))⟩

end Go.Proofs.Ytlicnppfgfjkgaa
namespace Go.Proofs.Ytlicnppfgfjkgaa
open Go.ChangeShapes Go.WideShapes Go.RowKit
set_option linter.unusedVariables false

def errorResponse : TResp := ⟨4, 0, 0, [], false⟩
theorem implErrorResponse_any (w : World) : Calls Try.prog 78 #[] w (GivesR cResp w errorResponse) := by
  go_enter Try.func78, Try.ntmps78
  go_wp2
  refine bodyPost_ret (v := .agg #[.int .i64 4, .int .i64 0, .int .i64 0, .slice none 0 0, .bool false]) (by simp [results, Try.results78, go_sem, *]) rfl ?_
  exact ⟨_, [], rfl, (by repeat (first | with_reducible exact Below.refl _ _ | with_reducible assumption | with_reducible refine bel_alloc ?_ _ | with_reducible refine bel_drew ?_ | with_reducible refine bel_drewN ?_ _ | (with_reducible refine bel_set ?_ ?_ _; rotate_left; ((try simp); (try omega))))), TResp.mk_ (x := errorResponse) ⟨by decide, by decide, by decide⟩ ⟨none, 0, rfl, by decide, by decide, .inl ⟨rfl, rfl⟩⟩, Fresh.nil _⟩
theorem specErrorResponse_any (w : World) : Calls Try.prog 82 #[] w (GivesR cResp w errorResponse) := by
  go_enter Try.func82, Try.ntmps82
  go_wp2
  refine bodyPost_ret (v := .agg #[.int .i64 4, .int .i64 0, .int .i64 0, .slice none 0 0, .bool false]) (by simp [results, Try.results82, go_sem, *]) rfl ?_
  exact ⟨_, [], rfl, (by repeat (first | with_reducible exact Below.refl _ _ | with_reducible assumption | with_reducible refine bel_alloc ?_ _ | with_reducible refine bel_drew ?_ | with_reducible refine bel_drewN ?_ _ | (with_reducible refine bel_set ?_ ?_ _; rotate_left; ((try simp); (try omega))))), TResp.mk_ (x := errorResponse) ⟨by decide, by decide, by decide⟩ ⟨none, 0, rfl, by decide, by decide, .inl ⟨rfl, rfl⟩⟩, Fresh.nil _⟩

def equalResponses (a b : TResp) : Bool := a.type == b.type && a.status == b.status && a.ver == b.ver && bytesEq a.body b.body && a.shares == b.shares
set_option maxHeartbeats 2000000 in
theorem implEqualResponses_any (vs : Array Value) (x : TResp) (F : List Nat) (vs2 : Array Value) (y : TResp) (F2 : List Nat) (w : World) (h : cResp.rep w vs.toList x F) (hn : cResp.sz x ≤ 1048576) (h2 : cResp.rep w vs2.toList y F2) (hn2 : cResp.sz y ≤ 1048576) :
    Calls Try.prog 27 #[.agg vs, .agg vs2] w (Gives w (.bool (equalResponses x y))) := by
  obtain ⟨v3, F3, rfl, -, -, m3⟩ := TResp.outA h
  obtain ⟨A3, c3, rfl⟩ := cL_form m3
  obtain ⟨v4, F4, rfl, -, -, m4⟩ := TResp.outA h2
  obtain ⟨A4, c4, rfl⟩ := cL_form m4
  clear h h2
  cases e1 : (x.type == y.type)
  all_goals cases e2 : (x.status == y.status)
  all_goals cases e3 : (x.ver == y.ver)
  all_goals cases e5 : (x.shares == y.shares)
  all_goals
    have HE := Lib.hid e5
    go_enter Try.func27, Try.ntmps27
    go_wp2_with (first | (go_at_call 80; refine (implEqualBytes_any _ _ x.body y.body _ _ _ (by exact Cod.bel m3 (by repeat (first | with_reducible exact Below.refl _ _ | with_reducible assumption | with_reducible refine bel_alloc ?_ _ | with_reducible refine bel_drew ?_ | with_reducible refine bel_drewN ?_ _ | (with_reducible refine bel_set ?_ ?_ _; rotate_left; ((try simp); (try omega)))))) (by exact Cod.bel m4 (by repeat (first | with_reducible exact Below.refl _ _ | with_reducible assumption | with_reducible refine bel_alloc ?_ _ | with_reducible refine bel_drew ?_ | with_reducible refine bel_drewN ?_ _ | (with_reducible refine bel_set ?_ ?_ _; rotate_left; ((try simp); (try omega))))))).mono ?_; rintro e w1 ⟨rfl, hb1⟩; obtain ⟨hc1, hf1, hz1⟩ := bcell hb1; (try simp at hz1); have hs0 : w.heap.size < w1.heap.size := (by omega); have hB1 : Below w.heap.size w w1 := (bel_then (by repeat (first | with_reducible exact Below.refl _ _ | with_reducible assumption | with_reducible refine bel_alloc ?_ _ | with_reducible refine bel_drew ?_ | with_reducible refine bel_drewN ?_ _ | (with_reducible refine bel_set ?_ ?_ _; rotate_left; ((try simp); (try omega))))) hb1); clear hb1))
    all_goals go_ret
    all_goals exact ⟨ret_bool (by simp [equalResponses, *]), (by repeat (first | with_reducible exact Below.refl _ _ | with_reducible assumption | with_reducible refine bel_alloc ?_ _ | with_reducible refine bel_drew ?_ | with_reducible refine bel_drewN ?_ _ | (with_reducible refine bel_set ?_ ?_ _; rotate_left; ((try simp); (try omega)))))⟩
end Go.Proofs.Ytlicnppfgfjkgaa
namespace Go.Proofs.Ytlicnppfgfjkgaa
open Go.ChangeShapes Go.WideShapes Go.RowKit
set_option linter.unusedVariables false

theorem idxP_cases {α : Type} (p : α → Bool) (xs : List α) : idxP p xs = -1 ∨ ∃ k : Nat, k < xs.length ∧ idxP p xs = k := by
  have h1 := idxP_ge p xs
  have h2 := idxP_lt p xs
  by_cases h : idxP p xs < 0
  · left; omega
  · right; exact ⟨(idxP p xs).toNat, by omega, by omega⟩
def matchIn (es : List TCached) (i : Int) : TResp × Bool := if i < 0 then (errorResponse, false) else match es[i.toNat]? with | some e => (e.resp, true) | none => (errorResponse, false)
def matchAt (cs : List TCache) (k : Int) (st pa : ByteArray) : TResp × Bool := if k < 0 then (errorResponse, false) else match cs[k.toNat]? with | some c => matchIn c.entries (entryIx c.entries st pa) | none => (errorResponse, false)
def matchCache (s : TCSet) (v : Int) (st pa : ByteArray) : TResp × Bool := matchAt s.caches (findCache s v) st pa
theorem TCached.sub {x : TCached} (h : x.Ok) : x.resp.Ok := ⟨h.h2, h.h3, h.h4⟩
theorem cached_sz {x : TCached} : cResp.sz x.resp ≤ cCached.sz x := by
  have h1 : cCached.sz x = x.site.size + (x.path.size + cResp.sz x.resp) := rfl
  omega
theorem entries_sz {s : TCSet} {c : TCache} (h : c ∈ s.caches) : cCachedS.sz c.entries ≤ cCSet.sz s := by
  have h1 := Cod.sz_mem cCache s.caches c h
  have h2 : cCache.sz c = 0 + cCachedS.sz c.entries := rfl
  have h3 : cCSet.sz s = Cod.szs cCache s.caches := rfl
  omega
theorem entry_sz {es : List TCached} {e : TCached} (h : e ∈ es) : cResp.sz e.resp ≤ cCachedS.sz es := by
  have h1 := Cod.sz_mem cCached es e h
  have h2 := cached_sz (x := e)
  have h3 : cCachedS.sz es = Cod.szs cCached es := rfl
  omega
theorem matchCache_sz (s : TCSet) (v : Int) (st pa : ByteArray) : cResp.sz (matchCache s v st pa).1 ≤ cCSet.sz s := by
  have h0 : cResp.sz errorResponse = 0 := rfl
  unfold matchCache matchAt
  split
  · show cResp.sz errorResponse ≤ _; omega
  · split
    · rename_i c hc
      have hm : c ∈ s.caches := List.mem_of_getElem? hc
      have h1 := entries_sz hm
      unfold matchIn
      split
      · show cResp.sz errorResponse ≤ _; omega
      · split
        · rename_i e he
          have h2 := entry_sz (List.mem_of_getElem? he)
          show cResp.sz e.resp ≤ _; omega
        · show cResp.sz errorResponse ≤ _; omega
    · show cResp.sz errorResponse ≤ _; omega

set_option maxRecDepth 100000 in
set_option maxHeartbeats 4000000 in
theorem implMatchCache_any (vs : Array Value) (x : TCSet) (F : List Nat) (v : Int) (st pa : ByteArray) (w : World) (h : cCSet.rep w vs.toList x F) (hn : cCSet.sz x ≤ 1048576) (hv : -9223372036854775808 ≤ v ∧ v ≤ 9223372036854775807) (_hst : st.size ≤ maxLen) (_hpa : pa.size ≤ maxLen) :
    Calls Try.prog 40 #[.agg vs, .int .i64 v, .string st, .string pa] w (GivesR2 cResp w (matchCache x v st pa).1 (.bool (matchCache x v st pa).2)) := by
  have hr := h
  obtain ⟨v0, F0, rfl, -, -, m0⟩ := TCSet.outA h
  obtain ⟨A, cp, rfl⟩ := cL_form m0
  clear h
  have HT := Lib.hid (fun k (e : findCache x v = k) => show matchCache x v st pa = matchAt x.caches k st pa by unfold matchCache; rw [e])
  rcases idxP_cases (fun c : TCache => c.ver == v) x.caches with hk | ⟨k, hkl, hk⟩
  · replace hk : findCache x v = -1 := hk
    have HE := Lib.hid (show matchCache x v st pa = (errorResponse, false) by rw [HT.out _ hk]; rfl)
    rw [HE.out]
    go_enter Try.func40, Try.ntmps40
    go_wp2_with fail
    refine (implFindCache_any _ x _ v _ (by exact Cod.bel hr (by repeat (first | with_reducible exact Below.refl _ _ | with_reducible assumption | with_reducible refine bel_alloc ?_ _ | with_reducible refine bel_drew ?_ | with_reducible refine bel_drewN ?_ _ | (with_reducible refine bel_set ?_ ?_ _; rotate_left; ((try simp); (try omega)))))) hn hv).mono ?_
    rw [hk]
    rintro e w1 ⟨rfl, hb1⟩
    have hz_w1 := hb1.size
    (try simp at hz_w1)
    have ha0_w1 : w.heap.size < w1.heap.size := by omega
    have ha1_w1 : w.heap.size + 1 < w1.heap.size := by omega
    obtain ⟨hc_w1, hf_w1, -⟩ := bcell hb1
    have hb_w1 : Below w.heap.size w w1 := bel_then (by repeat (first | with_reducible exact Below.refl _ _ | with_reducible assumption | with_reducible refine bel_alloc ?_ _ | with_reducible refine bel_drew ?_ | with_reducible refine bel_drewN ?_ _ | (with_reducible refine bel_set ?_ ?_ _; rotate_left; ((try simp); (try omega))))) hb1
    clear hb1
    go_wp2_with fail
    refine (implErrorResponse_any _).mono ?_
    rintro e w4 ⟨vs4, G4, rfl, hb4, hrep4, hf4⟩
    obtain ⟨v4, _, rfl, rfl, hok4, n4⟩ := TResp.outA hrep4
    obtain ⟨B4, d4, rfl⟩ := cL_form n4
    have hz_w4 := hb4.size
    (try simp at hz_w4)
    have ha0_w4 : w.heap.size < w4.heap.size := by omega
    have ha1_w4 : w.heap.size + 1 < w4.heap.size := by omega
    obtain ⟨hc_w4, hf_w4, -⟩ := bcell hb4
    have hb_w4 : Below w.heap.size w w4 := bel_then (by repeat (first | with_reducible exact Below.refl _ _ | with_reducible assumption | with_reducible refine bel_alloc ?_ _ | with_reducible refine bel_drew ?_ | with_reducible refine bel_drewN ?_ _ | (with_reducible refine bel_set ?_ ?_ _; rotate_left; ((try simp); (try omega))))) hb4
    have hg4 : Fresh (w.heap.size + 1 + 1) G4 := hf4.mono (by (try simp); (try omega))
    clear hb4 hf4 hrep4
    have j0 : w4.cell? ⟨w.heap.size + 1, 0, none⟩ = some (.int .i64 0) := by go_simp
    have j1 : w4.cell? ⟨w.heap.size + 1, 1, none⟩ = some (.int .i64 0) := by go_simp
    have j2 : w4.cell? ⟨w.heap.size + 1, 2, none⟩ = some (.int .i64 0) := by go_simp
    have j3 : w4.cell? ⟨w.heap.size + 1, 3, none⟩ = some (.slice none 0 0) := by go_simp
    have j4 : w4.cell? ⟨w.heap.size + 1, 4, none⟩ = some (.bool false) := by go_simp
    go_wp2_with fail
    refine bodyPost_ret (v := .tuple #[.agg #[.int .i64 errorResponse.type, .int .i64 errorResponse.status, .int .i64 errorResponse.ver, .slice B4 errorResponse.body.length d4, .bool errorResponse.shares], .bool false]) (by simp [results, Try.results40, go_sem, *]) rfl ?_
    exact ⟨_, G4, rfl, (by repeat (first | with_reducible exact Below.refl _ _ | with_reducible assumption | with_reducible refine bel_alloc ?_ _ | with_reducible refine bel_drew ?_ | with_reducible refine bel_drewN ?_ _ | (with_reducible refine bel_set ?_ ?_ _; rotate_left; ((try simp); (try omega))))), TResp.mk_ hok4 (Cod.keep2 n4 hg4 (by repeat (first | with_reducible exact Keep.refl _ _ | with_reducible assumption | with_reducible refine Keep.alloc ?_ _ | with_reducible refine Keep.drew ?_ | with_reducible refine Keep.drewN ?_ _ | (with_reducible refine Keep.set_ ?_ ?_ _; rotate_left; ((try simp); (try omega)))))), hg4.mono (by (try simp); (try omega))⟩
  · replace hk : findCache x v = k := hk
    obtain ⟨-, hcp, hm⟩ := cL_len m0
    unfold maxLen at hm
    obtain ⟨g, o, vs, F1, rfl, hgF, hx, -, hc⟩ := cL_get (hw := by decide) (hw2 := by decide) m0 hkl
    obtain ⟨v1, F2, rfl, -, -, m1⟩ := TCache.out hx
    obtain ⟨E5, e5, e5'⟩ := cL_form m1
    subst e5'
    have hgw : g < w.heap.size := Cod.lt _ m0 g hgF
    have p0 : w.cell? ⟨g, o + k * 2, none⟩ = some _ := (hc 0 _ rfl).1
    have p1 : w.cell? ⟨g, o + k * 2 + 1, none⟩ = some _ := (hc 1 _ rfl).1
    clear hc hx
    have HT2 := Lib.hid (show matchCache x v st pa = matchIn x.caches[k].entries (entryIx x.caches[k].entries st pa) by
      rw [HT.out _ hk]; unfold matchAt; rw [if_neg (by omega), Int.toNat_natCast, List.getElem?_eq_getElem hkl])
    have hki : (k : Int) < (x.caches.length : Int) := by omega
    have hze := entries_sz (s := x) (List.getElem_mem hkl)
    rcases idxP_cases (fun e : TCached => sameEntry e st pa) x.caches[k].entries with hi | ⟨i, hil, hi⟩
    · replace hi : entryIx x.caches[k].entries st pa = -1 := hi
      have HE := Lib.hid (show matchCache x v st pa = (errorResponse, false) by rw [HT2.out, hi]; rfl)
      rw [HE.out]
      go_enter Try.func40, Try.ntmps40
      go_wp2_with fail
      refine (implFindCache_any _ x _ v _ (by exact Cod.bel hr (by repeat (first | with_reducible exact Below.refl _ _ | with_reducible assumption | with_reducible refine bel_alloc ?_ _ | with_reducible refine bel_drew ?_ | with_reducible refine bel_drewN ?_ _ | (with_reducible refine bel_set ?_ ?_ _; rotate_left; ((try simp); (try omega)))))) hn hv).mono ?_
      rw [hk]
      rintro e w1 ⟨rfl, hb1⟩
      have hz_w1 := hb1.size
      (try simp at hz_w1)
      have ha0_w1 : w.heap.size < w1.heap.size := by omega
      have ha1_w1 : w.heap.size + 1 < w1.heap.size := by omega
      obtain ⟨hc_w1, hf_w1, -⟩ := bcell hb1
      have hb_w1 : Below w.heap.size w w1 := bel_then (by repeat (first | with_reducible exact Below.refl _ _ | with_reducible assumption | with_reducible refine bel_alloc ?_ _ | with_reducible refine bel_drew ?_ | with_reducible refine bel_drewN ?_ _ | (with_reducible refine bel_set ?_ ?_ _; rotate_left; ((try simp); (try omega))))) hb1
      clear hb1
      have k0 : w1.cell? ⟨w.heap.size, 0, none⟩ = some (.slice (some ⟨g, o, none⟩) x.caches.length cp) := by go_simp
      have q0 : w1.cell? ⟨g, o + k * 2, none⟩ = some (.int .i64 x.caches[k].ver) := (hb_w1.cell (p := ⟨g, o + k * 2, none⟩) hgw).trans p0
      have q1 : w1.cell? ⟨g, o + k * 2 + 1, none⟩ = some (.slice E5 x.caches[k].entries.length e5) := (hb_w1.cell (p := ⟨g, o + k * 2 + 1, none⟩) hgw).trans p1
      have hg1 : g < w1.heap.size := by omega
      go_wp2_with fail
      refine (implEntry_any _ _ _ _ x.caches[k].entries st pa _ _ (by exact Cod.bel m1 (by repeat (first | with_reducible exact Below.refl _ _ | with_reducible assumption | with_reducible refine bel_alloc ?_ _ | with_reducible refine bel_drew ?_ | with_reducible refine bel_drewN ?_ _ | (with_reducible refine bel_set ?_ ?_ _; rotate_left; ((try simp); (try omega))))))).mono ?_
      rw [hi]
      rintro e w2 ⟨rfl, hb2⟩
      have hz_w2 := hb2.size
      (try simp at hz_w2)
      have ha0_w2 : w.heap.size < w2.heap.size := by omega
      have ha1_w2 : w.heap.size + 1 < w2.heap.size := by omega
      obtain ⟨hc_w2, hf_w2, -⟩ := bcell hb2
      have hb_w2 : Below w.heap.size w w2 := bel_then (by repeat (first | with_reducible exact Below.refl _ _ | with_reducible assumption | with_reducible refine bel_alloc ?_ _ | with_reducible refine bel_drew ?_ | with_reducible refine bel_drewN ?_ _ | (with_reducible refine bel_set ?_ ?_ _; rotate_left; ((try simp); (try omega))))) hb2
      clear hb2
      go_wp2_with fail
      refine (implErrorResponse_any _).mono ?_
      rintro e w4 ⟨vs4, G4, rfl, hb4, hrep4, hf4⟩
      obtain ⟨v4, _, rfl, rfl, hok4, n4⟩ := TResp.outA hrep4
      obtain ⟨B4, d4, rfl⟩ := cL_form n4
      have hz_w4 := hb4.size
      (try simp at hz_w4)
      have ha0_w4 : w.heap.size < w4.heap.size := by omega
      have ha1_w4 : w.heap.size + 1 < w4.heap.size := by omega
      obtain ⟨hc_w4, hf_w4, -⟩ := bcell hb4
      have hb_w4 : Below w.heap.size w w4 := bel_then (by repeat (first | with_reducible exact Below.refl _ _ | with_reducible assumption | with_reducible refine bel_alloc ?_ _ | with_reducible refine bel_drew ?_ | with_reducible refine bel_drewN ?_ _ | (with_reducible refine bel_set ?_ ?_ _; rotate_left; ((try simp); (try omega))))) hb4
      have hg4 : Fresh (w.heap.size + 1 + 1) G4 := hf4.mono (by (try simp); (try omega))
      clear hb4 hf4 hrep4
      have j0 : w4.cell? ⟨w.heap.size + 1, 0, none⟩ = some (.int .i64 0) := by go_simp
      have j1 : w4.cell? ⟨w.heap.size + 1, 1, none⟩ = some (.int .i64 0) := by go_simp
      have j2 : w4.cell? ⟨w.heap.size + 1, 2, none⟩ = some (.int .i64 0) := by go_simp
      have j3 : w4.cell? ⟨w.heap.size + 1, 3, none⟩ = some (.slice none 0 0) := by go_simp
      have j4 : w4.cell? ⟨w.heap.size + 1, 4, none⟩ = some (.bool false) := by go_simp
      go_wp2_with fail
      refine bodyPost_ret (v := .tuple #[.agg #[.int .i64 errorResponse.type, .int .i64 errorResponse.status, .int .i64 errorResponse.ver, .slice B4 errorResponse.body.length d4, .bool errorResponse.shares], .bool false]) (by simp [results, Try.results40, go_sem, *]) rfl ?_
      exact ⟨_, G4, rfl, (by repeat (first | with_reducible exact Below.refl _ _ | with_reducible assumption | with_reducible refine bel_alloc ?_ _ | with_reducible refine bel_drew ?_ | with_reducible refine bel_drewN ?_ _ | (with_reducible refine bel_set ?_ ?_ _; rotate_left; ((try simp); (try omega))))), TResp.mk_ hok4 (Cod.keep2 n4 hg4 (by repeat (first | with_reducible exact Keep.refl _ _ | with_reducible assumption | with_reducible refine Keep.alloc ?_ _ | with_reducible refine Keep.drew ?_ | with_reducible refine Keep.drewN ?_ _ | (with_reducible refine Keep.set_ ?_ ?_ _; rotate_left; ((try simp); (try omega)))))), hg4.mono (by (try simp); (try omega))⟩
    · replace hi : entryIx x.caches[k].entries st pa = i := hi
      have HE := Lib.hid (show matchCache x v st pa = (x.caches[k].entries[i].resp, true) by
        rw [HT2.out, hi]; unfold matchIn; rw [if_neg (by omega), Int.toNat_natCast, List.getElem?_eq_getElem hil])
      rw [HE.out]
      obtain ⟨-, hcp5, hm5⟩ := cL_len m1
      unfold maxLen at hm5
      obtain ⟨g2, o2, vs2, F3, rfl, hgF2, hx2, -, hc2⟩ := cL_get (hw := by decide) (hw2 := by decide) m1 hil
      obtain ⟨v5, F4, rfl, -, hok5, m5⟩ := TCached.out hx2
      obtain ⟨A5, c5, e5'⟩ := cL_form m5
      subst e5'
      have hgw2 : g2 < w.heap.size := Cod.lt _ m1 g2 hgF2
      have r2 : w.cell? ⟨g2, o2 + i * 7 + 2, none⟩ = some _ := (hc2 2 _ rfl).1
      have r3 : w.cell? ⟨g2, o2 + i * 7 + 3, none⟩ = some _ := (hc2 3 _ rfl).1
      have r4 : w.cell? ⟨g2, o2 + i * 7 + 4, none⟩ = some _ := (hc2 4 _ rfl).1
      have r5 : w.cell? ⟨g2, o2 + i * 7 + 5, none⟩ = some _ := (hc2 5 _ rfl).1
      have r6 : w.cell? ⟨g2, o2 + i * 7 + 6, none⟩ = some _ := (hc2 6 _ rfl).1
      clear hc2 hx2
      have hii : (i : Int) < (x.caches[k].entries.length : Int) := by omega
      have hze2 := entry_sz (List.getElem_mem hil)
      have hokr := TCached.sub hok5
      go_enter Try.func40, Try.ntmps40
      go_wp2_with fail
      refine (implFindCache_any _ x _ v _ (by exact Cod.bel hr (by repeat (first | with_reducible exact Below.refl _ _ | with_reducible assumption | with_reducible refine bel_alloc ?_ _ | with_reducible refine bel_drew ?_ | with_reducible refine bel_drewN ?_ _ | (with_reducible refine bel_set ?_ ?_ _; rotate_left; ((try simp); (try omega)))))) hn hv).mono ?_
      rw [hk]
      rintro e w1 ⟨rfl, hb1⟩
      have hz_w1 := hb1.size
      (try simp at hz_w1)
      have ha0_w1 : w.heap.size < w1.heap.size := by omega
      have ha1_w1 : w.heap.size + 1 < w1.heap.size := by omega
      obtain ⟨hc_w1, hf_w1, -⟩ := bcell hb1
      have hb_w1 : Below w.heap.size w w1 := bel_then (by repeat (first | with_reducible exact Below.refl _ _ | with_reducible assumption | with_reducible refine bel_alloc ?_ _ | with_reducible refine bel_drew ?_ | with_reducible refine bel_drewN ?_ _ | (with_reducible refine bel_set ?_ ?_ _; rotate_left; ((try simp); (try omega))))) hb1
      clear hb1
      have k0 : w1.cell? ⟨w.heap.size, 0, none⟩ = some (.slice (some ⟨g, o, none⟩) x.caches.length cp) := by go_simp
      have q0 : w1.cell? ⟨g, o + k * 2, none⟩ = some (.int .i64 x.caches[k].ver) := (hb_w1.cell (p := ⟨g, o + k * 2, none⟩) hgw).trans p0
      have q1 : w1.cell? ⟨g, o + k * 2 + 1, none⟩ = some (.slice (some ⟨g2, o2, none⟩) x.caches[k].entries.length e5) := (hb_w1.cell (p := ⟨g, o + k * 2 + 1, none⟩) hgw).trans p1
      have hg1 : g < w1.heap.size := by omega
      go_wp2_with fail
      refine (implEntry_any _ _ _ _ x.caches[k].entries st pa _ _ (by exact Cod.bel m1 (by repeat (first | with_reducible exact Below.refl _ _ | with_reducible assumption | with_reducible refine bel_alloc ?_ _ | with_reducible refine bel_drew ?_ | with_reducible refine bel_drewN ?_ _ | (with_reducible refine bel_set ?_ ?_ _; rotate_left; ((try simp); (try omega))))))).mono ?_
      rw [hi]
      rintro e w2 ⟨rfl, hb2⟩
      have hz_w2 := hb2.size
      (try simp at hz_w2)
      have ha0_w2 : w.heap.size < w2.heap.size := by omega
      have ha1_w2 : w.heap.size + 1 < w2.heap.size := by omega
      obtain ⟨hc_w2, hf_w2, -⟩ := bcell hb2
      have hb_w2 : Below w.heap.size w w2 := bel_then (by repeat (first | with_reducible exact Below.refl _ _ | with_reducible assumption | with_reducible refine bel_alloc ?_ _ | with_reducible refine bel_drew ?_ | with_reducible refine bel_drewN ?_ _ | (with_reducible refine bel_set ?_ ?_ _; rotate_left; ((try simp); (try omega))))) hb2
      clear hb2
      have y0 : w2.cell? ⟨w.heap.size, 0, none⟩ = some (.slice (some ⟨g, o, none⟩) x.caches.length cp) := by go_simp
      have y1 : w2.cell? ⟨g, o + k * 2 + 1, none⟩ = some (.slice (some ⟨g2, o2, none⟩) x.caches[k].entries.length e5) := (hb_w2.cell (p := ⟨g, o + k * 2 + 1, none⟩) hgw).trans p1
      have t2 := (hb_w2.cell (p := ⟨g2, o2 + i * 7 + 2, none⟩) hgw2).trans r2
      have t3 := (hb_w2.cell (p := ⟨g2, o2 + i * 7 + 3, none⟩) hgw2).trans r3
      have t4 := (hb_w2.cell (p := ⟨g2, o2 + i * 7 + 4, none⟩) hgw2).trans r4
      have t5 := (hb_w2.cell (p := ⟨g2, o2 + i * 7 + 5, none⟩) hgw2).trans r5
      have t6 := (hb_w2.cell (p := ⟨g2, o2 + i * 7 + 6, none⟩) hgw2).trans r6
      go_wp2_with fail
      refine (implCopyResp_any _ x.caches[k].entries[i].resp _ _ (by exact TResp.mk_ hokr (Cod.bel m5 (by repeat (first | with_reducible exact Below.refl _ _ | with_reducible assumption | with_reducible refine bel_alloc ?_ _ | with_reducible refine bel_drew ?_ | with_reducible refine bel_drewN ?_ _ | (with_reducible refine bel_set ?_ ?_ _; rotate_left; ((try simp); (try omega))))))) (by omega)).mono ?_
      rintro e w4 ⟨vs4, G4, rfl, hb4, hrep4, hf4⟩
      obtain ⟨v4, _, rfl, rfl, hok4, n4⟩ := TResp.outA hrep4
      obtain ⟨B4, d4, rfl⟩ := cL_form n4
      have hz_w4 := hb4.size
      (try simp at hz_w4)
      have ha0_w4 : w.heap.size < w4.heap.size := by omega
      have ha1_w4 : w.heap.size + 1 < w4.heap.size := by omega
      obtain ⟨hc_w4, hf_w4, -⟩ := bcell hb4
      have hb_w4 : Below w.heap.size w w4 := bel_then (by repeat (first | with_reducible exact Below.refl _ _ | with_reducible assumption | with_reducible refine bel_alloc ?_ _ | with_reducible refine bel_drew ?_ | with_reducible refine bel_drewN ?_ _ | (with_reducible refine bel_set ?_ ?_ _; rotate_left; ((try simp); (try omega))))) hb4
      have hg4 : Fresh (w.heap.size + 1 + 1) G4 := hf4.mono (by (try simp); (try omega))
      clear hb4 hf4 hrep4
      have j0 : w4.cell? ⟨w.heap.size + 1, 0, none⟩ = some (.int .i64 0) := by go_simp
      have j1 : w4.cell? ⟨w.heap.size + 1, 1, none⟩ = some (.int .i64 0) := by go_simp
      have j2 : w4.cell? ⟨w.heap.size + 1, 2, none⟩ = some (.int .i64 0) := by go_simp
      have j3 : w4.cell? ⟨w.heap.size + 1, 3, none⟩ = some (.slice none 0 0) := by go_simp
      have j4 : w4.cell? ⟨w.heap.size + 1, 4, none⟩ = some (.bool false) := by go_simp
      go_wp2_with fail
      refine bodyPost_ret (v := .tuple #[.agg #[.int .i64 x.caches[k].entries[i].resp.type, .int .i64 x.caches[k].entries[i].resp.status, .int .i64 x.caches[k].entries[i].resp.ver, .slice B4 x.caches[k].entries[i].resp.body.length d4, .bool x.caches[k].entries[i].resp.shares], .bool true]) (by simp [results, Try.results40, go_sem, *]) rfl ?_
      exact ⟨_, G4, rfl, (by repeat (first | with_reducible exact Below.refl _ _ | with_reducible assumption | with_reducible refine bel_alloc ?_ _ | with_reducible refine bel_drew ?_ | with_reducible refine bel_drewN ?_ _ | (with_reducible refine bel_set ?_ ?_ _; rotate_left; ((try simp); (try omega))))), TResp.mk_ hok4 (Cod.keep2 n4 hg4 (by repeat (first | with_reducible exact Keep.refl _ _ | with_reducible assumption | with_reducible refine Keep.alloc ?_ _ | with_reducible refine Keep.drew ?_ | with_reducible refine Keep.drewN ?_ _ | (with_reducible refine Keep.set_ ?_ ?_ _; rotate_left; ((try simp); (try omega)))))), hg4.mono (by (try simp); (try omega))⟩
end Go.Proofs.Ytlicnppfgfjkgaa
namespace Go.Proofs.Ytlicnppfgfjkgaa
open Go.ChangeShapes Go.WideShapes Go.RowKit
set_option linter.unusedVariables false

theorem infoCached : (Try.prog.info? 129).map (fun i => (i.zero, i.size, i.bytes)) = some (some (Value.agg #[.string ByteArray.empty, .string ByteArray.empty, .int .i64 0, .int .i64 0, .int .i64 0, .slice none 0 0, .bool false]), 7, 88) := by kernel_rfl
/-- a walk that is to stand still here -/
def Stop (p : Prop) : Prop := p
theorem stop_ {p : Prop} (h : Stop p) : p := h
theorem Stop.go {p : Prop} (h : p) : Stop p := h
theorem take_next {α : Type} {xs : List α} {k : Nat} (h : k < xs.length) : xs.take k ++ [xs[k]] = xs.take (k + 1) := (List.take_succ_eq_append_getElem h).symm
theorem cache_len {x : TCache} (hn : cCache.sz x ≤ 1048576) : x.entries.length ≤ 1048576 := by
  have h1 := Cod.len_le cCached x.entries
  have h3 : cCache.sz x = 0 + Cod.szs cCached x.entries := rfl
  omega
theorem cache_resp {x : TCache} (hn : cCache.sz x ≤ 1048576) {k : Nat} (hk : k < x.entries.length) : cResp.sz x.entries[k].resp ≤ 1048576 := by
  have h1 := entry_sz (List.getElem_mem hk)
  have h3 : cCache.sz x = 0 + cCachedS.sz x.entries := rfl
  omega
set_option maxRecDepth 100000 in
set_option maxHeartbeats 1000000 in
theorem specCopyCache_any (vs : Array Value) (x : TCache) (F : List Nat) (w : World) (h : cCache.rep w vs.toList x F) (hn : cCache.sz x ≤ 1048576) :
    Calls Try.prog 141 #[.agg vs] w (GivesR cCacheO w x) := by
  obtain ⟨i0, hi0, hz0, hz1, hz2⟩ := info_parts infoCached
  obtain ⟨v1, F1, rfl, -, hok, m1⟩ := TCache.outA h
  obtain ⟨A, cp, rfl⟩ := cL_form m1
  obtain ⟨-, hcp, hm⟩ := cL_len m1
  have hnl := cache_len hn
  clear h
  obtain ⟨n, hxn⟩ : ∃ n, x.entries.length = n := ⟨_, rfl⟩
  have HN := Lib.hid hxn
  rw [hxn] at hcp hnl ⊢
  clear hxn
  unfold maxLen at hm
  go_enter Try.func141, Try.ntmps141
  go_wp2
  generalize hW : World.alloc _ _ = W
  have hWs : W.heap.size = w.heap.size + 3 := by rw [← hW]; clear hW; simp
  have hbW : Below w.heap.size w W := by rw [← hW]; exact (by repeat (first | with_reducible exact Below.refl _ _ | with_reducible assumption | with_reducible refine bel_alloc ?_ _ | with_reducible refine bel_drew ?_ | with_reducible refine bel_drewN ?_ _ | (with_reducible refine bel_set ?_ ?_ _; rotate_left; ((try simp); (try omega)))))
  have HK := Lib.hid (show W.cell? ⟨w.heap.size, 0, none⟩ = some (.int .i64 x.ver) ∧ W.cell? ⟨w.heap.size, 1, none⟩ = some (.slice A n cp) ∧ W.cell? ⟨w.heap.size + 1, 0, none⟩ = some (.int .i64 0) ∧ W.cell? ⟨w.heap.size + 1, 1, none⟩ = some (.slice none 0 0) ∧ W.cell? ⟨w.heap.size + 1 + 1, 0, none⟩ = some (.int .i64 x.ver) ∧ W.cell? ⟨w.heap.size + 1 + 1, 1, none⟩ = some (.slice none 0 0) from by refine ⟨?_, ?_, ?_, ?_, ?_, ?_⟩ <;> (rw [← hW]; clear hW; go_simp))
  have HZ0 : W.frozen? ⟨w.heap.size + 1, 0, none⟩ = false := by rw [← hW]; clear hW; go_simp
  have HZ1 : W.frozen? ⟨w.heap.size + 1, 1, none⟩ = false := by rw [← hW]; clear hW; go_simp
  have HZ2 : W.frozen? ⟨w.heap.size + 1 + 1, 1, none⟩ = false := by rw [← hW]; clear hW; go_simp
  clear hW
  have hfz : W.frozen? ⟨w.heap.size + 1 + 1, 1, none⟩ = false := HZ2
  go_loopw [4] (fun i wr => ∃ k : Nat, k ≤ n ∧ i = .int .i64 k ∧ BoxRow cCached 129 W wr (w.heap.size + 1 + 1) 1 (x.entries.take k)) (fun i _ => n - (intOf i).toNat)
  case atStart => exact ⟨0, Nat.zero_le _, rfl, BoxRow.start HK.out.2.2.2.2.2⟩
  case round =>
    obtain ⟨k, hk, rfl, vE, Fi, HB⟩ := hrel
    obtain ⟨Ae, ce, hve⟩ := HB.own.slice
    subst hve
    have hlk : (x.entries.take k).length = k := by rw [List.length_take, HN.out]; omega
    rw [hlk] at HB
    clear hlk
    have hE := HB.cell
    have hfr := (HB.fz 1).trans hfz
    have hC0 := HB.oth 0 (by decide)
    have hz9 := HB.only.size
    have hbw : Below w.heap.size w wr := hbW.trans ((HB.only.bel w.heap.size (by omega) (fun y hy => by simp at hy; omega)).mono (Nat.le_refl _))
    have b0 : wr.cell? ⟨w.heap.size, 0, none⟩ = some (.int .i64 x.ver) := (World.cell?_of_block (HB.only.block w.heap.size (by omega) (by intro hm9; simp at hm9; omega))).trans HK.out.1
    have b1 : wr.cell? ⟨w.heap.size, 1, none⟩ = some (.slice A n cp) := (World.cell?_of_block (HB.only.block w.heap.size (by omega) (by intro hm9; simp at hm9; omega))).trans HK.out.2.1
    have hws : w.heap.size < wr.heap.size := by omega
    have hws2 : w.heap.size + 1 + 1 < wr.heap.size := by omega
    have hHB := Lib.hid HB
    by_cases hlt : k < n
    · have hkx : k < x.entries.length := by rw [HN.out]; exact hlt
      obtain ⟨g, o, vs, F3, rfl, hgF, hx, -, hc⟩ := cL_get (hw := by decide) (hw2 := by decide) m1 hkx
      obtain ⟨v5, F4, rfl, -, hok5, m5⟩ := TCached.out hx
      obtain ⟨A5, c5, e5⟩ := cL_form m5
      subst e5
      have hgw : g < w.heap.size := Cod.lt _ m1 g hgF
      have q0 := (hbw.cell (p := ⟨g, o + k * 7, none⟩) hgw).trans ((hc 0 _ rfl).1)
      have q1 := (hbw.cell (p := ⟨g, o + k * 7 + 1, none⟩) hgw).trans ((hc 1 _ rfl).1)
      have q2 := (hbw.cell (p := ⟨g, o + k * 7 + 2, none⟩) hgw).trans ((hc 2 _ rfl).1)
      have q3 := (hbw.cell (p := ⟨g, o + k * 7 + 3, none⟩) hgw).trans ((hc 3 _ rfl).1)
      have q4 := (hbw.cell (p := ⟨g, o + k * 7 + 4, none⟩) hgw).trans ((hc 4 _ rfl).1)
      have q5 := (hbw.cell (p := ⟨g, o + k * 7 + 5, none⟩) hgw).trans ((hc 5 _ rfl).1)
      have q6 := (hbw.cell (p := ⟨g, o + k * 7 + 6, none⟩) hgw).trans ((hc 6 _ rfl).1)
      clear hc hx
      have hgr : g < wr.heap.size := by omega
      have hgn : ¬ g = wr.heap.size := by omega
      have hki : ((k : Int) < (n : Int)) := by omega
      have hokr := TCached.sub hok5
      have hzr := cache_resp hn hkx
      clear HB hC0
      go_wp2_with fail
      refine (specCopyResp_any _ x.entries[k].resp _ _ (by exact TResp.mk_ hokr (Cod.bel m5 (by repeat (first | with_reducible exact Below.refl _ _ | with_reducible assumption | with_reducible refine bel_alloc ?_ _ | with_reducible refine bel_drew ?_ | with_reducible refine bel_drewN ?_ _ | (with_reducible refine bel_set ?_ ?_ _; rotate_left; ((try simp); (try omega))))))) hzr).mono ?_
      rintro e w1 ⟨vs1, G1, rfl, hb1, hrep1, hf1⟩
      obtain ⟨v6, _, rfl, rfl, hok6, n6⟩ := TResp.outA hrep1
      obtain ⟨B6, d6, rfl⟩ := cL_form n6
      have hzz := hb1.size
      (try simp at hzz)
      have hs1 : wr.heap.size < w1.heap.size := by omega
      obtain ⟨hc1, hff1, -⟩ := bcell hb1
      have hbr1 : Below wr.heap.size wr w1 := bel_then (by repeat (first | with_reducible exact Below.refl _ _ | with_reducible assumption | with_reducible refine bel_alloc ?_ _ | with_reducible refine bel_drew ?_ | with_reducible refine bel_drewN ?_ _ | (with_reducible refine bel_set ?_ ?_ _; rotate_left; ((try simp); (try omega))))) hb1
      have hnb : ∀ b, b ∈ G1 → wr.heap.size + 1 ≤ b ∧ b < w1.heap.size := fun b hb => ⟨by have := hf1.1 b hb; (try simp at this); omega, Cod.lt _ n6 b hb⟩
      have hE1 : w1.cell? ⟨w.heap.size + 1 + 1, 1, none⟩ = some (.slice Ae k ce) := (hbr1.cell (p := ⟨w.heap.size + 1 + 1, 1, none⟩) hws2).trans hE
      have hfr1 : w1.frozen? ⟨w.heap.size + 1 + 1, 1, none⟩ = false := (hbr1.frozen (p := ⟨w.heap.size + 1 + 1, 1, none⟩) hws2).trans hfr
      have hwn : ¬ wr.heap.size = w.heap.size + 1 + 1 := by omega
      have hwn2 : ¬ w.heap.size + 1 + 1 = wr.heap.size := by omega
      have hws3 : w.heap.size + 1 + 1 < w1.heap.size := by omega
      have hnlk : k + 1 ≤ 1048577 := by omega
      clear hb1 hrep1
      go_wp2_with (at_builtin; refine stop_ ?_)
      refine Stop.go ?_
      refine wpList_box (c := cCached) (ys := [x.entries[k]]) (G := G1) rfl _ _ _ rfl i0 _ _ Try.underlying123 hi0 hz0 hz1 hz2 rfl (by decide) rfl (.slice (some ⟨w1.heap.size, 0, none⟩) 1 1) rfl (by omega) hHB.out ?hbel (hf1.mono (by (try simp); (try omega))) ?hGl ?hsrc (k + 1) ?hm9 ?h1 ?h2 ?h3
      case hbel => exact (by repeat (first | with_reducible exact Below.refl _ _ | with_reducible assumption | with_reducible refine bel_alloc ?_ _ | with_reducible refine bel_drew ?_ | with_reducible refine bel_drewN ?_ _ | (with_reducible refine bel_set ?_ ?_ _; rotate_left; ((try simp); (try omega)))))
      case hGl => (intro b hb; have h9 := hnb b hb; (try simp); omega)
      case hsrc => exact src_new _ _ (by simp) (TCached.mk_ (x := x.entries[k]) hok5 (by repeat (first | with_reducible exact n6 | with_reducible refine Cod.allocA ?_ _ | with_reducible refine Cod.drewA ?_ | with_reducible refine Cod.drewNA ?_ _ | ((with_reducible refine Cod.setA ?_ ?_ _); rotate_left; ((intro hm9; have hm8 := hnb _ hm9; (try simp at hm8); (try omega)))))))
      case hm9 => (have h9 := HN.out; simp only [List.length_append, List.length_take, List.length_singleton]; omega)
      case h1 => (unfold maxLen; omega)
      case h2 => omega
      intro A2 c2 w2 HA
      rw [take_next hkx] at HA
      have hX := HA.cell
      have hXf := (HA.fz 1).trans hfz
      have hs4 := HA.size
      (try simp at hs4)
      have HR := Lib.hid HA.row
      clear HA
      have hsz2 : w.heap.size + 1 + 1 < w2.heap.size := by omega
      go_wp2_with fail
      go_roundw
      case rel => exact ⟨k + 1, by omega, by go_num, HR.out⟩
      case measure => simp [intOf]; omega
    · obtain rfl : k = n := by omega
      have c0 : wr.cell? ⟨w.heap.size + 1 + 1, 0, none⟩ = some (.int .i64 x.ver) := hC0.trans HK.out.2.2.2.2.1
      clear hC0
      have hb9 := HB.only.block (w.heap.size + 1) (by omega) (by simp)
      have d0 : wr.cell? ⟨w.heap.size + 1, 0, none⟩ = some (.int .i64 0) := (World.cell?_of_block hb9).trans HK.out.2.2.1
      have d1 : wr.cell? ⟨w.heap.size + 1, 1, none⟩ = some (.slice none 0 0) := (World.cell?_of_block hb9).trans HK.out.2.2.2.1
      have f0 : wr.frozen? ⟨w.heap.size + 1, 0, none⟩ = false := (World.frozen?_of_block hb9).trans HZ0
      have f1 : wr.frozen? ⟨w.heap.size + 1, 1, none⟩ = false := (World.frozen?_of_block hb9).trans HZ1
      have hws1 : w.heap.size + 1 < wr.heap.size := by omega
      have htl : x.entries.take k = x.entries := List.take_of_length_le (by rw [HN.out]; exact Nat.le_refl _)
      have hown := HB.own
      rw [htl] at hown
      obtain ⟨hrep, hff⟩ := hown.toO (hw2 := by decide) HB.fresh HB.ne
      have hlow : ∀ b, b ∈ ownL (.slice Ae k ce) ++ Fi → W.heap.size ≤ b := hff.1
      have HRP := Lib.hid hrep
      clear HB hown hrep htl hb9
      go_wp2_with fail
      refine bodyPost_ret (v := .agg #[.int .i64 x.ver, .slice Ae k ce]) (by simp [results, Try.results141, go_sem, *]) rfl ?_
      have hfin : cCachedO.rep wr [.slice Ae k ce] x.entries (ownL (.slice Ae k ce) ++ Fi) := HRP.out
      exact ⟨_, _, rfl, (by repeat (first | with_reducible exact Below.refl _ _ | with_reducible assumption | with_reducible refine bel_alloc ?_ _ | with_reducible refine bel_drew ?_ | with_reducible refine bel_drewN ?_ _ | (with_reducible refine bel_set ?_ ?_ _; rotate_left; ((try simp); (try omega))))), TCache.mkO hok (by repeat (first | with_reducible exact hfin | with_reducible refine Cod.allocA ?_ _ | with_reducible refine Cod.drewA ?_ | with_reducible refine Cod.drewNA ?_ _ | ((with_reducible refine Cod.setA ?_ ?_ _); rotate_left; ((intro hm9; have hm8 := hlow _ hm9; (try simp at hm8); (try omega)))))), hff.mono (by omega)⟩
end Go.Proofs.Ytlicnppfgfjkgaa
namespace Go.Proofs.Ytlicnppfgfjkgaa
section
variable {P : Program} {ops : Array Oper} {Q : Exit → Act → World → Prop} {md : Region.Mode} {S : World → Prop} {tl : List Nat}

def rWaits (md : Region.Mode) (ops : Array Oper) (j i : Nat) : Bool :=
  match ops[j]? with
  | some oj => oj.after.any fun e => Region.binds md e && e.on == i
  | none => false
theorem rWaits_spec {j i : Nat} (h : rWaits md ops j i = true) : ∃ oj, ops[j]? = some oj ∧ ∃ e ∈ oj.after, Region.binds md e = true ∧ e.on = i := by
  unfold rWaits at h
  split at h
  · rename_i oj hj
    obtain ⟨e, he, hb⟩ := Array.any_eq_true'.1 h
    simp only [Bool.and_eq_true, beq_iff_eq] at hb
    exact ⟨oj, hj, e, he, hb.1, hb.2⟩
  · cases h
/-- what stands listed, stands with all that it waits for -/
def RClosed (md : Region.Mode) (ops : Array Oper) (listed : Array Bool) : Prop :=
  ∀ j oj, ops[j]? = some oj → listed.getD j false = true → ∀ e ∈ oj.after, Region.binds md e = true → listed.getD e.on false = true
def rClosedB (md : Region.Mode) (ops : Array Oper) (listed : Array Bool) : Bool :=
  (List.range ops.size).all fun j => !(listed.getD j false) || match ops[j]? with
    | some oj => oj.after.all fun e => !(Region.binds md e) || listed.getD e.on false
    | none => true
theorem rClosed_of {listed : Array Bool} (h : rClosedB md ops listed = true) : RClosed md ops listed := by
  intro j oj hj hl e he hb
  have hlt := (Array.getElem?_eq_some_iff.1 hj).1
  have := List.all_eq_true.1 h j (List.mem_range.2 hlt)
  simp only [hl, hj, Bool.not_true, Bool.false_or] at this
  have := Array.all_eq_true'.1 this e he
  simpa [hb] using this
theorem RClosed.set {listed : Array Bool} {i : Nat} (h : RClosed md ops listed) (hi : i ∈ Region.ready md ops listed) : RClosed md ops (listed.setIfInBounds i true) := by
  obtain ⟨_, oi, hoi, hall⟩ := mem_ready.1 hi
  intro j oj hj hl e he hb
  by_cases hij : i = j
  · subst hij
    have : oj = oi := Option.some.inj (hj.symm.trans hoi)
    subst this
    exact getD_set_true (hall e he hb)
  · rw [getD_set_ne false hij] at hl
    exact getD_set_true (h j oj hj hl e he hb)
/-- i stands ahead of T -/
def rReach (md : Region.Mode) (ops : Array Oper) : Nat → Nat → Nat → Bool
  | 0, _, _ => false
  | f + 1, i, T => rWaits md ops T i || (List.range ops.size).any fun j => rWaits md ops T j && rReach md ops f i j
theorem rReach_unlisted {listed : Array Bool} (hc : RClosed md ops listed) {i : Nat} (hi : listed.getD i false = false) : ∀ (f T : Nat), rReach md ops f i T = true → (∃ oj, ops[T]? = some oj ∧ ∃ e ∈ oj.after, Region.binds md e = true ∧ listed.getD e.on false = false)
  | 0, _, h => by cases h
  | f + 1, T, h => by
    simp only [rReach, Bool.or_eq_true] at h
    rcases h with h | h
    · obtain ⟨oj, h1, e, h2, h3, h4⟩ := rWaits_spec h
      exact ⟨oj, h1, e, h2, h3, by rw [h4]; exact hi⟩
    · obtain ⟨j, _, hj⟩ := List.any_eq_true.1 h
      simp only [Bool.and_eq_true] at hj
      obtain ⟨oj, h1, e, h2, h3, h4⟩ := rWaits_spec hj.1
      obtain ⟨o2, k1, e2, k2, k3, k4⟩ := rReach_unlisted hc hi f j hj.2
      refine ⟨oj, h1, e, h2, h3, ?_⟩
      rw [h4]
      cases hl : listed.getD j false with
      | false => rfl
      | true =>
        have := hc j o2 k1 hl e2 k2 k3
        rw [k4] at this; cases this
theorem rReach_wait {listed : Array Bool} (hc : RClosed md ops listed) {i f T : Nat} (hi : listed.getD i false = false) (h : rReach md ops f i T = true) : T ∉ Region.ready md ops listed := by
  intro hr
  obtain ⟨oj, h1, e, h2, h3, h4⟩ := rReach_unlisted hc hi f T h
  obtain ⟨_, o, ho, hall⟩ := mem_ready.1 hr
  have : oj = o := Option.some.inj (h1.symm.trans ho)
  subst this
  have := hall e h2 h3
  rw [h4] at this; cases this

def wpAnyT (P : Program) (md : Region.Mode) (ops : Array Oper) (Q : Exit → Act → World → Prop) (S : World → Prop) (tl : List Nat) : Nat → Array Bool → Act → World → Prop
  | 0, listed, a, w => Region.ready md ops listed = [] ∧ Q .normal a w
  | fuel + 1, listed, a, w =>
    (Region.ready md ops listed = [] → Q .normal a w) ∧
    ∀ i ∈ Region.ready md ops listed, wpOp P ops Q i (fun a' w' => (i ∉ tl → S w') ∧ wpAnyT P md ops Q S tl fuel (listed.setIfInBounds i true) a' w') a w
theorem wpAny_of_T : ∀ (fuel : Nat) (listed : Array Bool) (a : Act) (w : World), wpAnyT P md ops Q S tl fuel listed a w → wpAny P md ops Q fuel listed a w
  | 0, _, _, _, h => h
  | fuel + 1, _, _, _, h => ⟨h.1, fun i hi => wpOp_mono (fun a' w' h' => wpAny_of_T fuel _ a' w' h'.2) (h.2 i hi)⟩

theorem wpAnyT_first {i f : Nat} {oi : Oper} {v : Value} (hi : ops[i]? = some oi) (hsel : ∀ (j : Nat) (o : Oper) cs b, ops[j]? = some o → o.op ≠ .select cs b)
    (hQ : ∀ c a w, Q (.panic c) (a.put oi.dst v) w → Q (.panic c) a w) (htl : i ∉ tl) (hre : ∀ T, T ∈ tl → rReach md ops f i T = true) :
    ∀ (fuel : Nat) (listed : Array Bool) (a : Act) (w : World), RClosed md ops listed →
      (∀ j oj, ops[j]? = some oj → j ≠ i → listed.getD j true = false → (∀ e ∈ oj.after, Region.binds md e = true → e.on ≠ i) → oi.apart ops oj = true) →
      i ∈ Region.ready md ops listed → YieldsIf P ops S oi v a → S w →
      wpAnyT P md ops Q S tl fuel (listed.setIfInBounds i true) (a.put oi.dst v) w → wpAnyT P md ops Q S tl (fuel + 1) listed a w := by
  intro fuel
  induction fuel with
  | zero =>
    intro listed a w _ _ hr hy hS H
    refine ⟨fun h => (by rw [h] at hr; cases hr), fun j hj => ?_⟩
    by_cases hji : j = i
    · subst hji; exact hy.wpOp hi hS ⟨fun _ => hS, H⟩
    · have := ready_mono hj hji
      rw [H.1] at this
      cases this
  | succ fuel ih =>
    intro listed a w hcl hfree hr hy hS H
    refine ⟨fun h => (by rw [h] at hr; cases hr), fun j hj => ?_⟩
    by_cases hji : j = i
    · subst hji; exact hy.wpOp hi hS ⟨fun _ => hS, H⟩
    · have h1 := H.2 j (ready_mono hj hji)
      obtain ⟨hjun, oj, hoj, hall⟩ := mem_ready.1 hj
      have hiun : listed.getD i false = false := by
        have h0 := (mem_ready.1 hr).1
        rcases Nat.lt_or_ge i listed.size with h' | h'
        · simp [h'] at h0 ⊢; exact h0
        · simp [Array.getElem?_eq_none h'] at h0
      have hnot : ∀ e ∈ oj.after, Region.binds md e = true → e.on ≠ i := fun e he hb heq => by
        have h1 := hall e he hb
        rw [heq, hiun] at h1; cases h1
      have hjtl : j ∉ tl := fun hm => rReach_wait hcl hiun (hre j hm) hj
      have h2 := wpOp_putIf hoj (hfree j oj hoj hji hjun hnot) (fun cs b => hsel i oi cs b hi) (fun cs b => hsel j oj cs b hoj) hQ hy h1
      have hfree' : ∀ k ok, ops[k]? = some ok → k ≠ i → (listed.setIfInBounds j true).getD k true = false →
          (∀ e ∈ ok.after, Region.binds md e = true → e.on ≠ i) → oi.apart ops ok = true := fun k ok hk hki hun hno => by
        refine hfree k ok hk hki ?_ hno
        by_cases hjk : j = k
        · subst hjk; exact hjun
        · rw [getD_set_ne true hjk] at hun; exact hun
      refine wpOp_mono (fun a' w' h3 => ⟨fun _ => h3.2.1 hjtl, ih (listed.setIfInBounds j true) a' w' (hcl.set hj) hfree' (ready_mono hr (Ne.symm hji)) h3.1 (h3.2.1 hjtl) ?_⟩) h2
      rw [Array.setIfInBounds_comm _ _ hji]
      exact h3.2.2

theorem takeT_skip {i : Nat} (f : Nat) (d : Tmp) {oi : Oper} {fuel : Nat} {listed : Array Bool} {a : Act} {w : World} (hi : ops[i]? = some oi) (hd : oi.dst = some d)
    (hs : Region.noSelect ops = true) (hf : Region.free md ops listed i = true) (hr : (Region.ready md ops listed).contains i = true) (hc : rClosedB md ops listed = true)
    (htl : tl.contains i = false) (hre : (tl.all fun T => rReach md ops f i T) = true)
    (hQ : ∀ c a w, Q (.panic c) (a.put (some d) undef) w → Q (.panic c) a w) (hw : Region.wanted oi (yielded ops a.tmps) = false) (hS : S w)
    (h : wpAnyT P md ops Q S tl fuel (listed.setIfInBounds i true) (a.put (some d) undef) w) : wpAnyT P md ops Q S tl (fuel + 1) listed a w :=
  wpAnyT_first hi (Region.noSelect_spec hs) (by rw [hd]; exact hQ) (fun hm => by rw [List.contains_iff_mem.2 hm] at htl; cases htl) (fun T hT => List.all_eq_true.1 hre T hT) fuel listed a w (rClosed_of hc) (Region.free_spec hi hf) (by simpa using hr) (Or.inr ⟨hw, rfl⟩) hS (by rw [hd]; exact h)
theorem takeT_read {i : Nat} (f : Nat) (d : Tmp) {oi : Oper} {v : Value} {fuel : Nat} {listed : Array Bool} {a : Act} {w : World} (hi : ops[i]? = some oi) (hd : oi.dst = some d)
    (hs : Region.noSelect ops = true) (hf : Region.free md ops listed i = true) (hr : (Region.ready md ops listed).contains i = true) (hc : rClosedB md ops listed = true)
    (htl : tl.contains i = false) (hre : (tl.all fun T => rReach md ops f i T) = true)
    (hQ : ∀ c a w, Q (.panic c) (a.put (some d) v) w → Q (.panic c) a w) (hw : Region.wanted oi (yielded ops a.tmps) = true)
    (hy : ∀ w, S w → (execOp a.eval oi).run P w = .ok (.value v) w) (hS : S w)
    (h : wpAnyT P md ops Q S tl fuel (listed.setIfInBounds i true) (a.put (some d) v) w) : wpAnyT P md ops Q S tl (fuel + 1) listed a w :=
  wpAnyT_first hi (Region.noSelect_spec hs) (by rw [hd]; exact hQ) (fun hm => by rw [List.contains_iff_mem.2 hm] at htl; cases htl) (fun T hT => List.all_eq_true.1 hre T hT) fuel listed a w (rClosed_of hc) (Region.free_spec hi hf) (by simpa using hr) (Or.inl ⟨hw, hy⟩) hS (by rw [hd]; exact h)
/-- One operation alone may come up: behind it S is shown anew. -/
theorem stepT {fuel : Nat} {listed : Array Bool} {a : Act} {w : World} (i : Nat) {o : Oper} (hr : Region.ready md ops listed = [i]) (ho : ops[i]? = some o)
    (h : ∀ K' : Act → World → Prop, Shut (∀ a w, S w → (S w → wpAnyT P md ops Q S tl fuel (listed.setIfInBounds i true) a w) → K' a w) → if Region.wanted o (yielded ops a.tmps) = true then Oper.wp P o a w K' Q else K' (a.put o.dst undef) w) :
    wpAnyT P md ops Q S tl (fuel + 1) listed a w := by
  refine ⟨fun h0 => (by rw [hr] at h0; cases h0), fun j hj => ?_⟩
  rw [hr] at hj
  obtain rfl : j = i := by simpa using hj
  exact wpOp_step ho (fun K' hK => h K' (fun a w hS hW => hK a w ⟨fun _ => hS, hW hS⟩))
/-- .. one of the tail: S is asked no more. -/
theorem stepT_end {fuel : Nat} {listed : Array Bool} {a : Act} {w : World} (i : Nat) {o : Oper} (hr : Region.ready md ops listed = [i]) (ho : ops[i]? = some o) (ht : tl.contains i = true)
    (h : ∀ K' : Act → World → Prop, Shut (∀ a w, wpAnyT P md ops Q S tl fuel (listed.setIfInBounds i true) a w → K' a w) → if Region.wanted o (yielded ops a.tmps) = true then Oper.wp P o a w K' Q else K' (a.put o.dst undef) w) :
    wpAnyT P md ops Q S tl (fuel + 1) listed a w := by
  refine ⟨fun h0 => (by rw [hr] at h0; cases h0), fun j hj => ?_⟩
  rw [hr] at hj
  obtain rfl : j = i := by simpa using hj
  exact wpOp_step ho (fun K' hK => h K' (fun a w hW => hK a w ⟨fun hn => absurd (List.contains_iff_mem.1 ht) hn, hW⟩))
theorem doneT {listed : Array Bool} {a : Act} {w : World} (hr : Region.ready md ops listed = []) (h : Q .normal a w) : ∀ fuel, wpAnyT P md ops Q S tl fuel listed a w
  | 0 => ⟨hr, h⟩
  | _ + 1 => ⟨fun _ => h, by rw [hr]; simp⟩
theorem wp_regionT (tl : List Nat) {id : Nat} {a : Act} {w : World} (hm : P.follows .mixedOrders = true) (hS : S w.drew)
    (h : S w.drew → wpAnyT P .any ops Q S tl ops.size (Array.replicate ops.size false) a w.drew) : (Code.region id ops true).wp P Q a w :=
  wp_region_any hm (wpAny_of_T _ _ _ _ (h hS))
end
end Go.Proofs.Ytlicnppfgfjkgaa
namespace Go.Proofs.Ytlicnppfgfjkgaa
open Go.ChangeShapes Go.WideShapes Go.RowKit
set_option linter.unusedVariables false

theorem infoCache : (Try.prog.info? 125).map (fun i => (i.zero, i.size, i.bytes)) = some (some (Value.agg #[.int .i64 0, .slice none 0 0]), 2, 32) := by kernel_rfl
theorem cset_len {x : TCSet} (hn : cCSet.sz x ≤ 1048576) : x.caches.length ≤ 1048576 := by
  have h1 := Cod.len_le cCache x.caches
  have h3 : cCSet.sz x = Cod.szs cCache x.caches := rfl
  omega
theorem cset_cache {x : TCSet} (hn : cCSet.sz x ≤ 1048576) {k : Nat} (hk : k < x.caches.length) : cCache.sz x.caches[k] ≤ 1048576 := by
  have h1 := Cod.sz_mem cCache x.caches _ (List.getElem_mem hk)
  have h3 : cCSet.sz x = Cod.szs cCache x.caches := rfl
  omega
set_option maxRecDepth 100000 in
set_option maxHeartbeats 2000000 in
theorem specCopySet_any (vs : Array Value) (x : TCSet) (F : List Nat) (w : World) (h : cCSet.rep w vs.toList x F) (hn : cCSet.sz x ≤ 1048576) :
    Calls Try.prog 95 #[.agg vs] w (GivesR cCSetO w x) := by
  obtain ⟨i0, hi0, hz0, hz1, hz2⟩ := info_parts infoCache
  obtain ⟨v1, F1, rfl, -, -, m1⟩ := TCSet.outA h
  obtain ⟨A, cp, rfl⟩ := cL_form m1
  obtain ⟨-, hcp, hm⟩ := cL_len m1
  have hnl := cset_len hn
  clear h
  obtain ⟨n, hxn⟩ : ∃ n, x.caches.length = n := ⟨_, rfl⟩
  have HN := Lib.hid hxn
  rw [hxn] at hcp hnl ⊢
  clear hxn
  unfold maxLen at hm
  go_enter Try.func95, Try.ntmps95
  go_wp2
  generalize hW : World.alloc _ _ = W
  have hWs : W.heap.size = w.heap.size + 3 := by rw [← hW]; clear hW; simp
  have hbW : Below w.heap.size w W := by rw [← hW]; exact (by repeat (first | with_reducible exact Below.refl _ _ | with_reducible assumption | with_reducible refine bel_alloc ?_ _ | with_reducible refine bel_drew ?_ | with_reducible refine bel_drewN ?_ _ | (with_reducible refine bel_set ?_ ?_ _; rotate_left; ((try simp); (try omega)))))
  have HK := Lib.hid (show W.cell? ⟨w.heap.size, 0, none⟩ = some (.slice A n cp) ∧ W.cell? ⟨w.heap.size + 1, 0, none⟩ = some (.slice none 0 0) ∧ W.cell? ⟨w.heap.size + 1 + 1, 0, none⟩ = some (.slice none 0 0) from by refine ⟨?_, ?_, ?_⟩ <;> (rw [← hW]; clear hW; go_simp))
  have HZ0 : W.frozen? ⟨w.heap.size + 1, 0, none⟩ = false := by rw [← hW]; clear hW; go_simp
  have HZ1 : W.frozen? ⟨w.heap.size + 1 + 1, 0, none⟩ = false := by rw [← hW]; clear hW; go_simp
  clear hW
  have hfz : W.frozen? ⟨w.heap.size + 1 + 1, 0, none⟩ = false := HZ1
  go_loopw [4] (fun i wr => ∃ k : Nat, k ≤ n ∧ i = .int .i64 k ∧ BoxRow cCacheO 125 W wr (w.heap.size + 1 + 1) 0 (x.caches.take k)) (fun i _ => n - (intOf i).toNat)
  case atStart => exact ⟨0, Nat.zero_le _, rfl, BoxRow.start HK.out.2.2⟩
  case round =>
    obtain ⟨k, hk, rfl, vE, Fi, HB⟩ := hrel
    obtain ⟨Ae, ce, hve⟩ := HB.own.slice
    subst hve
    have hlk : (x.caches.take k).length = k := by rw [List.length_take, HN.out]; omega
    rw [hlk] at HB
    clear hlk
    have hE := HB.cell
    have hfr := (HB.fz 0).trans hfz
    have hz9 := HB.only.size
    have hbw : Below w.heap.size w wr := hbW.trans ((HB.only.bel w.heap.size (by omega) (fun y hy => by simp at hy; omega)).mono (Nat.le_refl _))
    have b0 : wr.cell? ⟨w.heap.size, 0, none⟩ = some (.slice A n cp) := (World.cell?_of_block (HB.only.block w.heap.size (by omega) (by intro hm9; simp at hm9; omega))).trans HK.out.1
    have hws : w.heap.size < wr.heap.size := by omega
    have hws2 : w.heap.size + 1 + 1 < wr.heap.size := by omega
    have hHB := Lib.hid HB
    by_cases hlt : k < n
    · have hkx : k < x.caches.length := by rw [HN.out]; exact hlt
      obtain ⟨g, o, vs, F3, rfl, hgF, hx, -, hc⟩ := cL_get (hw := by decide) (hw2 := by decide) m1 hkx
      obtain ⟨v5, F4, rfl, -, hok5, m5⟩ := TCache.out hx
      obtain ⟨A5, c5, e5⟩ := cL_form m5
      subst e5
      have hgw : g < w.heap.size := Cod.lt _ m1 g hgF
      have q0 := (hbw.cell (p := ⟨g, o + k * 2, none⟩) hgw).trans ((hc 0 _ rfl).1)
      have q1 := (hbw.cell (p := ⟨g, o + k * 2 + 1, none⟩) hgw).trans ((hc 1 _ rfl).1)
      clear hc hx
      have hgr : g < wr.heap.size := by omega
      have hki : ((k : Int) < (n : Int)) := by omega
      have hzr := cset_cache hn hkx
      have hS : ∀ w9, Below wr.heap.size wr w9 → Below wr.heap.size wr w9 ∧ w9.cell? ⟨w.heap.size + 1 + 1, 0, none⟩ = some (.slice Ae k ce) ∧ w9.cell? ⟨w.heap.size, 0, none⟩ = some (.slice (some ⟨g, o, none⟩) n cp) ∧ w9.cell? ⟨g, o + k * 2, none⟩ = some (.int .i64 x.caches[k].ver) ∧ w9.cell? ⟨g, o + k * 2 + 1, none⟩ = some (.slice A5 x.caches[k].entries.length c5) :=
        fun w9 hb => ⟨hb, (hb.cell (p := ⟨w.heap.size + 1 + 1, 0, none⟩) hws2).trans hE, (hb.cell (p := ⟨w.heap.size, 0, none⟩) hws).trans b0, (hb.cell (p := ⟨g, o + k * 2, none⟩) hgr).trans q0, (hb.cell (p := ⟨g, o + k * 2 + 1, none⟩) hgr).trans q1⟩
      have hnlk : k + 1 ≤ 1048577 := by omega
      clear HB hE
      go_wp2_with fail
      refine wp_regionT (S := (fun w9 => Below wr.heap.size wr w9 ∧ w9.cell? ⟨w.heap.size + 1 + 1, 0, none⟩ = some (.slice Ae k ce) ∧ w9.cell? ⟨w.heap.size, 0, none⟩ = some (.slice (some ⟨g, o, none⟩) n cp) ∧ w9.cell? ⟨g, o + k * 2, none⟩ = some (.int .i64 x.caches[k].ver) ∧ w9.cell? ⟨g, o + k * 2 + 1, none⟩ = some (.slice A5 x.caches[k].entries.length c5))) [9, 10, 11] (by kernel_rfl) (by (try dsimp only); exact hS _ (by repeat (first | with_reducible exact Below.refl _ _ | with_reducible assumption | with_reducible refine bel_alloc ?_ _ | with_reducible refine bel_drew ?_ | with_reducible refine bel_drewN ?_ _ | (with_reducible refine bel_set ?_ ?_ _; rotate_left; ((try simp); (try omega)))))) (fun hHeld => ?_)
      refine takeT_read (i := 0) 12 13 (v := ?v0) rfl rfl (by kernel_rfl) (by kernel_rfl) (by kernel_rfl) (by kernel_rfl) (by kernel_rfl) (by kernel_rfl) (fun _ _ _ h => h) (by rfl) ?hy0 (by assumption) ?rest0
      case hy0 => (intro w hSw; (try dsimp only at hSw); go_simp; (try with_reducible rfl))
      try simp only [Act.put, List.setIfInBounds_toArray, List.set_cons_zero, List.set_cons_succ]
      refine takeT_read (i := 1) 12 14 (v := ?v1) rfl rfl (by kernel_rfl) (by kernel_rfl) (by kernel_rfl) (by kernel_rfl) (by kernel_rfl) (by kernel_rfl) (fun _ _ _ h => h) (by rfl) ?hy1 (by assumption) ?rest1
      case hy1 => (intro w hSw; (try dsimp only at hSw); go_simp; (try with_reducible rfl))
      try simp only [Act.put, List.setIfInBounds_toArray, List.set_cons_zero, List.set_cons_succ]
      refine takeT_read (i := 2) 12 15 (v := ?v2) rfl rfl (by kernel_rfl) (by kernel_rfl) (by kernel_rfl) (by kernel_rfl) (by kernel_rfl) (by kernel_rfl) (fun _ _ _ h => h) (by rfl) ?hy2 (by assumption) ?rest2
      case hy2 => (intro w hSw; (try dsimp only at hSw); go_simp; (try with_reducible rfl))
      try simp only [Act.put, List.setIfInBounds_toArray, List.set_cons_zero, List.set_cons_succ]
      refine takeT_read (i := 3) 12 16 (v := ?v3) rfl rfl (by kernel_rfl) (by kernel_rfl) (by kernel_rfl) (by kernel_rfl) (by kernel_rfl) (by kernel_rfl) (fun _ _ _ h => h) (by rfl) ?hy3 (by assumption) ?rest3
      case hy3 => (intro w hSw; (try dsimp only at hSw); go_simp; (try with_reducible rfl))
      try simp only [Act.put, List.setIfInBounds_toArray, List.set_cons_zero, List.set_cons_succ]
      refine takeT_read (i := 4) 12 17 (v := ?v4) rfl rfl (by kernel_rfl) (by kernel_rfl) (by kernel_rfl) (by kernel_rfl) (by kernel_rfl) (by kernel_rfl) (fun _ _ _ h => h) (by rfl) ?hy4 (by assumption) ?rest4
      case hy4 => (intro w hSw; (try dsimp only at hSw); go_simp; (try with_reducible rfl))
      try simp only [Act.put, List.setIfInBounds_toArray, List.set_cons_zero, List.set_cons_succ]
      refine takeT_read (i := 5) 12 18 (v := ?v5) rfl rfl (by kernel_rfl) (by kernel_rfl) (by kernel_rfl) (by kernel_rfl) (by kernel_rfl) (by kernel_rfl) (fun _ _ _ h => h) (by rfl) ?hy5 (by assumption) ?rest5
      case hy5 => (intro w hSw; (try dsimp only at hSw); go_simp; (try with_reducible rfl))
      try simp only [Act.put, List.setIfInBounds_toArray, List.set_cons_zero, List.set_cons_succ]
      refine takeT_read (i := 6) 12 19 (v := ?v6) rfl rfl (by kernel_rfl) (by kernel_rfl) (by kernel_rfl) (by kernel_rfl) (by kernel_rfl) (by kernel_rfl) (fun _ _ _ h => h) (by rfl) ?hy6 (by assumption) ?rest6
      case hy6 => (intro w hSw; (try dsimp only at hSw); go_simp; (try with_reducible rfl))
      try simp only [Act.put, List.setIfInBounds_toArray, List.set_cons_zero, List.set_cons_succ]
      refine stepT 7 (by kernel_rfl) rfl (fun K hK => ?_)
      go_simp
      (go_at_call 141; refine (specCopyCache_any _ x.caches[k] _ _ (by exact TCache.mk_ hok5 (Cod.bel m5 (bel_then hbw (by repeat (first | with_reducible exact Below.refl _ _ | with_reducible assumption | with_reducible refine bel_alloc ?_ _ | with_reducible refine bel_drew ?_ | with_reducible refine bel_drewN ?_ _ | (with_reducible refine bel_set ?_ ?_ _; rotate_left; ((try simp); (try omega)))))))) hzr).mono ?_; rintro e w1 ⟨vs1, G1, rfl, hb1, hrep1, hf1⟩; obtain ⟨B6, d6, e6, hok6, n6⟩ := TCache.outO hrep1; obtain rfl := Array.toList_inj.1 (e6 : _ = (#[_, _] : Array Value).toList); have hbr1 : Below wr.heap.size wr w1 := bel_then (by repeat (first | with_reducible exact Below.refl _ _ | with_reducible assumption | with_reducible refine bel_alloc ?_ _ | with_reducible refine bel_drew ?_ | with_reducible refine bel_drewN ?_ _ | (with_reducible refine bel_set ?_ ?_ _; rotate_left; ((try simp); (try omega))))) hb1)
      try go_wp2_with fail
      refine hK.out _ _ ?_ (fun hHeld => ?_)
      · (try dsimp only)
        exact hS _ (by repeat (first | with_reducible exact Below.refl _ _ | with_reducible assumption | with_reducible refine bel_alloc ?_ _ | with_reducible refine bel_drew ?_ | with_reducible refine bel_drewN ?_ _ | (with_reducible refine bel_set ?_ ?_ _; rotate_left; ((try simp); (try omega)))))
      clear hK K
      refine stepT 8 (by kernel_rfl) rfl (fun K hK => ?_)
      first | (go_at_call 141; refine (specCopyCache_any _ x.caches[k] _ _ (by exact TCache.mk_ hok5 (Cod.bel m5 (bel_then hbw (by repeat (first | with_reducible exact Below.refl _ _ | with_reducible assumption | with_reducible refine bel_alloc ?_ _ | with_reducible refine bel_drew ?_ | with_reducible refine bel_drewN ?_ _ | (with_reducible refine bel_set ?_ ?_ _; rotate_left; ((try simp); (try omega)))))))) hzr).mono ?_; rintro e w1 ⟨vs1, G1, rfl, hb1, hrep1, hf1⟩; obtain ⟨B6, d6, e6, hok6, n6⟩ := TCache.outO hrep1; obtain rfl := Array.toList_inj.1 (e6 : _ = (#[_, _] : Array Value).toList); have hbr1 : Below wr.heap.size wr w1 := bel_then (by repeat (first | with_reducible exact Below.refl _ _ | with_reducible assumption | with_reducible refine bel_alloc ?_ _ | with_reducible refine bel_drew ?_ | with_reducible refine bel_drewN ?_ _ | (with_reducible refine bel_set ?_ ?_ _; rotate_left; ((try simp); (try omega))))) hb1) | go_simp
      refine hK.out _ _ ?_ (fun hHeld => ?_)
      · (try dsimp only)
        exact hS _ (by repeat (first | with_reducible exact Below.refl _ _ | with_reducible assumption | with_reducible refine bel_alloc ?_ _ | with_reducible refine bel_drew ?_ | with_reducible refine bel_drewN ?_ _ | (with_reducible refine bel_set ?_ ?_ _; rotate_left; ((try simp); (try omega)))))
      clear hK K
      refine stepT_end 9 (by kernel_rfl) rfl (by kernel_rfl) (fun K hK => ?_)
      (refine step_box (c := cCacheO) (ys := [x.caches[k]]) (G := G1) rfl _ _ _ rfl i0 _ _ Try.underlying70 hi0 hz0 hz1 hz2 rfl (by decide) rfl (.slice (some ⟨w1.heap.size, 0, none⟩) 1 1) rfl (by omega) hHB.out (by repeat (first | with_reducible exact Below.refl _ _ | with_reducible assumption | with_reducible refine bel_alloc ?_ _ | with_reducible refine bel_drew ?_ | with_reducible refine bel_drewN ?_ _ | (with_reducible refine bel_set ?_ ?_ _; rotate_left; ((try simp); (try omega))))) (hf1.mono (by (try simp); (try omega))) (fun b hb => by have h9 := Cod.lt _ n6 b hb; (try simp); omega) (src_new (vs := #[_, _]) _ _ (by simp) (TCache.mkO hok6 n6)) (k + 1) (by have h9 := HN.out; simp only [List.length_append, List.length_take, List.length_singleton]; omega) (by unfold maxLen; omega) (by omega) ?_; intro A2 c2 w2 HA; rw [take_next hkx] at HA; have hX := HA.cell; have hXf := (HA.fz 0).trans hfz; have HR := Lib.hid HA.row; clear HA)
      refine hK.out _ _ ?_
      clear hK K
      refine stepT_end 10 (by kernel_rfl) rfl (by kernel_rfl) (fun K hK => ?_)
      go_simp
      refine hK.out _ _ ?_
      clear hK K
      refine stepT_end 11 (by kernel_rfl) rfl (by kernel_rfl) (fun K hK => ?_)
      go_simp
      refine hK.out _ _ ?_
      clear hK K
      refine doneT (by kernel_rfl) ?_ _
      go_wp2_with fail
      go_roundw
      case rel => exact ⟨k + 1, by omega, by go_num, HR.out⟩
      case measure => simp [intOf]; omega
    · obtain rfl : k = n := by omega
      have hb9 := HB.only.block (w.heap.size + 1) (by omega) (by simp)
      have d0 : wr.cell? ⟨w.heap.size + 1, 0, none⟩ = some (.slice none 0 0) := (World.cell?_of_block hb9).trans HK.out.2.1
      have f0 : wr.frozen? ⟨w.heap.size + 1, 0, none⟩ = false := (World.frozen?_of_block hb9).trans HZ0
      have hws1 : w.heap.size + 1 < wr.heap.size := by omega
      have htl : x.caches.take k = x.caches := List.take_of_length_le (by rw [HN.out]; exact Nat.le_refl _)
      have hown := HB.own
      rw [htl] at hown
      obtain ⟨hrep, hff⟩ := hown.toO (hw2 := by decide) HB.fresh HB.ne
      have hlow : ∀ b, b ∈ ownL (.slice Ae k ce) ++ Fi → W.heap.size ≤ b := hff.1
      have HRP := Lib.hid hrep
      clear HB hown hrep htl hb9
      go_wp2_with fail
      refine bodyPost_ret (v := .agg #[.slice Ae k ce]) (by simp [results, Try.results95, go_sem, *]) rfl ?_
      have hfin : cCachesO.rep wr [.slice Ae k ce] x.caches (ownL (.slice Ae k ce) ++ Fi) := HRP.out
      exact ⟨_, _, rfl, (by repeat (first | with_reducible exact Below.refl _ _ | with_reducible assumption | with_reducible refine bel_alloc ?_ _ | with_reducible refine bel_drew ?_ | with_reducible refine bel_drewN ?_ _ | (with_reducible refine bel_set ?_ ?_ _; rotate_left; ((try simp); (try omega))))), TCSet.mkO (by repeat (first | with_reducible exact hfin | with_reducible refine Cod.allocA ?_ _ | with_reducible refine Cod.drewA ?_ | with_reducible refine Cod.drewNA ?_ _ | ((with_reducible refine Cod.setA ?_ ?_ _); rotate_left; ((intro hm9; have hm8 := hlow _ hm9; (try simp at hm8); (try omega)))))), hff.mono (by omega)⟩
end Go.Proofs.Ytlicnppfgfjkgaa
namespace Go.Proofs.Ytlicnppfgfjkgaa
open Go.ChangeShapes Go.WideShapes Go.RowKit
set_option linter.unusedVariables false

set_option maxRecDepth 100000 in
set_option maxHeartbeats 4000000 in
theorem implCopySet_any (vs : Array Value) (x : TCSet) (F : List Nat) (w : World) (h : cCSet.rep w vs.toList x F) (hn : cCSet.sz x ≤ 1048576) :
    Calls Try.prog 92 #[.agg vs] w (GivesR cCSetO w x) := by
  obtain ⟨i0, hi0, hz0, hz1, hz2⟩ := info_parts infoCache
  obtain ⟨j0, hj0, jz0, jz1, jz2⟩ := info_parts infoCached
  obtain ⟨v1, F1, rfl, -, -, m1⟩ := TCSet.outA h
  obtain ⟨A, cp, rfl⟩ := cL_form m1
  obtain ⟨-, hcp, hm⟩ := cL_len m1
  have hnl := cset_len hn
  clear h
  obtain ⟨n, hxn⟩ : ∃ n, x.caches.length = n := ⟨_, rfl⟩
  have HN := Lib.hid hxn
  rw [hxn] at hcp hnl ⊢
  clear hxn
  unfold maxLen at hm
  go_enter Try.func92, Try.ntmps92
  go_wp2
  generalize hW : World.alloc _ _ = W
  have hWs : W.heap.size = w.heap.size + 3 := by rw [← hW]; clear hW; simp
  have hbW : Below w.heap.size w W := by rw [← hW]; exact (by repeat (first | with_reducible exact Below.refl _ _ | with_reducible assumption | with_reducible refine bel_alloc ?_ _ | with_reducible refine bel_drew ?_ | with_reducible refine bel_drewN ?_ _ | (with_reducible refine bel_set ?_ ?_ _; rotate_left; ((try simp); (try omega)))))
  have HK := Lib.hid (show W.cell? ⟨w.heap.size, 0, none⟩ = some (.slice A n cp) ∧ W.cell? ⟨w.heap.size + 1, 0, none⟩ = some (.slice none 0 0) ∧ W.cell? ⟨w.heap.size + 1 + 1, 0, none⟩ = some (.slice none 0 0) from by refine ⟨?_, ?_, ?_⟩ <;> (rw [← hW]; clear hW; go_simp))
  have HZ0 : W.frozen? ⟨w.heap.size + 1, 0, none⟩ = false := by rw [← hW]; clear hW; go_simp
  have HZ1 : W.frozen? ⟨w.heap.size + 1 + 1, 0, none⟩ = false := by rw [← hW]; clear hW; go_simp
  clear hW
  have hfz : W.frozen? ⟨w.heap.size + 1 + 1, 0, none⟩ = false := HZ1
  go_loopw [13] (fun i wr => ∃ k : Nat, k ≤ n ∧ i = .int .i64 k ∧ BoxRow cCacheO 125 W wr (w.heap.size + 1 + 1) 0 (x.caches.take k)) (fun i _ => n - (intOf i).toNat)
  case atStart => exact ⟨0, Nat.zero_le _, rfl, BoxRow.start HK.out.2.2⟩
  case round =>
    obtain ⟨k, hk, rfl, vE, Fi, HB⟩ := hrel
    obtain ⟨Ae, ce, hve⟩ := HB.own.slice
    subst hve
    have hlk : (x.caches.take k).length = k := by rw [List.length_take, HN.out]; omega
    rw [hlk] at HB
    clear hlk
    have hE := HB.cell
    have hfr := (HB.fz 0).trans hfz
    have hz9 := HB.only.size
    have hbw : Below w.heap.size w wr := hbW.trans ((HB.only.bel w.heap.size (by omega) (fun y hy => by simp at hy; omega)).mono (Nat.le_refl _))
    have b0 : wr.cell? ⟨w.heap.size, 0, none⟩ = some (.slice A n cp) := (World.cell?_of_block (HB.only.block w.heap.size (by omega) (by intro hm9; simp at hm9; omega))).trans HK.out.1
    have hws : w.heap.size < wr.heap.size := by omega
    have hws2 : w.heap.size + 1 + 1 < wr.heap.size := by omega
    have hHB := Lib.hid HB
    by_cases hlt : k < n
    · have hkx : k < x.caches.length := by rw [HN.out]; exact hlt
      obtain ⟨g, o, vs, F3, rfl, hgF, hx, -, hc⟩ := cL_get (hw := by decide) (hw2 := by decide) m1 hkx
      obtain ⟨v5, F4, rfl, -, hok5, m5⟩ := TCache.out hx
      obtain ⟨A5, c5, e5⟩ := cL_form m5
      subst e5
      obtain ⟨-, hcp5, hm5⟩ := cL_len m5
      have hgw : g < w.heap.size := Cod.lt _ m1 g hgF
      have q0 := (hbw.cell (p := ⟨g, o + k * 2, none⟩) hgw).trans ((hc 0 _ rfl).1)
      have q1 := (hbw.cell (p := ⟨g, o + k * 2 + 1, none⟩) hgw).trans ((hc 1 _ rfl).1)
      clear hc hx
      have hgr : g < wr.heap.size := by omega
      have hgn : ¬ g = wr.heap.size := by omega
      have hki : ((k : Int) < (n : Int)) := by omega
      have hzr := cset_cache hn hkx
      have hnl5 := cache_len hzr
      have hnlk : k + 1 ≤ 1048577 := by omega
      obtain ⟨m, hxm⟩ : ∃ m, x.caches[k].entries.length = m := ⟨_, rfl⟩
      have HM := Lib.hid hxm
      rw [hxm] at hcp5 hnl5 q1
      clear hxm
      unfold maxLen at hm5
      clear HB
      go_wp2
      generalize hV : World.alloc _ _ = V
      have hVs : V.heap.size = wr.heap.size + 2 := by rw [← hV]; clear hV; simp
      have hbV : Below wr.heap.size wr V := by rw [← hV]; exact (by repeat (first | with_reducible exact Below.refl _ _ | with_reducible assumption | with_reducible refine bel_alloc ?_ _ | with_reducible refine bel_drew ?_ | with_reducible refine bel_drewN ?_ _ | (with_reducible refine bel_set ?_ ?_ _; rotate_left; ((try simp); (try omega)))))
      have y0 : V.cell? ⟨wr.heap.size + 1, 0, none⟩ = some (.int .i64 x.caches[k].ver) := by rw [← hV]; clear hV; go_simp
      have y1 : V.cell? ⟨wr.heap.size + 1, 1, none⟩ = some (.slice none 0 0) := by rw [← hV]; clear hV; go_simp
      have z1 : V.frozen? ⟨wr.heap.size + 1, 1, none⟩ = false := by rw [← hV]; clear hV; go_simp
      clear hV
      have HY := Lib.hid (And.intro y0 (And.intro y1 z1))
      clear y0 y1 z1
      obtain ⟨wo, rfl⟩ : ∃ wo : World, wo = wr := ⟨_, rfl⟩
      go_loopw [23] (fun i wi => ∃ j : Nat, j ≤ m ∧ i = .int .i64 j ∧ BoxRow cCached 129 V wi (wo.heap.size + 1) 1 (x.caches[k].entries.take j)) (fun i _ => m - (intOf i).toNat)
      case atStart => exact ⟨0, Nat.zero_le _, rfl, BoxRow.start HY.out.2.1⟩
      case round =>
        obtain ⟨j, hj, rfl, vX, FiX, HX⟩ := hrel
        obtain ⟨Ax, cx, hvx⟩ := HX.own.slice
        subst hvx
        have hlj : (x.caches[k].entries.take j).length = j := by rw [List.length_take, HM.out]; omega
        rw [hlj] at HX
        clear hlj
        have hX1 := HX.cell
        have hfx := (HX.fz 1).trans HY.out.2.2
        have hX0 := (HX.oth 0 (by decide)).trans HY.out.1
        have hzi := HX.only.size
        have hbi : Below wo.heap.size wo wr := hbV.trans ((HX.only.bel wo.heap.size (by omega) (fun y hy => by simp at hy; omega)).mono (Nat.le_refl _))
        have hbwi : Below w.heap.size w wr := bel_then hbw hbi
        have hwsi : wo.heap.size + 1 < wr.heap.size := by omega
        have hwsj : w.heap.size + 1 + 1 < wr.heap.size := by omega
        have hHX := Lib.hid HX
        by_cases hltj : j < m
        · have hjx : j < x.caches[k].entries.length := by rw [HM.out]; exact hltj
          obtain ⟨g2, o2, vs2, F5, rfl, hgF2, hx2, -, hc2⟩ := cL_get (hw := by decide) (hw2 := by decide) m5 hjx
          obtain ⟨v7, F7, rfl, -, hok7, m7⟩ := TCached.out hx2
          obtain ⟨A7, c7, e7⟩ := cL_form m7
          subst e7
          have hgw2 : g2 < w.heap.size := Cod.lt _ m5 g2 hgF2
          have r0 := (hbwi.cell (p := ⟨g2, o2 + j * 7, none⟩) hgw2).trans ((hc2 0 _ rfl).1)
          have r1 := (hbwi.cell (p := ⟨g2, o2 + j * 7 + 1, none⟩) hgw2).trans ((hc2 1 _ rfl).1)
          have r2 := (hbwi.cell (p := ⟨g2, o2 + j * 7 + 2, none⟩) hgw2).trans ((hc2 2 _ rfl).1)
          have r3 := (hbwi.cell (p := ⟨g2, o2 + j * 7 + 3, none⟩) hgw2).trans ((hc2 3 _ rfl).1)
          have r4 := (hbwi.cell (p := ⟨g2, o2 + j * 7 + 4, none⟩) hgw2).trans ((hc2 4 _ rfl).1)
          have r5 := (hbwi.cell (p := ⟨g2, o2 + j * 7 + 5, none⟩) hgw2).trans ((hc2 5 _ rfl).1)
          have r6 := (hbwi.cell (p := ⟨g2, o2 + j * 7 + 6, none⟩) hgw2).trans ((hc2 6 _ rfl).1)
          clear hc2 hx2
          have hgr2 : g2 < wr.heap.size := by omega
          have hgn2 : ¬ g2 = wr.heap.size := by omega
          have hji : ((j : Int) < (m : Int)) := by omega
          have hokr := TCached.sub hok7
          have hzr2 := cache_resp hzr hjx
          clear HX hX0
          go_wp2_with fail
          refine (implCopyResp_any _ x.caches[k].entries[j].resp _ _ (by exact TResp.mk_ hokr (Cod.bel m7 (by repeat (first | with_reducible exact Below.refl _ _ | with_reducible assumption | with_reducible refine bel_alloc ?_ _ | with_reducible refine bel_drew ?_ | with_reducible refine bel_drewN ?_ _ | (with_reducible refine bel_set ?_ ?_ _; rotate_left; ((try simp); (try omega))))))) hzr2).mono ?_
          rintro e w1 ⟨vs1, G1, rfl, hb1, hrep1, hf1⟩
          obtain ⟨v6, _, rfl, rfl, hok6, n6⟩ := TResp.outA hrep1
          obtain ⟨B6, d6, rfl⟩ := cL_form n6
          have hzz := hb1.size
          (try simp at hzz)
          have hs1 : wr.heap.size < w1.heap.size := by omega
          obtain ⟨hc1, hff1, -⟩ := bcell hb1
          have hbr1 : Below wr.heap.size wr w1 := bel_then (by repeat (first | with_reducible exact Below.refl _ _ | with_reducible assumption | with_reducible refine bel_alloc ?_ _ | with_reducible refine bel_drew ?_ | with_reducible refine bel_drewN ?_ _ | (with_reducible refine bel_set ?_ ?_ _; rotate_left; ((try simp); (try omega))))) hb1
          have hnb : ∀ b, b ∈ G1 → wr.heap.size + 1 ≤ b ∧ b < w1.heap.size := fun b hb => ⟨by have := hf1.1 b hb; (try simp at this); omega, Cod.lt _ n6 b hb⟩
          have hE1 : w1.cell? ⟨wo.heap.size + 1, 1, none⟩ = some (.slice Ax j cx) := (hbr1.cell (p := ⟨wo.heap.size + 1, 1, none⟩) hwsi).trans hX1
          have hfr1 : w1.frozen? ⟨wo.heap.size + 1, 1, none⟩ = false := (hbr1.frozen (p := ⟨wo.heap.size + 1, 1, none⟩) hwsi).trans hfx
          have hwn : ¬ wr.heap.size = wo.heap.size + 1 := by omega
          have hwn2 : ¬ wo.heap.size + 1 = wr.heap.size := by omega
          have hws3 : wo.heap.size + 1 < w1.heap.size := by omega
          have hnlj : j + 1 ≤ 1048577 := by omega
          clear hb1 hrep1
          go_wp2_with (at_builtin; refine stop_ ?_)
          refine Stop.go ?_
          refine wpList_box (c := cCached) (ys := [x.caches[k].entries[j]]) (G := G1) rfl _ _ _ rfl j0 _ _ Try.underlying123 hj0 jz0 jz1 jz2 rfl (by decide) rfl (.slice (some ⟨w1.heap.size, 0, none⟩) 1 1) rfl (by omega) hHX.out ?hbel (hf1.mono (by (try simp); (try omega))) ?hGl ?hsrc (j + 1) ?hm9 ?h1 ?h2 ?h3
          case hbel => exact (by repeat (first | with_reducible exact Below.refl _ _ | with_reducible assumption | with_reducible refine bel_alloc ?_ _ | with_reducible refine bel_drew ?_ | with_reducible refine bel_drewN ?_ _ | (with_reducible refine bel_set ?_ ?_ _; rotate_left; ((try simp); (try omega)))))
          case hGl => (intro b hb; have h9 := hnb b hb; (try simp); omega)
          case hsrc => exact src_new _ _ (by simp) (TCached.mk_ (x := x.caches[k].entries[j]) hok7 (by repeat (first | with_reducible exact n6 | with_reducible refine Cod.allocA ?_ _ | with_reducible refine Cod.drewA ?_ | with_reducible refine Cod.drewNA ?_ _ | ((with_reducible refine Cod.setA ?_ ?_ _); rotate_left; ((intro hm9; have hm8 := hnb _ hm9; (try simp at hm8); (try omega)))))))
          case hm9 => (have h9 := HM.out; simp only [List.length_append, List.length_take, List.length_singleton]; omega)
          case h1 => (unfold maxLen; omega)
          case h2 => omega
          intro A2 c2 w2 HA
          rw [take_next hjx] at HA
          have hX := HA.cell
          have hXf := (HA.fz 1).trans HY.out.2.2
          have hs4 := HA.size
          (try simp at hs4)
          have HR := Lib.hid HA.row
          clear HA
          have hsz2 : wo.heap.size + 1 < w2.heap.size := by omega
          go_wp2_with fail
          go_roundw
          case rel => exact ⟨j + 1, by omega, by go_num, HR.out⟩
          case measure => simp [intOf]; omega
        · obtain rfl : j = m := by omega
          have htl : x.caches[k].entries.take j = x.caches[k].entries := List.take_of_length_le (by rw [HM.out]; exact Nat.le_refl _)
          have hownX := HX.own
          rw [htl] at hownX
          obtain ⟨hrepX, hffX⟩ := hownX.toO (hw2 := by decide) HX.fresh HX.ne
          have hltX := Cod.lt _ hrepX
          have hEi : wr.cell? ⟨w.heap.size + 1 + 1, 0, none⟩ = some (.slice Ae k ce) := (hbi.cell (p := ⟨w.heap.size + 1 + 1, 0, none⟩) hws2).trans hE
          have hfi : wr.frozen? ⟨w.heap.size + 1 + 1, 0, none⟩ = false := (hbi.frozen (p := ⟨w.heap.size + 1 + 1, 0, none⟩) hws2).trans hfr
          have HRX := Lib.hid hrepX
          clear HX hownX hrepX htl
          go_wp2_with (at_builtin; refine stop_ ?_)
          refine Stop.go ?_
          refine wpList_box (c := cCacheO) (ys := [x.caches[k]]) (G := ownL (.slice Ax j cx) ++ FiX) rfl _ _ _ rfl i0 _ _ Try.underlying70 hi0 hz0 hz1 hz2 rfl (by decide) rfl (.slice (some ⟨wr.heap.size, 0, none⟩) 1 1) rfl (by omega) hHB.out ?hbel2 (hffX.mono (by omega)) ?hGl2 ?hsrc2 (k + 1) ?hm92 ?h12 ?h22 ?h32
          case hbel2 => exact bel_then hbi (by repeat (first | with_reducible exact Below.refl _ _ | with_reducible assumption | with_reducible refine bel_alloc ?_ _ | with_reducible refine bel_drew ?_ | with_reducible refine bel_drewN ?_ _ | (with_reducible refine bel_set ?_ ?_ _; rotate_left; ((try simp); (try omega)))))
          case hGl2 => (intro b hb; have h9 := hltX b hb; (try simp); omega)
          case hsrc2 => exact src_new (vs := #[_, _]) _ _ rfl (TCache.mkO hok5 HRX.out)
          case hm92 => (have h9 := HN.out; simp only [List.length_append, List.length_take, List.length_singleton]; omega)
          case h12 => (unfold maxLen; omega)
          case h22 => omega
          intro A2 c2 w2 HA
          rw [take_next hkx] at HA
          have hX := HA.cell
          have hXf := (HA.fz 0).trans hfz
          have hs4 := HA.size
          (try simp at hs4)
          have HR := Lib.hid HA.row
          clear HA
          have hsz2 : w.heap.size + 1 + 1 < w2.heap.size := by omega
          go_wp2_with fail
          go_roundw
          case rel => exact ⟨k + 1, by omega, by go_num, HR.out⟩
          case measure => simp [intOf]; omega
    · obtain rfl : k = n := by omega
      have hb9 := HB.only.block (w.heap.size + 1) (by omega) (by simp)
      have d0 : wr.cell? ⟨w.heap.size + 1, 0, none⟩ = some (.slice none 0 0) := (World.cell?_of_block hb9).trans HK.out.2.1
      have f0 : wr.frozen? ⟨w.heap.size + 1, 0, none⟩ = false := (World.frozen?_of_block hb9).trans HZ0
      have hws1 : w.heap.size + 1 < wr.heap.size := by omega
      have htl : x.caches.take k = x.caches := List.take_of_length_le (by rw [HN.out]; exact Nat.le_refl _)
      have hown := HB.own
      rw [htl] at hown
      obtain ⟨hrep, hff⟩ := hown.toO (hw2 := by decide) HB.fresh HB.ne
      have hlow : ∀ b, b ∈ ownL (.slice Ae k ce) ++ Fi → W.heap.size ≤ b := hff.1
      have HRP := Lib.hid hrep
      clear HB hown hrep htl hb9
      go_wp2_with fail
      refine bodyPost_ret (v := .agg #[.slice Ae k ce]) (by simp [results, Try.results92, go_sem, *]) rfl ?_
      have hfin : cCachesO.rep wr [.slice Ae k ce] x.caches (ownL (.slice Ae k ce) ++ Fi) := HRP.out
      exact ⟨_, _, rfl, (by repeat (first | with_reducible exact Below.refl _ _ | with_reducible assumption | with_reducible refine bel_alloc ?_ _ | with_reducible refine bel_drew ?_ | with_reducible refine bel_drewN ?_ _ | (with_reducible refine bel_set ?_ ?_ _; rotate_left; ((try simp); (try omega))))), TCSet.mkO (by repeat (first | with_reducible exact hfin | with_reducible refine Cod.allocA ?_ _ | with_reducible refine Cod.drewA ?_ | with_reducible refine Cod.drewNA ?_ _ | ((with_reducible refine Cod.setA ?_ ?_ _); rotate_left; ((intro hm9; have hm8 := hlow _ hm9; (try simp at hm8); (try omega)))))), hff.mono (by omega)⟩
end Go.Proofs.Ytlicnppfgfjkgaa
namespace Go.Proofs.Ytlicnppfgfjkgaa
open Go.ChangeShapes Go.WideShapes Go.RowKit
set_option linter.unusedVariables false

section
variable {α : Type} {c : Cod α} {e : TypeId} {B : Nat} {w w' : World} {A : Option Addr} {n cp : Nat} {xs : List α} {Fi : List Nat}
theorem Own.split (hw : 0 < c.wd) (h : Own c e B w (.slice A n cp) xs Fi) {k j : Nat} (hkj : k ≤ j) (hj : j ≤ xs.length) (hn : 0 < xs.length) :
    ∃ g F1 F2, A = some ⟨g, 0, none⟩ ∧ n = xs.length ∧ n ≤ cp ∧ cp ≤ maxLen ∧ Own c e B w (.slice A k cp) (xs.take k) F1 ∧ AppSrc c w (.slice (if cp = j then A else some ⟨g, j * c.wd, none⟩) (n - j) (cp - j)) (xs.drop j) F2 ∧
      (F1 ++ F2).Sublist Fi ∧ ownB (.slice A k cp) = some g ∧ ownB (.slice A n cp) = some g ∧ B ≤ g ∧ (∀ i, i < cp * c.wd → ∃ u, w.cell? ⟨g, i, none⟩ = some u) ∧ ∀ i, w.frozen? ⟨g, i, none⟩ = false := by
  rcases h.form with ⟨rfl, -⟩ | ⟨g, cap, cur, us, hv, hB, hh, hnc, hcm, hsz, ht, ho, hr⟩
  · simp at hn
  · simp only [Value.slice.injEq] at hv
    obtain ⟨rfl, rfl, rfl⟩ := hv
    rw [← List.take_append_drop j xs] at hr
    obtain ⟨u12, u3, G12, G3, hus, rfl, r12, r3⟩ := Cod.reps_cut hr
    rw [← List.take_append_drop k (xs.take j), List.take_take, Nat.min_eq_left hkj] at r12
    obtain ⟨u1, u2, G1, G2, hu12, rfl, r1, r2⟩ := Cod.reps_cut r12
    have hl1 := Cod.reps_len r1
    rw [List.length_take, Nat.min_eq_left (Nat.le_trans hkj hj)] at hl1
    have hl2 := Cod.reps_len r2
    rw [List.length_drop, List.length_take, Nat.min_eq_left hj] at hl2
    have hl12 : u12.length = j * c.wd := by rw [hu12, List.length_append, hl1, hl2, ← Nat.add_mul, Nat.add_sub_cancel' hkj]
    have hus' : us = u1 ++ (u2 ++ u3) := by rw [hus, hu12, List.append_assoc]
    have hkl : k * c.wd ≤ xs.length * c.wd := Nat.mul_le_mul_right _ (Nat.le_trans hkj hj)
    have htk : cur.toList.take (k * c.wd) = u1 := by
      have : (cur.toList.take (xs.length * c.wd)).take (k * c.wd) = u1 := by rw [ht, hus', ← hl1]; simp
      rwa [List.take_take, Nat.min_eq_left hkl] at this
    refine ⟨g, G1, G3, rfl, rfl, hnc, hcm, .inr ⟨u1, ⟨by rw [hl1, List.length_take, Nat.min_eq_left (Nat.le_trans hkj hj)], .inr ⟨g, cap + 1, cur, by rw [List.length_take, Nat.min_eq_left (Nat.le_trans hkj hj)], hB, hh, by rw [List.length_take]; omega, hcm, hsz, by rw [List.length_take, Nat.min_eq_left (Nat.le_trans hkj hj)]; exact htk⟩⟩, r1⟩, ?_, ?_, rfl, rfl, hB, fun i hi => ⟨cur[i]'(by rw [hsz]; exact hi), by rw [(show Blk w g e cur from hh).cell, Array.getElem?_eq_getElem]⟩, fun i => (show Blk w g e cur from hh).frozen i⟩
    · refine ⟨_, cap + 1 - j, u3, by rw [List.length_drop], r3, fun hp => ?_⟩
      rw [List.length_drop] at hp
      rw [if_neg (by omega)]
      refine ⟨_, rfl, fun i u hu => ?_⟩
      rw [Addr.add_lit]
      have h1 : us[j * c.wd + i]? = some u := by rw [hus, List.getElem?_append_right (by omega), hl12, Nat.add_sub_cancel_left]; exact hu
      have h2 := (List.getElem?_eq_some_iff.1 h1).1
      rw [ho.1] at h2
      exact (ho.cellAt _ h2).trans h1
    · rw [List.append_assoc]
      exact (List.Sublist.refl G1).append (List.sublist_append_right _ _)
theorem Own.setTail (h : Own c e B w (.slice A n cp) xs Fi) {g o : Nat} (ho : xs.length * c.wd ≤ o) (hg : g ∉ Fi) (u : Value) : Own c e B (w.setCell ⟨g, o, none⟩ u) (.slice A n cp) xs Fi := by
  rcases h.form with h | ⟨g', cap, cur, us, hv, hB, hh, hnc, hcm, hsz, ht, ho', hr⟩
  · exact .inl h
  · have hr' : c.reps (w.setCell ⟨g, o, none⟩ u) us xs Fi := Cod.reps_keep hr fun b hb => Below.heap_setCell _ _ _ _ (fun e => hg (by have e' : b = g := e; rw [← e']; exact hb))
    rw [hv]
    by_cases hgg : g' = g
    · subst hgg
      refine .inr ⟨us, ⟨ho'.1, .inr ⟨g', cap + 1, cur.setIfInBounds o u, rfl, hB, (show Blk w g' e cur from hh).set_ o u, hnc, hcm, by simpa using hsz, ?_⟩⟩, hr'⟩
      rw [Array.toList_setIfInBounds, List.take_set, List.set_eq_of_length_le (by rw [ht, ho'.1]; exact ho)]; exact ht
    · exact .inr ⟨us, ⟨ho'.1, .inr ⟨g', cap + 1, cur, rfl, hB, (Below.heap_setCell _ _ _ _ hgg).trans hh, hnc, hcm, hsz, ht⟩⟩, hr'⟩
end

theorem Own.room {α : Type} {c : Cod α} {e : TypeId} {B : Nat} {w : World} {g n cp : Nat} {xs : List α} {Fi : List Nat} (h : Own c e B w (.slice (some ⟨g, 0, none⟩) n cp) xs Fi) (hcp : 0 < cp) : (∀ i, i < cp * c.wd → ∃ u, w.cell? ⟨g, i, none⟩ = some u) ∧ ∀ i, w.frozen? ⟨g, i, none⟩ = false := by
  rcases h.form with ⟨-, -, A, hv⟩ | ⟨g', cap, cur, us, hv, hB, hh, hnc, hcm, hsz, ht, ho', hr⟩
  · simp only [Value.slice.injEq] at hv; omega
  · simp only [Value.slice.injEq, Option.some.injEq, Addr.mk.injEq, and_true] at hv
    obtain ⟨rfl, -, rfl⟩ := hv
    exact ⟨fun i hi => ⟨cur[i]'(by rw [hsz]; exact hi), by rw [(show Blk w g e cur from hh).cell, Array.getElem?_eq_getElem]⟩, fun i => (show Blk w g e cur from hh).frozen i⟩
/-- clear of one element -/
theorem run_clear_one {P : Program} (w : World) (t e ty : TypeId) (z z0 z1 : Value) (ht : P.underlying t = some (.slice e)) (hv : ∀ w, (zeroValue e).run P w = .ok z w) (hz : z.cells = #[z0, z1]) (h0 : z0.oneCell' = true) (h1 : z1.oneCell' = true) (b o c : Nat)
    (hc : ∀ j, j < 2 → ∃ u, w.cell? ⟨b, o + j, none⟩ = some u) (hf : ∀ j, w.frozen? ⟨b, o + j, none⟩ = false) :
    (Builtin.clear_ #[t] ty #[.slice (some ⟨b, o, none⟩) 1 c]).run P w = .ok (.tuple #[]) ((w.setCell ⟨b, o, none⟩ z0).setCell ⟨b, o + 1, none⟩ z1) := by
  have hzc : (Builtin.zeroCells z.cells 1).toList = [z0, z1] := by rw [hz]; simp [Builtin.zeroCells, Array.range]
  have hst := run_storeCells_cells (P := P) b o [z0, z1] 0 w (fun j hj => by obtain ⟨u, hu⟩ := hc j hj; rw [Nat.add_zero, hu]; rfl) (fun j _ => by rw [Nat.add_zero]; exact hf j) (by intro v hv'; simp at hv'; rcases hv' with rfl | rfl <;> assumption)
  simp only [Nat.add_zero] at hst
  simp [Builtin.clear_, run_underlying ht, hv, hzc, hst, World.setCells]

section
variable {α : Type} {c : Cod α} {e : TypeId} {B : Nat} {A : Option Addr} {n cp : Nat} {xs ys : List α} {Fi Fy : List Nat} {P : Program} (w : World)
/-- append where there is room: in place -/
theorem app_room (t ty : TypeId) (i : TypeInfo) (ht : P.underlying t = some (.slice e)) (hi : P.info? e = some i) (hsize : i.size = c.wd)
    (hown : Own c e B w (.slice A n cp) xs Fi) (hcp : 0 < cp) (x : Value) (hx : AppSrc c w x ys Fy) (hroom : n + ys.length ≤ cp) {v' : Value} {w' : World}
    (hr : (Builtin.append_ #[t, t] ty #[.slice A n cp, x]).run P w = .ok v' w') : v' = .slice A (n + ys.length) cp := by
  obtain ⟨D, d, news, rfl, hrep, hA⟩ := hx
  cases ys with
  | nil =>
    have hr2 := run_append_zero w t ty e i ht hi A D n cp d (by simpa using hroom)
    rw [List.length_nil] at hr
    rw [hr2] at hr
    injection hr with h1 h2
    rw [← h1]; rfl
  | cons y ys =>
    obtain ⟨ad, rfl, hc⟩ := hA (by simp)
    rcases hown.form with ⟨rfl, -, A', hv⟩ | ⟨g, cap, cur, us, hv, hB, hh, hnc, hcm, hsz, ht', ho, hro⟩
    · simp only [Value.slice.injEq] at hv
      omega
    · simp only [Value.slice.injEq] at hv
      obtain ⟨rfl, rfl, rfl⟩ := hv
      have hl := Cod.reps_len hrep
      have h2 := run_append_room (P := P) w t ty e i ht hi g xs.length (cap + 1) cur hh ad (y :: ys).length d news (by rw [hl, hsize]) hc (Cod.reps_ones hrep) hroom (by rw [hl, hsz, hsize, ← Nat.add_mul]; exact Nat.mul_le_mul_right _ hroom)
      rw [h2] at hr
      injection hr with h1 h2
      exact h1.symm
theorem step_room {ops : Array Oper} {o : Oper} {a : Act} {K : Act → World → Prop} {Q : Exit → Act → World → Prop} {E : Prop} (hgd : o.guard = none) (s x' : Operand) (t : TypeId)
    (ho : o.op = .call { callee := .builtin .append, args := #[s, x'], argTypes := #[t, t] })
    (i : TypeInfo) (z : Value) (bytes : Nat) (ht : P.underlying t = some (.slice e)) (hi : P.info? e = some i) (hz : i.zero = some z)
    (hsize : i.size = c.wd) (hby : i.bytes = bytes) (hzs : z.cells.size = c.wd) (hw : 0 < c.wd)
    (hs : a.eval s = .slice A n cp) (hn : n = xs.length) (hown : Own c e B w (.slice A n cp) xs Fi) (hcp : 0 < cp) (x : Value) (hx' : a.eval x' = x) (hx : AppSrc c w x ys Fy)
    (h63 : xs.length + ys.length ≤ maxLen) (hbytes : (xs.length + ys.length) * bytes ≤ 140737488355328) (hB : B ≤ w.heap.size)
    (hd : ∀ g, ownB (.slice A n cp) = some g → g ∉ Fi ∧ g ∉ Fy) (m : Nat) (hm : n + ys.length = m) (hroom : m ≤ cp)
    (h : ∀ w', Own c e B w' (.slice A m cp) (xs ++ ys) (Fi ++ Fy) → w.grownBy w' (ownB (.slice A n cp)) → K (a.put o.dst (.slice A m cp)) w') :
    if Region.wanted o (yielded ops a.tmps) = true then Oper.wp P o a w K Q else E := by
  have hw' : Region.wanted o (yielded ops a.tmps) = true := by simp [Region.wanted, hgd]
  rw [if_pos hw']
  obtain ⟨v', w', hrun, h2, h3, h4⟩ := run_app (P := P) w t o.type i z bytes ht hi hz hsize hby hzs hw hown x hx h63 hbytes hB hd
  obtain rfl := app_room w t o.type i ht hi hsize hown hcp x hx (by omega) hrun
  rw [hm] at hrun h2
  unfold Oper.wp execOp
  simp only [ho, resolve, invoke, builtin, Sem.run_bind, Sem.run_pure, Result.andThen_ok, List.map_toArray, List.map_cons, List.map_nil, hs, hx', hrun]
  exact h w' h2 h3
end

set_option maxRecDepth 100000 in
set_option maxHeartbeats 4000000 in
theorem deleteCache_any (A : Option Addr) (m cp k : Nat) (xs : List TCache) (Fi : List Nat) (B : Nat) (w : World) (h : Own cCacheO 125 B w (.slice A (m + 1) cp) xs Fi) (hd : ∀ g, ownB (.slice A (m + 1) cp) = some g → g ∉ Fi) (hxm : xs.length = m + 1) (hk : k ≤ m) (hn : m ≤ 1048576) (hB : B ≤ w.heap.size) :
    Calls Try.prog 102 #[.slice A (m + 1) cp, .int .i64 k, .int .i64 (k + 1)] w fun e w' => ∃ F, e = .returned (.slice A m cp) ∧ Own cCacheO 125 B w' (.slice A m cp) (xs.take k ++ xs.drop (k + 1)) F ∧ F.Sublist Fi ∧ Below B w w' ∧ (∀ i, i < w.heap.size → ownB (.slice A (m + 1) cp) ≠ some i → w'.heap[i]? = w.heap[i]?) := by
  obtain ⟨i0, hi0, hz0, hz1, hz2⟩ := info_parts infoCache
  obtain ⟨g, G1, G2, rfl, -, hncp, hcm, ho1, hsrc, hsub, hg1, hg2, hBg, hcells, hfrz⟩ := h.split (by decide) (k := k) (j := k + 1) (by omega) (by omega) (by omega)
  have hgw : g < w.heap.size := (h.lt g hg2).2
  have hgn : g ∉ G1 ++ G2 := fun hm => hd g hg2 (hsub.subset hm)
  unfold maxLen at hcm
  rw [show m + 1 - (k + 1) = m - k by omega] at hsrc
  have HO := Lib.hid (And.intro ho1 (And.intro hsrc (And.intro hgn hcells)))
  clear ho1 hsrc hgn hcells h
  have hki : ((k : Int) + 1 ≤ (m : Int) + 1) := by omega
  have hk0 : (0 : Int) ≤ (k : Int) + 1 := by omega
  have hkc : k ≤ cp := by omega
  have hkc1 : k + 1 ≤ m + 1 := by omega
  have hkc2 : k + 1 ≤ cp := by omega
  have hmc : m ≤ cp := by omega
  have hcm1 : ¬ cp = m := by omega
  have hl1 : (xs.take k).length = k := by rw [List.length_take]; omega
  have hl2 : (xs.drop (k + 1)).length = m - k := by rw [List.length_drop]; omega
  have HL := Lib.hid (And.intro hl1 hl2)
  clear hl1 hl2
  go_enter Try.func102, Try.ntmps102
  go_wp2_with fail
  refine wp_regionT (S := (fun _ => True)) [6, 7] (by kernel_rfl) (by (try dsimp only); (first | done | trivial)) (fun hHeld => ?_)
  refine takeT_read (i := 0) 8 20 (v := ?v0) rfl rfl (by kernel_rfl) (by kernel_rfl) (by kernel_rfl) (by kernel_rfl) (by kernel_rfl) (by kernel_rfl) (fun _ _ _ h => h) (by rfl) ?hy0 (by assumption) ?rest0
  case hy0 => (intro w hSw; (try dsimp only at hSw); go_simp; (try with_reducible rfl))
  try simp only [Act.put, List.setIfInBounds_toArray, List.set_cons_zero, List.set_cons_succ]
  refine takeT_read (i := 1) 8 21 (v := ?v1) rfl rfl (by kernel_rfl) (by kernel_rfl) (by kernel_rfl) (by kernel_rfl) (by kernel_rfl) (by kernel_rfl) (fun _ _ _ h => h) (by rfl) ?hy1 (by assumption) ?rest1
  case hy1 => (intro w hSw; (try dsimp only at hSw); go_simp; (try with_reducible rfl))
  try simp only [Act.put, List.setIfInBounds_toArray, List.set_cons_zero, List.set_cons_succ]
  refine takeT_read (i := 2) 8 22 (v := ?v2) rfl rfl (by kernel_rfl) (by kernel_rfl) (by kernel_rfl) (by kernel_rfl) (by kernel_rfl) (by kernel_rfl) (fun _ _ _ h => h) (by rfl) ?hy2 (by assumption) ?rest2
  case hy2 => (intro w hSw; (try dsimp only at hSw); go_simp; (try with_reducible rfl))
  try simp only [Act.put, List.setIfInBounds_toArray, List.set_cons_zero, List.set_cons_succ]
  refine takeT_read (i := 3) 8 23 (v := ?v3) rfl rfl (by kernel_rfl) (by kernel_rfl) (by kernel_rfl) (by kernel_rfl) (by kernel_rfl) (by kernel_rfl) (fun _ _ _ h => h) (by rfl) ?hy3 (by assumption) ?rest3
  case hy3 => (intro w hSw; (try dsimp only at hSw); go_simp; (try with_reducible rfl))
  try simp only [Act.put, List.setIfInBounds_toArray, List.set_cons_zero, List.set_cons_succ]
  refine takeT_read (i := 4) 8 24 (v := ?v4) rfl rfl (by kernel_rfl) (by kernel_rfl) (by kernel_rfl) (by kernel_rfl) (by kernel_rfl) (by kernel_rfl) (fun _ _ _ h => h) (by rfl) ?hy4 (by assumption) ?rest4
  case hy4 => (intro w hSw; (try dsimp only at hSw); go_simp; (try with_reducible rfl))
  try simp only [Act.put, List.setIfInBounds_toArray, List.set_cons_zero, List.set_cons_succ]
  refine takeT_read (i := 5) 8 25 (v := ?v5) rfl rfl (by kernel_rfl) (by kernel_rfl) (by kernel_rfl) (by kernel_rfl) (by kernel_rfl) (by kernel_rfl) (fun _ _ _ h => h) (by rfl) ?hy5 (by assumption) ?rest5
  case hy5 => (intro w hSw; (try dsimp only at hSw); go_simp; (try with_reducible rfl))
  try simp only [Act.put, List.setIfInBounds_toArray, List.set_cons_zero, List.set_cons_succ]
  refine stepT_end 6 (by kernel_rfl) rfl (by kernel_rfl) (fun K hK => ?_)
  (refine step_room (c := cCacheO) (B := B) (ys := xs.drop (k + 1)) _ rfl _ _ _ rfl i0 _ _ Try.underlying70 hi0 hz0 hz1 hz2 rfl (by decide) rfl HL.out.1.symm (HO.out.1.bel (by repeat (first | with_reducible exact Below.refl _ _ | with_reducible assumption | with_reducible refine bel_alloc ?_ _ | with_reducible refine bel_drew ?_ | with_reducible refine bel_drewN ?_ _ | (with_reducible refine bel_set ?_ ?_ _; rotate_left; ((try simp); (try omega)))))) (by omega) _ rfl (HO.out.2.1.bel (by repeat (first | with_reducible exact Below.refl _ _ | with_reducible assumption | with_reducible refine bel_alloc ?_ _ | with_reducible refine bel_drew ?_ | with_reducible refine bel_drewN ?_ _ | (with_reducible refine bel_set ?_ ?_ _; rotate_left; ((try simp); (try omega)))))) (by rw [HL.out.1, HL.out.2]; unfold maxLen; omega) (by rw [HL.out.1, HL.out.2]; omega) hB (fun g' hg' => by have hg9 : g' = g := Option.some.inj (hg'.symm.trans hg1); rw [hg9]; have hn9 := HO.out.2.2.1; simpa using hn9) m (by rw [HL.out.2]; omega) (by omega) ?_; intro w2 ho2 hgr2)
  refine hK.out _ _ ?_
  clear hK K
  refine stepT_end 7 (by kernel_rfl) rfl (by kernel_rfl) (fun K hK => ?_)
  go_simp
  refine hK.out _ _ ?_
  clear hK K
  refine doneT (by kernel_rfl) ?_ _
  obtain ⟨hcs, hfs⟩ := ho2.room (by omega)
  have hcl : ∀ ty, (Builtin.clear_ #[70] ty #[.slice (some ⟨g, m * 2, none⟩) 1 (cp - m)]).run Try.prog w2 = .ok (.tuple #[]) ((w2.setCell ⟨g, m * 2, none⟩ (.int .i64 0)).setCell ⟨g, m * 2 + 1, none⟩ (.slice none 0 0)) :=
    fun ty => run_clear_one w2 _ 125 ty _ _ _ Try.underlying70 Try.zeroValue125 rfl rfl rfl g (m * 2) _ (fun j hj => hcs _ (by show m * 2 + j < cp * 2; omega)) (fun j => hfs _)
  have HO2 := Lib.hid (And.intro ho2 hgr2)
  clear ho2 hgr2 hcs hfs
  go_wp2_with fail
  all_goals subst_vars
  all_goals (refine bodyPost_ret (v := .slice (some ⟨g, 0, none⟩) m _) (by simp [results, Try.results102, go_sem, *]; rfl) rfl ?_)
  all_goals (refine ⟨rfl, G1 ++ G2, ?_, hsub, ?_, ?_⟩)
  all_goals first
    | (refine Own.setTail (Own.setTail HO2.out.1 ?_ HO.out.2.2.1 _) ?_ HO.out.2.2.1 _ <;> (show _ * 2 ≤ _; simp only [List.length_append, HL.out.1, HL.out.2]; omega))
    | (have hb2 : Below B w.drew _ := (Below.refl _ _).grown HO2.out.2 (by simpa using hB) (fun b hb => by have hg9 : b = g := Option.some.inj (hb.symm.trans hg1); omega)
       exact belB_set hBg (belB_set hBg ((belB_drew (Below.refl _ _)).trans hb2) _) _)
    | (intro i hi hne
       have hne2 : g ≠ i := (by first | exact fun e9 => hne (hg2.trans (congrArg some e9)) | simpa using hne)
       exact (Below.heap_setCell _ _ _ _ (by simpa using Ne.symm hne2)).trans ((Below.heap_setCell _ _ _ _ (by simpa using Ne.symm hne2)).trans (HO2.out.2.block i (by simpa using hi) (by rw [hg1]; simpa using Ne.symm hne2))))
end Go.Proofs.Ytlicnppfgfjkgaa
