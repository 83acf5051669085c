/-
  Words, codecs and types of this seat in one text. No conditions.
-/
import Derived.WalkKit
import Derived.ProofKit
import Derived.OpenShut
import Derived.Carry
import Derived.Below
import Derived.Outline
import Derived.Lib.Hide
import Derived.WalkLawsBesides
import Derived.ChangeSame
import Derived.Deep.Draws
import Derived.Deep.Slices
import Derived.Deep.QuietTactic
import Derived.BigQuiet
import Derived.Test.YtlicnppfgfjkgaaDoorTie
import Derived.Test.YtlicnppfgfjkgaaDoorCards
import Derived.LaidMore
import Derived.Lay
import Derived.SevenTiedAt
import Derived.Stop.Joined
import Derived.Stop.LaidErr
import Derived.HandedShaped
import Derived.Laws.Rows
import Derived.Laws.MakeOwn
import Derived.Test.YtlicnppfgfjkgaaDoorRows
import Derived.LoopTactic
import Derived.Lib.ItoaLen
import Derived.Lib.AtoiTie
import Derived.Lib.AtoiAllCases
import Derived.Lib.SplitLaws
import Derived.Shelf.Strconv.Itoa3
import Derived.Shelf.LaysM
import Derived.Test.YtlicnppfgfjkgaaDoorProg
import Derived.Lib.SmallJoins
import Derived.Lib.AppendIntMem
import Derived.Shelf.LaysC
import Derived.Shelf.Strconv.AtoiAll
import Derived.Shelf.Strconv.ErrVarAll
import Derived.Shelf.Strings.SplitShaped
import Derived.Maps.AppendAt
import Derived.Deep.AppendLies
import Derived.ArgAppend
import Derived.RegionTactic
import Derived.OwnWalk
import Derived.Deep.RegionHeld3
import Derived.Laws.DeepStrings4
import Derived.StillTailTactics
import Derived.IntWalk
import Derived.Laws.IdiomStrings
namespace Go.Proofs.YtlicnppfgfjkgaaDoor
open Go.ChangeShapes Go.WideShapes Go.RowKit

/-! ### The step from a walk to a law's row -/
section
variable {H : Type} {enc : TypeId × Value → H} {P : Program}

theorem trodAll_keep (hl : laidOutB P = true) {W W' : World} (hb : Below W.heap.size W W') {sp : Nat → Bool} : ∀ (ts : List TypeId) (vs : List Value) (ds : List (DataW H)) (ps : List MemPlace),
    (ts.all fun t => P.readableRec t && decide (t < P.types.size)) = true → DataW.TrodAll enc P W 0 (fun _ => true) true ts vs ds ps → (∀ x ∈ ps, x.block < W.heap.size) → (∀ x ∈ ps, sp x.block = true) →
    DataW.TrodAll enc P W' 0 sp true ts vs ds ps
  | [], [], [], _, _, h, _, _ => h
  | [], [], _ :: _, _, _, h, _, _ => h.elim
  | [], _ :: _, _, _, _, h, _, _ => h.elim
  | _ :: _, [], _, _, _, h, _, _ => h.elim
  | _ :: _, _ :: _, [], _, _, h, _, _ => h.elim
  | t :: ts, v :: vs, d :: ds, ps, hts, h, hlt, hsp => by
    obtain ⟨p, q, h1, h2, rfl⟩ := h
    simp only [List.all_cons, Bool.and_eq_true, decide_eq_true_eq] at hts
    exact ⟨p, q, WideElems.Trod_stays hl hts.1.1 hts.1.2 h1 (fun x hx => hb.same (hlt x (by simp [hx]))) (fun x hx => hsp x (by simp [hx])),
      trodAll_keep hl hb ts vs ds q hts.2 h2 (fun x hx => hlt x (by simp [hx])) (fun x hx => hsp x (by simp [hx])), rfl⟩

theorem trodAll_len : ∀ (ts : List TypeId) (vs : List Value) (ds : List (DataW H)) (ps : List MemPlace) {W : World} {b : Nat} {sp : Nat → Bool} {hd : Bool},
    DataW.TrodAll enc P W b sp hd ts vs ds ps → ds.length = ts.length
  | [], [], [], _, _, _, _, _, _ => rfl
  | [], [], _ :: _, _, _, _, _, _, h => h.elim
  | [], _ :: _, _, _, _, _, _, _, h => h.elim
  | _ :: _, [], _, _, _, _, _, _, h => h.elim
  | _ :: _, _ :: _, [], _, _, _, _, _, h => h.elim
  | t :: ts, v :: vs, d :: ds, ps, _, _, _, _, h => by
    obtain ⟨p, q, _, h2, rfl⟩ := h
    simp [trodAll_len ts vs ds q h2]

/-- From a walk that returns true and leaves all that was there, to the row's step. -/
theorem law_post {f : Func} {s : ChangeSpec} {W W' : World} {args : Array Value} {ds gs : List (DataW H)} {before : List MemPlace} {tb : TypeId}
    (hl : laidOutB P = true) (hv : s.vars = []) (hrt : f.resultTypes = #[tb]) (htb : P.underlying tb = some .bool)
    (hts : (f.params.toList.all fun t => P.readableRec t && decide (t < P.types.size)) = true)
    (hs : ∀ ds : List (DataW H), ds.length = f.params.size → (s.fn H ds).results = [.lit (.bool true)] ∧ (s.fn H ds).args = ds ∧ (s.fn H ds).vars = [])
    (hW : DataW.Whole enc P f.params.toList s.vars false W args.toList ds gs before) (hb : Below W.heap.size W W') :
    s.post enc P f false true false false W args (.bool true) W' := by
  have hlt : ∀ p ∈ before, p.block < W.heap.size := fun p hp => hW.lt p hp
  have hW' := hW
  obtain ⟨p, q, hA, hV, rfl, hfz, hnd⟩ := hW
  rw [hv] at hV
  have hg : gs = [] := by
    cases gs with
    | nil => rfl
    | cons a b => exact hV.elim
  subst hg
  obtain rfl : q = [] := hV
  have hlen : ds.length = f.params.size := by simpa using trodAll_len _ _ _ _ hA
  obtain ⟨e1, e2, e3⟩ := hs (ds ++ []) (by simpa using hlen)
  refine ⟨ds, [], p ++ [], [], p, [], hW', ?_, ?_, ?_, hb.frame _, fun h => by cases h⟩
  · rw [e1, hrt]
    exact trodAll_mk1 (shut_bool htb _)
  · rw [e2, List.append_nil]
    exact trodAll_keep hl hb _ _ _ _ hts hA (fun x hx => hlt x (by simp [hx])) (fun x hx => by simpa using hlt x (by simp [hx]))
  · rw [hv, e3]; rfl

end

/-! ### New blocks, step by step -/
theorem bel_alloc {w w' : World} (h : Below w.heap.size w w') (o : Obj) : Below w.heap.size w (w'.alloc o) := h.alloc h.size o
theorem bel_then {w w' w'' : World} (h : Below w.heap.size w w') (k : Below w'.heap.size w' w'') : Below w.heap.size w w'' := h.trans (k.mono h.size)
theorem bel_drew {w w' : World} (h : Below w.heap.size w w') : Below w.heap.size w w'.drew := h.drew
theorem bel_drewN {w w' : World} (h : Below w.heap.size w w') (n : Nat) : Below w.heap.size w (w'.drewN n) := ⟨h.os, h.tape, h.output, h.size, h.block⟩
/-- A contract that leaves the world alone, in a region that draws its order. -/
theorem quiet_left {P : Program} {f : FuncId} {args : Array Value} {w : World} {n : Nat} {v : Value}
    (h : Calls P f args (w.drewN n) fun e w' => e = .returned v ∧ w.drewN n = w') : Calls P f args (w.drewN n) fun e w'' => e = .returned v ∧ ∃ m, w'' = w.drewN m :=
  h.mono fun _ _ ⟨he, hm⟩ => ⟨he, n, hm.symm⟩
theorem quiet_add_left {P : Program} {f : FuncId} {args : Array Value} {w : World} {a n : Nat} {v : Value}
    (h : Calls P f args (w.drewN (a + n)) fun e w' => e = .returned v ∧ w.drewN (a + n) = w') : Calls P f args (w.drewN (a + n)) fun e w'' => e = .returned v ∧ ∃ m, w'' = w.drewN (a + m) :=
  h.mono fun _ _ ⟨he, hm⟩ => ⟨he, n, hm.symm⟩

/-- A call returns this value and leaves all that was there. -/
def Gives (w : World) (v : Value) (e : Ending) (w' : World) : Prop := e = .returned v ∧ Below w.heap.size w w'
/-- What is left of a budget: -1 where it does not reach. -/
def leftOf (n k : Int) : Int := if n - k < 0 then -1 else n - k
theorem leftOf_neg {n k : Int} (h : n - k < 0) : leftOf n k = -1 := if_pos h
theorem leftOf_pos {n k : Int} (h : ¬ n - k < 0) : leftOf n k = n - k := if_neg h
theorem ret_int {k : IntKind} {a b : Int} (h : a = b) : Ending.returned (.int k a) = .returned (.int k b) := by rw [h]
theorem ret_bool {a b : Bool} (h : a = b) : Ending.returned (.bool a) = .returned (.bool b) := by rw [h]

theorem bel_set {w w' : World} (h : Below w.heap.size w w') {p : Addr} (hp : w.heap.size ≤ p.block) (u : Value) : Below w.heap.size w (w'.setCell p u) := h.setCell hp u

/-- What a walk takes of a call that made memory: old cells, old marks, the heap's size. -/
theorem bcell {W w1 : World} (hb : Below W.heap.size W w1) : (∀ b o, b < W.heap.size → w1.cell? ⟨b, o, none⟩ = W.cell? ⟨b, o, none⟩) ∧ (∀ b o, b < W.heap.size → w1.frozen? ⟨b, o, none⟩ = W.frozen? ⟨b, o, none⟩) ∧ W.heap.size ≤ w1.heap.size :=
  ⟨fun b o h => hb.cell (p := ⟨b, o, none⟩) h, fun b o h => hb.frozen (p := ⟨b, o, none⟩) h, hb.size⟩

end Go.Proofs.YtlicnppfgfjkgaaDoor
namespace Go.Proofs.YtlicnppfgfjkgaaDoor
open Go.ChangeShapes Go.WideShapes Go.RowKit
set_option linter.unusedVariables false

theorem door_own : ownKnob Tryd.prog.godebug = none := by kernel_rfl
/-- The kit's wrap for a listed row, with the world's shape kept. -/
theorem door_lift {H : Type} {enc : TypeId × Value → H} {a : Assume} {C : Checked} {os : Os} {f : FuncId} {fn : Func} {s : ChangeSpec} {conds : List PathCond} {apart fresh handsOn again : Bool} {X : World → Array Value → Prop}
    (hX : ∀ (w w' : World) (args : Array Value), w.heap = w'.heap → X w args → X w' args)
    (own : ownKnob C.prog.godebug = none) (started : os.Started) (noInit : C.prog.inits.idxOf? f = none) (hfn : C.prog.funcs[f]? = some fn)
    (witness : ∃ (w : World) (tape : Tape) (i : Input), w.os = os ∧ (w.forCall tape i).Shaped C.prog ∧ i.vars = [] ∧ Input.okWide C.prog (w.forCall tape i) .any w.heap.size f i ∧
      ((s.pre enc C.prog fn conds apart (w.forCall tape i).memory i.args ∧ X (w.forCall tape i).memory i.args) ∧ sizedMet enc C.prog fn (OpenSpec.ofChange s) apart (w.forCall tape i).memory i.args) ∧ a.holds C.prog (lone (Frame.enter C.prog f i.args .normal) [] (w.forCall tape i)))
    (contract : ∀ (W : World) (base : Nat) (args : Array Value) (ds gs : List (DataW H)) (before : List MemPlace),
      (∀ (j : Nat) t v, fn.params[j]? = some t → args[j]? = some v → Value.okWide C.prog W .any base t v) →
      DataW.Whole enc C.prog fn.params.toList s.vars apart W args.toList ds gs before → X W args → W.ShapedOpen C.prog →
      Calls C.prog f args W fun e W' => ∃ v, e = .returned v ∧ s.post enc C.prog fn apart fresh handsOn again W args v W') :
    ReturnsInHanded a C os f .any (fun w args => (s.pre enc C.prog fn conds apart w args ∧ X w args) ∧ sizedMet enc C.prog fn (OpenSpec.ofChange s) apart w args) (s.post enc C.prog fn apart fresh handsOn again) := by
  refine returnsInHanded_of_calls own started noInit witness ?_
  intro w tape i _ hsh _ hok hpre hholds
  obtain ⟨_, _, _, fn', hfn', _, _, _, _, hval⟩ := hok
  have e : fn' = fn := Option.some.inj (hfn'.symm.trans hfn)
  subst e
  obtain ⟨⟨⟨ds, gs, before, hw, hc⟩, hx⟩, hz⟩ := hpre
  have hw' := DataW.Whole.of_heap (w' := w.forCall tape i) (by rfl) hw
  refine (contract (w.forCall tape i) w.heap.size i.args ds gs before hval hw' (hX _ _ _ (by rfl) hx) hsh).mono fun e W' ⟨v, he, hp⟩ => ?_
  subst he
  exact ChangeSpec.post_blind hp
end Go.Proofs.YtlicnppfgfjkgaaDoor
namespace Go.Proofs.YtlicnppfgfjkgaaDoor
open Go.ChangeShapes Go.WideShapes Go.RowKit

/-! ### Cells in a row -/
def CellsAt (w : World) (g o : Nat) (us : List Value) : Prop :=
  ∀ j u, us[j]? = some u → w.cell? ⟨g, o + j, none⟩ = some u ∧ w.frozen? ⟨g, o + j, none⟩ = false

theorem CellsAt.keep {w w' : World} {g o : Nat} {us : List Value} (h : CellsAt w g o us) (hb : w'.heap[g]? = w.heap[g]?) : CellsAt w' g o us := by
  intro j u hu
  obtain ⟨h1, h2⟩ := h j u hu
  exact ⟨(World.cell?_of_block (w := w) (a := ⟨g, o + j, none⟩) hb).trans h1, (World.frozen?_of_block (w := w) (a := ⟨g, o + j, none⟩) hb).trans h2⟩

theorem CellsAt.lt {w : World} {g o : Nat} {us : List Value} (h : CellsAt w g o us) (hn : us ≠ []) : g < w.heap.size := by
  cases us with
  | nil => exact absurd rfl hn
  | cons u us =>
    have := (h 0 u rfl).1
    unfold World.cell? at this
    cases hh : w.heap[g]? with
    | none => simp [hh] at this
    | some x => exact (Array.getElem?_eq_some_iff.1 hh).1

theorem CellsAt.nil (w : World) (g o : Nat) : CellsAt w g o [] := fun _ _ h => by simp at h
theorem CellsAt.left {w : World} {g o : Nat} {us vs : List Value} (h : CellsAt w g o (us ++ vs)) : CellsAt w g o us := by
  intro j u hu
  exact h j u (by rw [List.getElem?_append_left (List.getElem?_eq_some_iff.1 hu).1]; exact hu)
theorem CellsAt.right {w : World} {g o : Nat} {us vs : List Value} (h : CellsAt w g o (us ++ vs)) : CellsAt w g (o + us.length) vs := by
  intro j u hu
  have := h (us.length + j) u (by rw [List.getElem?_append_right (by omega)]; simpa using hu)
  rwa [← Nat.add_assoc] at this
theorem CellsAt.app {w : World} {g o : Nat} {us vs : List Value} (h : CellsAt w g o us) (k : CellsAt w g (o + us.length) vs) : CellsAt w g o (us ++ vs) := by
  intro j u hu
  by_cases hj : j < us.length
  · exact h j u (by rwa [List.getElem?_append_left hj] at hu)
  · rw [List.getElem?_append_right (by omega)] at hu
    have := k (j - us.length) u hu
    rwa [Nat.add_assoc, Nat.add_sub_of_le (by omega)] at this

/-! ### Marks: the texts and numbers that the laws lay into memory -/
def mtGo : Nat → Nat → List UInt8 → List UInt8
  | 0, _, acc => acc
  | f + 1, k, acc => if k = 0 then acc else mtGo f (k / 10) (UInt8.ofNat (48 + k % 10) :: acc)
def markText (k : Int) : ByteArray := if k ≤ 0 then ⟨#[109, 48]⟩ else ⟨(109 :: mtGo k.toNat k.toNat []).toArray⟩
theorem mtGo_len : ∀ (f k : Nat) (acc : List UInt8), (mtGo f k acc).length ≤ f + acc.length
  | 0, _, acc => by simp [mtGo]
  | f + 1, k, acc => by
    unfold mtGo
    split
    · omega
    · have := mtGo_len f (k / 10) (UInt8.ofNat (48 + k % 10) :: acc)
      simp only [List.length_cons] at this
      omega
theorem mtGo_more : ∀ (f k : Nat) (acc : List UInt8), k ≤ f → mtGo f k acc = mtGo k k acc
  | 0, k, acc, h => by
    obtain rfl : k = 0 := by omega
    rfl
  | f + 1, k, acc, h => by
    cases k with
    | zero => simp [mtGo]
    | succ k =>
      have h10 : (k + 1) / 10 ≤ k := by omega
      have hf : (k + 1) / 10 ≤ f := by omega
      show (if k + 1 = 0 then acc else mtGo f ((k + 1) / 10) (UInt8.ofNat (48 + (k + 1) % 10) :: acc)) = (if k + 1 = 0 then acc else mtGo k ((k + 1) / 10) (UInt8.ofNat (48 + (k + 1) % 10) :: acc))
      rw [if_neg (by omega), if_neg (by omega), mtGo_more f _ _ hf, mtGo_more k _ _ h10]
theorem markText_size {k : Int} (h : k ≤ 1000000000) : (markText k).size ≤ maxLen := by
  unfold markText maxLen
  split
  · show 2 ≤ 2 ^ 63 - 1
    omega
  · have := mtGo_len k.toNat k.toNat []
    have e : (⟨(109 :: mtGo k.toNat k.toNat []).toArray⟩ : ByteArray).size = (mtGo k.toNat k.toNat []).length + 1 := by simp [ByteArray.size]
    rw [e]
    simp only [List.length_nil] at this
    omega

/-! ### Codecs -/
structure Cod (α : Type) where
  wd : Nat
  rep : World → List Value → α → List Nat → Prop
  sz : α → Nat
  mrk : Int → α → α
  cn : α → Nat
  mkcn : ∀ k x, cn (mrk k x) = cn x
  cnle : ∀ x, cn x ≤ wd + 32 * sz x
  len : ∀ {w vs x F}, rep w vs x F → vs.length = wd
  keep : ∀ {w w' vs x F}, rep w vs x F → (∀ b, b ∈ F → w'.heap[b]? = w.heap[b]?) → rep w' vs x F
  lt : ∀ {w vs x F}, rep w vs x F → ∀ b, b ∈ F → b < w.heap.size
  ones : ∀ {w vs x F}, rep w vs x F → ∀ v, v ∈ vs → v.oneCell' = true

def cI : Cod Int where
  wd := 1
  rep := fun _ vs n F => vs = [.int .i64 n] ∧ F = [] ∧ -9223372036854775808 ≤ n ∧ n ≤ 9223372036854775807
  sz := fun _ => 0
  mrk := fun k _ => k
  cn := fun _ => 1
  mkcn := fun _ _ => rfl
  cnle := fun _ => Nat.le_refl _
  len := fun h => by rw [h.1]; rfl
  keep := fun h _ => h
  lt := fun h b hb => by rw [h.2.1] at hb; simp at hb
  ones := fun h v hv => by rw [h.1] at hv; simp at hv; subst hv; rfl

def cU : Cod UInt8 where
  wd := 1
  rep := fun _ vs n F => vs = [.int .u8 (n.toNat : Int)] ∧ F = []
  sz := fun _ => 0
  mrk := fun k _ => UInt8.ofNat (k % 256).toNat
  cn := fun _ => 1
  mkcn := fun _ _ => rfl
  cnle := fun _ => Nat.le_refl _
  len := fun h => by rw [h.1]; rfl
  keep := fun h _ => h
  lt := fun h b hb => by rw [h.2] at hb; simp at hb
  ones := fun h v hv => by rw [h.1] at hv; simp at hv; subst hv; rfl

def cB : Cod Bool where
  wd := 1
  rep := fun _ vs b F => vs = [.bool b] ∧ F = []
  sz := fun _ => 0
  mrk := fun k _ => k % 3 == 0
  cn := fun _ => 1
  mkcn := fun _ _ => rfl
  cnle := fun _ => Nat.le_refl _
  len := fun h => by rw [h.1]; rfl
  keep := fun h _ => h
  lt := fun h b hb => by rw [h.2] at hb; simp at hb
  ones := fun h v hv => by rw [h.1] at hv; simp at hv; subst hv; rfl

def cS : Cod ByteArray where
  wd := 1
  rep := fun _ vs s F => vs = [.string s] ∧ F = [] ∧ s.size ≤ maxLen
  sz := fun s => s.size
  mrk := fun k _ => markText k
  cn := fun _ => 1
  mkcn := fun _ _ => rfl
  cnle := fun _ => by omega
  len := fun h => by rw [h.1]; rfl
  keep := fun h _ => h
  lt := fun h b hb => by rw [h.2.1] at hb; simp at hb
  ones := fun h v hv => by rw [h.1] at hv; simp at hv; subst hv; rfl

def cP {α β : Type} (c : Cod α) (d : Cod β) : Cod (α × β) where
  wd := c.wd + d.wd
  rep := fun w vs x F => ∃ v1 v2 F1 F2, vs = v1 ++ v2 ∧ F = F1 ++ F2 ∧ c.rep w v1 x.1 F1 ∧ d.rep w v2 x.2 F2
  sz := fun x => c.sz x.1 + d.sz x.2
  mrk := fun k x => (c.mrk k x.1, d.mrk (k + c.cn x.1) x.2)
  cn := fun x => c.cn x.1 + d.cn x.2
  mkcn := fun k x => by simp only [c.mkcn, d.mkcn]
  cnle := fun x => by have := c.cnle x.1; have := d.cnle x.2; omega
  len := fun ⟨v1, v2, _, _, h, _, h1, h2⟩ => by rw [h, List.length_append, c.len h1, d.len h2]
  keep := fun ⟨v1, v2, F1, F2, h, hF, h1, h2⟩ hb => ⟨v1, v2, F1, F2, h, hF, c.keep h1 fun b hm => hb b (by rw [hF]; simp [hm]), d.keep h2 fun b hm => hb b (by rw [hF]; simp [hm])⟩
  lt := fun ⟨_, _, _, _, _, hF, h1, h2⟩ b hb => by
    rw [hF, List.mem_append] at hb
    rcases hb with hb | hb
    · exact c.lt h1 b hb
    · exact d.lt h2 b hb
  ones := fun ⟨_, _, _, _, h, _, h1, h2⟩ v hv => by
    rw [h, List.mem_append] at hv
    rcases hv with hv | hv
    · exact c.ones h1 v hv
    · exact d.ones h2 v hv

def cM {α σ : Type} (c : Cod α) (f : σ → α) (g : α → σ) (hg : ∀ a, f (g a) = a) : Cod σ where
  wd := c.wd
  rep := fun w vs x F => c.rep w vs (f x) F
  sz := fun x => c.sz (f x)
  mrk := fun k x => g (c.mrk k (f x))
  cn := fun x => c.cn (f x)
  mkcn := fun k x => by rw [hg, c.mkcn]
  cnle := fun x => c.cnle (f x)
  len := fun h => c.len h
  keep := fun h hb => c.keep h hb
  lt := fun h => c.lt h
  ones := fun h => c.ones h

/-- A list of values, one behind the other. -/
def Cod.reps {α : Type} (c : Cod α) (w : World) : List Value → List α → List Nat → Prop
  | us, [], F => us = [] ∧ F = []
  | us, x :: xs, F => ∃ v1 v2 F1 F2, us = v1 ++ v2 ∧ F = F1 ++ F2 ∧ c.rep w v1 x F1 ∧ c.reps w v2 xs F2

section
variable {α : Type} {c : Cod α} {w w' : World}

theorem Cod.reps_len : ∀ {us : List Value} {xs : List α} {F : List Nat}, c.reps w us xs F → us.length = xs.length * c.wd
  | us, [], F, h => by rw [h.1]; simp
  | us, x :: xs, F, ⟨v1, v2, F1, F2, h, _, h1, h2⟩ => by rw [h, List.length_append, c.len h1, Cod.reps_len h2, List.length_cons, Nat.add_mul]; omega
theorem Cod.reps_keep : ∀ {us : List Value} {xs : List α} {F : List Nat}, c.reps w us xs F → (∀ b, b ∈ F → w'.heap[b]? = w.heap[b]?) → c.reps w' us xs F
  | us, [], F, h, _ => h
  | us, x :: xs, F, ⟨v1, v2, F1, F2, h, hF, h1, h2⟩, hb =>
    ⟨v1, v2, F1, F2, h, hF, c.keep h1 fun b hm => hb b (by rw [hF]; simp [hm]), Cod.reps_keep h2 fun b hm => hb b (by rw [hF]; simp [hm])⟩
theorem Cod.reps_lt : ∀ {us : List Value} {xs : List α} {F : List Nat}, c.reps w us xs F → ∀ b, b ∈ F → b < w.heap.size
  | us, [], F, h, b, hb => by rw [h.2] at hb; simp at hb
  | us, x :: xs, F, ⟨v1, v2, F1, F2, _, hF, h1, h2⟩, b, hb => by
    rw [hF, List.mem_append] at hb
    rcases hb with hb | hb
    · exact c.lt h1 b hb
    · exact Cod.reps_lt h2 b hb
theorem Cod.reps_ones : ∀ {us : List Value} {xs : List α} {F : List Nat}, c.reps w us xs F → ∀ v, v ∈ us → v.oneCell' = true
  | us, [], F, h, v, hv => by rw [h.1] at hv; simp at hv
  | us, x :: xs, F, ⟨v1, v2, F1, F2, h, _, h1, h2⟩, v, hv => by
    rw [h, List.mem_append] at hv
    rcases hv with hv | hv
    · exact c.ones h1 v hv
    · exact Cod.reps_ones h2 v hv

/-- The i-th value: its cells and its blocks. -/
theorem Cod.reps_get : ∀ {us : List Value} {xs : List α} {F : List Nat}, c.reps w us xs F → ∀ (i : Nat) (hi : i < xs.length),
    ∃ vs F1, c.rep w vs xs[i] F1 ∧ (∀ b, b ∈ F1 → b ∈ F) ∧ ∀ j u, vs[j]? = some u → us[i * c.wd + j]? = some u
  | us, [], F, _, i, hi => absurd hi (by simp)
  | us, x :: xs, F, ⟨v1, v2, F1, F2, h, hF, h1, h2⟩, 0, _ =>
    ⟨v1, F1, h1, fun b hb => by rw [hF]; simp [hb], fun j u hu => by rw [h, Nat.zero_mul, Nat.zero_add, List.getElem?_append_left (List.getElem?_eq_some_iff.1 hu).1]; exact hu⟩
  | us, x :: xs, F, ⟨v1, v2, F1, F2, h, hF, h1, h2⟩, i + 1, hi => by
    obtain ⟨vs, F', k1, k2, k3⟩ := Cod.reps_get h2 i (by simpa using hi)
    refine ⟨vs, F', by simpa using k1, fun b hb => by rw [hF]; simp [k2 b hb], fun j u hu => ?_⟩
    have hl := c.len h1
    rw [h, List.getElem?_append_right (by rw [hl, Nat.add_mul]; omega), hl]
    rw [show (i + 1) * c.wd + j - c.wd = i * c.wd + j by rw [Nat.add_mul]; omega]
    exact k3 j u hu

theorem Cod.reps_app : ∀ {us vs : List Value} {xs ys : List α} {F G : List Nat}, c.reps w us xs F → c.reps w vs ys G → c.reps w (us ++ vs) (xs ++ ys) (F ++ G)
  | us, vs, [], ys, F, G, h, k => by rw [h.1, h.2]; simpa using k
  | us, vs, x :: xs, ys, F, G, ⟨v1, v2, F1, F2, h, hF, h1, h2⟩, k =>
    ⟨v1, v2 ++ vs, F1, F2 ++ G, by rw [h, List.append_assoc], by rw [hF, List.append_assoc], h1, Cod.reps_app h2 k⟩
theorem Cod.reps_one {vs : List Value} {x : α} {F : List Nat} (h : c.rep w vs x F) : c.reps w vs [x] F :=
  ⟨vs, [], F, [], by simp, by simp, h, rfl, rfl⟩
theorem Cod.reps_cut : ∀ {us : List Value} {xs ys : List α} {F : List Nat}, c.reps w us (xs ++ ys) F →
    ∃ u1 u2 F1 F2, us = u1 ++ u2 ∧ F = F1 ++ F2 ∧ c.reps w u1 xs F1 ∧ c.reps w u2 ys F2
  | us, [], ys, F, h => ⟨[], us, [], F, rfl, rfl, ⟨rfl, rfl⟩, h⟩
  | us, x :: xs, ys, F, ⟨v1, v2, F1, F2, h, hF, h1, h2⟩ => by
    obtain ⟨u1, u2, G1, G2, e, eF, k1, k2⟩ := Cod.reps_cut h2
    exact ⟨v1 ++ u1, u2, F1 ++ G1, G2, by rw [h, e, List.append_assoc], by rw [hF, eF, List.append_assoc], ⟨v1, u1, F1, G1, rfl, rfl, h1, k1⟩, k2⟩
end

def Cod.szs {α : Type} (c : Cod α) : List α → Nat
  | [] => 0
  | x :: xs => c.sz x + 1 + c.szs xs

def Cod.mks {α : Type} (c : Cod α) : Int → List α → List α
  | _, [] => []
  | k, x :: xs => c.mrk k x :: c.mks (k + c.cn x) xs
def Cod.cns {α : Type} (c : Cod α) : List α → Nat
  | [] => 0
  | x :: xs => c.cn x + c.cns xs
theorem Cod.mks_len {α : Type} (c : Cod α) : ∀ (k : Int) (xs : List α), (c.mks k xs).length = xs.length
  | _, [] => rfl
  | k, x :: xs => by simp [Cod.mks, Cod.mks_len c _ xs]
theorem Cod.mks_cns {α : Type} (c : Cod α) : ∀ (k : Int) (xs : List α), c.cns (c.mks k xs) = c.cns xs
  | _, [] => rfl
  | k, x :: xs => by simp [Cod.mks, Cod.cns, c.mkcn, Cod.mks_cns c _ xs]
theorem Cod.cns_le {α : Type} (c : Cod α) (h : c.wd ≤ 32) : ∀ xs : List α, c.cns xs ≤ 32 * c.szs xs
  | [] => Nat.le_refl _
  | x :: xs => by
    have := c.cnle x
    have := Cod.cns_le c h xs
    simp only [Cod.cns, Cod.szs]
    omega
theorem Cod.cns_app {α : Type} (c : Cod α) : ∀ xs ys : List α, c.cns (xs ++ ys) = c.cns xs + c.cns ys
  | [], ys => by simp [Cod.cns]
  | x :: xs, ys => by simp [Cod.cns, Cod.cns_app c xs ys]; omega
theorem Cod.mks_app {α : Type} (c : Cod α) : ∀ (k : Int) (xs ys : List α), c.mks k (xs ++ ys) = c.mks k xs ++ c.mks (k + c.cns xs) ys
  | k, [], ys => by simp [Cod.mks, Cod.cns]
  | k, x :: xs, ys => by simp [Cod.mks, Cod.cns, Cod.mks_app c _ xs ys, Int.add_assoc]

/-- A slice. -/
def cL {α : Type} (c : Cod α) (hw : 0 < c.wd) (hw2 : c.wd ≤ 32) : Cod (List α) where
  wd := 1
  rep := fun w vs xs F => ∃ A cp, vs = [.slice A xs.length cp] ∧ xs.length ≤ cp ∧ cp ≤ maxLen ∧
    ((xs = [] ∧ F = []) ∨ (xs ≠ [] ∧ ∃ g o Fs us, A = some ⟨g, o, none⟩ ∧ F = g :: Fs ∧ CellsAt w g o us ∧ c.reps w us xs Fs))
  sz := c.szs
  mrk := c.mks
  cn := c.cns
  mkcn := c.mks_cns
  cnle := fun xs => Nat.le_trans (Cod.cns_le c hw2 xs) (by omega)
  len := fun ⟨_, _, h, _⟩ => by rw [h]; rfl
  keep := fun ⟨A, cp, h, hl, hm, hr⟩ hb => ⟨A, cp, h, hl, hm, by
    rcases hr with hr | ⟨hne, g, o, Fs, us, hA, hF, hc, hr⟩
    · exact .inl hr
    · exact .inr ⟨hne, g, o, Fs, us, hA, hF, hc.keep (hb g (by rw [hF]; simp)), Cod.reps_keep hr fun b hm => hb b (by rw [hF]; simp [hm])⟩⟩
  lt := fun ⟨A, cp, h, hl, hm, hr⟩ b hb => by
    rcases hr with ⟨_, hr⟩ | ⟨hne, g, o, Fs, us, hA, hF, hc, hr⟩
    · rw [hr] at hb; simp at hb
    · rw [hF, List.mem_cons] at hb
      rcases hb with rfl | hb
      · refine hc.lt fun e => ?_
        have := Cod.reps_len hr
        rw [e, List.length_nil] at this
        rcases Nat.mul_eq_zero.1 this.symm with h0 | h0
        · exact hne (List.eq_nil_of_length_eq_zero h0)
        · omega
      · exact Cod.reps_lt hr b hb
  ones := fun ⟨_, _, h, _⟩ v hv => by rw [h] at hv; simp at hv; subst hv; rfl

end Go.Proofs.YtlicnppfgfjkgaaDoor
namespace Go.Proofs.YtlicnppfgfjkgaaDoor
open Go.ChangeShapes Go.WideShapes Go.RowKit Go.Deep

/-- Whatever reads as data of type t reads by the codec. -/
def Opens {α : Type} (P : Program) (t : TypeId) (c : Cod α) : Prop :=
  P.cellsOf t = c.wd ∧ ∀ (H : Type) (enc : TypeId × Value → H) (w : World) (fuel : Nat) (cs : List Value) (x : DataW H × List MemPlace),
    DataW.trod enc P w 0 (fun _ => true) true fuel t cs = some x → w.noneFrozen x.2 → ∃ a F, c.rep w cs a F

section
variable {P : Program} {t e : TypeId}

theorem noneFrozen_mono {w : World} {p q : List MemPlace} (h : w.noneFrozen q) (hs : ∀ x, x ∈ p → x ∈ q) : w.noneFrozen p := fun b o hb => h b o (hs _ hb)

theorem opens_int (h : P.underlying t = some (.int .i64)) (hk : P.cellsOf t = 1) : Opens P t cI := by
  refine ⟨hk, fun H enc w fuel cs x hx _ => ?_⟩
  obtain ⟨n, rfl, _, hw⟩ := DataW.trod_int h hx
  exact ⟨n, [], rfl, rfl, by simpa [Lit.wf, IntKind.min, IntKind.max, IntKind.signed, IntKind.bits] using hw⟩
theorem opens_u8 (h : P.underlying t = some (.int .u8)) (hk : P.cellsOf t = 1) : Opens P t cU := by
  refine ⟨hk, fun H enc w fuel cs x hx _ => ?_⟩
  obtain ⟨n, rfl, _, hw⟩ := DataW.trod_int h hx
  have hr : 0 ≤ n ∧ n ≤ 255 := by simpa [Lit.wf, IntKind.min, IntKind.max, IntKind.signed, IntKind.bits] using hw
  refine ⟨UInt8.ofNat n.toNat, [], ?_, rfl⟩
  have : (UInt8.ofNat n.toNat).toNat = n.toNat := by
    rw [UInt8.toNat_ofNat']; omega
  rw [this, Int.toNat_of_nonneg hr.1]
theorem opens_bool (h : P.underlying t = some .bool) (hk : P.cellsOf t = 1) : Opens P t cB := by
  refine ⟨hk, fun H enc w fuel cs x hx _ => ?_⟩
  obtain ⟨b, rfl, _⟩ := DataW.trod_bool h hx
  exact ⟨b, [], rfl, rfl⟩
theorem opens_string (h : P.underlying t = some .string) (hk : P.cellsOf t = 1) : Opens P t cS := by
  refine ⟨hk, fun H enc w fuel cs x hx _ => ?_⟩
  obtain ⟨s, rfl, _, hs⟩ := DataW.trod_string h hx
  exact ⟨s, [], rfl, rfl, hs⟩

theorem addr_spot {w : World} {a : Addr} {v : Value} (h : w.cell? a = some v) : a.spot = none := World.cell?_spot h
theorem add_at (g o k : Nat) : (⟨g, o, none⟩ : Addr).add k = ⟨g, o + k, none⟩ := by
  unfold Addr.add; split <;> simp_all

theorem opens_slice {α : Type} {c : Cod α} {hw : 0 < c.wd} {hw2 : c.wd ≤ 32} (ht : P.underlying t = some (.slice e)) (he : Opens P e c) (hk : P.cellsOf t = 1) : Opens P t (cL c hw hw2) := by
  obtain ⟨hc, he⟩ := he
  refine ⟨hk, fun H enc w fuel cs x hx hf => ?_⟩
  rcases open_slice ht hx with ⟨rfl, _⟩ | ⟨a, len, cap, m, n, D, Pl, rfl, _, hl, hm, hmm, rfl, hi⟩
  · exact ⟨[], [], none, 0, rfl, Nat.le_refl _, by unfold maxLen; omega, .inl ⟨rfl, rfl⟩⟩
  · simp only [if_true] at hmm
    subst hmm
    have hfr : ∀ j, j < m * c.wd → w.frozen? ⟨a.block, a.off + j, none⟩ = false := fun j hj => hf _ _ (by
      simp only [List.mem_append]; left
      simp only [MemPlace.row, List.mem_map, List.mem_range]
      exact ⟨j, by rw [hc]; exact hj, rfl⟩)
    have hpl : ∀ i, i < m → w.noneFrozen (Pl i) := fun i him => noneFrozen_mono hf fun y hy => by
      simp only [List.mem_append, List.mem_flatMap, List.mem_range]
      exact .inr ⟨i, him, hy⟩
    -- the values, one by one
    have key : ∀ k, k ≤ len → ∃ us xs F, xs.length = k ∧ (∀ j u, us[j]? = some u → w.cell? (a.add j) = some u) ∧ c.reps w us xs F := by
      intro k
      induction k with
      | zero => exact fun _ => ⟨[], [], [], rfl, fun j u hu => by simp at hu, rfl, rfl⟩
      | succ k ih =>
        intro hk'
        obtain ⟨us, xs, F, hxl, hcell, hr⟩ := ih (by omega)
        obtain ⟨cs', h1, h2⟩ := hi k (by omega)
        obtain ⟨y, G, hy⟩ := he H enc w n cs' _ h2 (hpl k (by omega))
        obtain ⟨_, hcl, hat⟩ := World.cells?_some h1
        refine ⟨us ++ cs', xs ++ [y], F ++ G, by simp [hxl], fun j u hu => ?_, Cod.reps_app hr (Cod.reps_one hy)⟩
        have hul := Cod.reps_len hr
        by_cases hj : j < us.length
        · rw [List.getElem?_append_left hj] at hu
          exact hcell j u hu
        · rw [List.getElem?_append_right (by omega)] at hu
          have hj2 : j - us.length < P.cellsOf e := by rw [← hcl]; exact (List.getElem?_eq_some_iff.1 hu).1
          have := hat (j - us.length) hj2
          rw [hu, add_add, hc] at this
          rwa [hul, hxl, show k * c.wd + (j - k * c.wd) = j by rw [hul, hxl] at hj; omega] at this
    obtain ⟨us, xs, F, hxl, hcell, hr⟩ := key len (Nat.le_refl _)
    by_cases h0 : len = 0
    · subst h0
      obtain rfl := List.eq_nil_of_length_eq_zero hxl
      exact ⟨[], [], some a, m, by simp, by simp, hm, .inl ⟨rfl, rfl⟩⟩
    · have hul := Cod.reps_len hr
      have hul0 : 0 < us.length := by rw [hul, hxl]; exact Nat.mul_pos (by omega) hw
      obtain ⟨g, o, sp⟩ := a
      have hsp : sp = none := by
        have := hcell 0 us[0] (List.getElem?_eq_getElem hul0)
        have := addr_spot this
        simpa [Addr.add] using this
      subst hsp
      refine ⟨xs, g :: F, some ⟨g, o, none⟩, m, by rw [hxl], by rw [hxl]; exact hl, hm, .inr ⟨fun e => h0 (by rw [← hxl, e]; rfl), g, o, F, us, rfl, rfl, fun j u hu => ?_, hr⟩⟩
      refine ⟨by rw [← add_at]; exact hcell j u hu, hfr j ?_⟩
      have hj : j < us.length := (List.getElem?_eq_some_iff.1 hu).1
      rw [hul, hxl] at hj
      exact Nat.lt_of_lt_of_le hj (Nat.mul_le_mul_right _ hl)

/-- The fields from one place on. -/
def OpensFs {α : Type} (P : Program) (fs : List Field) (o : Nat) (c : Cod α) : Prop :=
  ∀ (H : Type) (enc : TypeId × Value → H) (w : World) (n : Nat) (cs : List Value) (xs : List (DataW H × List MemPlace)), cs.length = o + c.wd → xs.length = fs.length →
    (∀ (i : Nat) (f : Field), fs[i]? = some f → DataW.trod enc P w 0 (fun _ => true) true n f.type ((cs.drop f.offset).take (P.cellsOf f.type)) = xs[i]?) →
    w.noneFrozen (xs.flatMap (·.2)) → ∃ a F, c.rep w (cs.drop o) a F

theorem opensFs_one {α : Type} {c : Cod α} {f : Field} {o : Nat} (ho : f.offset = o) (h : Opens P f.type c) : OpensFs P [f] o c := by
  intro H enc w n cs xs hl hx hi hf
  match xs, hx with
  | [x], _ =>
    have h0 := hi 0 f rfl
    rw [ho, h.1, List.take_of_length_le (by rw [List.length_drop, hl]; omega)] at h0
    exact h.2 H enc w n _ x h0 (by simpa using hf)

theorem opensFs_cons {α β : Type} {c : Cod α} {d : Cod β} {f : Field} {fs : List Field} {o : Nat} (ho : f.offset = o) (h : Opens P f.type c) (k : OpensFs P fs (o + c.wd) d) : OpensFs P (f :: fs) o (cP c d) := by
  intro H enc w n cs xs hl hx hi hf
  match xs, hx with
  | x :: xs, hx =>
    have h0 := hi 0 f rfl
    rw [ho, h.1] at h0
    obtain ⟨a, F, ha⟩ := h.2 H enc w n _ x h0 (noneFrozen_mono hf fun y hy => by simp [hy])
    obtain ⟨b, G, hb⟩ := k H enc w n cs xs (by rw [hl]; show o + (c.wd + d.wd) = _; omega) (by simpa using hx) (fun i f hf => by simpa using hi (i + 1) f hf) (noneFrozen_mono hf fun y hy => by
      simp only [List.flatMap_cons, List.mem_append]; exact .inr hy)
    exact ⟨(a, b), F ++ G, _, _, F, G, by rw [← List.drop_drop, List.take_append_drop], rfl, ha, hb⟩

theorem opens_struct {α : Type} {c : Cod α} {fs : Array Field} (ht : P.underlying t = some (.struct fs)) (hk : P.cellsOf t = c.wd) (h : OpensFs P fs.toList 0 c) : Opens P t c := by
  refine ⟨hk, fun H enc w fuel cs x hx hf => ?_⟩
  obtain ⟨xs, n, _, rfl, hl, hxl, hi⟩ := DataW.trod_struct ht hx
  have := h H enc w n cs xs (by rw [hl, hk]; omega) (by simpa using hxl) (fun i f hf => hi i f (by simpa using hf)) hf
  simpa using this

theorem opens_map {α σ : Type} {c : Cod α} {f : σ → α} {g : α → σ} {hg : ∀ a, f (g a) = a} (h : Opens P t c) : Opens P t (cM c f g hg) := by
  refine ⟨h.1, fun H enc w fuel cs x hx hz => ?_⟩
  obtain ⟨a, F, ha⟩ := h.2 H enc w fuel cs x hx hz
  exact ⟨g a, F, by show c.rep w cs (f (g a)) F; rw [hg]; exact ha⟩

/-- A struct that came in. -/
theorem Opens.struct_ {α : Type} {c : Cod α} {fs : Array Field} (h : Opens P t c) (ht : P.underlying t = some (.struct fs)) {H : Type} {enc : TypeId × Value → H} {w : World} {base : Nat} {v : Value} {d : DataW H} {p : List MemPlace}
    (hv : Value.okWide P w .any base t v) (hd : DataW.Trod enc P w 0 (fun _ => true) true t v d p) (hf : w.noneFrozen p) : ∃ cs a F, v = .agg cs ∧ c.rep w cs.toList a F := by
  obtain ⟨cs, rfl, _⟩ := okWide_struct ht hv
  obtain ⟨n, hn⟩ := hd
  obtain ⟨a, F, ha⟩ := h.2 H enc w n _ _ hn hf
  exact ⟨cs, a, F, rfl, ha⟩
theorem Opens.slice_ {α : Type} {c : Cod α} (h : Opens P t c) (ht : P.underlying t = some (.slice e)) {H : Type} {enc : TypeId × Value → H} {w : World} {base : Nat} {v : Value} {d : DataW H} {p : List MemPlace}
    (hv : Value.okWide P w .any base t v) (hd : DataW.Trod enc P w 0 (fun _ => true) true t v d p) (hf : w.noneFrozen p) : ∃ a F, c.rep w [v] a F := by
  obtain ⟨A, len, cap, rfl⟩ := okWide_slice ht hv
  obtain ⟨n, hn⟩ := hd
  exact h.2 H enc w n _ _ hn hf
end

end Go.Proofs.YtlicnppfgfjkgaaDoor
namespace Go.Proofs.YtlicnppfgfjkgaaDoor
open Go.RowKit

/-! ### Only some blocks have turned -/
structure Only (F : List Nat) (w w' : World) : Prop where
  os : w'.os = w.os
  tape : w'.tape = w.tape
  output : w'.output = w.output
  size : w.heap.size ≤ w'.heap.size
  block : ∀ b, b < w.heap.size → b ∉ F → w'.heap[b]? = w.heap[b]?

theorem Only.refl (F : List Nat) (w : World) : Only F w w := ⟨rfl, rfl, rfl, Nat.le_refl _, fun _ _ _ => rfl⟩
theorem Only.of_below {F : List Nat} {w w' : World} (h : Below w.heap.size w w') : Only F w w' := ⟨h.os, h.tape, h.output, h.size, fun b hb _ => h.block b hb⟩
theorem Only.trans {F : List Nat} {a b c : World} (h : Only F a b) (k : Only F b c) : Only F a c :=
  ⟨k.os.trans h.os, k.tape.trans h.tape, k.output.trans h.output, Nat.le_trans h.size k.size, fun i hi hn => (k.block i (Nat.lt_of_lt_of_le hi h.size) hn).trans (h.block i hi hn)⟩
theorem Only.mono {F G : List Nat} {a b : World} (h : Only F a b) (hs : ∀ x, x ∈ F → x ∈ G) : Only G a b := ⟨h.os, h.tape, h.output, h.size, fun i hi hn => h.block i hi fun hf => hn (hs i hf)⟩
theorem Only.alloc {F : List Nat} {a b : World} (h : Only F a b) (o : Obj) : Only F a (b.alloc o) := h.trans (.of_below (bel_alloc (Below.refl _ _) o))
theorem Only.drew {F : List Nat} {a b : World} (h : Only F a b) : Only F a b.drew := ⟨h.os, h.tape, h.output, h.size, h.block⟩
theorem Only.drewN {F : List Nat} {a b : World} (h : Only F a b) (n : Nat) : Only F a (b.drewN n) := ⟨h.os, h.tape, h.output, h.size, h.block⟩
theorem Only.set_ {F : List Nat} {a b : World} (h : Only F a b) {p : Addr} (hp : p.block ∈ F) (u : Value) : Only F a (b.setCell p u) :=
  h.trans ⟨rfl, rfl, rfl, by simp, fun i _ hn => Below.heap_setCell _ _ _ _ (fun e => hn (e ▸ hp))⟩
theorem Only.bel {F : List Nat} {a b : World} (h : Only F a b) (B : Nat) (hB : B ≤ a.heap.size) (hF : ∀ x, x ∈ F → B ≤ x) : Below B a b :=
  ⟨h.os, h.tape, h.output, h.size, fun k hk => h.block k (by omega) fun hf => by have := hF k hf; omega⟩

/-! ### Readings kept -/
theorem Cod.bel {α : Type} {c : Cod α} {w w' : World} {vs : List Value} {x : α} {F : List Nat} (h : c.rep w vs x F) (hb : Below w.heap.size w w') : c.rep w' vs x F :=
  c.keep h fun b hm => hb.block b (c.lt h b hm)
theorem Cod.only {α : Type} {c : Cod α} {w w' : World} {vs : List Value} {x : α} {F G : List Nat} (h : c.rep w vs x F) (hb : Only G w w') (hd : ∀ b, b ∈ F → b ∉ G) : c.rep w' vs x F :=
  c.keep h fun b hm => hb.block b (c.lt h b hm) (hd b hm)
theorem Cod.reps_bel {α : Type} {c : Cod α} {w w' : World} {vs : List Value} {x : List α} {F : List Nat} (h : c.reps w vs x F) (hb : Below w.heap.size w w') : c.reps w' vs x F :=
  Cod.reps_keep h fun b hm => hb.block b (Cod.reps_lt h b hm)

/-- blocks of a call's own, none twice -/
def Fresh (B : Nat) (F : List Nat) : Prop := (∀ b, b ∈ F → B ≤ b) ∧ F.Nodup
theorem Fresh.nil (B : Nat) : Fresh B [] := ⟨fun b h => by simp at h, List.nodup_nil⟩
theorem Fresh.mono {B B' : Nat} {F : List Nat} (h : Fresh B F) (hB : B' ≤ B) : Fresh B' F := ⟨fun b hb => Nat.le_trans hB (h.1 b hb), h.2⟩
theorem Fresh.app {B C : Nat} {F G : List Nat} (h : Fresh B F) (hlt : ∀ b, b ∈ F → b < C) (k : Fresh C G) (hBC : B ≤ C) : Fresh B (F ++ G) :=
  ⟨fun b hb => by
    rcases List.mem_append.1 hb with hb | hb
    · exact h.1 b hb
    · exact Nat.le_trans hBC (k.1 b hb),
   List.nodup_append.2 ⟨h.2, k.2, fun a ha b hb e => by have := hlt a ha; have := k.1 b hb; omega⟩⟩

/-- A call returns a value of one cell that reads as x, in memory of its own. -/
def GivesS {α : Type} (c : Cod α) (w : World) (x : α) (e : Ending) (w' : World) : Prop :=
  ∃ v F, e = .returned v ∧ Below w.heap.size w w' ∧ c.rep w' [v] x F ∧ Fresh w.heap.size F
/-- .. a struct. -/
def GivesR {α : Type} (c : Cod α) (w : World) (x : α) (e : Ending) (w' : World) : Prop :=
  ∃ vs F, e = .returned (.agg vs) ∧ Below w.heap.size w w' ∧ c.rep w' vs.toList x F ∧ Fresh w.heap.size F

/-- From block L on nothing that was there has turned. -/
structure Keep (L : Nat) (w w' : World) : Prop where
  size : w.heap.size ≤ w'.heap.size
  block : ∀ b, L ≤ b → b < w.heap.size → w'.heap[b]? = w.heap[b]?
theorem Keep.refl (L : Nat) (w : World) : Keep L w w := ⟨Nat.le_refl _, fun _ _ _ => rfl⟩
theorem Keep.mono {L L' : Nat} {w w' : World} (h : Keep L w w') (hL : L ≤ L') : Keep L' w w' := ⟨h.size, fun b h1 h2 => h.block b (Nat.le_trans hL h1) h2⟩
theorem Keep.bel {L : Nat} {a w w' : World} (h : Keep L a w) (hb : Below w.heap.size w w') : Keep L a w' :=
  ⟨Nat.le_trans h.size hb.size, fun b h1 h2 => (hb.block b (Nat.lt_of_lt_of_le h2 h.size)).trans (h.block b h1 h2)⟩
theorem Keep.alloc {L : Nat} {a w : World} (h : Keep L a w) (o : Obj) : Keep L a (w.alloc o) := h.bel (bel_alloc (Below.refl _ _) o)
theorem Keep.drew {L : Nat} {a w : World} (h : Keep L a w) : Keep L a w.drew := h.bel (Below.refl _ _).drew
theorem Keep.drewN {L : Nat} {a w : World} (h : Keep L a w) (n : Nat) : Keep L a (w.drewN n) := h.bel (bel_drewN (Below.refl _ _) n)
theorem Keep.set_ {L : Nat} {a w : World} (h : Keep L a w) {p : Addr} (hp : p.block < L) (u : Value) : Keep L a (w.setCell p u) :=
  ⟨by simpa using h.size, fun b h1 h2 => (Below.heap_setCell _ _ _ _ (by omega)).trans (h.block b h1 h2)⟩
theorem Cod.keep2 {α : Type} {c : Cod α} {w w' : World} {vs : List Value} {x : α} {F : List Nat} {L : Nat} (h : c.rep w vs x F) (hf : Fresh L F) (hk : Keep L w w') : c.rep w' vs x F :=
  c.keep h fun b hm => hk.block b (hf.1 b hm) (c.lt h b hm)
theorem Fresh.then_ {B L : Nat} {F G : List Nat} {w1 : World} (h : Fresh B F) (hlt : ∀ b, b ∈ F → b < w1.heap.size) (hL : w1.heap.size ≤ L) (k : Fresh L G) (hBL : B ≤ L) : Fresh B (F ++ G) :=
  h.app (fun b hb => Nat.lt_of_lt_of_le (hlt b hb) hL) k hBL
theorem mem_lt {F G : List Nat} {a b : Nat} (h1 : ∀ x, x ∈ F → x < a) (h2 : ∀ x, x ∈ G → x < b) (hab : a ≤ b) : ∀ x, x ∈ F ++ G → x < b := fun x hx => by
  rcases List.mem_append.1 hx with hx | hx
  · have := h1 x hx; omega
  · exact h2 x hx

/-! ### Sizes -/
def Cod.sumSz {α : Type} (c : Cod α) : List α → Nat
  | [] => 0
  | x :: xs => c.sz x + c.sumSz xs
theorem Cod.szs_sum {α : Type} (c : Cod α) : ∀ xs : List α, c.szs xs = xs.length + c.sumSz xs
  | [] => rfl
  | x :: xs => by simp only [Cod.szs, Cod.sumSz, List.length_cons, Cod.szs_sum c xs]; omega
theorem Cod.szs_flat {α : Type} {c : Cod α} (h : ∀ x, c.sz x = 0) : ∀ xs : List α, c.szs xs = xs.length
  | [] => rfl
  | x :: xs => by simp [Cod.szs, h, Cod.szs_flat h xs, Nat.add_comm]
theorem Cod.len_le {α : Type} (c : Cod α) (xs : List α) : xs.length ≤ c.szs xs := by rw [Cod.szs_sum]; omega
theorem Cod.sz_mem {α : Type} (c : Cod α) : ∀ (xs : List α) (x : α), x ∈ xs → c.sz x ≤ c.szs xs
  | y :: ys, x, h => by
    simp only [Cod.szs]
    rcases List.mem_cons.1 h with rfl | h
    · omega
    · have := Cod.sz_mem c ys x h; omega
theorem Cod.sumSz_le {α : Type} (c : Cod α) (xs : List α) : ∀ k, c.sumSz (xs.take k) ≤ c.sumSz xs := by
  induction xs with
  | nil => intro k; simp
  | cons x xs ih =>
    intro k
    cases k with
    | zero => simp [Cod.sumSz]
    | succ k => simp only [List.take_succ_cons, Cod.sumSz]; have := ih k; omega
theorem Cod.sumSz_succ {α : Type} (c : Cod α) : ∀ (xs : List α) (k : Nat) (h : k < xs.length), c.sumSz (xs.take (k + 1)) = c.sumSz (xs.take k) + c.sz xs[k]
  | x :: xs, 0, _ => by simp [Cod.sumSz]
  | x :: xs, k + 1, h => by
    have := Cod.sumSz_succ c xs k (by simpa using h)
    simp only [List.take_succ_cons, Cod.sumSz, List.getElem_cons_succ, this]; omega

/-- .. a struct and one, two values more; a slice and one value more. -/
def GivesR2 {α : Type} (c : Cod α) (w : World) (x : α) (r1 : Value) (e : Ending) (w' : World) : Prop :=
  ∃ vs F, e = .returned (.tuple #[.agg vs, r1]) ∧ Below w.heap.size w w' ∧ c.rep w' vs.toList x F ∧ Fresh w.heap.size F
def GivesR3 {α : Type} (c : Cod α) (w : World) (x : α) (r1 r2 : Value) (e : Ending) (w' : World) : Prop :=
  ∃ vs F, e = .returned (.tuple #[.agg vs, r1, r2]) ∧ Below w.heap.size w w' ∧ c.rep w' vs.toList x F ∧ Fresh w.heap.size F
def GivesS2 {α : Type} (c : Cod α) (w : World) (x : α) (r1 : Value) (e : Ending) (w' : World) : Prop :=
  ∃ v F, e = .returned (.tuple #[v, r1]) ∧ Below w.heap.size w w' ∧ c.rep w' [v] x F ∧ Fresh w.heap.size F

/-! ### A slice's cells -/
section
variable {α : Type} {c : Cod α} {hw : 0 < c.wd} {hw2 : c.wd ≤ 32} {w : World} {A : Option Addr} {n cp : Nat} {xs : List α} {F : List Nat}

theorem cL_len (h : (cL c hw hw2).rep w [.slice A n cp] xs F) : n = xs.length ∧ n ≤ cp ∧ cp ≤ maxLen := by
  obtain ⟨A', cp', hv, hl, hm, _⟩ := h
  simp only [List.cons.injEq, Value.slice.injEq, and_true] at hv
  obtain ⟨rfl, rfl, rfl⟩ := hv
  exact ⟨rfl, hl, hm⟩
theorem cL_form {v : Value} (h : (cL c hw hw2).rep w [v] xs F) : ∃ A cp, v = .slice A xs.length cp := by
  obtain ⟨A', cp', hv, _⟩ := h
  simp only [List.cons.injEq, and_true] at hv
  exact ⟨A', cp', hv⟩
theorem cL_get (h : (cL c hw hw2).rep w [.slice A n cp] xs F) {k : Nat} (hk : k < xs.length) :
    ∃ g o vs F1, A = some ⟨g, o, none⟩ ∧ g ∈ F ∧ c.rep w vs xs[k] F1 ∧ (∀ b, b ∈ F1 → b ∈ F) ∧
      ∀ j v, vs[j]? = some v → w.cell? ⟨g, o + k * c.wd + j, none⟩ = some v ∧ w.frozen? ⟨g, o + k * c.wd + j, none⟩ = false := by
  obtain ⟨A', cp', hv, hl, hm, hr⟩ := h
  simp only [List.cons.injEq, Value.slice.injEq, and_true] at hv
  obtain ⟨rfl, rfl, rfl⟩ := hv
  rcases hr with ⟨rfl, _⟩ | ⟨_, g, o, Fs, us, rfl, rfl, hc, hr⟩
  · simp at hk
  · obtain ⟨vs, F1, h1, h2, h3⟩ := Cod.reps_get hr k hk
    refine ⟨g, o, vs, F1, rfl, by simp, h1, fun b hb => by simp [h2 b hb], fun j v hj => ?_⟩
    have := hc _ _ (h3 j v hj)
    rwa [← Nat.add_assoc] at this
end

/-! ### A block that is known whole -/
def Blk (w : World) (g : Nat) (t : TypeId) (cs : Array Value) : Prop := w.heap[g]? = some (.cells cs t (0, 0))
section
variable {w w' : World} {g : Nat} {t : TypeId} {cs : Array Value}
theorem Blk.lt (h : Blk w g t cs) : g < w.heap.size := (Array.getElem?_eq_some_iff.1 h).1
theorem Blk.cell (h : Blk w g t cs) (i : Nat) : w.cell? ⟨g, i, none⟩ = cs[i]? := cell_of_row w g i cs t (0, 0) h
theorem Blk.frozen (h : Blk w g t cs) (i : Nat) : w.frozen? ⟨g, i, none⟩ = false := by
  unfold Blk at h
  simp [World.frozen?, h]
theorem Blk.new (w : World) (t : TypeId) (cs : Array Value) : Blk (w.alloc (.cells cs t)) w.heap.size t cs := heap_alloc_new w _
theorem Blk.set_ (h : Blk w g t cs) (i : Nat) (u : Value) : Blk (w.setCell ⟨g, i, none⟩ u) g t (cs.setIfInBounds i u) := by
  unfold Blk at h ⊢
  simp [World.setCell, Array.getElem?_modify, h]
theorem Blk.bel (h : Blk w g t cs) (hb : Below w.heap.size w w') : Blk w' g t cs := (hb.block g h.lt).trans h
theorem Blk.only {F : List Nat} (h : Blk w g t cs) (hb : Only F w w') (hg : g ∉ F) : Blk w' g t cs := (hb.block g h.lt hg).trans h
end

/-- Cells written one behind the other. -/
def putCells (w : World) (g : Nat) : Nat → List Value → World
  | _, [] => w
  | i, v :: vs => putCells (w.setCell ⟨g, i, none⟩ v) g (i + 1) vs
def putRow (cs : Array Value) : Nat → List Value → Array Value
  | _, [] => cs
  | i, v :: vs => putRow (cs.setIfInBounds i v) (i + 1) vs
theorem Blk.put {g : Nat} {t : TypeId} : ∀ {w : World} {cs : Array Value} (i : Nat) (vs : List Value), Blk w g t cs → Blk (putCells w g i vs) g t (putRow cs i vs)
  | _, _, _, [], h => h
  | _, _, i, v :: vs, h => Blk.put (i + 1) vs (h.set_ i v)
theorem putRow_size : ∀ (cs : Array Value) (i : Nat) (vs : List Value), (putRow cs i vs).size = cs.size
  | _, _, [] => rfl
  | cs, i, v :: vs => by unfold putRow; rw [putRow_size]; simp
theorem putRow_take : ∀ (cs : Array Value) (i : Nat) (vs : List Value), i + vs.length ≤ cs.size → (putRow cs i vs).toList.take (i + vs.length) = cs.toList.take i ++ vs
  | cs, i, [], _ => by simp [putRow]
  | cs, i, v :: vs, h => by
    simp only [List.length_cons] at h
    unfold putRow
    have h1 : (cs.setIfInBounds i v).toList.take (i + 1) = cs.toList.take i ++ [v] := by
      have hl : i < (cs.setIfInBounds i v).toList.length := by simp; omega
      rw [List.take_succ_eq_append_getElem hl]
      congr 1
      · simp only [Array.toList_setIfInBounds, List.take_set]
        rw [List.set_eq_of_length_le (by simp; omega)]
      · simp
    have := putRow_take (cs.setIfInBounds i v) (i + 1) vs (by simp; omega)
    rw [List.length_cons, show i + (vs.length + 1) = i + 1 + vs.length by omega, this, h1, List.append_assoc]; rfl
theorem putCells_only {F : List Nat} {g : Nat} (hg : g ∈ F) : ∀ {a w : World} (i : Nat) (vs : List Value), Only F a w → Only F a (putCells w g i vs)
  | _, _, _, [], h => h
  | _, _, i, v :: vs, h => putCells_only hg (i + 1) vs (h.set_ (p := ⟨g, i, none⟩) hg v)

/-! ### A new row filled element by element -/
section
variable {α : Type} {c : Cod α} {w wr w1 : World} {E : TypeId} {n k : Nat} {xs : List α}

/-- The new block w.heap.size holds room for n elements; the first k are those of xs. -/
def Filled (c : Cod α) (w : World) (E : TypeId) (xs : List α) (k : Nat) (wr : World) : Prop :=
  ∃ cs Fs, Blk wr w.heap.size E cs ∧ cs.size = xs.length * c.wd ∧ c.reps wr (cs.toList.take (k * c.wd)) (xs.take k) Fs ∧ Fresh (w.heap.size + 1) Fs ∧ Below w.heap.size w wr

theorem Filled.start (cs : Array Value) (hcs : cs.size = xs.length * c.wd) : Filled c w E xs 0 (w.alloc (.cells cs E)) :=
  ⟨cs, [], Blk.new w E cs, hcs, by simp [Cod.reps], Fresh.nil _, bel_alloc (Below.refl _ _) _⟩
theorem Filled.bel (h : Filled c w E xs k wr) : Below w.heap.size w wr := by
  obtain ⟨_, _, _, _, _, _, h⟩ := h; exact h
theorem Filled.lt (h : Filled c w E xs k wr) : w.heap.size < wr.heap.size := by
  obtain ⟨_, _, h, _⟩ := h; exact h.lt
theorem Filled.cell (h : Filled c w E xs k wr) (hk : k < xs.length) (hb : Below wr.heap.size wr w1) : ∀ j, j < c.wd → (∃ v, w1.cell? ⟨w.heap.size, k * c.wd + j, none⟩ = some v) ∧ w1.frozen? ⟨w.heap.size, k * c.wd + j, none⟩ = false := by
  obtain ⟨cs, Fs, hblk, hcs, _⟩ := h
  intro j hj
  have hlt : k * c.wd + j < cs.size := by
    rw [hcs]
    have : (k + 1) * c.wd ≤ xs.length * c.wd := Nat.mul_le_mul_right _ hk
    rw [Nat.add_mul] at this; omega
  exact ⟨⟨cs[k * c.wd + j], by rw [(hblk.bel hb).cell, Array.getElem?_eq_getElem hlt]⟩, (hblk.bel hb).frozen _⟩
theorem Filled.step (h : Filled c w E xs k wr) (hk : k < xs.length) (hb : Below wr.heap.size wr w1) {vs : List Value} {F1 : List Nat} (hv : c.rep w1 vs xs[k] F1) (hf : Fresh wr.heap.size F1) :
    Filled c w E xs (k + 1) (putCells w1 w.heap.size (k * c.wd) vs) := by
  obtain ⟨cs, Fs, hblk, hcs, hr, hfr, hB⟩ := h
  have hl := c.len hv
  have hle : k * c.wd + c.wd ≤ cs.size := by
    rw [hcs]
    have : (k + 1) * c.wd ≤ xs.length * c.wd := Nat.mul_le_mul_right _ hk
    rwa [Nat.add_mul, Nat.one_mul] at this
  have ho : Only [w.heap.size] w1 (putCells w1 w.heap.size (k * c.wd) vs) := putCells_only (by simp) _ _ (Only.refl _ _)
  have hlt := hblk.lt
  refine ⟨putRow cs (k * c.wd) vs, Fs ++ F1, (hblk.bel hb).put _ _, by rw [putRow_size]; exact hcs, ?_, ?_, ?_⟩
  · rw [Nat.add_mul, Nat.one_mul, ← hl, putRow_take _ _ _ (by rw [hl]; exact hle), List.take_succ_eq_append_getElem hk]
    have k1 := Cod.reps_keep (Cod.reps_bel hr hb) (w' := putCells w1 w.heap.size (k * c.wd) vs) fun b hm => ho.block b (Nat.lt_of_lt_of_le (Cod.reps_lt hr b hm) hb.size) (by have := hfr.1 b hm; simp; omega)
    have k2 := c.keep hv (w' := putCells w1 w.heap.size (k * c.wd) vs) fun b hm => ho.block b (c.lt hv b hm) (by have := hf.1 b hm; simp; omega)
    rw [hl]
    exact Cod.reps_app k1 (Cod.reps_one k2)
  · exact hfr.app (fun b hm => Cod.reps_lt hr b hm) hf (by omega)
  · exact hB.trans ((hb.mono hB.size).trans (ho.bel _ (Nat.le_trans hB.size hb.size) (fun x hx => by simp at hx; omega)))
theorem Filled.done {hw : 0 < c.wd} {hw2 : c.wd ≤ 32} (h : Filled c w E xs xs.length wr) (hm : xs.length ≤ maxLen) :
    ∃ F, (cL c hw hw2).rep wr [.slice (some ⟨w.heap.size, 0, none⟩) xs.length xs.length] xs F ∧ Fresh w.heap.size F := by
  obtain ⟨cs, Fs, hblk, hcs, hr, hfr, hB⟩ := h
  rw [List.take_length, List.take_of_length_le (by simp [hcs])] at hr
  by_cases h0 : xs = []
  · subst h0
    exact ⟨[], ⟨_, _, rfl, Nat.le_refl _, hm, .inl ⟨rfl, rfl⟩⟩, Fresh.nil _⟩
  · refine ⟨w.heap.size :: Fs, ⟨_, _, rfl, Nat.le_refl _, hm, .inr ⟨h0, w.heap.size, 0, Fs, cs.toList, rfl, rfl, fun j u hu => ?_, hr⟩⟩, ?_, ?_⟩
    · rw [Nat.zero_add]
      exact ⟨by rw [hblk.cell]; simpa using hu, hblk.frozen _⟩
    · intro b hb
      rcases List.mem_cons.1 hb with rfl | hb
      · exact Nat.le_refl _
      · have := hfr.1 b hb; omega
    · exact List.nodup_cons.2 ⟨fun hm => by have := hfr.1 _ hm; omega, hfr.2⟩
end

theorem run_make_rowN {P : Program} (t e : TypeId) (i : TypeInfo) (z : Value) (ht : P.underlying t = some (.slice e)) (hi : P.info? e = some i) (hz : i.zero = some z)
    (kl kc : IntKind) (n c : Nat) (hnc : n ≤ c) (hbytes : i.bytes * c ≤ 281474976710656) (h63 : c ≤ 9223372036854775807) (w : World) :
    (Instr.makeSlice t (.int kl (n : Int)) (.int kc (c : Int))).run P w = .ok (.slice (some ⟨w.heap.size, 0, none⟩) n c) (w.alloc (.cells (madeCells z.cells (c * i.size)) e)) := by
  have hb : (i.bytes : Int) * (c : Int) ≤ 281474976710656 := by
    have h : ((i.bytes * c : Nat) : Int) ≤ 281474976710656 := by omega
    rwa [Int.natCast_mul] at h
  have hr := run_make (P := P) w t e i z ht hi hz kl kc n c (by omega) (by omega) hb (by omega)
  simp only [Int.toNat_natCast] at hr
  exact hr

end Go.Proofs.YtlicnppfgfjkgaaDoor
namespace Go.Proofs.YtlicnppfgfjkgaaDoor
open Go.ChangeShapes Go.WideShapes Go.RowKit
set_option linter.unusedVariables false

structure TIns where
  kind : Int
  r : Int
  n : Int
  text : ByteArray

def cIns : Cod TIns := cM (cP cI (cP cI (cP cI cS))) (fun x => (x.kind, x.r, x.n, x.text)) (fun a => ⟨a.1, a.2.1, a.2.2.1, a.2.2.2⟩) (fun _ => rfl)

structure TIns.Ok (x : TIns) : Prop where
  h0 : -9223372036854775808 ≤ x.kind ∧ x.kind ≤ 9223372036854775807
  h1 : -9223372036854775808 ≤ x.r ∧ x.r ≤ 9223372036854775807
  h2 : -9223372036854775808 ≤ x.n ∧ x.n ≤ 9223372036854775807
  h3 : x.text.size ≤ maxLen

theorem TIns.out {w : World} {vs : List Value} {x : TIns} {F : List Nat} (h : cIns.rep w vs x F) :
    vs = [Value.int .i64 x.kind, .int .i64 x.r, .int .i64 x.n, .string x.text] ∧ F = [] ∧ x.Ok := by

  obtain ⟨a0, b0, G0, H0, rfl, rfl, ⟨rfl, rfl, h0⟩, a1, b1, G1, H1, rfl, rfl, ⟨rfl, rfl, h1⟩, a2, b2, G2, H2, rfl, rfl, ⟨rfl, rfl, h2⟩, rfl, rfl, h3⟩ := h
  exact ⟨rfl, by simp, ⟨h0, h1, h2, h3⟩⟩

theorem TIns.mk_ {w : World} {x : TIns} (h : x.Ok) : cIns.rep w [Value.int .i64 x.kind, .int .i64 x.r, .int .i64 x.n, .string x.text] x ([]) := by

  exact ⟨[_], _, [], [], rfl, by simp, ⟨rfl, rfl, h.h0⟩, ⟨[_], _, [], [], rfl, by simp, ⟨rfl, rfl, h.h1⟩, ⟨[_], _, [], [], rfl, by simp, ⟨rfl, rfl, h.h2⟩, ⟨rfl, rfl, h.h3⟩⟩⟩⟩

theorem opens_lIns : Opens Tryd.prog 37 cIns := opens_map (opens_struct Tryd.underlying37 (by kernel_rfl) (opensFs_cons rfl (opens_int Tryd.underlying3 (by kernel_rfl)) (opensFs_cons rfl (opens_int Tryd.underlying3 (by kernel_rfl)) (opensFs_cons rfl (opens_int Tryd.underlying3 (by kernel_rfl)) (opensFs_one rfl (opens_string Tryd.underlying9 (by kernel_rfl)))))))

def TIns.val (x : TIns) : Value := .agg #[Value.int .i64 x.kind, .int .i64 x.r, .int .i64 x.n, .string x.text]

theorem TIns.val_of {w : World} {cs : Array Value} {x : TIns} {F : List Nat} (h : cIns.rep w cs.toList x F) : Value.agg cs = x.val := by
  have := (TIns.out h).1
  unfold TIns.val
  rw [← Array.toList_inj.1 (show cs.toList = #[Value.int .i64 x.kind, .int .i64 x.r, .int .i64 x.n, .string x.text].toList from this)]

end Go.Proofs.YtlicnppfgfjkgaaDoor
namespace Go.Proofs.YtlicnppfgfjkgaaDoor

/-- n lies from lo to hi -/
def inR (n lo hi : Int) : Bool := decide (lo ≤ n) && decide (n ≤ hi)
theorem inR_true {n lo hi : Int} (h : inR n lo hi = true) : lo ≤ n ∧ n ≤ hi := by simpa [inR] using h
theorem inR_false {n lo hi : Int} (h : inR n lo hi = false) : n < lo ∨ hi < n := by
  simp [inR] at h; omega
theorem inR_mk {n lo hi : Int} (h1 : lo ≤ n) (h2 : n ≤ hi) : inR n lo hi = true := by simp [inR, h1, h2]
theorem inR_low {n lo hi : Int} (h : n < lo) : inR n lo hi = false := by simp [inR]; omega
theorem inR_high {n lo hi : Int} (h : hi < n) : inR n lo hi = false := by simp [inR]; omega

/-- a letter from a to z -/
def isLow (c : UInt8) : Bool := decide (97 ≤ (c.toNat : Int)) && decide ((c.toNat : Int) ≤ 122)
/-- the first k bytes are letters -/
def lowTo (s : ByteArray) (k : Nat) : Bool := (s.data.toList.take k).all isLow
theorem lowTo_zero (s : ByteArray) : lowTo s 0 = true := by simp [lowTo]
theorem lowTo_succ (s : ByteArray) (k : Nat) (h : k < s.size) : lowTo s (k + 1) = (lowTo s k && isLow s[k]) := by
  have e : s.data.toList.take (k + 1) = s.data.toList.take k ++ [s[k]] := by
    rw [List.take_succ_eq_append_getElem (by simpa using h)]; rfl
  unfold lowTo
  rw [e, List.all_append]; simp
theorem lowTo_le (s : ByteArray) {j k : Nat} (hjk : j ≤ k) (h : lowTo s j = false) : lowTo s k = false := by
  unfold lowTo at h ⊢
  cases hk : (s.data.toList.take k).all isLow with
  | false => rfl
  | true =>
    have : (s.data.toList.take j).all isLow = true := by
      rw [List.all_eq_true] at hk ⊢
      intro x hx
      refine hk x ?_
      have : s.data.toList.take j = (s.data.toList.take k).take j := by rw [List.take_take, Nat.min_eq_left hjk]
      rw [this] at hx
      exact List.mem_of_mem_take hx
    rw [this] at h; cases h

/-- up to most letters, at least one -/
def isWord (s : ByteArray) (most : Int) : Bool := lowTo s s.size && inR s.size 1 most
def isName (s : ByteArray) : Bool := isWord s 8
theorem isWord_bad {s : ByteArray} {most : Int} {k : Nat} (h : k < s.size) (hb : isLow s[k] = false) : isWord s most = false := by
  have : lowTo s (k + 1) = false := by rw [lowTo_succ s k h, hb]; simp
  unfold isWord
  rw [lowTo_le s (by omega) this]; rfl
theorem isWord_end {s : ByteArray} {most : Int} (h : lowTo s s.size = true) : isWord s most = inR s.size 1 most := by
  unfold isWord; rw [h]; rfl
theorem isLow_lt {c : UInt8} (h : (c.toNat : Int) < 97) : isLow c = false := by simp [isLow]; omega
theorem isLow_gt {c : UInt8} (h : (122 : Int) < c.toNat) : isLow c = false := by simp [isLow]; omega
theorem isLow_mk {c : UInt8} (h1 : (97 : Int) ≤ c.toNat) (h2 : (c.toNat : Int) ≤ 122) : isLow c = true := by simp [isLow]; omega
theorem isName_size {s : ByteArray} (h : isName s = true) : 1 ≤ s.size ∧ s.size ≤ 8 := by
  unfold isName isWord at h
  rw [Bool.and_eq_true] at h
  have := inR_true h.2
  omega
end Go.Proofs.YtlicnppfgfjkgaaDoor
namespace Go.Proofs.YtlicnppfgfjkgaaDoor
open Go.RowKit

theorem inRange_any (n lo hi : Int) (w : World) : Calls Tryd.prog 33 #[.int .i64 n, .int .i64 lo, .int .i64 hi] w fun e w' => e = .returned (.bool (inR n lo hi)) ∧ w = w' := by
  go_enter Tryd.func33, Tryd.ntmps33
  go_wp2
  all_goals go_ret
  all_goals refine ⟨ret_bool ?_, rfl⟩
  all_goals (rw [Bool.eq_iff_iff]; simp [inR]; try omega)
theorem l1In_any (n lo hi : Int) (w : World) : Calls Tryd.prog 52 #[.int .i64 n, .int .i64 lo, .int .i64 hi] w fun e w' => e = .returned (.bool (inR n lo hi)) ∧ w = w' := by
  go_enter Tryd.func52, Tryd.ntmps52
  go_wp2
  all_goals go_ret
  all_goals refine ⟨ret_bool ?_, rfl⟩
  all_goals (rw [Bool.eq_iff_iff]; simp [inR]; try omega)

set_option maxHeartbeats 400000 in
theorem isWord_any (s : ByteArray) (most : Int) (w : World) (hs : s.size ≤ maxLen) :
    Calls Tryd.prog 51 #[.string s, .int .i64 most, .bool false] w fun e w' => e = .returned (.bool (isWord s most)) ∧ w = w' := by
  unfold maxLen at hs
  go_enter Tryd.func51, Tryd.ntmps51
  go_wp2
  go_loop [7] (fun i => ∃ k : Nat, k ≤ s.size ∧ i = .int .i64 k ∧ lowTo s k = true) (fun i => s.size - (intOf i).toNat)
  case atStart => exact ⟨0, Nat.zero_le _, rfl, lowTo_zero s⟩
  case round =>
    obtain ⟨k, hk, rfl, hl⟩ := hrel
    have HL := Lib.hid hl
    clear hl
    by_cases hlt : k < s.size
    · have HS := Lib.hid (lowTo_succ s k hlt)
      by_cases c1 : (s[k].toNat : Int) < 97
      · go_wp2_with (first | (go_at_call 33; refine (inRange_any _ _ _ _).mono ?_; rintro e w1 ⟨rfl, rfl⟩))
        go_ret
        exact ⟨ret_bool (isWord_bad hlt (isLow_lt c1)).symm, rfl⟩
      · by_cases c2 : (122 : Int) < s[k].toNat
        · have c3 : (97 : Int) ≤ s[k].toNat := by omega
          have c5 : decide ((s[k].toNat : Int) ≤ 122) = false := by simp; omega
          go_wp2_with (first | (go_at_call 33; refine (inRange_any _ _ _ _).mono ?_; rintro e w1 ⟨rfl, rfl⟩))
          go_ret
          exact ⟨ret_bool (isWord_bad hlt (isLow_gt c2)).symm, rfl⟩
        · have c3 : (97 : Int) ≤ s[k].toNat := by omega
          have c4 : (s[k].toNat : Int) ≤ 122 := by omega
          go_wp2_with (first | (go_at_call 33; refine (inRange_any _ _ _ _).mono ?_; rintro e w1 ⟨rfl, rfl⟩))
          go_round
          case rel => exact ⟨k + 1, by omega, by go_num, by rw [HS.out, HL.out, isLow_mk c3 c4]; rfl⟩
          case measure => simp [intOf]; omega
    · obtain rfl : k = s.size := by omega
      go_wp2_with (first | (go_at_call 33; refine (inRange_any _ _ _ _).mono ?_; rintro e w1 ⟨rfl, rfl⟩))
      go_ret
      exact ⟨ret_bool (isWord_end HL.out).symm, rfl⟩
theorem implName_any (s : ByteArray) (w : World) (hs : s.size ≤ maxLen) : Calls Tryd.prog 34 #[.string s] w fun e w' => e = .returned (.bool (isName s)) ∧ w = w' := by
  go_enter Tryd.func34, Tryd.ntmps34
  go_wp2_with (first | (go_at_call 51; refine (isWord_any _ _ _ hs).mono ?_; rintro e w1 ⟨rfl, rfl⟩))
  go_ret
  exact ⟨rfl, rfl⟩
set_option maxHeartbeats 400000 in
theorem specName_any (s : ByteArray) (w : World) (hs : s.size ≤ maxLen) : Calls Tryd.prog 53 #[.string s] w fun e w' => e = .returned (.bool (isName s)) ∧ w = w' := by
  unfold maxLen at hs
  go_enter Tryd.func53, Tryd.ntmps53
  go_wp2
  go_loop [3] (fun i => ∃ k : Nat, k ≤ s.size ∧ i = .int .i64 k ∧ lowTo s k = true) (fun i => s.size - (intOf i).toNat)
  case atStart => exact ⟨0, Nat.zero_le _, rfl, lowTo_zero s⟩
  case round =>
    obtain ⟨k, hk, rfl, hl⟩ := hrel
    have HL := Lib.hid hl
    clear hl
    by_cases hlt : k < s.size
    · have HS := Lib.hid (lowTo_succ s k hlt)
      by_cases c1 : (s[k].toNat : Int) < 97
      · go_wp2
        go_ret
        exact ⟨ret_bool (isWord_bad hlt (isLow_lt c1)).symm, rfl⟩
      · by_cases c2 : (122 : Int) < s[k].toNat
        · have c3 : (97 : Int) ≤ s[k].toNat := by omega
          go_wp2
          go_ret
          exact ⟨ret_bool (isWord_bad hlt (isLow_gt c2)).symm, rfl⟩
        · have c3 : (97 : Int) ≤ s[k].toNat := by omega
          have c4 : (s[k].toNat : Int) ≤ 122 := by omega
          go_wp2
          go_round
          case rel => exact ⟨k + 1, by omega, by go_num, by rw [HS.out, HL.out, isLow_mk c3 c4]; rfl⟩
          case measure => simp [intOf]; omega
    · obtain rfl : k = s.size := by omega
      go_wp2_with (first | (go_at_call 52; refine (l1In_any _ _ _ _).mono ?_; rintro e w1 ⟨rfl, rfl⟩))
      go_ret
      exact ⟨ret_bool (isWord_end HL.out).symm, rfl⟩
end Go.Proofs.YtlicnppfgfjkgaaDoor
namespace Go.Proofs.YtlicnppfgfjkgaaDoor
open Go.ChangeShapes Go.WideShapes Go.RowKit

def insMost (kind lines : Int) : Int := if kind = 1 then 1000 else if kind = 2 then 3 else if kind = 3 ∨ kind = 4 then lines else if kind = 6 ∨ kind = 7 ∨ kind = 8 then 100 else 0
def insNamed (kind : Int) : Bool := kind == 5 || kind == 6 || kind == 7 || kind == 8
def isEmpty (s : ByteArray) : Bool := s.toList.isEmpty
def isInstr (x : TIns) (lines : Int) : Bool :=
  inR x.kind 1 9 && inR x.r 0 3 && !((x.kind == 4 || x.kind == 9) && x.r != 0) && (bif insNamed x.kind then isName x.text else isEmpty x.text) && inR x.n 0 (insMost x.kind lines)

theorem ins_zero (n : Int) : (n == 0) = inR n 0 0 := by
  rw [Bool.eq_iff_iff]; simp [inR]; omega
set_option maxHeartbeats 4000000 in
theorem implInstr_any (x : TIns) (lines : Int) (w : World) (hx : x.text.size ≤ maxLen) : Calls Tryd.prog 11 #[x.val, .int .i64 lines] w (Gives w (.bool (isInstr x lines))) := by
  unfold TIns.val
  obtain ⟨kind, r, n, t⟩ := x
  by_cases hk : inR kind 1 9 = true
  · have hkr := inR_true hk
    have hc : kind = 1 ∨ kind = 2 ∨ kind = 3 ∨ kind = 4 ∨ kind = 5 ∨ kind = 6 ∨ kind = 7 ∨ kind = 8 ∨ kind = 9 := by omega
    clear hkr hk
    rcases hc with rfl | rfl | rfl | rfl | rfl | rfl | rfl | rfl | rfl
    all_goals
      go_enter Tryd.func11, Tryd.ntmps11
      go_wp2_with (first
        | (go_at_call 33; refine (inRange_any _ _ _ _).mono ?_; rintro e w1 ⟨rfl, rfl⟩)
        | (go_at_call 34; refine (implName_any _ _ hx).mono ?_; rintro e w1 ⟨rfl, rfl⟩))
    all_goals go_ret
    all_goals refine ⟨ret_bool ?_, (by repeat (first | with_reducible exact Below.refl _ _ | with_reducible assumption | with_reducible refine bel_alloc ?_ _ | with_reducible refine bel_drew ?_ | with_reducible refine bel_drewN ?_ _ | (with_reducible refine bel_set ?_ ?_ _; rotate_left; ((try simp); (try omega)))))⟩
    all_goals try simp only [Bool.not_eq_true', Bool.not_eq_false'] at *
    all_goals first
      | (simp [isInstr, insMost, insNamed, isEmpty, -List.isEmpty_iff, *]; done)
      | (rw [ins_zero]; simp [isInstr, insMost, insNamed, isEmpty, -List.isEmpty_iff, *]; done)
      | skip
  · go_enter Tryd.func11, Tryd.ntmps11
    go_wp2_with (first
      | (go_at_call 33; refine (inRange_any _ _ _ _).mono ?_; rintro e w1 ⟨rfl, rfl⟩)
      | (go_at_call 34; refine (implName_any _ _ hx).mono ?_; rintro e w1 ⟨rfl, rfl⟩))
    go_ret
    exact ⟨ret_bool (by simp [isInstr, hk]), (by repeat (first | with_reducible exact Below.refl _ _ | with_reducible assumption | with_reducible refine bel_alloc ?_ _ | with_reducible refine bel_drew ?_ | with_reducible refine bel_drewN ?_ _ | (with_reducible refine bel_set ?_ ?_ _; rotate_left; ((try simp); (try omega)))))⟩
set_option maxHeartbeats 4000000 in
theorem specInstr_any (x : TIns) (lines : Int) (w : World) (hx : x.text.size ≤ maxLen) : Calls Tryd.prog 42 #[x.val, .int .i64 lines] w (Gives w (.bool (isInstr x lines))) := by
  unfold TIns.val
  obtain ⟨kind, r, n, t⟩ := x
  by_cases hk : inR kind 1 9 = true
  · have hkr := inR_true hk
    have hc : kind = 1 ∨ kind = 2 ∨ kind = 3 ∨ kind = 4 ∨ kind = 5 ∨ kind = 6 ∨ kind = 7 ∨ kind = 8 ∨ kind = 9 := by omega
    clear hkr hk
    rcases hc with rfl | rfl | rfl | rfl | rfl | rfl | rfl | rfl | rfl
    all_goals
      go_enter Tryd.func42, Tryd.ntmps42
      go_wp2_with (first
        | (go_at_call 52; refine (l1In_any _ _ _ _).mono ?_; rintro e w1 ⟨rfl, rfl⟩)
        | (go_at_call 53; refine (specName_any _ _ hx).mono ?_; rintro e w1 ⟨rfl, rfl⟩))
    all_goals go_ret
    all_goals refine ⟨ret_bool ?_, (by repeat (first | with_reducible exact Below.refl _ _ | with_reducible assumption | with_reducible refine bel_alloc ?_ _ | with_reducible refine bel_drew ?_ | with_reducible refine bel_drewN ?_ _ | (with_reducible refine bel_set ?_ ?_ _; rotate_left; ((try simp); (try omega)))))⟩
    all_goals try simp only [Bool.not_eq_true', Bool.not_eq_false'] at *
    all_goals first
      | (simp [isInstr, insMost, insNamed, isEmpty, -List.isEmpty_iff, *]; done)
      | (simp [isInstr, insMost, insNamed, isEmpty, -List.isEmpty_iff, inR]; done)
      | skip
  · have hk' : inR kind 1 9 = false := by simpa using hk
    have hkr := inR_false hk'
    have b1 : (kind == 1) = false := by simp; omega
    have b2 : (kind == 2) = false := by simp; omega
    have b3 : (kind == 3) = false := by simp; omega
    have b4 : (kind == 4) = false := by simp; omega
    have b5 : (kind == 5) = false := by simp; omega
    have b6 : (kind == 6) = false := by simp; omega
    have b7 : (kind == 7) = false := by simp; omega
    have b8 : (kind == 8) = false := by simp; omega
    have b9 : (kind == 9) = false := by simp; omega
    clear hkr hk
    go_enter Tryd.func42, Tryd.ntmps42
    go_wp2_with (first
      | (go_at_call 52; refine (l1In_any _ _ _ _).mono ?_; rintro e w1 ⟨rfl, rfl⟩)
      | (go_at_call 53; refine (specName_any _ _ hx).mono ?_; rintro e w1 ⟨rfl, rfl⟩))
    all_goals go_ret
    all_goals exact ⟨ret_bool (by simp [isInstr, hk']), (by repeat (first | with_reducible exact Below.refl _ _ | with_reducible assumption | with_reducible refine bel_alloc ?_ _ | with_reducible refine bel_drew ?_ | with_reducible refine bel_drewN ?_ _ | (with_reducible refine bel_set ?_ ?_ _; rotate_left; ((try simp); (try omega)))))⟩
theorem implIsInstr_any (vs : Array Value) (x : TIns) (F : List Nat) (lines : Int) (w : World) (h : cIns.rep w vs.toList x F) (_hn : cIns.sz x ≤ 1048576) (_hl : -9223372036854775808 ≤ lines ∧ lines ≤ 9223372036854775807) :
    Calls Tryd.prog 11 #[.agg vs, .int .i64 lines] w (Gives w (.bool (isInstr x lines))) := by
  rw [TIns.val_of h]
  exact implInstr_any x lines w (TIns.out h).2.2.h3
theorem specIsInstr_any (vs : Array Value) (x : TIns) (F : List Nat) (lines : Int) (w : World) (h : cIns.rep w vs.toList x F) (_hn : cIns.sz x ≤ 1048576) (_hl : -9223372036854775808 ≤ lines ∧ lines ≤ 9223372036854775807) :
    Calls Tryd.prog 42 #[.agg vs, .int .i64 lines] w (Gives w (.bool (isInstr x lines))) := by
  rw [TIns.val_of h]
  exact specInstr_any x lines w (TIns.out h).2.2.h3
end Go.Proofs.YtlicnppfgfjkgaaDoor
namespace Go.Proofs.YtlicnppfgfjkgaaDoor
set_option linter.unusedVariables false

/-! ### Strings as lists of bytes -/
def baOf (l : List UInt8) : ByteArray := ⟨l.toArray⟩
theorem baOf_list (l : List UInt8) : (baOf l).data.toList = l := rfl
theorem baOf_of (s : ByteArray) : baOf s.data.toList = s := by
  obtain ⟨⟨l⟩⟩ := s; rfl
theorem baOf_inj {a b : List UInt8} (h : baOf a = baOf b) : a = b := by
  have := congrArg (fun s : ByteArray => s.data.toList) h
  simpa [baOf] using this
theorem baOf_size (l : List UInt8) : (baOf l).size = l.length := by simp [baOf, ByteArray.size]
theorem baOf_app (a b : List UInt8) : baOf a ++ baOf b = baOf (a ++ b) := by
  apply ByteArray.ext
  show ((baOf a) ++ (baOf b)).data = _
  rw [ByteArray.data_append]
  simp [baOf]
theorem ba_ext {a b : ByteArray} (h : a.data.toList = b.data.toList) : a = b := by
  rw [← baOf_of a, ← baOf_of b, h]

/-! ### Numerals -/
def isDig (c : UInt8) : Bool := decide (48 ≤ c.toNat) && decide (c.toNat ≤ 57)
theorem dig_of (d : Nat) (h : d < 10) : (UInt8.ofNat (48 + d)).toNat = 48 + d := by
  rw [UInt8.toNat_ofNat']; omega
theorem digitVal_of (d : Nat) (h : d < 10) : Lib.digitVal (UInt8.ofNat (48 + d)) = some d := by
  unfold Lib.digitVal
  rw [dig_of d h, if_pos (by omega)]; congr 1; omega
theorem decFrom_app : ∀ (a b : List UInt8) (n : Nat), Lib.decFrom n (a ++ b) = (Lib.decFrom n a).bind fun m => Lib.decFrom m b
  | [], b, n => rfl
  | c :: a, b, n => by
    simp only [List.cons_append, Lib.decFrom]
    cases Lib.digitVal c with
    | none => rfl
    | some d => exact decFrom_app a b _
theorem decFrom_digits (u : Nat) : Lib.decFrom 0 (Lib.decDigits u) = some u := by
  induction u using Nat.strongRecOn with
  | _ u ih =>
    by_cases h : u < 10
    · rw [Lib.decDigits_one h]
      simp only [Lib.decFrom, digitVal_of u h, Nat.zero_mul, Nat.zero_add]
    · rw [Lib.decDigits, dif_neg h, decFrom_app, ih (u / 10) (by omega)]
      simp only [Option.bind_some, Lib.decFrom, digitVal_of (u % 10) (by omega)]
      congr 1; omega
theorem decDigits_ne (u : Nat) : Lib.decDigits u ≠ [] := by
  intro e
  have h1 := Lib.decDigits_length u
  have h2 := Lib.nDigits_pos u
  rw [e, List.length_nil] at h1
  omega
theorem decNat_digits (u : Nat) : Lib.decNat (Lib.decDigits u) = some u := by
  unfold Lib.decNat
  rw [if_neg (by simpa using decDigits_ne u), decFrom_digits]
theorem decDigits_all (u : Nat) : ∀ c, c ∈ Lib.decDigits u → isDig c = true := by
  induction u using Nat.strongRecOn with
  | _ u ih =>
    intro c hc
    by_cases h : u < 10
    · rw [Lib.decDigits_one h] at hc
      obtain rfl := List.mem_singleton.1 hc
      unfold isDig; rw [dig_of u h]; simp; omega
    · rw [Lib.decDigits, dif_neg h, List.mem_append] at hc
      rcases hc with hc | hc
      · exact ih (u / 10) (by omega) c hc
      · obtain rfl := List.mem_singleton.1 hc
        unfold isDig; rw [dig_of (u % 10) (by omega)]; simp; omega
theorem nDigits_le : ∀ (k u : Nat), u < 10 ^ (k + 1) → Lib.nDigits u ≤ k + 1
  | 0, u, h => by rw [Lib.nDigits_small (by simpa using h)]; exact Nat.le_refl _
  | k + 1, u, h => by
    by_cases h10 : u < 10
    · rw [Lib.nDigits_small h10]; omega
    · rw [Lib.nDigits_big h10]
      have := nDigits_le k (u / 10) (by rw [Nat.pow_succ] at h; omega)
      omega
theorem decDigits_len13 {u : Nat} (h : u ≤ 1000000000000) : 1 ≤ (Lib.decDigits u).length ∧ (Lib.decDigits u).length ≤ 13 := by
  rw [Lib.decDigits_length]
  exact ⟨Lib.nDigits_pos u, nDigits_le 12 u (by omega)⟩

/-- What ParseInt reads: a numeral from 0 to 10^12, written as it is written. -/
def parseNum (l : List UInt8) : Option Nat :=
  match Lib.decNat l with
  | some m => if m ≤ 1000000000000 ∧ Lib.decDigits m = l then some m else none
  | none => none
theorem parseNum_digits {u : Nat} (h : u ≤ 1000000000000) : parseNum (Lib.decDigits u) = some u := by
  unfold parseNum
  rw [decNat_digits]
  simp [h]
theorem parseNum_some {l : List UInt8} {m : Nat} (h : parseNum l = some m) : m ≤ 1000000000000 ∧ l = Lib.decDigits m := by
  unfold parseNum at h
  split at h
  · split at h
    · rename_i hm
      injection h with h
      subst h
      exact ⟨hm.1, hm.2.symm⟩
    · cases h
  · cases h
theorem parseNum_none {l : List UInt8} (h : ∀ u, u ≤ 1000000000000 → l ≠ Lib.decDigits u) : parseNum l = none := by
  cases hp : parseNum l with
  | none => rfl
  | some m =>
    obtain ⟨h1, h2⟩ := parseNum_some hp
    exact absurd h2 (h m h1)
theorem parseNum_letter {c : UInt8} {l : List UInt8} (h : isDig c = false) : parseNum (c :: l) = none := by
  refine parseNum_none fun u _ e => ?_
  have := decDigits_all u c (by rw [← e]; simp)
  rw [h] at this; cases this
theorem parseNum_nil : parseNum [] = none := rfl

theorem atoi_digits (u : Nat) : Lib.atoi (Lib.decDigits u) = some (u : Int) := by
  have hd := decNat_digits u
  have ha := decDigits_all u
  cases h : Lib.decDigits u with
  | nil => exact absurd h (decDigits_ne u)
  | cons b r =>
    rw [h] at hd ha
    have hb := ha b (by simp)
    unfold isDig at hb
    simp only [Bool.and_eq_true, decide_eq_true_eq] at hb
    have h45 : (b == 45) = false := by
      rw [beq_eq_false_iff_ne]; intro e; subst e; have : (45 : UInt8).toNat = 45 := rfl; omega
    have h43 : (b == 43) = false := by
      rw [beq_eq_false_iff_ne]; intro e; subst e; have : (43 : UInt8).toNat = 43 := rfl; omega
    show (if (b == 45) = true then _ else if (b == 43) = true then _ else (Lib.decNat (b :: r)).map fun (m : Nat) => (m : Int)) = _
    rw [h45, h43, hd]
    rfl
/-- .. by way of Atoi and Itoa. -/
theorem parseNum_atoi {l : List UInt8} {v : Int} (h : Lib.atoiAll l = .ok v) (h0 : 0 ≤ v) (h1 : v ≤ 1000000000000) (he : Lib.itoa v = l) : parseNum l = some v.toNat := by
  obtain ⟨u, rfl⟩ : ∃ u : Nat, v = u := ⟨v.toNat, by omega⟩
  have : Lib.itoa (u : Int) = Lib.decDigits u := by unfold Lib.itoa; rw [if_neg (by omega)]; simp
  rw [this] at he
  rw [← he]
  simpa using parseNum_digits (u := u) (by omega)
theorem parseNum_atoi' {l : List UInt8} {m : Nat} (h : parseNum l = some m) : Lib.atoiAll l = .ok (m : Int) ∧ Lib.itoa (m : Int) = l ∧ m ≤ 1000000000000 := by
  obtain ⟨h1, rfl⟩ := parseNum_some h
  refine ⟨?_, ?_, h1⟩
  · rw [Lib.atoiAll_short _ (by have := decDigits_len13 h1; omega), atoi_digits]; rfl
  · unfold Lib.itoa; rw [if_neg (by omega)]; simp

/-! ### A text cut at a byte -/
def cut (c : UInt8) : List UInt8 → List (List UInt8)
  | [] => [[]]
  | b :: r => if b = c then [] :: cut c r else
    match cut c r with
    | [] => [[b]]
    | h :: t => (b :: h) :: t
theorem cut_ne (c : UInt8) : ∀ l : List UInt8, cut c l ≠ []
  | [] => by simp [cut]
  | b :: r => by
    unfold cut
    split
    · simp
    · split <;> simp
theorem cut_none {c : UInt8} : ∀ {a : List UInt8}, (∀ x, x ∈ a → x ≠ c) → cut c a = [a]
  | [], _ => rfl
  | b :: a, h => by
    have ih := cut_none (a := a) fun x hx => h x (by simp [hx])
    unfold cut
    rw [if_neg (h b (by simp)), ih]
theorem cut_app {c : UInt8} {b : List UInt8} : ∀ {a : List UInt8}, (∀ x, x ∈ a → x ≠ c) → cut c (a ++ c :: b) = a :: cut c b
  | [], _ => by simp [cut]
  | d :: a, h => by
    have ih := cut_app (c := c) (b := b) (a := a) fun x hx => h x (by simp [hx])
    show cut c (d :: (a ++ c :: b)) = _
    rw [cut, if_neg (h d (by simp)), ih]
/-- The pieces, joined again by the byte, are the text. -/
def joinWith (c : UInt8) : List (List UInt8) → List UInt8
  | [] => []
  | p :: ps => p ++ ps.flatMap fun q => c :: q
theorem cut_join {c : UInt8} : ∀ {ps : List (List UInt8)}, ps ≠ [] → (∀ p, p ∈ ps → ∀ x, x ∈ p → x ≠ c) → cut c (joinWith c ps) = ps
  | [], h, _ => absurd rfl h
  | [p], _, h => by simpa [joinWith] using cut_none (c := c) (a := p) (h p (by simp))
  | p :: q :: ps, _, h => by
    have ih := cut_join (c := c) (ps := q :: ps) (by simp) fun r hr => h r (by simp [hr])
    have e : joinWith c (p :: q :: ps) = p ++ c :: joinWith c (q :: ps) := by simp [joinWith]
    rw [e, cut_app (h p (by simp)), ih]
/-- Split's pieces are these. -/
theorem splitK_cut (c : UInt8) : ∀ (s : List UInt8), Lib.split s [c] = cut c s
  | [] => by simp [Lib.split, Lib.count_one, Lib.splitK, cut]
  | b :: s => by
    have ih := splitK_cut c s
    unfold Lib.split at ih ⊢
    rw [Lib.count_one] at ih ⊢
    by_cases hb : b = c
    · subst hb
      rw [List.count_cons_self]
      have hix : Lib.index (b :: s) [b] = 0 := by rw [Lib.index]; simp [List.isPrefixOf]
      unfold Lib.splitK
      rw [hix]
      simp only [show ((0 : Int) == -1) = false from rfl, Bool.false_eq_true, if_false]
      simp only [Int.toNat_zero, Nat.add_zero, List.take_zero, List.length_singleton, Nat.zero_add, List.drop_one, List.tail_cons]
      rw [ih]
      simp [cut]
    · rw [List.count_cons_of_ne (by simpa using hb)]
      have hp : ([c] : List UInt8).isPrefixOf (b :: s) = false := by simp [List.isPrefixOf, Ne.symm hb]
      have hix : Lib.index (b :: s) [c] = if Lib.index s [c] == -1 then -1 else Lib.index s [c] + 1 := by rw [Lib.index, hp]; simp
      rw [show cut c (b :: s) = (match cut c s with | [] => [[b]] | h :: t => (b :: h) :: t) by rw [cut]; simp [hb]]
      rw [← ih]
      cases hk : s.count c with
      | zero => simp [Lib.splitK]
      | succ k =>
        unfold Lib.splitK
        rw [hix]
        cases hm : (Lib.index s [c] == -1)
        · have hge := Lib.index_ge s [c]
          have hne : Lib.index s [c] ≠ -1 := by simpa using hm
          obtain ⟨j, hj⟩ : ∃ j : Nat, Lib.index s [c] = j := ⟨(Lib.index s [c]).toNat, by omega⟩
          rw [hj]
          have h1 : (((j : Int) + 1) == -1) = false := by rw [beq_eq_false_iff_ne]; omega
          have h2 : ((j : Int) + 1).toNat = j + 1 := by omega
          simp [h1, h2, List.take_succ_cons, List.drop_succ_cons]
        · simp
end Go.Proofs.YtlicnppfgfjkgaaDoor
namespace Go.Proofs.YtlicnppfgfjkgaaDoor
set_option linter.unusedVariables false

def wordL (k : Int) : List UInt8 :=
  if k = 1 then [115, 101, 116] else if k = 2 then [97, 100, 100] else if k = 3 then [105, 102] else if k = 4 then [103, 111, 116, 111] else if k = 5 then [102, 101, 116, 99, 104]
  else if k = 6 then [103, 101, 116] else if k = 7 then [112, 117, 116] else if k = 8 then [115, 101, 110, 100] else if k = 9 then [101, 110, 100] else []
/-- an instruction's words -/
def piecesOf (x : TIns) : List (List UInt8) :=
  wordL x.kind :: ((if x.kind = 4 ∨ x.kind = 9 then [] else [Lib.itoa x.r]) ++ ((if x.kind = 5 ∨ x.kind = 9 then [] else [Lib.itoa x.n]) ++ (if x.text.data.toList = [] then [] else [x.text.data.toList])))
/-- its text; none: where it is no instruction -/
def fmtL (x : TIns) : List UInt8 := bif isInstr x 16 then joinWith 32 (piecesOf x) else []

/-- the kind that a word tells: the last of the first k words that it is -/
def kindTo (w : List UInt8) : Nat → Int
  | 0 => 0
  | k + 1 => if wordL ((k + 1 : Nat) : Int) = w then ((k + 1 : Nat) : Int) else kindTo w k
theorem kindTo_range (w : List UInt8) : ∀ k, 0 ≤ kindTo w k ∧ kindTo w k ≤ k
  | 0 => ⟨Int.le_refl _, Int.le_refl _⟩
  | k + 1 => by
    have := kindTo_range w k
    unfold kindTo
    split <;> omega
theorem kindTo_nil : ∀ k, k ≤ 9 → kindTo [] k = 0 := by
  intro k hk
  have : k = 0 ∨ k = 1 ∨ k = 2 ∨ k = 3 ∨ k = 4 ∨ k = 5 ∨ k = 6 ∨ k = 7 ∨ k = 8 ∨ k = 9 := by omega
  rcases this with rfl | rfl | rfl | rfl | rfl | rfl | rfl | rfl | rfl | rfl <;> decide

/-- what the program reads out of the words -/
def numD (l : List UInt8) : Int := ((parseNum l).getD 0 : Nat)
def implCore (ps : List (List UInt8)) : TIns :=
  let k := kindTo (ps.headD []) 9
  let r0 := ps.tail
  let r := if k = 4 ∨ k = 9 then 0 else numD (r0.headD [])
  let r1 := if k = 4 ∨ k = 9 then r0 else r0.tail
  let n := if k = 5 ∨ k = 9 then 0 else numD (r1.headD [])
  let r2 := if k = 5 ∨ k = 9 then r1 else r1.tail
  ⟨k, r, n, baOf (r2.headD [])⟩
/-- the numbers at the front, and the word behind them -/
def numsOf : List (List UInt8) → List Int × List UInt8
  | [] => ([], [])
  | p :: ps => match parseNum p with
    | some m => ((m : Int) :: (numsOf ps).1, (numsOf ps).2)
    | none => ([], p)
/-- what the reference reads out of the words -/
def specCore (ps : List (List UInt8)) : TIns :=
  let k := kindTo (ps.headD []) 9
  let q := numsOf ps.tail
  let l := if k = 4 then 0 :: q.1 else q.1
  ⟨k, l.getD 0 0, l.getD 1 0, baOf q.2⟩

def insZero : TIns := ⟨0, 0, 0, ⟨#[]⟩⟩
def parseInstr (s : List UInt8) : TIns × Bool := if fmtL (specCore (cut 32 s)) = s ∧ s ≠ [] then (specCore (cut 32 s), true) else (insZero, false)

/-! ### A text is read back -/
theorem name_bytes {t : ByteArray} (h : isName t = true) : t.data.toList ≠ [] ∧ ∀ c, c ∈ t.data.toList → isLow c = true := by
  have h1 := isName_size h
  refine ⟨fun e => ?_, ?_⟩
  · have h2 : t.size = t.data.toList.length := Lib.size_eq t
    rw [e, List.length_nil] at h2; omega
  · unfold isName isWord at h
    rw [Bool.and_eq_true] at h
    have h2 := h.1
    unfold lowTo at h2
    rw [List.take_of_length_le (by rw [Lib.size_eq]; exact Nat.le_refl _)] at h2
    exact List.all_eq_true.1 h2
theorem low_ne {c : UInt8} (h : isLow c = true) : c ≠ 32 ∧ c ≠ 59 ∧ isDig c = false := by
  unfold isLow at h
  simp only [Bool.and_eq_true, decide_eq_true_eq] at h
  refine ⟨?_, ?_, ?_⟩
  · rintro rfl; have : (32 : UInt8).toNat = 32 := rfl; omega
  · rintro rfl; have : (59 : UInt8).toNat = 59 := rfl; omega
  · unfold isDig; simp; omega
theorem dig_ne {c : UInt8} (h : isDig c = true) : c ≠ 32 ∧ c ≠ 59 := by
  unfold isDig at h
  simp only [Bool.and_eq_true, decide_eq_true_eq] at h
  refine ⟨?_, ?_⟩
  · rintro rfl; have : (32 : UInt8).toNat = 32 := rfl; omega
  · rintro rfl; have : (59 : UInt8).toNat = 59 := rfl; omega
theorem parseNum_name {t : ByteArray} (h : isName t = true) : parseNum t.data.toList = none := by
  obtain ⟨h1, h2⟩ := name_bytes h
  cases e : t.data.toList with
  | nil => exact absurd e h1
  | cons c l => exact parseNum_letter (low_ne (h2 c (by rw [e]; simp))).2.2
theorem itoa_nat {n : Int} (h : 0 ≤ n) : Lib.itoa n = Lib.decDigits n.toNat := by unfold Lib.itoa; rw [if_neg (by omega)]
theorem parseNum_itoa {n : Int} (h : 0 ≤ n) (h1 : n ≤ 1000) : parseNum (Lib.itoa n) = some n.toNat := by
  rw [itoa_nat h]; exact parseNum_digits (by omega)
theorem itoa_bytes {n : Int} (h : 0 ≤ n) : ∀ c, c ∈ Lib.itoa n → c ≠ 32 ∧ c ≠ 59 := by
  rw [itoa_nat h]
  exact fun c hc => dig_ne (decDigits_all _ c hc)

/-- What holds of an instruction. -/
structure GoodIns (x : TIns) : Prop where
  kind : x.kind = 1 ∨ x.kind = 2 ∨ x.kind = 3 ∨ x.kind = 4 ∨ x.kind = 5 ∨ x.kind = 6 ∨ x.kind = 7 ∨ x.kind = 8 ∨ x.kind = 9
  r0 : 0 ≤ x.r
  r3 : x.r ≤ 3
  n0 : 0 ≤ x.n
  n1 : x.n ≤ 1000
  rz : x.kind = 4 ∨ x.kind = 9 → x.r = 0
  nz : x.kind = 5 ∨ x.kind = 9 → x.n = 0
  named : x.kind = 5 ∨ x.kind = 6 ∨ x.kind = 7 ∨ x.kind = 8 → isName x.text = true
  bare : ¬ (x.kind = 5 ∨ x.kind = 6 ∨ x.kind = 7 ∨ x.kind = 8) → x.text.data.toList = []
theorem good_of {x : TIns} (h : isInstr x 16 = true) : GoodIns x := by
  unfold isInstr at h
  simp only [Bool.and_eq_true] at h
  obtain ⟨⟨⟨⟨h1, h2⟩, h3⟩, h4⟩, h5⟩ := h
  have k1 := inR_true h1
  have k2 := inR_true h2
  have k5 := inR_true h5
  have hk : x.kind = 1 ∨ x.kind = 2 ∨ x.kind = 3 ∨ x.kind = 4 ∨ x.kind = 5 ∨ x.kind = 6 ∨ x.kind = 7 ∨ x.kind = 8 ∨ x.kind = 9 := by omega
  have hm : insMost x.kind 16 ≤ 1000 := by unfold insMost; (repeat' split) <;> omega
  refine ⟨hk, k2.1, k2.2, k5.1, by omega, ?_, ?_, ?_, ?_⟩
  · intro h; simp at h3; rcases h with h | h <;> simp [h] at h3 <;> exact h3
  · intro h
    rcases h with h | h <;> (rw [h] at k5; simp [insMost] at k5; omega)
  · intro h
    have : insNamed x.kind = true := by unfold insNamed; rcases h with h | h | h | h <;> simp [h]
    rw [this] at h4; exact h4
  · intro h
    have : insNamed x.kind = false := by unfold insNamed; simp; omega
    rw [this] at h4
    have h6 : x.text.toList.isEmpty = true := h4
    rw [Lib.toList_data] at h6
    simpa using h6
theorem wordL_bytes (k : Int) : ∀ c, c ∈ wordL k → c ≠ 32 ∧ c ≠ 59 := by
  unfold wordL
  (repeat' split) <;> decide
theorem pieces_bytes {x : TIns} (h : GoodIns x) : ∀ p, p ∈ piecesOf x → ∀ c, c ∈ p → c ≠ 32 ∧ c ≠ 59 := by
  intro p hp c hc
  unfold piecesOf at hp
  simp only [List.mem_cons, List.mem_append] at hp
  rcases hp with rfl | hp | hp | hp
  · exact wordL_bytes _ c hc
  · split at hp
    · simp at hp
    · obtain rfl := List.mem_singleton.1 hp; exact itoa_bytes h.r0 c hc
  · split at hp
    · simp at hp
    · obtain rfl := List.mem_singleton.1 hp; exact itoa_bytes h.n0 c hc
  · split at hp
    · simp at hp
    · obtain rfl := List.mem_singleton.1 hp
      rename_i hne
      by_cases hk : x.kind = 5 ∨ x.kind = 6 ∨ x.kind = 7 ∨ x.kind = 8
      · have := low_ne ((name_bytes (h.named hk)).2 c hc)
        exact ⟨this.1, this.2.1⟩
      · exact absurd (h.bare hk) hne
theorem kindTo_word {k : Int} (h : k = 1 ∨ k = 2 ∨ k = 3 ∨ k = 4 ∨ k = 5 ∨ k = 6 ∨ k = 7 ∨ k = 8 ∨ k = 9) : kindTo (wordL k) 9 = k := by
  rcases h with rfl | rfl | rfl | rfl | rfl | rfl | rfl | rfl | rfl <;> decide
theorem numD_itoa {n : Int} (h : 0 ≤ n) (h1 : n ≤ 1000) : numD (Lib.itoa n) = n := by
  unfold numD; rw [parseNum_itoa h h1]; simp; omega
theorem implCore_pieces {x : TIns} (h : GoodIns x) : implCore (piecesOf x) = x := by
  have hr := numD_itoa h.r0 (by have := h.r3; omega)
  have hn := numD_itoa h.n0 h.n1
  have hw := kindTo_word h.kind
  have h1 := h.rz; have h2 := h.nz; have h4 := h.bare
  have h3 := fun e => (name_bytes (h.named e)).1
  have hk := h.kind
  have hb := baOf_of x.text
  clear h
  obtain ⟨k, r, n, t⟩ := x
  simp only at hr hn hw h1 h2 h3 h4 hk hb
  have hp : piecesOf ⟨k, r, n, t⟩ = wordL k :: ((if k = 4 ∨ k = 9 then [] else [Lib.itoa r]) ++ ((if k = 5 ∨ k = 9 then [] else [Lib.itoa n]) ++ (if t.data.toList = [] then [] else [t.data.toList]))) := rfl
  rw [hp]
  clear hp
  generalize t.data.toList = tl at *
  subst hb
  rcases hk with rfl | rfl | rfl | rfl | rfl | rfl | rfl | rfl | rfl
  all_goals (
    simp at h1 h2 h3 h4
    (try subst h1)
    (try subst h2)
    (try subst h4)
    simp [implCore, *])
theorem numsOf_two {a b : List UInt8} {m n : Nat} {ps : List (List UInt8)} (h1 : parseNum a = some m) (h2 : parseNum b = some n) : numsOf (a :: b :: ps) = ((m : Int) :: (n : Int) :: (numsOf ps).1, (numsOf ps).2) := by
  simp [numsOf, h1, h2]
theorem specCore_pieces {x : TIns} (h : GoodIns x) : specCore (piecesOf x) = x := by
  have hr := parseNum_itoa h.r0 (by have := h.r3; omega)
  have hn := parseNum_itoa h.n0 h.n1
  have hr' : ((x.r.toNat : Nat) : Int) = x.r := by have := h.r0; omega
  have hn' : ((x.n.toNat : Nat) : Int) = x.n := by have := h.n0; omega
  have hw := kindTo_word h.kind
  have h1 := h.rz; have h2 := h.nz; have h4 := h.bare
  have h3 := fun e => (name_bytes (h.named e)).1
  have h5 := fun e => parseNum_name (h.named e)
  have hk := h.kind
  have hb := baOf_of x.text
  clear h
  obtain ⟨k, r, n, t⟩ := x
  simp only at hr hn hr' hn' hw h1 h2 h3 h4 h5 hk hb
  have hp : piecesOf ⟨k, r, n, t⟩ = wordL k :: ((if k = 4 ∨ k = 9 then [] else [Lib.itoa r]) ++ ((if k = 5 ∨ k = 9 then [] else [Lib.itoa n]) ++ (if t.data.toList = [] then [] else [t.data.toList]))) := rfl
  rw [hp]
  clear hp
  generalize t.data.toList = tl at *
  subst hb
  rcases hk with rfl | rfl | rfl | rfl | rfl | rfl | rfl | rfl | rfl
  all_goals (
    simp at h1 h2 h3 h4 h5
    (try subst h1)
    (try subst h2)
    (try subst h4)
    simp only [specCore, List.headD_cons, List.tail_cons, hw]
    simp [numsOf, *])
theorem fmtL_good {x : TIns} (h : GoodIns x) (hi : isInstr x 16 = true) : cut 32 (fmtL x) = piecesOf x := by
  unfold fmtL
  rw [hi]
  exact cut_join (by simp [piecesOf]) fun p hp c hc => (pieces_bytes h p hp c hc).1
theorem fmtL_not {x : TIns} (hi : isInstr x 16 = false) : fmtL x = [] := by unfold fmtL; rw [hi]; rfl
theorem wordL_ne {k : Int} (h : k = 1 ∨ k = 2 ∨ k = 3 ∨ k = 4 ∨ k = 5 ∨ k = 6 ∨ k = 7 ∨ k = 8 ∨ k = 9) : wordL k ≠ [] := by
  rcases h with rfl | rfl | rfl | rfl | rfl | rfl | rfl | rfl | rfl <;> decide
theorem fmtL_ne {x : TIns} (hi : isInstr x 16 = true) : fmtL x ≠ [] := by
  have h := wordL_ne (good_of hi).kind
  unfold fmtL
  rw [hi]
  simp only [cond_true, piecesOf, joinWith]
  intro e
  rw [List.append_eq_nil_iff] at e
  exact h e.1
theorem instr_of_fmt {x : TIns} (h : fmtL x ≠ []) : isInstr x 16 = true := by
  cases hi : isInstr x 16 with
  | true => rfl
  | false => exact absurd (fmtL_not hi) h
theorem parse_fmt {x : TIns} (hi : isInstr x 16 = true) : parseInstr (fmtL x) = (x, true) := by
  have hg := good_of hi
  unfold parseInstr
  rw [fmtL_good hg hi, specCore_pieces hg, if_pos ⟨rfl, fmtL_ne hi⟩]
/-- The program's reading is the reference's. -/
theorem parse_impl (s : List UInt8) : parseInstr s = if (implCore (cut 32 s)).kind ≠ 0 ∧ fmtL (implCore (cut 32 s)) = s then (implCore (cut 32 s), true) else (insZero, false) := by
  by_cases h : (implCore (cut 32 s)).kind ≠ 0 ∧ fmtL (implCore (cut 32 s)) = s
  · rw [if_pos h]
    obtain ⟨h1, h2⟩ := h
    by_cases hs : s = []
    · subst hs
      have e : (implCore (cut 32 [])).kind = kindTo [] 9 := rfl
      exact absurd (e.trans (kindTo_nil 9 (Nat.le_refl _))) h1
    · have hi := instr_of_fmt (x := implCore (cut 32 s)) (by rw [h2]; exact hs)
      have := parse_fmt hi
      rw [h2] at this
      exact this
  · rw [if_neg h]
    unfold parseInstr
    rw [if_neg]
    rintro ⟨h1, h2⟩
    have hi := instr_of_fmt (x := specCore (cut 32 s)) (by rw [h1]; exact h2)
    have hg := good_of hi
    have hc := fmtL_good hg hi
    rw [h1] at hc
    have he := implCore_pieces hg
    rw [← hc] at he
    exact h ⟨by rw [he]; rcases hg.kind with e | e | e | e | e | e | e | e | e <;> omega, by rw [he]; exact h1⟩
end Go.Proofs.YtlicnppfgfjkgaaDoor
namespace Go.Proofs
open Go.Shelf
def Tryd.laysM171_ren : Go.Shelf.Ren := ⟨fun | 171 => 48 | 243 => 56 | 246 => 62 | 283 => 72 | 284 => 73 | 285 => 74 | 286 => 75 | 129 => 85 | 317 => 84 | 318 => 86 | 319 => 87 | 320 => 88 | 337 => 93 | 338 => 94 | n => n, fun | 3 => 3 | 9 => 9 | 2 => 2 | 4 => 4 | 171 => 89 | 0 => 0 | 53 => 90 | 37 => 22 | 5 => 5 | 173 => 93 | 212 => 103 | 51 => 104 | 20 => 20 | 213 => 105 | 46 => 77 | 232 => 120 | 233 => 121 | n => n, fun | 17 => 3 | 18 => 6 | 19 => 7 | n => n⟩
theorem Tryd.laysM171 : Go.Proofs.LaysM.n171 Tryd.prog Tryd.laysM171_ren := {
  mixed := by kernel_rfl
  f129 := Tryd.func85.trans (congrArg some (by kernel_rfl))
  f171 := Tryd.func48.trans (congrArg some (by kernel_rfl))
  f243 := Tryd.func56.trans (congrArg some (by kernel_rfl))
  f246 := Tryd.func62.trans (congrArg some (by kernel_rfl))
  f283 := Tryd.func72.trans (congrArg some (by kernel_rfl))
  f284 := Tryd.func73.trans (congrArg some (by kernel_rfl))
  f285 := Tryd.func74.trans (congrArg some (by kernel_rfl))
  f286 := Tryd.func75.trans (congrArg some (by kernel_rfl))
  f317 := Tryd.func84.trans (congrArg some (by kernel_rfl))
  f318 := Tryd.func86.trans (congrArg some (by kernel_rfl))
  f319 := Tryd.func87.trans (congrArg some (by kernel_rfl))
  f320 := Tryd.func88.trans (congrArg some (by kernel_rfl))
  f337 := Tryd.func93.trans (congrArg some (by kernel_rfl))
  f338 := Tryd.func94.trans (congrArg some (by kernel_rfl))
  t0 := Tryd.underlying0
  a0 := Tryd.isAgg0
  z0 := Tryd.sizeOf0
  v0 := Tryd.zeroValue0
  t2 := Tryd.underlying2
  a2 := Tryd.isAgg2
  z2 := Tryd.sizeOf2
  v2 := Tryd.zeroValue2
  t3 := Tryd.underlying3
  a3 := Tryd.isAgg3
  z3 := Tryd.sizeOf3
  v3 := Tryd.zeroValue3
  t4 := Tryd.underlying4
  a4 := Tryd.isAgg4
  z4 := Tryd.sizeOf4
  v4 := Tryd.zeroValue4
  t5 := Tryd.underlying5
  a5 := Tryd.isAgg5
  z5 := Tryd.sizeOf5
  v5 := Tryd.zeroValue5
  t9 := Tryd.underlying9
  a9 := Tryd.isAgg9
  z9 := Tryd.sizeOf9
  v9 := Tryd.zeroValue9
  t20 := Tryd.underlying20
  a20 := Tryd.isAgg20
  z20 := Tryd.sizeOf20
  v20 := Tryd.zeroValue20
  t37 := Tryd.underlying22
  a37 := Tryd.isAgg22
  z37 := Tryd.sizeOf22
  v37 := Tryd.zeroValue22
  t46 := Tryd.underlying77
  a46 := Tryd.isAgg77
  z46 := Tryd.sizeOf77
  v46 := Tryd.zeroValue77
  t51 := Tryd.underlying104
  a51 := Tryd.isAgg104
  z51 := Tryd.sizeOf104
  v51 := Tryd.zeroValue104
  t53 := Tryd.underlying90
  a53 := Tryd.isAgg90
  z53 := Tryd.sizeOf90
  v53 := Tryd.zeroValue90
  t171 := Tryd.underlying89
  a171 := Tryd.isAgg89
  z171 := Tryd.sizeOf89
  v171 := Tryd.zeroValue89
  t173 := Tryd.underlying93
  a173 := Tryd.isAgg93
  z173 := Tryd.sizeOf93
  v173 := Tryd.zeroValue93
  t212 := Tryd.underlying103
  a212 := Tryd.isAgg103
  z212 := Tryd.sizeOf103
  v212 := Tryd.zeroValue103
  t213 := Tryd.underlying105
  a213 := Tryd.isAgg105
  z213 := Tryd.sizeOf105
  t232 := Tryd.underlying120
  a232 := Tryd.isAgg120
  z232 := Tryd.sizeOf120
  v232 := Tryd.zeroValue120
  t233 := Tryd.underlying121
  a233 := Tryd.isAgg121
  z233 := Tryd.sizeOf121
  v233 := Tryd.zeroValue121
  g17 := by kernel_rfl
  g18 := by kernel_rfl
  g19 := by kernel_rfl
  i0 := by kernel_rfl
  i2 := by kernel_rfl
  i3 := by kernel_rfl
  i4 := by kernel_rfl
  i5 := by kernel_rfl
  i9 := by kernel_rfl
  i20 := by kernel_rfl
  i37 := by kernel_rfl
  i46 := by kernel_rfl
  i51 := by kernel_rfl
  i53 := by kernel_rfl
  i171 := by kernel_rfl
  i173 := by kernel_rfl
  i212 := by kernel_rfl
  i232 := by kernel_rfl
  i233 := by kernel_rfl
  m17 := by kernel_rfl
  m18 := by kernel_rfl
  m19 := by kernel_rfl }
open Go.RowKit Go.Sort Go.Lib in
theorem Tryd.strconv_Itoa (n : Int) (h0 : -9223372036854775808 ≤ n) (h1 : n ≤ 9223372036854775807) (w : World) (htab : Lib.TabIs Tryd.prog w "internal/strconv.uint64pow10" .u64 Lib.pow10Tab) :
    Calls Tryd.prog 48 #[.int .i64 n] w fun e w' => e = .returned (.string ⟨(Lib.itoa n).toArray⟩) ∧ ∃ k os, w' = grow (w.drewN k) os := Any.strconv_Itoa Tryd.laysM171 n h0 h1 w htab
end Go.Proofs
namespace Go.Proofs.YtlicnppfgfjkgaaDoor
open Go.ChangeShapes Go.WideShapes Go.RowKit
set_option linter.unusedVariables false

/-- the library's table of powers of ten, as its text lays it -/
def Tab (w : World) : Prop := Lib.TabIs Tryd.prog w "internal/strconv.uint64pow10" .u64 Lib.pow10Tab
theorem tabNamed : ∃ g, Tryd.prog.globalNamed "internal/strconv.uint64pow10" = some g := Option.isSome_iff_exists.1 (by kernel_rfl)
theorem Tab.bel {w w' : World} (h : Tab w) (hb : Below w.heap.size w w') : Tab w' := by
  obtain ⟨g, hg⟩ := tabNamed
  exact Joins.tab_stays hg h hb (Nat.le_refl _)

theorem tab_of {r : List (String × DataW Unit)} {w : World} (h : laidMet Tryd.prog (("internal/strconv.uint64pow10", Rows.laid_internal_strconv_uint64pow10) :: r) w) : Tab w :=
  by
    obtain ⟨g, hg, ht⟩ := Option.bind_eq_some_iff.1 (show ((Tryd.prog.globalNamed "internal/strconv.uint64pow10").bind fun g => (Tryd.prog.globals[g]?).map (·.type)) = some 103 by kernel_rfl)
    exact Lib.tabIs_of_head (zs := Lib.pow10Tab) (k := .u64) hg ht Tryd.underlying103 Tryd.underlying90 (by kernel_rfl) (by kernel_rfl) h

theorem implFormatInt_any (n : Int) (h0 : 0 ≤ n) (h1 : n ≤ 9223372036854775807) (w : World) (ht : Tab w) :
    Calls Tryd.prog 29 #[.int .i64 n] w (Gives w (.string (baOf (Lib.decDigits n.toNat)))) := by
  go_enter Tryd.func29, Tryd.ntmps29
  go_wp2_with (go_at_call 48; refine (Tryd.strconv_Itoa n (by omega) h1 _ ht).mono ?_; rintro e w1 ⟨rfl, k, os, rfl⟩)
  go_ret
  refine ⟨?_, Lib.below_grow _ _ (Nat.le_refl _) _ _⟩
  rw [itoa_nat h0]; rfl

/-- what stands, and what is still to come -/
def DigInv (n : Nat) (x : Nat) (s : ByteArray) : Prop := (x ≠ 0 ∧ Lib.decDigits x ++ s.data.toList = Lib.decDigits n) ∨ (x = 0 ∧ s.data.toList = Lib.decDigits n)
theorem DigInv.start {n : Nat} (h : n ≠ 0) : DigInv n n ⟨#[]⟩ := .inl ⟨h, by simp⟩
theorem DigInv.step {n x : Nat} {s : ByteArray} (h : DigInv n x s) (hx : x ≠ 0) : DigInv n (x / 10) (baOf [UInt8.ofNat (48 + x % 10)] ++ s) := by
  rcases h with ⟨-, h⟩ | ⟨h0, -⟩
  · have e : (baOf [UInt8.ofNat (48 + x % 10)] ++ s).data.toList = UInt8.ofNat (48 + x % 10) :: s.data.toList := by
      rw [ByteArray.data_append]; simp [baOf]
    by_cases h10 : x < 10
    · right
      refine ⟨by omega, ?_⟩
      rw [e, ← h, Lib.decDigits_one h10, Nat.mod_eq_of_lt h10]; rfl
    · left
      refine ⟨by omega, ?_⟩
      rw [e, ← h]
      conv => rhs; rw [Lib.decDigits, dif_neg h10]
      simp
  · exact absurd h0 hx
theorem DigInv.size {n x : Nat} {s : ByteArray} (h : DigInv n x s) (hn : n ≤ 1000000000000000) : s.size ≤ 16 := by
  have h1 := nDigits_le 15 n (by omega)
  rw [← Lib.decDigits_length] at h1
  rw [Lib.size_eq s]
  rcases h with ⟨-, h⟩ | ⟨-, h⟩
  · rw [← h, List.length_append] at h1; omega
  · rw [← h] at h1; exact h1
set_option maxRecDepth 100000 in
set_option maxHeartbeats 2000000 in
theorem specFormatInt_any (n : Int) (h0 : 0 ≤ n) (h1 : n ≤ 1000000000000000) (w : World) :
    Calls Tryd.prog 43 #[.int .i64 n] w (Gives w (.string (baOf (Lib.decDigits n.toNat)))) := by
  obtain ⟨m, rfl⟩ : ∃ m : Nat, n = m := ⟨n.toNat, by omega⟩
  rw [Int.toNat_natCast]
  by_cases hz : m = 0
  · subst hz
    go_enter Tryd.func43, Tryd.ntmps43
    go_wp2
    go_ret
    exact ⟨by rw [Lib.decDigits_one (by decide)]; rfl, (by repeat (first | with_reducible exact Below.refl _ _ | with_reducible assumption | with_reducible refine bel_alloc ?_ _ | with_reducible refine bel_drew ?_ | with_reducible refine bel_drewN ?_ _ | (with_reducible refine bel_set ?_ ?_ _; rotate_left; ((try simp); (try omega)))))⟩
  · have hz' : ¬ (m : Int) = 0 := by omega
    go_enter Tryd.func43, Tryd.ntmps43
    go_wp2
    go_loopw [3, 4] (fun s x wr => ∃ (k : Nat) (sb : ByteArray), x = .int .i64 k ∧ s = .string sb ∧ k ≤ m ∧ DigInv m k sb ∧ Below w.heap.size w wr) (fun _ x _ => (intOf x).toNat)
    case atStart => exact ⟨m, ⟨#[]⟩, rfl, rfl, Nat.le_refl _, DigInv.start hz, Below.refl _ _⟩
    case round =>
      obtain ⟨k, sb, rfl, rfl, hkm, hD, hB⟩ := hrel
      have HD := Lib.hid hD
      clear hD
      by_cases hk : k = 0
      · have hk' : (k : Int) = 0 := by omega
        go_wp2
        go_ret
        rcases HD.out with ⟨h, -⟩ | ⟨-, h⟩
        · exact absurd hk h
        · exact ⟨by rw [← h, baOf_of]; rfl, hB⟩
      · have hk' : ¬ (k : Int) = 0 := by omega
        have hq : (k : Int) % 10 = ((k % 10 : Nat) : Int) := by omega
        have hdv : (k : Int) / 10 = ((k / 10 : Nat) : Int) := by omega
        have hconv := run_convert_bytes_back (P := Tryd.prog) (wr.alloc (.cells #[.int .u8 (48 + ((k % 10 : Nat) : Int))] 5)) 22 9 5 ⟨wr.heap.size, 0, none⟩ 1 [UInt8.ofNat (48 + k % 10)] Tryd.underlying22 Tryd.underlying5 Tryd.underlying9 (fun j hj => by
          obtain rfl : j = 0 := by simpa using hj
          show World.cell? _ (Addr.add ⟨wr.heap.size, 0, none⟩ 0) = some (.int .u8 (((UInt8.ofNat (48 + k % 10)).toNat : Nat) : Int))
          rw [dig_of (k % 10) (by omega), add_at, (Blk.new wr _ _).cell]
          rfl)
        simp only [List.length_singleton] at hconv
        have HST := Lib.hid (And.intro (HD.out.step hk) (And.intro (show k / 10 ≤ m by omega) (show k / 10 < k by omega)))
        have hsz := HD.out.size (by omega)
        have hd0 : k % 10 < 10 := by omega
        generalize UInt8.ofNat (48 + k % 10) = ch at *
        generalize k % 10 = d at *
        generalize k / 10 = x at *
        have hd1 : ¬ (d : Int) < 0 := by omega
        have hcs : (⟨#[ch]⟩ : ByteArray).size = 1 := rfl
        go_wp2
        go_roundw
        case rel => exact ⟨x, _, rfl, rfl, HST.out.2.1, HST.out.1, (by repeat (first | with_reducible exact Below.refl _ _ | with_reducible assumption | with_reducible refine bel_alloc ?_ _ | with_reducible refine bel_drew ?_ | with_reducible refine bel_drewN ?_ _ | (with_reducible refine bel_set ?_ ?_ _; rotate_left; ((try simp); (try omega)))))⟩
        case measure => have := HST.out.2.2; simp [intOf]; omega
end Go.Proofs.YtlicnppfgfjkgaaDoor
namespace Go.Proofs
open Go.Shelf
def Tryd.laysC172_ren : Go.Shelf.Ren := ⟨fun | 172 => 50 | 244 => 60 | 245 => 61 | 247 => 67 | 279 => 68 | 280 => 69 | 281 => 70 | 282 => 71 | 287 => 81 | 316 => 82 | 171 => 48 | 205 => 83 | 321 => 91 | 322 => 92 | 243 => 56 | 246 => 62 | 283 => 72 | 284 => 73 | 285 => 74 | 286 => 75 | 129 => 85 | 317 => 84 | 318 => 86 | 319 => 87 | 320 => 88 | 337 => 93 | 338 => 94 | n => n, fun | 9 => 9 | 3 => 3 | 75 => 68 | 76 => 69 | 4 => 4 | 5 => 5 | 167 => 83 | 37 => 22 | 0 => 0 | 85 => 84 | 2 => 2 | 168 => 86 | 53 => 90 | 175 => 96 | 46 => 77 | 210 => 100 | 127 => 115 | 145 => 118 | 143 => 116 | 21 => 21 | 171 => 89 | 173 => 93 | 212 => 103 | 51 => 104 | 20 => 20 | 213 => 105 | 232 => 120 | 233 => 121 | 80 => 51 | n => n, fun | 15 => 1 | 16 => 2 | 17 => 3 | 18 => 6 | 19 => 7 | n => n⟩
theorem Tryd.laysC172 : Go.Proofs.LaysC.n172 Tryd.prog Tryd.laysC172_ren := {
  mixed := by kernel_rfl
  f129 := Tryd.func85.trans (congrArg some (by kernel_rfl))
  f171 := Tryd.func48.trans (congrArg some (by kernel_rfl))
  f172 := Tryd.func50.trans (congrArg some (by kernel_rfl))
  f205 := Tryd.func83.trans (congrArg some (by kernel_rfl))
  f243 := Tryd.func56.trans (congrArg some (by kernel_rfl))
  f244 := Tryd.func60.trans (congrArg some (by kernel_rfl))
  f245 := Tryd.func61.trans (congrArg some (by kernel_rfl))
  f246 := Tryd.func62.trans (congrArg some (by kernel_rfl))
  f247 := Tryd.func67.trans (congrArg some (by kernel_rfl))
  f279 := Tryd.func68.trans (congrArg some (by kernel_rfl))
  f280 := Tryd.func69.trans (congrArg some (by kernel_rfl))
  f281 := Tryd.func70.trans (congrArg some (by kernel_rfl))
  f282 := Tryd.func71.trans (congrArg some (by kernel_rfl))
  f283 := Tryd.func72.trans (congrArg some (by kernel_rfl))
  f284 := Tryd.func73.trans (congrArg some (by kernel_rfl))
  f285 := Tryd.func74.trans (congrArg some (by kernel_rfl))
  f286 := Tryd.func75.trans (congrArg some (by kernel_rfl))
  f287 := Tryd.func81.trans (congrArg some (by kernel_rfl))
  f316 := Tryd.func82.trans (congrArg some (by kernel_rfl))
  f317 := Tryd.func84.trans (congrArg some (by kernel_rfl))
  f318 := Tryd.func86.trans (congrArg some (by kernel_rfl))
  f319 := Tryd.func87.trans (congrArg some (by kernel_rfl))
  f320 := Tryd.func88.trans (congrArg some (by kernel_rfl))
  f321 := Tryd.func91.trans (congrArg some (by kernel_rfl))
  f322 := Tryd.func92.trans (congrArg some (by kernel_rfl))
  f337 := Tryd.func93.trans (congrArg some (by kernel_rfl))
  f338 := Tryd.func94.trans (congrArg some (by kernel_rfl))
  t0 := Tryd.underlying0
  a0 := Tryd.isAgg0
  z0 := Tryd.sizeOf0
  v0 := Tryd.zeroValue0
  t2 := Tryd.underlying2
  a2 := Tryd.isAgg2
  z2 := Tryd.sizeOf2
  v2 := Tryd.zeroValue2
  t3 := Tryd.underlying3
  a3 := Tryd.isAgg3
  z3 := Tryd.sizeOf3
  v3 := Tryd.zeroValue3
  t4 := Tryd.underlying4
  a4 := Tryd.isAgg4
  z4 := Tryd.sizeOf4
  v4 := Tryd.zeroValue4
  t5 := Tryd.underlying5
  a5 := Tryd.isAgg5
  z5 := Tryd.sizeOf5
  v5 := Tryd.zeroValue5
  t9 := Tryd.underlying9
  a9 := Tryd.isAgg9
  z9 := Tryd.sizeOf9
  v9 := Tryd.zeroValue9
  t20 := Tryd.underlying20
  a20 := Tryd.isAgg20
  z20 := Tryd.sizeOf20
  v20 := Tryd.zeroValue20
  t21 := Tryd.underlying21
  a21 := Tryd.isAgg21
  z21 := Tryd.sizeOf21
  v21 := Tryd.zeroValue21
  t37 := Tryd.underlying22
  a37 := Tryd.isAgg22
  z37 := Tryd.sizeOf22
  v37 := Tryd.zeroValue22
  t46 := Tryd.underlying77
  a46 := Tryd.isAgg77
  z46 := Tryd.sizeOf77
  v46 := Tryd.zeroValue77
  t51 := Tryd.underlying104
  a51 := Tryd.isAgg104
  z51 := Tryd.sizeOf104
  v51 := Tryd.zeroValue104
  t53 := Tryd.underlying90
  a53 := Tryd.isAgg90
  z53 := Tryd.sizeOf90
  v53 := Tryd.zeroValue90
  t75 := Tryd.underlying68
  a75 := Tryd.isAgg68
  z75 := Tryd.sizeOf68
  v75 := Tryd.zeroValue68
  t76 := Tryd.underlying69
  a76 := Tryd.isAgg69
  z76 := Tryd.sizeOf69
  v76 := Tryd.zeroValue69
  t85 := Tryd.underlying84
  a85 := Tryd.isAgg84
  z85 := Tryd.sizeOf84
  v85 := Tryd.zeroValue84
  t127 := Tryd.underlying115
  a127 := Tryd.isAgg115
  z127 := Tryd.sizeOf115
  v127 := Tryd.zeroValue115
  t143 := Tryd.underlying116
  a143 := Tryd.isAgg116
  z143 := Tryd.sizeOf116
  v143 := Tryd.zeroValue116
  t145 := Tryd.underlying118
  a145 := Tryd.isAgg118
  z145 := Tryd.sizeOf118
  v145 := Tryd.zeroValue118
  t167 := Tryd.underlying83
  a167 := Tryd.isAgg83
  z167 := Tryd.sizeOf83
  v167 := Tryd.zeroValue83
  t168 := Tryd.underlying86
  a168 := Tryd.isAgg86
  z168 := Tryd.sizeOf86
  v168 := Tryd.zeroValue86
  t171 := Tryd.underlying89
  a171 := Tryd.isAgg89
  z171 := Tryd.sizeOf89
  v171 := Tryd.zeroValue89
  t173 := Tryd.underlying93
  a173 := Tryd.isAgg93
  z173 := Tryd.sizeOf93
  v173 := Tryd.zeroValue93
  t175 := Tryd.underlying96
  a175 := Tryd.isAgg96
  z175 := Tryd.sizeOf96
  v175 := Tryd.zeroValue96
  t210 := Tryd.underlying100
  a210 := Tryd.isAgg100
  z210 := Tryd.sizeOf100
  v210 := Tryd.zeroValue100
  t212 := Tryd.underlying103
  a212 := Tryd.isAgg103
  z212 := Tryd.sizeOf103
  v212 := Tryd.zeroValue103
  t213 := Tryd.underlying105
  a213 := Tryd.isAgg105
  z213 := Tryd.sizeOf105
  t232 := Tryd.underlying120
  a232 := Tryd.isAgg120
  z232 := Tryd.sizeOf120
  v232 := Tryd.zeroValue120
  t233 := Tryd.underlying121
  a233 := Tryd.isAgg121
  z233 := Tryd.sizeOf121
  v233 := Tryd.zeroValue121
  g15 := by kernel_rfl
  g16 := by kernel_rfl
  g17 := by kernel_rfl
  g18 := by kernel_rfl
  g19 := by kernel_rfl
  t80 := Tryd.underlying51
  a80 := Tryd.isAgg51
  z80 := Tryd.sizeOf51
  v80 := Tryd.zeroValue51
  i0 := by kernel_rfl
  i2 := by kernel_rfl
  i3 := by kernel_rfl
  i4 := by kernel_rfl
  i5 := by kernel_rfl
  i9 := by kernel_rfl
  i20 := by kernel_rfl
  i21 := by kernel_rfl
  i37 := by kernel_rfl
  i46 := by kernel_rfl
  i51 := by kernel_rfl
  i53 := by kernel_rfl
  i75 := by kernel_rfl
  i76 := by kernel_rfl
  i80 := by kernel_rfl
  i85 := by kernel_rfl
  i127 := by kernel_rfl
  i143 := by kernel_rfl
  i145 := by kernel_rfl
  i167 := by kernel_rfl
  i168 := by kernel_rfl
  i171 := by kernel_rfl
  i173 := by kernel_rfl
  i175 := by kernel_rfl
  i210 := by kernel_rfl
  i212 := by kernel_rfl
  i232 := by kernel_rfl
  i233 := by kernel_rfl
  m15 := by kernel_rfl
  m16 := by kernel_rfl
  m17 := by kernel_rfl
  m18 := by kernel_rfl
  m19 := by kernel_rfl
  c0 := by kernel_rfl
  c2 := by kernel_rfl
  c3 := by kernel_rfl
  c4 := by kernel_rfl
  c5 := by kernel_rfl
  c9 := by kernel_rfl
  c20 := by kernel_rfl
  c21 := by kernel_rfl
  c37 := by kernel_rfl
  c46 := by kernel_rfl
  c51 := by kernel_rfl
  c53 := by kernel_rfl
  c75 := by kernel_rfl
  c76 := by kernel_rfl
  c80 := by kernel_rfl
  c85 := by kernel_rfl
  c127 := by kernel_rfl
  c143 := by kernel_rfl
  c145 := by kernel_rfl
  c167 := by kernel_rfl
  c168 := by kernel_rfl
  c171 := by kernel_rfl
  c173 := by kernel_rfl
  c175 := by kernel_rfl
  c210 := by kernel_rfl
  c212 := by kernel_rfl
  c213 := by kernel_rfl
  c232 := by kernel_rfl
  c233 := by kernel_rfl }
open Go.RowKit in
theorem Tryd.strconv_Atoi_ok (s : ByteArray) (hmax : s.size ≤ 9223372036854775806) (v : Int) (h : Lib.atoiAll s.data.toList = .ok v) (w : World) :
    Calls Tryd.prog 50 #[.string s] w fun e w' => e = .returned (.tuple #[.int .i64 v, .nilIface]) ∧ (w' = w ∨ ∃ t, w' = Lib.bytesWorld w 5 t) := Any.strconv_Atoi_ok Tryd.laysC172 s hmax v h w
open Go.RowKit in
theorem Tryd.strconv_Atoi_syntax_var (s : ByteArray) (hlim : s.size ≤ 281474976710656) (h : Lib.atoiAll s.data.toList = .«syntax») (tp : TypeId) (p : Value) (w : World) (hvar : w.var? Tryd.prog "strconv.ErrSyntax" = some #[.iface tp p]) :
    Calls Tryd.prog 50 #[.string s] w fun e w' => ∃ N, e = .returned (.tuple #[.int .i64 0, .iface 86 (.pointer (some ⟨N, 0, none⟩))]) ∧ w.heap.size ≤ N ∧ w'.heap[N]? = some (.cells #[.string ⟨#[65, 116, 111, 105]⟩, .string s, .iface tp p] 100 (0, 0)) ∧ Below w.heap.size w w' := Any.strconv_Atoi_syntax_var Tryd.laysC172 s hlim h tp p w hvar
open Go.RowKit in
theorem Tryd.strconv_Atoi_range_var (s : ByteArray) (hlim : s.size ≤ 281474976710656) (h : Lib.atoiAll s.data.toList = .range) (tp : TypeId) (p : Value) (w : World) (hvar : w.var? Tryd.prog "strconv.ErrRange" = some #[.iface tp p]) :
    Calls Tryd.prog 50 #[.string s] w fun e w' => ∃ N, e = .returned (.tuple #[.int .i64 (Lib.atoiSat s.data.toList), .iface 86 (.pointer (some ⟨N, 0, none⟩))]) ∧ w.heap.size ≤ N ∧ w'.heap[N]? = some (.cells #[.string ⟨#[65, 116, 111, 105]⟩, .string s, .iface tp p] 100 (0, 0)) ∧ Below w.heap.size w w' := Any.strconv_Atoi_range_var Tryd.laysC172 s hlim h tp p w hvar
def Tryd.laysM146_ren : Go.Shelf.Ren := ⟨fun | 146 => 30 | 221 => 49 | 268 => 57 | 138 => 58 | 143 => 59 | 195 => 63 | 197 => 64 | 218 => 65 | 219 => 66 | 260 => 76 | 217 => 77 | 225 => 78 | 224 => 79 | 267 => 80 | 266 => 89 | 314 => 90 | n => n, fun | 9 => 9 | 31 => 49 | 3 => 3 | 4 => 4 | 0 => 0 | 105 => 80 | 21 => 21 | 5 => 5 | 46 => 77 | 119 => 108 | 139 => 111 | 138 => 110 | 146 => 112 | 51 => 104 | n => n, fun | 1 => 0 | 3 => 4 | 4 => 5 | n => n⟩
theorem Tryd.laysM146 : Go.Proofs.LaysM.n146 Tryd.prog Tryd.laysM146_ren := {
  mixed := by kernel_rfl
  f138 := Tryd.func58.trans (congrArg some (by kernel_rfl))
  f143 := Tryd.func59.trans (congrArg some (by kernel_rfl))
  f146 := Tryd.func30.trans (congrArg some (by kernel_rfl))
  f195 := Tryd.func63.trans (congrArg some (by kernel_rfl))
  f197 := Tryd.func64.trans (congrArg some (by kernel_rfl))
  f217 := Tryd.func77.trans (congrArg some (by kernel_rfl))
  f218 := Tryd.func65.trans (congrArg some (by kernel_rfl))
  f219 := Tryd.func66.trans (congrArg some (by kernel_rfl))
  f221 := Tryd.func49.trans (congrArg some (by kernel_rfl))
  f224 := Tryd.func79.trans (congrArg some (by kernel_rfl))
  f225 := Tryd.func78.trans (congrArg some (by kernel_rfl))
  f260 := Tryd.func76.trans (congrArg some (by kernel_rfl))
  f266 := Tryd.func89.trans (congrArg some (by kernel_rfl))
  f267 := Tryd.func80.trans (congrArg some (by kernel_rfl))
  f268 := Tryd.func57.trans (congrArg some (by kernel_rfl))
  f314 := Tryd.func90.trans (congrArg some (by kernel_rfl))
  t0 := Tryd.underlying0
  a0 := Tryd.isAgg0
  z0 := Tryd.sizeOf0
  v0 := Tryd.zeroValue0
  t3 := Tryd.underlying3
  a3 := Tryd.isAgg3
  z3 := Tryd.sizeOf3
  v3 := Tryd.zeroValue3
  t4 := Tryd.underlying4
  a4 := Tryd.isAgg4
  z4 := Tryd.sizeOf4
  v4 := Tryd.zeroValue4
  t5 := Tryd.underlying5
  a5 := Tryd.isAgg5
  z5 := Tryd.sizeOf5
  v5 := Tryd.zeroValue5
  t9 := Tryd.underlying9
  a9 := Tryd.isAgg9
  z9 := Tryd.sizeOf9
  v9 := Tryd.zeroValue9
  t21 := Tryd.underlying21
  a21 := Tryd.isAgg21
  z21 := Tryd.sizeOf21
  v21 := Tryd.zeroValue21
  t31 := Tryd.underlying49
  a31 := Tryd.isAgg49
  z31 := Tryd.sizeOf49
  v31 := Tryd.zeroValue49
  t46 := Tryd.underlying77
  a46 := Tryd.isAgg77
  z46 := Tryd.sizeOf77
  v46 := Tryd.zeroValue77
  t51 := Tryd.underlying104
  a51 := Tryd.isAgg104
  z51 := Tryd.sizeOf104
  v51 := Tryd.zeroValue104
  t105 := Tryd.underlying80
  a105 := Tryd.isAgg80
  z105 := Tryd.sizeOf80
  v105 := Tryd.zeroValue80
  t119 := Tryd.underlying108
  a119 := Tryd.isAgg108
  z119 := Tryd.sizeOf108
  t138 := Tryd.underlying110
  a138 := Tryd.isAgg110
  z138 := Tryd.sizeOf110
  v138 := Tryd.zeroValue110
  t139 := Tryd.underlying111
  a139 := Tryd.isAgg111
  z139 := Tryd.sizeOf111
  v139 := Tryd.zeroValue111
  t146 := Tryd.underlying112
  a146 := Tryd.isAgg112
  z146 := Tryd.sizeOf112
  v146 := Tryd.zeroValue112
  g1 := by kernel_rfl
  g3 := by kernel_rfl
  g4 := by kernel_rfl
  i0 := by kernel_rfl
  i3 := by kernel_rfl
  i4 := by kernel_rfl
  i5 := by kernel_rfl
  i9 := by kernel_rfl
  i21 := by kernel_rfl
  i31 := by kernel_rfl
  i46 := by kernel_rfl
  i51 := by kernel_rfl
  i105 := by kernel_rfl
  i138 := by kernel_rfl
  i139 := by kernel_rfl
  i146 := by kernel_rfl
  m1 := by kernel_rfl
  s1_3 := fun w h => Go.Proofs.cell_of_shapedOpen_int (zero := #[.int .i64 0]) (t := 3) h (of_decide_eq_true (by kernel_rfl)) (by kernel_rfl) rfl (by kernel_rfl) (by kernel_rfl) Tryd.underlying3
  m3 := by kernel_rfl
  m4 := by kernel_rfl }
open Go.RowKit Go.Lib in
theorem Tryd.strings_Split_shaped (s sep : ByteArray) (w : World) (h : w.ShapedOpen Tryd.prog) (hs : s.size < 4294967281) (h1 : 1 ≤ sep.size) :
    Calls Tryd.prog 30 #[.string s, .string sep] w fun e w' =>
      e = .returned (.slice (some ⟨w.heap.size, 0, none⟩) (Lib.countB s sep + 1) (Lib.countB s sep + 1)) ∧ w' = w.alloc (.cells ((Lib.splitB sep 0 (Lib.countB s sep) s).map Value.string).toArray 9) := Any.strings_Split_shaped Tryd.laysM146 s sep w h hs h1
end Go.Proofs
namespace Go.Proofs.YtlicnppfgfjkgaaDoor
open Go.ChangeShapes Go.WideShapes Go.RowKit
set_option linter.unusedVariables false

/-- what the walks ask of the library's variables -/
structure Gd (w : World) : Prop where
  tab : Tab w
  syn : ∃ tp p, w.var? Tryd.prog "strconv.ErrSyntax" = some #[.iface tp p]
  rng : ∃ tp p, w.var? Tryd.prog "strconv.ErrRange" = some #[.iface tp p]
  max : ∃ m, w.cell? ⟨Tryd.laysM146_ren.g 1, 0, none⟩ = some (.int .i64 m)
theorem Gd.bel {w w' : World} (h : Gd w) (hb : Below w.heap.size w w') : Gd w' := by
  obtain ⟨tp, p, h1⟩ := h.syn
  obtain ⟨tq, q, h2⟩ := h.rng
  obtain ⟨m, h3⟩ := h.max
  have hv : ∀ n cs, w.var? Tryd.prog n = some cs → w'.var? Tryd.prog n = some cs := by
    intro n cs hn
    unfold World.var? at hn ⊢
    cases hg : Tryd.prog.globalNamed n with
    | none => simp [hg] at hn
    | some g =>
      simp only [hg, Option.bind_some] at hn ⊢
      have hlt : g < w.heap.size := by
        rcases Nat.lt_or_ge g w.heap.size with h' | h'
        · exact h'
        · simp [Array.getElem?_eq_none h'] at hn
      rw [hb.block g hlt]; exact hn
  refine ⟨h.tab.bel hb, ⟨tp, p, hv _ _ h1⟩, ⟨tq, q, hv _ _ h2⟩, ⟨m, ?_⟩⟩
  have hlt : Tryd.laysM146_ren.g 1 < w.heap.size := by
    unfold World.cell? at h3
    cases hh : w.heap[Tryd.laysM146_ren.g 1]? with
    | none => simp [hh] at h3
    | some x => exact (Array.getElem?_eq_some_iff.1 hh).1
  rw [hb.cell (p := ⟨Tryd.laysM146_ren.g 1, 0, none⟩) hlt]; exact h3

/-- what ParseInt returns -/
def numV (l : List UInt8) : Value := .tuple #[.int .i64 (numD l), .bool (parseNum l).isSome]
theorem numV_none {l : List UInt8} (h : parseNum l = none) : numV l = .tuple #[.int .i64 0, .bool false] := by
  unfold numV numD; rw [h]; rfl
theorem numV_some {l : List UInt8} {m : Nat} (h : parseNum l = some m) : numV l = .tuple #[.int .i64 m, .bool true] := by
  unfold numV numD; rw [h]; rfl
theorem bytes_old (w : World) (T : TypeId) (t : Array UInt8) : True := trivial

set_option maxRecDepth 100000 in
set_option maxHeartbeats 4000000 in
theorem implParseInt_any (s : ByteArray) (w : World) (hs : s.size ≤ 1048576) (hG : Gd w) :
    Calls Tryd.prog 32 #[.string s] w (Gives w (numV s.data.toList)) := by
  have HG := Lib.hid hG
  clear hG
  cases h : Lib.atoiAll s.data.toList with
  | ok v =>
    have hp : ∀ m, parseNum s.data.toList = some m → v = m := fun m hm => by
      have := (parseNum_atoi' hm).1
      rw [h] at this; injection this
    have hv := Lib.atoiAll_bounds h
    have hA : ∀ W, Calls Tryd.prog 50 #[.string s] W (Gives W (.tuple #[.int .i64 v, .nilIface])) := fun W =>
      (Tryd.strconv_Atoi_ok s (by omega) v h W).mono fun e w' ⟨he, hw⟩ => ⟨he, by
        rcases hw with rfl | ⟨t, rfl⟩
        · exact Below.refl _ _
        · exact Lib.bytesWorld_below _ _ _⟩
    by_cases h0 : v < 0
    · rw [numV_none (by cases hn : parseNum s.data.toList with | none => rfl | some m => have := hp m hn; omega)]
      clear hp h
      go_enter Tryd.func32, Tryd.ntmps32
      go_wp2_with (go_at_call 50; refine (hA _).mono ?_; rintro e w1 ⟨rfl, hb1⟩)
      refine bodyPost_ret (v := .tuple #[.int .i64 0, .bool false]) (by simp [results, Tryd.results32]) rfl ?_
      exact ⟨rfl, hb1⟩
    · by_cases h1 : 1000000000000 < v
      · rw [numV_none (by cases hn : parseNum s.data.toList with | none => rfl | some m => have := hp m hn; have := (parseNum_some hn).1; omega)]
        clear hp h
        go_enter Tryd.func32, Tryd.ntmps32
        go_wp2_with (go_at_call 50; refine (hA _).mono ?_; rintro e w1 ⟨rfl, hb1⟩)
        refine bodyPost_ret (v := .tuple #[.int .i64 0, .bool false]) (by simp [results, Tryd.results32]) rfl ?_
        exact ⟨rfl, hb1⟩
      · obtain ⟨sv, hsv⟩ : ∃ q, baOf (Lib.decDigits v.toNat) = q := ⟨_, rfl⟩
        have hF : ∀ W, Tab W → Calls Tryd.prog 29 #[.int .i64 v] W (Gives W (.string sv)) := fun W hT => by rw [← hsv]; exact implFormatInt_any v (by omega) hv.2 W hT
        cases hq : (sv.toList == s.toList) with
        | true =>
          have he : parseNum s.data.toList = some v.toNat := by
            rw [Lib.toList_data, Lib.toList_data] at hq
            refine parseNum_atoi h (by omega) (by omega) ?_
            rw [itoa_nat (by omega), ← eq_of_beq hq, ← hsv]; rfl
          rw [numV_some he, show ((v.toNat : Nat) : Int) = v by omega]
          clear hp h hsv he
          go_enter Tryd.func32, Tryd.ntmps32
          go_wp2_with (first
            | (go_at_call 50; refine (hA _).mono ?_; rintro e w1 ⟨rfl, hb1⟩)
            | (go_at_call 29; refine (hF _ (HG.out.bel hb1).tab).mono ?_; rintro e w2 ⟨rfl, hb2⟩))
          refine bodyPost_ret (v := .tuple #[.int .i64 v, .bool true]) (by simp [results, Tryd.results32]) rfl ?_
          exact ⟨rfl, bel_then hb1 hb2⟩
        | false =>
          have he : parseNum s.data.toList = none := by
            cases hn : parseNum s.data.toList with
            | none => rfl
            | some m =>
              obtain ⟨-, k2, -⟩ := parseNum_atoi' hn
              have := hp m hn
              subst this
              rw [Lib.toList_data, Lib.toList_data, ← hsv] at hq
              rw [itoa_nat (by omega)] at k2
              exact absurd k2 (by simpa [baOf] using hq)
          rw [numV_none he]
          clear hp h hsv he
          go_enter Tryd.func32, Tryd.ntmps32
          go_wp2_with (first
            | (go_at_call 50; refine (hA _).mono ?_; rintro e w1 ⟨rfl, hb1⟩)
            | (go_at_call 29; refine (hF _ (HG.out.bel hb1).tab).mono ?_; rintro e w2 ⟨rfl, hb2⟩))
          refine bodyPost_ret (v := .tuple #[.int .i64 0, .bool false]) (by simp [results, Tryd.results32]) rfl ?_
          exact ⟨rfl, bel_then hb1 hb2⟩
  | «syntax» =>
    have he : parseNum s.data.toList = none := by
      cases hn : parseNum s.data.toList with
      | none => rfl
      | some m => have := (parseNum_atoi' hn).1; rw [h] at this; cases this
    have hA : ∀ W, Gd W → Calls Tryd.prog 50 #[.string s] W fun e w' => ∃ (T : TypeId) (N : Nat), e = .returned (.tuple #[.int .i64 0, .iface T (.pointer (some ⟨N, 0, none⟩))]) ∧ Below W.heap.size W w' := fun W hg => by
      obtain ⟨tp, p, hv⟩ := hg.syn
      refine (Tryd.strconv_Atoi_syntax_var s (by omega) h tp p W hv).mono ?_
      rintro e w' ⟨N, rfl, -, -, hb⟩
      exact ⟨_, N, rfl, hb⟩
    rw [numV_none he]
    clear h he
    go_enter Tryd.func32, Tryd.ntmps32
    go_wp2_with (go_at_call 50; refine (hA _ HG.out).mono ?_; rintro e w1 ⟨T, N, rfl, hb1⟩)
    refine bodyPost_ret (v := .tuple #[.int .i64 0, .bool false]) (by simp [results, Tryd.results32]) rfl ?_
    exact ⟨rfl, hb1⟩
  | range =>
    have he : parseNum s.data.toList = none := by
      cases hn : parseNum s.data.toList with
      | none => rfl
      | some m => have := (parseNum_atoi' hn).1; rw [h] at this; cases this
    have hA : ∀ W, Gd W → Calls Tryd.prog 50 #[.string s] W fun e w' => ∃ (T : TypeId) (N : Nat) (z : Int), e = .returned (.tuple #[.int .i64 z, .iface T (.pointer (some ⟨N, 0, none⟩))]) ∧ Below W.heap.size W w' := fun W hg => by
      obtain ⟨tp, p, hv⟩ := hg.rng
      refine (Tryd.strconv_Atoi_range_var s (by omega) h tp p W hv).mono ?_
      rintro e w' ⟨N, rfl, -, -, hb⟩
      exact ⟨_, N, _, rfl, hb⟩
    rw [numV_none he]
    clear h he
    go_enter Tryd.func32, Tryd.ntmps32
    go_wp2_with (go_at_call 50; refine (hA _ HG.out).mono ?_; rintro e w1 ⟨T, N, z, rfl, hb1⟩)
    refine bodyPost_ret (v := .tuple #[.int .i64 0, .bool false]) (by simp [results, Tryd.results32]) rfl ?_
    exact ⟨rfl, hb1⟩
end Go.Proofs.YtlicnppfgfjkgaaDoor
namespace Go.Proofs.YtlicnppfgfjkgaaDoor
open Go.ChangeShapes Go.WideShapes Go.RowKit
set_option linter.unusedVariables false

theorem row_errorString (u : TypeId) (h : Tryd.prog.typeName? 3 u = some "*errors.errorString") : u = 116 := by
  have star : "*" ++ "errors.errorString" = "*errors.errorString" := by decide
  exact typeName_ptr_named (nm := "errors.errorString") (by rw [star]; kernel_rfl) (by kernel_rfl) (by decide) u (by rw [star]; exact h)
set_option maxRecDepth 100000 in
theorem gd_of {W : World} (hL : laidMet Tryd.prog Rows.fnExactParseInstrRow.laid W) (hsh : W.ShapedOpen Tryd.prog) : Gd W := by
  have h1 := laidMet.tail (laidMet.tail hL)
  have h2 := laidMet.tail (laidMet.tail h1)
  have h3 := laidMet.tail h2
  refine ⟨tab_of h1, ?_, ?_, Tryd.laysM146.s1_3 W hsh⟩
  · obtain ⟨g, hg, ht⟩ := Option.bind_eq_some_iff.1 (show ((Tryd.prog.globalNamed "strconv.ErrSyntax").bind fun g => (Tryd.prog.globals[g]?).map (·.type)) = some 68 by kernel_rfl)
    obtain ⟨a0, s0, hv0, -, -, -⟩ := laid_sentinel h3 hg ht Tryd.underlying68 row_errorString Tryd.underlying116 Tryd.underlying118 rfl rfl Tryd.underlying9 (by kernel_rfl) (by kernel_rfl)
    exact ⟨_, _, hv0⟩
  · obtain ⟨g, hg, ht⟩ := Option.bind_eq_some_iff.1 (show ((Tryd.prog.globalNamed "strconv.ErrRange").bind fun g => (Tryd.prog.globals[g]?).map (·.type)) = some 68 by kernel_rfl)
    obtain ⟨a0, s0, hv0, -, -, -⟩ := laid_sentinel h2 hg ht Tryd.underlying68 row_errorString Tryd.underlying116 Tryd.underlying118 rfl rfl Tryd.underlying9 (by kernel_rfl) (by kernel_rfl)
    exact ⟨_, _, hv0⟩
end Go.Proofs.YtlicnppfgfjkgaaDoor
namespace Go.Proofs.YtlicnppfgfjkgaaDoor
open Go.RowKit
set_option linter.unusedVariables false

/-- the block that an append may write in place -/
def ownB : Value → Option Nat
  | .slice (some a) _ (_ + 1) => some a.block
  | _ => none

theorem ownB_own : ∀ {v : Value} {g : Nat}, ownB v = some g → v.ownBlock = some g
  | .slice (some a) _ (_ + 1), _, h => h
  | .slice (some a) _ 0, _, h => by simp [ownB] at h
  | .slice none _ _, _, h => by simp [ownB] at h

section
variable {α : Type}
def Own (c : Cod α) (e : TypeId) (B : Nat) (w : World) (v : Value) (xs : List α) (Fi : List Nat) : Prop :=
  (xs = [] ∧ Fi = [] ∧ ∃ A, v = .slice A 0 0) ∨ ∃ us, w.ownsRow B e c.wd v xs.length us ∧ c.reps w us xs Fi

variable {c : Cod α} {e : TypeId} {B : Nat} {w w' : World} {v : Value} {xs ys : List α} {Fi Fy : List Nat}

theorem Own.empty (A : Option Addr) : Own c e B w (.slice A 0 0) [] [] := .inl ⟨rfl, rfl, A, rfl⟩
/-- The forms of an owned row. -/
theorem Own.form (h : Own c e B w v xs Fi) : (xs = [] ∧ Fi = [] ∧ ∃ A, v = .slice A 0 0) ∨
    ∃ g cap cur us, v = .slice (some ⟨g, 0, none⟩) xs.length (cap + 1) ∧ B ≤ g ∧ w.heap[g]? = some (.cells cur e) ∧ xs.length ≤ cap + 1 ∧ cap + 1 ≤ maxLen ∧
      cur.size = (cap + 1) * c.wd ∧ cur.toList.take (xs.length * c.wd) = us ∧ w.ownsRow B e c.wd v xs.length us ∧ c.reps w us xs Fi := by
  rcases h with h | ⟨us, h, hr⟩
  · exact .inl h
  · have h' := h
    obtain ⟨hl, ⟨rfl, hn⟩ | ⟨g, cap, cur, rfl, hB, hg, hnc, hcm, hsz, ht⟩⟩ := h'
    · have hx : xs = [] := List.eq_nil_of_length_eq_zero hn
      subst hx
      exact .inl ⟨rfl, hr.2, none, rfl⟩
    · cases cap with
      | zero =>
        have hx : xs = [] := List.eq_nil_of_length_eq_zero (by omega)
        subst hx
        exact .inl ⟨rfl, hr.2, _, rfl⟩
      | succ cap => exact .inr ⟨g, cap, cur, us, rfl, hB, hg, hnc, hcm, hsz, ht, h, hr⟩
theorem Own.slice (h : Own c e B w v xs Fi) : ∃ A cp, v = .slice A xs.length cp := by
  rcases h.form with ⟨rfl, -, A, rfl⟩ | ⟨g, cap, cur, us, rfl, -⟩
  · exact ⟨A, 0, rfl⟩
  · exact ⟨_, _, rfl⟩
theorem Own.lt (h : Own c e B w v xs Fi) : ∀ g, ownB v = some g → B ≤ g ∧ g < w.heap.size := by
  intro g hg
  rcases h.form with ⟨-, -, A, rfl⟩ | ⟨g', cap, cur, us, rfl, hB, hh, -⟩
  · cases A <;> simp [ownB] at hg
  · simp only [ownB, Option.some.injEq] at hg
    subst hg
    exact ⟨hB, (Array.getElem?_eq_some_iff.1 hh).1⟩
theorem Own.inner_lt (h : Own c e B w v xs Fi) : ∀ b, b ∈ Fi → b < w.heap.size := by
  intro b hb
  rcases h.form with ⟨-, rfl, -⟩ | ⟨g', cap, cur, us, -, -, -, -, -, -, -, -, hr⟩
  · simp at hb
  · exact Cod.reps_lt hr b hb
theorem Own.mono {B' : Nat} (h : Own c e B w v xs Fi) (hB : B' ≤ B) : Own c e B' w v xs Fi := by
  rcases h with h | ⟨us, ⟨hl, h⟩, hr⟩
  · exact .inl h
  · refine .inr ⟨us, ⟨hl, ?_⟩, hr⟩
    rcases h with h | ⟨g, cap, cur, h1, h2, h3⟩
    · exact .inl h
    · exact .inr ⟨g, cap, cur, h1, Nat.le_trans hB h2, h3⟩
/-- kept where its blocks are -/
theorem Own.keep (h : Own c e B w v xs Fi) (hg : ∀ g, ownB v = some g → w'.heap[g]? = w.heap[g]?) (hi : ∀ b, b ∈ Fi → w'.heap[b]? = w.heap[b]?) : Own c e B w' v xs Fi := by
  rcases h.form with h | ⟨g, cap, cur, us, rfl, hB, hh, hn, hm, hs, ht, ho, hr⟩
  · exact .inl h
  · exact .inr ⟨us, ⟨ho.1, .inr ⟨g, cap + 1, cur, rfl, hB, (hg g rfl).trans hh, hn, hm, hs, ht⟩⟩, Cod.reps_keep hr hi⟩
theorem Own.bel (h : Own c e B w v xs Fi) (hb : Below w.heap.size w w') : Own c e B w' v xs Fi :=
  h.keep (fun g hg => hb.block g (h.lt g hg).2) (fun b hm => hb.block b (h.inner_lt b hm))
theorem Own.grown (h : Own c e B w v xs Fi) {row : Option Nat} (hg : w.grownBy w' row) (hne : ∀ g, row = some g → ownB v ≠ some g ∧ g ∉ Fi) : Own c e B w' v xs Fi :=
  h.keep (fun g hv => hg.block g (h.lt g hv).2 (fun e => (hne g e.symm).1 hv)) (fun b hm => hg.block b (h.inner_lt b hm) (fun e => (hne b e.symm).2 hm))
/-- what it reads as -/
theorem Own.rep {hw : 0 < c.wd} {hw2 : c.wd ≤ 32} (h : Own c e B w v xs Fi) : ∃ F, (cL c hw hw2).rep w [v] xs F ∧ (∀ b, b ∈ F → ownB v = some b ∨ b ∈ Fi) ∧ ((∀ g, ownB v = some g → g ∉ Fi) → Fi.Nodup → F.Nodup) := by
  rcases h.form with ⟨rfl, rfl, A, rfl⟩ | ⟨g, cap, cur, us, rfl, hB, hh, hn, hm, hs, ht, ho, hr⟩
  · exact ⟨[], ⟨A, 0, rfl, Nat.le_refl _, by decide, .inl ⟨rfl, rfl⟩⟩, by simp, by simp⟩
  · cases xs with
    | nil => exact ⟨[], ⟨_, cap + 1, rfl, hn, hm, .inl ⟨rfl, rfl⟩⟩, by simp, by simp⟩
    | cons x xs =>
      refine ⟨g :: Fi, ⟨_, cap + 1, rfl, hn, hm, .inr ⟨by simp, g, 0, Fi, us, rfl, rfl, fun j u hu => ?_, hr⟩⟩, fun b hb => ?_, fun h1 h2 => ?_⟩
      · have hj := (List.getElem?_eq_some_iff.1 hu).1
        rw [ho.1] at hj
        rw [Nat.zero_add]
        exact ⟨(ho.cellAt j hj).trans hu, ho.frozenAt j⟩
      · rcases List.mem_cons.1 hb with rfl | hb
        · exact .inl rfl
        · exact .inr hb
      · exact List.nodup_cons.2 ⟨h1 g rfl, h2⟩

/-- blocks that are the call's own -/
theorem Own.fresh {hw : 0 < c.wd} {hw2 : c.wd ≤ 32} (h : Own c e B w v xs []) : ∃ F, (cL c hw hw2).rep w [v] xs F ∧ Fresh B F ∧ ∀ b, b ∈ F → ownB v = some b := by
  obtain ⟨F, h1, h2, h3⟩ := h.rep (hw := hw) (hw2 := hw2)
  have h4 : ∀ b, b ∈ F → ownB v = some b := fun b hb => by
    rcases h2 b hb with h | h
    · exact h
    · simp at h
  exact ⟨F, h1, ⟨fun b hb => (h.lt b (h4 b hb)).1, h3 (by simp) (by simp)⟩, h4⟩
end

theorem belB_alloc {B : Nat} {a w : World} (hB : B ≤ a.heap.size) (h : Below B a w) (o : Obj) : Below B a (w.alloc o) := h.trans ((bel_alloc (Below.refl _ _) o).mono (Nat.le_trans hB h.size))
theorem belB_drew {B : Nat} {a w : World} (h : Below B a w) : Below B a w.drew := h.drew
theorem belB_drewN {B : Nat} {a w : World} (h : Below B a w) (n : Nat) : Below B a (w.drewN n) := ⟨h.os, h.tape, h.output, h.size, h.block⟩
theorem belB_set {B : Nat} {a w : World} {p : Addr} (hp : B ≤ p.block) (h : Below B a w) (u : Value) : Below B a (w.setCell p u) :=
  h.trans ⟨rfl, rfl, rfl, by simp, fun i hi => Below.heap_setCell _ _ _ _ (by omega)⟩
theorem belB_then {B : Nat} {a w w' : World} (hB : B ≤ a.heap.size) (h : Below B a w) (k : Below w.heap.size w w') : Below B a w' := h.trans (k.mono (Nat.le_trans hB h.size))
theorem Own.keepF {α : Type} {c : Cod α} {e : TypeId} {B : Nat} {w w' : World} {v : Value} {xs : List α} (h : Own c e B w v xs []) (hk : Keep B w w') : Own c e B w' v xs [] :=
  h.keep (fun g hg => hk.block g (h.lt g hg).1 (h.lt g hg).2) (fun b hb => by simp at hb)

theorem Own.set_ {α : Type} {c : Cod α} {e : TypeId} {B : Nat} {w : World} {v : Value} {xs : List α} (h : Own c e B w v xs []) {p : Addr} (hp : ownB v ≠ some p.block) (u : Value) : Own c e B (w.setCell p u) v xs [] :=
  h.keep (fun g hg => Below.heap_setCell _ _ _ _ (fun e => hp (e ▸ hg))) (fun b hb => by simp at hb)

/-! ### append -/
section
variable {α : Type} {c : Cod α} {e : TypeId} {B : Nat} {v : Value} {xs ys : List α} {Fi Fy : List Nat} {P : Program} (w : World)

theorem run_append_zero (t ty e : TypeId) (i : TypeInfo) (ht : P.underlying t = some (.slice e)) (hi : P.info? e = some i) (A D : Option Addr) (n cap d : Nat) (hn : n ≤ cap) :
    (Builtin.append_ #[t, t] ty #[.slice A n cap, .slice D 0 d]).run P w = .ok (.slice A n cap) w := by
  cases A <;> cases D <;> simp [Builtin.append_, run_underlying ht, sizeOf, typeInfo, hi, Builtin.lenOf, Builtin.firstCells, hn, storeCells, loadCells, loadCellsFrom]

/-- what is appended: nothing, or cells that lie in a row -/
def AppSrc (c : Cod α) (w : World) (x : Value) (ys : List α) (Fy : List Nat) : Prop :=
  ∃ A d news, x = .slice A ys.length d ∧ c.reps w news ys Fy ∧ (0 < ys.length → ∃ ad, A = some ad ∧ ∀ j u, news[j]? = some u → w.cell? (ad.add j) = some u)

theorem AppSrc.of_rep {hw : 0 < c.wd} {hw2 : c.wd ≤ 32} {x : Value} {F : List Nat} (h : (cL c hw hw2).rep w [x] ys F) : ∃ Fy, AppSrc c w x ys Fy ∧ ∀ b, b ∈ Fy → b ∈ F := by
  obtain ⟨A, cp, hx, hl, hm, ⟨rfl, rfl⟩ | ⟨hne, g, o, Fs, us, rfl, rfl, hc, hr⟩⟩ := h
  · simp only [List.cons.injEq, and_true] at hx
    subst hx
    exact ⟨[], ⟨A, cp, [], rfl, ⟨rfl, rfl⟩, fun h => by simp at h⟩, by simp⟩
  · simp only [List.cons.injEq, and_true] at hx
    subst hx
    refine ⟨Fs, ⟨_, cp, us, rfl, hr, fun _ => ⟨_, rfl, fun j u hu => ?_⟩⟩, fun b hb => by simp [hb]⟩
    rw [Addr.add_lit]; exact (hc j u hu).1

theorem run_app (t ty : TypeId) (i : TypeInfo) (z : Value) (bytes : Nat) (ht : P.underlying t = some (.slice e)) (hi : P.info? e = some i) (hz : i.zero = some z)
    (hsize : i.size = c.wd) (hby : i.bytes = bytes) (hzs : z.cells.size = c.wd) (hw : 0 < c.wd)
    (hown : Own c e B w v xs Fi) (x : Value) (hx : AppSrc c w x ys Fy)
    (h63 : xs.length + ys.length ≤ maxLen) (hbytes : (xs.length + ys.length) * bytes ≤ 140737488355328) (hB : B ≤ w.heap.size)
    (hd : ∀ g, ownB v = some g → g ∉ Fi ∧ g ∉ Fy) :
    ∃ v' w', (Builtin.append_ #[t, t] ty #[v, x]).run P w = .ok v' w' ∧ Own c e B w' v' (xs ++ ys) (Fi ++ Fy) ∧ w.grownBy w' (ownB v) ∧
      (∀ g, ownB v' = some g → ownB v = some g ∨ w.heap.size ≤ g) := by
  obtain ⟨A, d, news, rfl, hr, hA⟩ := hx
  cases ys with
  | nil =>
    obtain rfl : Fy = [] := hr.2
    rcases hown.form with ⟨rfl, rfl, A', rfl⟩ | ⟨g, cap, cur, us, rfl, hBg, hg, hn, hm, hs, hu, ho, hro⟩
    · exact ⟨_, w, run_append_zero w t ty e i ht hi A' A 0 0 d (Nat.le_refl _), .inl ⟨rfl, rfl, A', rfl⟩, World.grownBy.refl w _, fun g h => .inl h⟩
    · exact ⟨_, w, run_append_zero w t ty e i ht hi _ A _ _ d hn, by simpa using hown, World.grownBy.refl w _, fun g h => .inl h⟩
  | cons y ys =>
    obtain ⟨ad, rfl, hc⟩ := hA (by simp)
    have hl := Cod.reps_len hr
    have h1 := Cod.reps_ones hr
    rcases hown.form with ⟨rfl, rfl, A', rfl⟩ | ⟨g, cap, cur, us, rfl, hBg, hg, hn, hm, hs, hu, ho, hro⟩
    · have key : ∃ v' w', (Builtin.append_ #[t, t] ty #[.slice A' 0 0, .slice (some ad) (y :: ys).length d]).run P w = .ok v' w' ∧ w'.ownsRow w.heap.size e c.wd v' (0 + (y :: ys).length) ([] ++ news) ∧ w.grownBy w' none := by
        cases A' with
        | none =>
          obtain ⟨v', w', k1, k2, k3, -⟩ := run_append_own (P := P) w w.heap.size t ty e i z c.wd bytes ht hi hz hsize hby hzs hw (.slice none 0 0) 0 [] ⟨by simp, .inl ⟨rfl, rfl⟩⟩ ad (y :: ys).length d news hl hc h1 (by simpa using h63) (by simpa using hbytes) (Nat.le_refl _)
          exact ⟨v', w', k1, k2, k3⟩
        | some b =>
          exact run_append_arg_grows (P := P) w t ty e i z c.wd bytes ht hi hz hsize hby hzs hw b 0 0 [] (by simp) (fun j u h => by simp at h) ad (y :: ys).length d news hl hc (by simp) (by simpa using h63) (by simpa using hbytes)
      obtain ⟨v', w', k1, k2, k3⟩ := key
      have hown' : Own c e w.heap.size w' v' (y :: ys) Fy := by
        refine .inr ⟨news, by simpa using k2, Cod.reps_keep hr fun b hb => k3.block b (Cod.reps_lt hr b hb) (by simp)⟩
      refine ⟨v', w', k1, by simpa using hown'.mono hB, by cases A' <;> exact k3, fun g h => .inr (hown'.lt g h).1⟩
    · obtain ⟨v', w', k1, k2, k3, -, k5⟩ := run_append_own_at (P := P) w B t ty e i z c.wd bytes ht hi hz hsize hby hzs hw _ xs.length us ho ad (y :: ys).length d news hl hc h1 h63 hbytes hB
      have hdg := hd g rfl
      refine ⟨v', w', k1, ?_, k3, fun g' h => ?_⟩
      · refine .inr ⟨us ++ news, by rw [List.length_append]; exact k2, Cod.reps_app (Cod.reps_keep hro fun b hb => k3.block b (Cod.reps_lt hro b hb) (fun h => ?_)) (Cod.reps_keep hr fun b hb => k3.block b (Cod.reps_lt hr b hb) (fun h => ?_))⟩
        · simp only [Value.ownBlock, Option.some.injEq] at h; subst h; exact hdg.1 hb
        · simp only [Value.ownBlock, Option.some.injEq] at h; subst h; exact hdg.2 hb
      · have h2 := ownB_own h
        rcases k5 with k5 | k5
        · rw [k5] at h2; exact .inl h2
        · rw [k5, Option.some.injEq] at h2; exact .inr (by omega)

theorem wp_app {o : Oper} {a : Act} {K : Act → World → Prop} {Q : Exit → Act → World → Prop} (s x' : Operand) (t : TypeId)
    (ho : o.op = .call { callee := .builtin .append, args := #[s, x'], argTypes := #[t, t] })
    (i : TypeInfo) (z : Value) (bytes : Nat) (ht : P.underlying t = some (.slice e)) (hi : P.info? e = some i) (hz : i.zero = some z)
    (hsize : i.size = c.wd) (hby : i.bytes = bytes) (hzs : z.cells.size = c.wd) (hw : 0 < c.wd)
    (hs : a.eval s = v) (hown : Own c e B w v xs Fi) (x : Value) (hx' : a.eval x' = x) (hx : AppSrc c w x ys Fy)
    (h63 : xs.length + ys.length ≤ maxLen) (hbytes : (xs.length + ys.length) * bytes ≤ 140737488355328) (hB : B ≤ w.heap.size)
    (hd : ∀ g, ownB v = some g → g ∉ Fi ∧ g ∉ Fy)
    (h : ∀ v' w', Own c e B w' v' (xs ++ ys) (Fi ++ Fy) → w.grownBy w' (ownB v) → (∀ g, ownB v' = some g → ownB v = some g ∨ w.heap.size ≤ g) → K (a.put o.dst v') w') : o.wp P a w K Q := by
  obtain ⟨v', w', hrun, h2, h3, h4⟩ := run_app (P := P) w t o.type i z bytes ht hi hz hsize hby hzs hw hown x hx h63 hbytes hB hd
  unfold Oper.wp execOp
  simp only [ho, resolve, invoke, builtin, Sem.run_bind, Sem.run_pure, Result.andThen_ok, List.map_toArray, List.map_cons, List.map_nil, hs, hx', hrun]
  exact h v' w' h2 h3 h4
theorem wpList_app {ops : Array Oper} {rest : List Oper} {o : Oper} {a : Act} {Q : Exit → Act → World → Prop} (hgd : o.guard = none) (s x' : Operand) (t : TypeId)
    (ho : o.op = .call { callee := .builtin .append, args := #[s, x'], argTypes := #[t, t] })
    (i : TypeInfo) (z : Value) (bytes : Nat) (ht : P.underlying t = some (.slice e)) (hi : P.info? e = some i) (hz : i.zero = some z)
    (hsize : i.size = c.wd) (hby : i.bytes = bytes) (hzs : z.cells.size = c.wd) (hw : 0 < c.wd)
    (hs : a.eval s = v) (hown : Own c e B w v xs Fi) (x : Value) (hx' : a.eval x' = x) (hx : AppSrc c w x ys Fy)
    (h63 : xs.length + ys.length ≤ maxLen) (hbytes : (xs.length + ys.length) * bytes ≤ 140737488355328) (hB : B ≤ w.heap.size)
    (hd : ∀ g, ownB v = some g → g ∉ Fi ∧ g ∉ Fy)
    (h : ∀ v' w', Own c e B w' v' (xs ++ ys) (Fi ++ Fy) → w.grownBy w' (ownB v) → (∀ g, ownB v' = some g → ownB v = some g ∨ w.heap.size ≤ g) → wpList P ops Q rest (a.put o.dst v') w') : wpList P ops Q (o :: rest) a w :=
  wpList_plain hgd fun _ hK => wp_app w s x' t ho i z bytes ht hi hz hsize hby hzs hw hs hown x hx' hx h63 hbytes hB hd fun v' w' h2 h3 h4 => hK _ _ (h v' w' h2 h3 h4)
theorem step_app {ops : Array Oper} {o : Oper} {a : Act} {K : Act → World → Prop} {Q : Exit → Act → World → Prop} {E : Prop} (hgd : o.guard = none) (s x' : Operand) (t : TypeId)
    (ho : o.op = .call { callee := .builtin .append, args := #[s, x'], argTypes := #[t, t] })
    (i : TypeInfo) (z : Value) (bytes : Nat) (ht : P.underlying t = some (.slice e)) (hi : P.info? e = some i) (hz : i.zero = some z)
    (hsize : i.size = c.wd) (hby : i.bytes = bytes) (hzs : z.cells.size = c.wd) (hw : 0 < c.wd)
    (hs : a.eval s = v) (hown : Own c e B w v xs Fi) (x : Value) (hx' : a.eval x' = x) (hx : AppSrc c w x ys Fy)
    (h63 : xs.length + ys.length ≤ maxLen) (hbytes : (xs.length + ys.length) * bytes ≤ 140737488355328) (hB : B ≤ w.heap.size)
    (hd : ∀ g, ownB v = some g → g ∉ Fi ∧ g ∉ Fy)
    (h : ∀ v' w', Own c e B w' v' (xs ++ ys) (Fi ++ Fy) → w.grownBy w' (ownB v) → (∀ g, ownB v' = some g → ownB v = some g ∨ w.heap.size ≤ g) → K (a.put o.dst v') w') :
    if Region.wanted o (yielded ops a.tmps) = true then Oper.wp P o a w K Q else E := by
  have hw' : Region.wanted o (yielded ops a.tmps) = true := by simp [Region.wanted, hgd]
  rw [if_pos hw']
  exact wp_app w s x' t ho i z bytes ht hi hz hsize hby hzs hw hs hown x hx' hx h63 hbytes hB hd h
end

/-! ### Flat values: their cells alone, no blocks -/
def Flat {α : Type} (c : Cod α) : Prop := ∀ {w vs x F}, c.rep w vs x F → F = []
theorem flat_I : Flat cI := fun h => h.2.1
theorem flat_S : Flat cS := fun h => h.2.1
theorem flat_U : Flat cU := fun h => h.2
theorem Flat.reps {α : Type} {c : Cod α} (hf : Flat c) {w : World} : ∀ {us : List Value} {xs : List α} {F : List Nat}, c.reps w us xs F → F = []
  | us, [], F, h => h.2
  | us, x :: xs, F, ⟨v1, v2, F1, F2, _, hF, h1, h2⟩ => by rw [hF, hf h1, Flat.reps hf h2]; rfl
theorem AppSrc.flat {α : Type} {c : Cod α} {hw : 0 < c.wd} {hw2 : c.wd ≤ 32} (hf : Flat c) {w : World} {x : Value} {ys : List α} {F : List Nat} (h : (cL c hw hw2).rep w [x] ys F) : AppSrc c w x ys [] := by
  obtain ⟨Fy, h1, -⟩ := AppSrc.of_rep _ h
  obtain ⟨A, d, news, e1, hr, hA⟩ := h1
  obtain rfl := hf.reps hr
  exact ⟨A, d, news, e1, hr, hA⟩

/-! ### A slice cut -/
theorem cL_cut {α : Type} {c : Cod α} {hw : 0 < c.wd} {hw2 : c.wd ≤ 32} {w : World} {A : Option Addr} {n cp : Nat} {xs : List α} {F : List Nat}
    (h : (cL c hw hw2).rep w [.slice A n cp] xs F) (k : Nat) (hk : k ≤ n) : ∃ G, (cL c hw hw2).rep w [.slice (if cp = k then A else A.map (·.add (k * c.wd))) (n - k) (cp - k)] (xs.drop k) G ∧ (∀ b, b ∈ G → b ∈ F) ∧ (F.Nodup → G.Nodup) := by
  obtain ⟨A', cp', hv, hl, hm, hr⟩ := h
  simp only [List.cons.injEq, Value.slice.injEq, and_true] at hv
  obtain ⟨rfl, rfl, rfl⟩ := hv
  have hlen : (xs.drop k).length = xs.length - k := List.length_drop
  by_cases hd : xs.drop k = []
  · exact ⟨[], ⟨_, _, by rw [hlen], by rw [hlen]; omega, by omega, .inl ⟨hd, rfl⟩⟩, by simp, by simp⟩
  · rcases hr with ⟨rfl, -⟩ | ⟨hne, g, o, Fs, us, rfl, rfl, hc, hr⟩
    · simp at hd
    · rw [← List.take_append_drop k xs] at hr
      obtain ⟨u1, u2, F1, F2, rfl, rfl, h1, h2⟩ := Cod.reps_cut hr
      have hl1 := Cod.reps_len h1
      rw [List.length_take, Nat.min_eq_left hk] at hl1
      have hpos : 0 < (xs.drop k).length := List.length_pos_iff.2 hd
      refine ⟨g :: F2, ⟨_, _, by rw [hlen], by rw [hlen]; omega, by omega, .inr ⟨hd, g, o + k * c.wd, F2, u2, ?_, rfl, ?_, h2⟩⟩, fun b hb => ?_, fun hnd => ?_⟩
      · rw [if_neg (by omega)]; simp [Addr.add_lit]
      · rw [← hl1]; exact hc.right
      · rcases List.mem_cons.1 hb with rfl | hb
        · simp
        · simp [hb]
      · rw [List.nodup_cons, List.nodup_append] at hnd
        exact List.nodup_cons.2 ⟨fun hm => hnd.1 (by simp [hm]), hnd.2.2.1⟩
end Go.Proofs.YtlicnppfgfjkgaaDoor
namespace Go.Proofs.YtlicnppfgfjkgaaDoor
open Go.RowKit

theorem cell?_set_same {w : World} {a : Addr} {u v : Value} (h : w.cell? a = some u) : (w.setCell a v).cell? a = some v := by
  obtain ⟨b, o, sp⟩ := a
  have hs : sp = none := by simpa using World.cell?_spot h
  subst hs
  unfold World.cell? at h ⊢
  cases hh : w.heap[b]? with
  | none => simp [hh] at h
  | some x =>
    cases x with
    | cells c e fz =>
      simp only [hh] at h
      have ho : o < c.size := (Array.getElem?_eq_some_iff.1 (by simpa using h)).1
      simp [World.setCell, Array.getElem?_modify, hh, ho]
    | map _ _ => simp [hh] at h
    | _ => simp [hh] at h
theorem frozen?_set (w : World) (a b : Addr) (v : Value) : (w.setCell a v).frozen? b = w.frozen? b := by
  unfold World.frozen? World.setCell
  by_cases h : b.block = a.block
  · simp only [Array.getElem?_modify, h]
    cases hh : w.heap[a.block]? with
    | none => simp
    | some x => cases x <;> simp
  · simp only [Array.getElem?_modify]
    rw [if_neg (by omega)]

/-- A row of cells in block g that is being rewritten; Fi: the blocks that the row leads to. -/
structure RS (w0 w : World) (g lo : Nat) (cells : List Value) (Fi : List Nat) : Prop where
  glt : g < w0.heap.size
  only : Only (g :: Fi) w0 w
  out : ∀ off, (off < lo ∨ lo + cells.length ≤ off) → w.cell? ⟨g, off, none⟩ = w0.cell? ⟨g, off, none⟩
  frz : ∀ off, w.frozen? ⟨g, off, none⟩ = w0.frozen? ⟨g, off, none⟩
  cell : ∀ j v, cells[j]? = some v → w.cell? ⟨g, lo + j, none⟩ = some v

section
variable {w0 w w' : World} {g lo : Nat} {cells : List Value} {Fi : List Nat}
theorem RS.set (h : RS w0 w g lo cells Fi) {j : Nat} (hj : j < cells.length) (v : Value) : RS w0 (w.setCell ⟨g, lo + j, none⟩ v) g lo (cells.set j v) Fi := by
  have h0 : w.cell? ⟨g, lo + j, none⟩ = some cells[j] := h.cell j _ (List.getElem?_eq_getElem hj)
  refine ⟨h.glt, h.only.set_ (p := ⟨g, lo + j, none⟩) (by simp) v, fun off hoff => ?_, fun off => ?_, fun i u hu => ?_⟩
  · rw [List.length_set] at hoff
    rw [World.cell?_setCell_other w ⟨g, lo + j, none⟩ ⟨g, off, none⟩ v (fun e => by injection e with _ e; omega)]
    exact h.out off hoff
  · rw [frozen?_set]; exact h.frz off
  · by_cases hij : i = j
    · subst hij
      rw [List.getElem?_set_self hj] at hu
      injection hu with hu
      subst hu
      exact cell?_set_same h0
    · rw [List.getElem?_set_ne (by omega)] at hu
      rw [World.cell?_setCell_other w ⟨g, lo + j, none⟩ ⟨g, lo + i, none⟩ v (fun e => by injection e with _ e; omega)]
      exact h.cell i u hu
theorem RS.set0 (h : RS w0 w g lo cells Fi) (hj : 0 < cells.length) (v : Value) : RS w0 (w.setCell ⟨g, lo, none⟩ v) g lo (cells.set 0 v) Fi := h.set hj v
theorem RS.bel (h : RS w0 w g lo cells Fi) (hb : Below w.heap.size w w') : RS w0 w' g lo cells Fi := by
  have hg : g < w.heap.size := Nat.lt_of_lt_of_le h.glt h.only.size
  exact ⟨h.glt, h.only.trans (.of_below hb), fun off ho => (hb.cell (p := ⟨g, off, none⟩) hg).trans (h.out off ho), fun off => (hb.frozen (p := ⟨g, off, none⟩) hg).trans (h.frz off), fun j v hv => (hb.cell (p := ⟨g, lo + j, none⟩) hg).trans (h.cell j v hv)⟩
theorem RS.sub (h : RS w0 w g lo cells Fi) {G : List Nat} (ho : Only G w w') (hG : ∀ x, x ∈ G → x ∈ Fi) (hg : g ∉ Fi) : RS w0 w' g lo cells Fi := by
  have hgl : g < w.heap.size := Nat.lt_of_lt_of_le h.glt h.only.size
  have hb : w'.heap[g]? = w.heap[g]? := ho.block g hgl (fun hm => hg (hG g hm))
  exact ⟨h.glt, h.only.trans (ho.mono fun x hx => List.mem_cons_of_mem _ (hG x hx)), fun off ho => (World.cell?_of_block (w := w) (a := ⟨g, off, none⟩) hb).trans (h.out off ho),
    fun off => (World.frozen?_of_block (w := w) (a := ⟨g, off, none⟩) hb).trans (h.frz off), fun j v hv => (World.cell?_of_block (w := w) (a := ⟨g, lo + j, none⟩) hb).trans (h.cell j v hv)⟩
end

section
variable {α : Type} {c : Cod α} {hw : 0 < c.wd} {hw2 : c.wd ≤ 32} {w : World} {A : Option Addr} {n cp : Nat} {xs : List α} {F : List Nat}

theorem cL_upd (h : (cL c hw hw2).rep w [.slice A n cp] xs F) (hnd : F.Nodup) {i : Nat} (hi : i < xs.length) :
    ∃ g o vs Fi, A = some ⟨g, o, none⟩ ∧ g ∈ F ∧ g ∉ Fi ∧ (∀ b, b ∈ Fi → b ∈ F) ∧ Fi.Nodup ∧ c.rep w vs xs[i] Fi ∧ RS w w g (o + i * c.wd) vs Fi ∧
      (∀ j, j < c.wd → w.frozen? ⟨g, o + i * c.wd + j, none⟩ = false) ∧
      ∀ w' vs' y', RS w w' g (o + i * c.wd) vs' Fi → c.rep w' vs' y' Fi → (cL c hw hw2).rep w' [.slice A n cp] (xs.set i y') F := by
  obtain ⟨A', cp', hv, hl, hm, hr⟩ := h
  simp only [List.cons.injEq, Value.slice.injEq, and_true] at hv
  obtain ⟨rfl, rfl, rfl⟩ := hv
  rcases hr with ⟨rfl, _⟩ | ⟨hne, g, o, Fs, us, rfl, rfl, hc, hr⟩
  · simp at hi
  · have hsp : xs = xs.take i ++ xs[i] :: xs.drop (i + 1) := by rw [← List.drop_eq_getElem_cons hi, List.take_append_drop]
    have hr' : c.reps w us (xs.take i ++ xs[i] :: xs.drop (i + 1)) Fs := by rw [← hsp]; exact hr
    obtain ⟨u1, u2, G1, G2, rfl, rfl, r1, v1, v2, H1, H2, rfl, rfl, hx, r2⟩ := Cod.reps_cut hr'
    have hu1 := Cod.reps_len r1
    rw [List.length_take, Nat.min_eq_left (by omega)] at hu1
    have hv1 := c.len hx
    have hglt : g < w.heap.size := hc.lt (by intro e; have := congrArg List.length e; simp [hu1, hv1] at this; omega)
    have hnd' := List.nodup_cons.1 hnd
    have hndF := List.nodup_append.1 hnd'.2
    have hndH := List.nodup_append.1 hndF.2.1
    have hgH : g ∉ H1 := fun hm => hnd'.1 (by simp [hm])
    have hcv : CellsAt w g (o + i * c.wd) v1 := by
      have := hc.right.left
      rwa [hu1] at this
    refine ⟨g, o, v1, H1, rfl, by simp, hgH, fun b hb => by simp [hb], hndH.1, hx, ⟨hglt, Only.refl _ _, fun _ _ => rfl, fun _ => rfl, fun j v hj => (hcv j v hj).1⟩, fun j hj => (hcv j _ (List.getElem?_eq_getElem (by omega))).2, ?_⟩
    intro w' vs' y' hrs hy
    have hvl := c.len hy
    have hlen : (xs.set i y').length = xs.length := List.length_set
    have hset : xs.set i y' = xs.take i ++ y' :: xs.drop (i + 1) := List.set_eq_take_append_cons_drop.trans (by rw [if_pos hi])
    have hkeep : ∀ b, b ∈ G1 ∨ b ∈ H2 → b < w.heap.size → w'.heap[b]? = w.heap[b]? := fun b hb hlt => hrs.only.block b hlt (by
      intro hm
      rcases List.mem_cons.1 hm with rfl | hm
      · exact hnd'.1 (by rcases hb with hb | hb <;> simp [hb])
      · rcases hb with hb | hb
        · exact hndF.2.2 b hb b (by simp [hm]) rfl
        · exact hndH.2.2 b hm b hb rfl)
    refine ⟨some ⟨g, o, none⟩, cp, by rw [hlen], by rw [hlen]; exact hl, hm, .inr ⟨by intro e; have := congrArg List.length e; rw [hlen] at this; simp at this; exact hne this, g, o, G1 ++ (H1 ++ H2), u1 ++ (vs' ++ v2), rfl, rfl, ?_, ?_⟩⟩
    · intro j u hu
      by_cases h1 : j < i * c.wd
      · rw [List.getElem?_append_left (by omega)] at hu
        have h2 := hc j u (by rw [List.getElem?_append_left (by omega)]; exact hu)
        exact ⟨(hrs.out (o + j) (.inl (by omega))).trans h2.1, (hrs.frz _).trans h2.2⟩
      · rw [List.getElem?_append_right (by omega)] at hu
        by_cases h3 : j - u1.length < vs'.length
        · rw [List.getElem?_append_left h3] at hu
          have h4 := hrs.cell _ _ hu
          have h5 := (hcv (j - u1.length) _ (List.getElem?_eq_getElem (by omega))).2
          rw [show o + i * c.wd + (j - u1.length) = o + j by omega] at h4 h5
          exact ⟨h4, (hrs.frz _).trans h5⟩
        · have h2 := hc j u (by rw [List.getElem?_append_right (by omega), List.getElem?_append_right (by omega)]; rw [List.getElem?_append_right (by omega)] at hu; rw [hvl, ← hv1] at hu; exact hu)
          exact ⟨(hrs.out (o + j) (.inr (by omega))).trans h2.1, (hrs.frz _).trans h2.2⟩
    · rw [hset]
      refine Cod.reps_app (Cod.reps_keep r1 fun b hb => hkeep b (.inl hb) (Cod.reps_lt r1 b hb)) ⟨vs', v2, H1, H2, rfl, rfl, hy, Cod.reps_keep r2 fun b hb => hkeep b (.inr hb) (Cod.reps_lt r2 b hb)⟩
end

theorem Cod.set_ {α : Type} {c : Cod α} {w : World} {vs : List Value} {x : α} {F : List Nat} (h : c.rep w vs x F) {g : Nat} (hg : g ∉ F) (i : Nat) (v : Value) : c.rep (w.setCell ⟨g, i, none⟩ v) vs x F :=
  c.keep h fun b hb => Below.heap_setCell _ _ _ _ (fun e => hg (by subst e; exact hb))
theorem mark_byte (k : Int) : (((UInt8.ofNat (k % 256).toNat).toNat : Nat) : Int) = k % 256 := by
  rw [UInt8.toNat_ofNat']; omega

/-! ### Lists marked from the front -/
section
variable {α : Type} (c : Cod α)
def Cod.mkTo (k : Int) (xs : List α) (i : Nat) : List α := c.mks k (xs.take i) ++ xs.drop i
theorem Cod.mkTo_zero (k : Int) (xs : List α) : c.mkTo k xs 0 = xs := by simp [Cod.mkTo, Cod.mks]
theorem Cod.mkTo_end (k : Int) (xs : List α) : c.mkTo k xs xs.length = c.mks k xs := by simp [Cod.mkTo]
theorem Cod.mkTo_len (k : Int) (xs : List α) (i : Nat) : (c.mkTo k xs i).length = xs.length := by
  simp only [Cod.mkTo, List.length_append, Cod.mks_len, List.length_take, List.length_drop]; omega
theorem Cod.mkTo_get (k : Int) (xs : List α) (i : Nat) (hi : i < xs.length) (h : i < (c.mkTo k xs i).length) : (c.mkTo k xs i)[i] = xs[i] := by
  simp only [Cod.mkTo]
  rw [List.getElem_append_right (by rw [Cod.mks_len, List.length_take]; omega)]
  simp only [Cod.mks_len, List.length_take, Nat.min_eq_left (Nat.le_of_lt hi), Nat.sub_self]
  rw [List.getElem_drop]; simp
theorem Cod.mkTo_set (k : Int) (xs : List α) (i : Nat) (hi : i < xs.length) : (c.mkTo k xs i).set i (c.mrk (k + c.cns (xs.take i)) xs[i]) = c.mkTo k xs (i + 1) := by
  simp only [Cod.mkTo]
  have hl : (c.mks k (xs.take i)).length = i := by rw [Cod.mks_len, List.length_take, Nat.min_eq_left (Nat.le_of_lt hi)]
  rw [List.set_append_right _ _ (by omega), hl, Nat.sub_self, List.drop_eq_getElem_cons hi, List.set_cons_zero, List.take_succ_eq_append_getElem hi, Cod.mks_app, List.append_assoc]
  simp [Cod.mks]
theorem Cod.cns_succ (xs : List α) (i : Nat) (hi : i < xs.length) : c.cns (xs.take (i + 1)) = c.cns (xs.take i) + c.cn xs[i] := by
  rw [List.take_succ_eq_append_getElem hi, Cod.cns_app]; simp [Cod.cns]
theorem Cod.cns_take_le (xs : List α) (i : Nat) : c.cns (xs.take i) ≤ c.cns xs := by
  conv => rhs; rw [← List.take_append_drop i xs, Cod.cns_app]
  omega
theorem Cod.mks_get (k : Int) : ∀ (xs : List α) (i : Nat) (hi : i < xs.length) (h : i < (c.mks k xs).length), (c.mks k xs)[i] = c.mrk (k + c.cns (xs.take i)) xs[i] := by
  intro xs i hi h
  have h1 : c.mks k xs = c.mks k (xs.take i) ++ c.mks (k + c.cns (xs.take i)) (xs.drop i) := by rw [← Cod.mks_app, List.take_append_drop]
  have hl : (c.mks k (xs.take i)).length = i := by rw [Cod.mks_len, List.length_take, Nat.min_eq_left (Nat.le_of_lt hi)]
  simp only [h1]
  rw [List.getElem_append_right (by omega)]
  simp only [hl, Nat.sub_self, List.drop_eq_getElem_cons hi, Cod.mks, List.getElem_cons_zero]
end

end Go.Proofs.YtlicnppfgfjkgaaDoor
namespace Go.Proofs.YtlicnppfgfjkgaaDoor
open Go.RowKit
set_option linter.unusedVariables false

section
variable {α : Type} {c : Cod α} {e : TypeId} {B : Nat} {w w' : World} {v : Value} {xs : List α} {Fi : List Nat}
theorem Own.raise (h : Own c e 0 w v xs Fi) (hB : ∀ g, ownB v = some g → B ≤ g) : Own c e B w v xs Fi := by
  rcases h.form with h | ⟨g, cap, cur, us, rfl, h0, hh, hn, hm, hs, ht, ho, hr⟩
  · exact .inl h
  · exact .inr ⟨us, ⟨ho.1, .inr ⟨g, cap + 1, cur, rfl, hB g rfl, hh, hn, hm, hs, ht⟩⟩, hr⟩
theorem Own.norm (h : Own c e B w v xs Fi) : ownB v = none → Fi = [] := by
  intro hv
  rcases h.form with ⟨-, h, -⟩ | ⟨g, cap, cur, us, rfl, -⟩
  · exact h
  · simp [ownB] at hv
end

def ownL (v : Value) : List Nat := match ownB v with | some g => [g] | none => []
theorem mem_ownL {v : Value} {b : Nat} : b ∈ ownL v ↔ ownB v = some b := by
  unfold ownL
  cases h : ownB v with
  | none => simp
  | some g => simp [eq_comm]

/-- A slice that is a row of the call's own, from its block's start on, the room behind it too. -/
def cO {α : Type} (c : Cod α) (e : TypeId) (hw2 : c.wd ≤ 32) : Cod (List α) where
  wd := 1
  rep := fun w vs xs F => ∃ v Fi, vs = [v] ∧ Own c e 0 w v xs Fi ∧ F = ownL v ++ Fi
  sz := c.szs
  mrk := c.mks
  cn := c.cns
  mkcn := c.mks_cns
  cnle := fun xs => Nat.le_trans (Cod.cns_le c hw2 xs) (by omega)
  len := fun ⟨_, _, h, _⟩ => by rw [h]; rfl
  keep := fun ⟨v, Fi, h, ho, hF⟩ hb => ⟨v, Fi, h, ho.keep (fun g hg => hb g (by rw [hF]; simp [mem_ownL, hg])) (fun b hm => hb b (by rw [hF]; simp [hm])), hF⟩
  lt := fun ⟨v, Fi, h, ho, hF⟩ b hb => by
    rw [hF, List.mem_append, mem_ownL] at hb
    rcases hb with hb | hb
    · exact (ho.lt b hb).2
    · exact ho.inner_lt b hb
  ones := fun ⟨v, Fi, h, ho, hF⟩ u hu => by
    rw [h] at hu; simp at hu; subst hu
    obtain ⟨A, cp, rfl⟩ := ho.slice
    rfl

theorem cO_form {α : Type} {c : Cod α} {e : TypeId} {hw2 : c.wd ≤ 32} {w : World} {v : Value} {xs : List α} {F : List Nat} (h : (cO c e hw2).rep w [v] xs F) : ∃ A cp, v = .slice A xs.length cp := by
  obtain ⟨v', Fi, hv, ho, -⟩ := h
  simp only [List.cons.injEq, and_true] at hv
  subst hv
  exact ho.slice
theorem cO_lt {α : Type} {c : Cod α} {e : TypeId} {hw2 : c.wd ≤ 32} {w : World} {v : List Value} {xs : List α} {F : List Nat} (h : (cO c e hw2).rep w v xs F) : ∀ b, b ∈ F → b < w.heap.size := (cO c e hw2).lt h
theorem cO_own {α : Type} {c : Cod α} {e : TypeId} {hw2 : c.wd ≤ 32} {w : World} {v : Value} {xs : List α} {F : List Nat} {B : Nat} (h : (cO c e hw2).rep w [v] xs F) (hf : Fresh B F) :
    ∃ Fi, F = ownL v ++ Fi ∧ Own c e B w v xs Fi ∧ Fresh B Fi ∧ (∀ g, ownB v = some g → g ∉ Fi) ∧ ∀ g, ownB v = some g → B ≤ g := by
  obtain ⟨v', Fi, hv, ho, rfl⟩ := h
  simp only [List.cons.injEq, and_true] at hv
  subst hv
  have hB : ∀ g, ownB v = some g → B ≤ g := fun g hg => hf.1 g (by simp [mem_ownL, hg])
  have hnd := List.nodup_append.1 hf.2
  exact ⟨Fi, rfl, ho.raise hB, ⟨fun b hb => hf.1 b (by simp [hb]), hnd.2.1⟩, fun g hg hm => hnd.2.2 g (mem_ownL.2 hg) g hm rfl, hB⟩
theorem Own.toO {α : Type} {c : Cod α} {e : TypeId} {hw2 : c.wd ≤ 32} {w : World} {v : Value} {xs : List α} {Fi : List Nat} {B : Nat} (h : Own c e B w v xs Fi) (hf : Fresh B Fi) (hd : ∀ g, ownB v = some g → g ∉ Fi) :
    (cO c e hw2).rep w [v] xs (ownL v ++ Fi) ∧ Fresh B (ownL v ++ Fi) := by
  refine ⟨⟨v, Fi, rfl, h.mono (Nat.zero_le _), rfl⟩, fun b hb => ?_, List.nodup_append.2 ⟨?_, hf.2, fun a ha b hb hab => ?_⟩⟩
  · rcases List.mem_append.1 hb with hb | hb
    · exact (h.lt b (mem_ownL.1 hb)).1
    · exact hf.1 b hb
  · unfold ownL; split <;> simp
  · subst hab; exact hd a (mem_ownL.1 ha) hb

/-! ### What a codec says less -/
def Weak {α : Type} (c d : Cod α) : Prop := c.wd = d.wd ∧ ∀ {w vs x F}, c.rep w vs x F → ∃ G, d.rep w vs x G ∧ G.Sublist F
theorem Weak.refl {α : Type} (c : Cod α) : Weak c c := ⟨rfl, fun h => ⟨_, h, List.Sublist.refl _⟩⟩
theorem Weak.reps {α : Type} {c d : Cod α} (k : Weak c d) {w : World} : ∀ {us : List Value} {xs : List α} {F : List Nat}, c.reps w us xs F → ∃ G, d.reps w us xs G ∧ G.Sublist F
  | us, [], F, h => ⟨[], ⟨h.1, rfl⟩, by rw [h.2]; exact List.Sublist.refl _⟩
  | us, x :: xs, F, ⟨v1, v2, F1, F2, h, hF, h1, h2⟩ => by
    obtain ⟨G1, k1, s1⟩ := k.2 h1
    obtain ⟨G2, k2, s2⟩ := Weak.reps k h2
    exact ⟨G1 ++ G2, ⟨v1, v2, G1, G2, h, rfl, k1, k2⟩, by rw [hF]; exact s1.append s2⟩
theorem Weak.list {α : Type} {c d : Cod α} (k : Weak c d) {hw : 0 < c.wd} {hw2 : c.wd ≤ 32} {kw : 0 < d.wd} {kw2 : d.wd ≤ 32} : Weak (cL c hw hw2) (cL d kw kw2) := by
  refine ⟨rfl, ?_⟩
  rintro w vs xs F ⟨A, cp, hv, hl, hm, ⟨rfl, rfl⟩ | ⟨hne, g, o, Fs, us, hA, rfl, hc, hr⟩⟩
  · exact ⟨[], ⟨A, cp, hv, hl, hm, .inl ⟨rfl, rfl⟩⟩, List.Sublist.refl _⟩
  · obtain ⟨G, h1, h2⟩ := k.reps hr
    exact ⟨g :: G, ⟨A, cp, hv, hl, hm, .inr ⟨hne, g, o, G, us, hA, rfl, hc, h1⟩⟩, h2.cons_cons g⟩
theorem Weak.own {α : Type} {c d : Cod α} (k : Weak c d) {e : TypeId} {hw2 : c.wd ≤ 32} {kw : 0 < d.wd} {kw2 : d.wd ≤ 32} : Weak (cO c e hw2) (cL d kw kw2) := by
  refine ⟨rfl, ?_⟩
  rintro w vs xs F ⟨v, Fi, rfl, ho, rfl⟩
  rcases ho.form with ⟨rfl, rfl, A, rfl⟩ | ⟨g, cap, cur, us, rfl, h0, hh, hn, hm, hs, ht, ho', hr⟩
  · exact ⟨[], ⟨A, 0, rfl, Nat.le_refl _, by decide, .inl ⟨rfl, rfl⟩⟩, List.nil_sublist _⟩
  · obtain ⟨G, h1, h2⟩ := k.reps hr
    cases xs with
    | nil => exact ⟨[], ⟨_, cap + 1, rfl, hn, hm, .inl ⟨rfl, rfl⟩⟩, List.nil_sublist _⟩
    | cons x xs =>
      refine ⟨g :: G, ⟨_, cap + 1, rfl, hn, hm, .inr ⟨by simp, g, 0, G, us, rfl, rfl, fun j u hu => ?_, h1⟩⟩, ?_⟩
      · have hj := (List.getElem?_eq_some_iff.1 hu).1
        rw [ho'.1] at hj
        rw [Nat.zero_add]
        exact ⟨(ho'.cellAt j hj).trans hu, ho'.frozenAt j⟩
      · show (g :: G).Sublist ([g] ++ Fi)
        exact h2.cons_cons g
theorem Weak.pair {α β : Type} {c d : Cod α} {c' d' : Cod β} (k : Weak c d) (k' : Weak c' d') : Weak (cP c c') (cP d d') := by
  refine ⟨by show c.wd + c'.wd = _; rw [k.1, k'.1]; rfl, ?_⟩
  rintro w vs x F ⟨v1, v2, F1, F2, h, rfl, h1, h2⟩
  obtain ⟨G1, k1, s1⟩ := k.2 h1
  obtain ⟨G2, k2, s2⟩ := k'.2 h2
  exact ⟨G1 ++ G2, ⟨v1, v2, G1, G2, h, rfl, k1, k2⟩, s1.append s2⟩
theorem Weak.map {α σ : Type} {c d : Cod α} (k : Weak c d) {f : σ → α} {g : α → σ} {hg hg' : ∀ a, f (g a) = a} : Weak (cM c f g hg) (cM d f g hg') := ⟨k.1, fun h => k.2 h⟩
theorem Weak.fresh {α : Type} {c d : Cod α} (k : Weak c d) {w : World} {vs : List Value} {x : α} {F : List Nat} {B : Nat} (h : c.rep w vs x F) (hf : Fresh B F) : ∃ G, d.rep w vs x G ∧ Fresh B G ∧ ∀ b, b ∈ G → b ∈ F := by
  obtain ⟨G, h1, h2⟩ := k.2 h
  exact ⟨G, h1, ⟨fun b hb => hf.1 b (h2.subset hb), h2.nodup hf.2⟩, fun b hb => h2.subset hb⟩
theorem GivesR.weak {α : Type} {c d : Cod α} (k : Weak c d) {w w' : World} {x : α} {e : Ending} (h : GivesR c w x e w') : GivesR d w x e w' := by
  obtain ⟨vs, F, he, hb, hr, hf⟩ := h
  obtain ⟨G, h1, h2, -⟩ := k.fresh hr hf
  exact ⟨vs, G, he, hb, h1, h2⟩

/-! ### A box that holds a row, while a loop appends to it -/
/-- The cell o of the box xb of the world V holds a row of the call's own (blocks from V's end on) that reads as es; of what was there in V only that cell has turned. -/
structure BoxAt {α : Type} (c : Cod α) (T : TypeId) (V wr : World) (xb o : Nat) (es : List α) (vE : Value) (Fi : List Nat) : Prop where
  cell : wr.cell? ⟨xb, o, none⟩ = some vE
  own : Own c T V.heap.size wr vE es Fi
  fresh : Fresh V.heap.size Fi
  ne : ∀ g, ownB vE = some g → g ∉ Fi
  only : Only [xb] V wr
  fz : ∀ i, wr.frozen? ⟨xb, i, none⟩ = V.frozen? ⟨xb, i, none⟩
  oth : ∀ i, i ≠ o → wr.cell? ⟨xb, i, none⟩ = V.cell? ⟨xb, i, none⟩
def BoxRow {α : Type} (c : Cod α) (T : TypeId) (V wr : World) (xb o : Nat) (es : List α) : Prop := ∃ vE Fi, BoxAt c T V wr xb o es vE Fi
/-- what the append left, ahead of the store; and what the store will leave -/
structure BoxAfter {α : Type} (c : Cod α) (T : TypeId) (V W4 w2 : World) (xb o : Nat) (es : List α) (vE v2 : Value) : Prop where
  cell : w2.cell? ⟨xb, o, none⟩ = some vE
  fz : ∀ i, w2.frozen? ⟨xb, i, none⟩ = V.frozen? ⟨xb, i, none⟩
  size : W4.heap.size ≤ w2.heap.size
  row : BoxRow c T V (w2.setCell ⟨xb, o, none⟩ v2) xb o es

section
variable {α : Type} {c : Cod α} {T : TypeId} {V wr W4 w2 : World} {xb o : Nat} {es ys : List α} {vE v2 : Value} {Fi G : List Nat}
theorem BoxRow.start {A : Option Addr} (h : V.cell? ⟨xb, o, none⟩ = some (.slice A 0 0)) : BoxRow c T V V xb o [] :=
  ⟨_, [], h, Own.empty _, Fresh.nil _, by simp [ownB], Only.refl _ _, fun _ => rfl, fun _ _ => rfl⟩
theorem cell_lt {a : Addr} {v : Value} (h : V.cell? a = some v) : a.block < V.heap.size := World.block_lt_of_cell? V a h
theorem boxAfter (hx : xb < V.heap.size) (H : BoxAt c T V wr xb o es vE Fi) (hb : Below wr.heap.size wr W4) (hG : Fresh wr.heap.size G) (hGl : ∀ b, b ∈ G → b < W4.heap.size)
    (ho2 : Own c T V.heap.size w2 v2 (es ++ ys) (Fi ++ G)) (hg2 : W4.grownBy w2 (ownB vE)) (hat2 : ∀ g, ownB v2 = some g → ownB vE = some g ∨ W4.heap.size ≤ g) :
    BoxAfter c T V W4 w2 xb o (es ++ ys) vE v2 := by
  obtain ⟨hX, hown, hFi, hEF, hO, hfz, hoth⟩ := H
  have hVr := hO.size
  have hs4 := hb.size
  have hs2 := hg2.size
  have hxr : xb < wr.heap.size := Nat.lt_of_lt_of_le hx hVr
  have hne : ownB vE ≠ some xb := fun e => by have := (hown.lt _ e).1; omega
  have hk : w2.heap[xb]? = wr.heap[xb]? := (hg2.block xb (Nat.lt_of_lt_of_le hxr hb.size) (fun e => hne e.symm)).trans (hb.block xb hxr)
  have hX2 : w2.cell? ⟨xb, o, none⟩ = some vE := (World.cell?_of_block hk).trans hX
  have hf2 : ∀ i, w2.frozen? ⟨xb, i, none⟩ = wr.frozen? ⟨xb, i, none⟩ := fun i => World.frozen?_of_block hk
  have hc2 : ∀ i, w2.cell? ⟨xb, i, none⟩ = wr.cell? ⟨xb, i, none⟩ := fun i => World.cell?_of_block hk
  have hx2 : ownB v2 ≠ some xb := fun e => by have := (ho2.lt _ e).1; omega
  have hFG : ∀ b, b ∈ Fi ++ G → V.heap.size ≤ b ∧ b < W4.heap.size := fun b hm => by
    rcases List.mem_append.1 hm with hm | hm
    · have h1 := hFi.1 b hm; have h2 := hown.inner_lt b hm; omega
    · have h1 := hG.1 b hm; have h2 := hGl b hm; omega
  refine ⟨hX2, fun i => (hf2 i).trans (hfz i), hs2, v2, Fi ++ G, cell?_set_same hX2, ho2.keep (fun g hg => Below.heap_setCell _ _ _ _ (fun e => hx2 (hg.trans (congrArg some e)))) (fun b hm => Below.heap_setCell _ _ _ _ (fun e => by have := hFG b hm; have e' : b = xb := e; omega)), ⟨fun b hm => (hFG b hm).1, List.nodup_append.2 ⟨hFi.2, hG.2, fun a ha b hm e => by have h1 := hown.inner_lt a ha; have h2 := hG.1 b hm; omega⟩⟩, fun g hg hm => ?_, ?_, fun i => (frozen?_set _ _ _ _).trans ((hf2 i).trans (hfz i)), fun i hi => ?_⟩
  · rcases hat2 g hg with h1 | h1
    · rcases List.mem_append.1 hm with hm | hm
      · exact hEF g h1 hm
      · have h2 := (hown.lt g h1).2; have h3 := hG.1 g hm; omega
    · have h2 := hFG g hm; omega
  · have hgb : Below V.heap.size W4 w2 := Below.grown (Below.refl _ _) hg2 (Nat.le_trans hVr hs4) (fun b hb => (hown.lt b hb).1)
    refine Only.set_ ⟨hgb.os.trans (hb.os.trans hO.os), hgb.tape.trans (hb.tape.trans hO.tape), hgb.output.trans (hb.output.trans hO.output), by omega, fun b hbl hn => ?_⟩ (by simp) _
    refine (hg2.block b (by omega) (fun e => by have := (hown.lt b e.symm).1; omega)).trans ((hb.block b (by omega)).trans (hO.block b hbl hn))
  · rw [World.cell?_setCell_other w2 ⟨xb, o, none⟩ ⟨xb, i, none⟩ _ (fun e => by injection e with _ e; omega)]
    exact (hc2 i).trans (hoth i hi)

variable {P : Program}
theorem wpList_box {ops : Array Oper} {rest : List Oper} {op : Oper} {a : Act} {Q : Exit → Act → World → Prop} (hgd : op.guard = none) (s x' : Operand) (t : TypeId)
    (hop : op.op = .call { callee := .builtin .append, args := #[s, x'], argTypes := #[t, t] })
    (i : TypeInfo) (z : Value) (bytes : Nat) (ht : P.underlying t = some (.slice T)) (hi : P.info? T = some i) (hz : i.zero = some z)
    (hsize : i.size = c.wd) (hby : i.bytes = bytes) (hzs : z.cells.size = c.wd) (hw : 0 < c.wd)
    (hs : a.eval s = vE) (x : Value) (hx' : a.eval x' = x) (hxb : xb < V.heap.size) (H : BoxAt c T V wr xb o es vE Fi) (hb : Below wr.heap.size wr W4) (hG : Fresh wr.heap.size G) (hGl : ∀ b, b ∈ G → b < W4.heap.size)
    (hsrc : AppSrc c W4 x ys G) (m : Nat) (hm : (es ++ ys).length = m)
    (h63 : m ≤ maxLen) (hbytes : m * bytes ≤ 140737488355328)
    (h : ∀ A2 c2 w2, BoxAfter c T V W4 w2 xb o (es ++ ys) vE (.slice A2 m c2) → wpList P ops Q rest (a.put op.dst (.slice A2 m c2)) w2) : wpList P ops Q (op :: rest) a W4 := by
  have hVr := H.only.size
  have hs4 := hb.size
  have hm' : es.length + ys.length = m := by rw [← hm, List.length_append]
  refine wpList_app (c := c) (B := V.heap.size) W4 hgd s x' t hop i z bytes ht hi hz hsize hby hzs hw hs (H.own.bel hb) x hx' hsrc (by omega) (by rw [hm']; exact hbytes) (Nat.le_trans hVr hs4) (fun g hg => ⟨H.ne g hg, fun hm => by have h1 := (H.own.lt g hg).2; have h2 := hG.1 g hm; omega⟩) (fun v' w' h2 h3 h4 => ?_)
  obtain ⟨A2, c2, rfl⟩ := h2.slice
  rw [hm] at h2 h4 ⊢
  exact h A2 c2 w' (boxAfter hxb H hb hG hGl h2 h3 h4)
theorem step_box {ops : Array Oper} {op : Oper} {a : Act} {K : Act → World → Prop} {Q : Exit → Act → World → Prop} {E : Prop} (hgd : op.guard = none) (s x' : Operand) (t : TypeId)
    (hop : op.op = .call { callee := .builtin .append, args := #[s, x'], argTypes := #[t, t] })
    (i : TypeInfo) (z : Value) (bytes : Nat) (ht : P.underlying t = some (.slice T)) (hi : P.info? T = some i) (hz : i.zero = some z)
    (hsize : i.size = c.wd) (hby : i.bytes = bytes) (hzs : z.cells.size = c.wd) (hw : 0 < c.wd)
    (hs : a.eval s = vE) (x : Value) (hx' : a.eval x' = x) (hxb : xb < V.heap.size) (H : BoxAt c T V wr xb o es vE Fi) (hb : Below wr.heap.size wr W4) (hG : Fresh wr.heap.size G) (hGl : ∀ b, b ∈ G → b < W4.heap.size)
    (hsrc : AppSrc c W4 x ys G) (m : Nat) (hm : (es ++ ys).length = m)
    (h63 : m ≤ maxLen) (hbytes : m * bytes ≤ 140737488355328)
    (h : ∀ A2 c2 w2, BoxAfter c T V W4 w2 xb o (es ++ ys) vE (.slice A2 m c2) → K (a.put op.dst (.slice A2 m c2)) w2) :
    if Region.wanted op (yielded ops a.tmps) = true then Oper.wp P op a W4 K Q else E := by
  have hVr := H.only.size
  have hs4 := hb.size
  have hm' : es.length + ys.length = m := by rw [← hm, List.length_append]
  refine step_app (c := c) (B := V.heap.size) W4 hgd s x' t hop i z bytes ht hi hz hsize hby hzs hw hs (H.own.bel hb) x hx' hsrc (by omega) (by rw [hm']; exact hbytes) (Nat.le_trans hVr hs4) (fun g hg => ⟨H.ne g hg, fun hm => by have h1 := (H.own.lt g hg).2; have h2 := hG.1 g hm; omega⟩) (fun v' w' h2 h3 h4 => ?_)
  obtain ⟨A2, c2, rfl⟩ := h2.slice
  rw [hm] at h2 h4 ⊢
  exact h A2 c2 w' (boxAfter hxb H hb hG hGl h2 h3 h4)
end

theorem AppSrc.bel {α : Type} {c : Cod α} {w w' : World} {x : Value} {ys : List α} {Fy : List Nat} (h : AppSrc c w x ys Fy) (hb : Below w.heap.size w w') : AppSrc c w' x ys Fy := by
  obtain ⟨A, d, news, hx, hr, hA⟩ := h
  refine ⟨A, d, news, hx, Cod.reps_bel hr hb, fun hp => ?_⟩
  obtain ⟨ad, h1, h2⟩ := hA hp
  exact ⟨ad, h1, fun j u hu => (hb.cell (cell_lt (h2 j u hu))).trans (h2 j u hu)⟩
/-- one cell with a row behind it -/
theorem src_cells {α : Type} {c : Cod α} {w : World} {vs : List Value} {x : α} {F : List Nat} {g : Nat} (h : c.rep w vs x F) (hc : ∀ j u, vs[j]? = some u → w.cell? ⟨g, j, none⟩ = some u) : AppSrc c w (.slice (some ⟨g, 0, none⟩) 1 1) [x] F :=
  ⟨some ⟨g, 0, none⟩, 1, vs, rfl, Cod.reps_one h, fun _ => ⟨_, rfl, fun j u hu => by rw [Addr.add_lit, Nat.zero_add]; exact hc j u hu⟩⟩
theorem src_new {α : Type} {c : Cod α} {w : World} {vs : Array Value} {x : α} {F : List Nat} (T : TypeId) (g : Nat) (hg : w.heap.size = g) (h : c.rep w vs.toList x F) : AppSrc c (w.alloc (.cells vs T)) (.slice (some ⟨g, 0, none⟩) 1 1) [x] F := by
  subst hg
  exact src_cells (Cod.bel h (bel_alloc (Below.refl _ _) _)) (fun j u hu => by rw [(Blk.new w T vs).cell]; simpa using hu)
end Go.Proofs.YtlicnppfgfjkgaaDoor
namespace Go.Proofs.YtlicnppfgfjkgaaDoor
open Go.ChangeShapes Go.WideShapes Go.RowKit
set_option linter.unusedVariables false

def cIS : Cod (List Int) := cL cI (by decide) (by decide)
theorem opens_IS : Opens Tryd.prog 59 cIS := opens_slice Tryd.underlying59 (opens_int Tryd.underlying3 (by kernel_rfl)) (by kernel_rfl)

end Go.Proofs.YtlicnppfgfjkgaaDoor
namespace Go.Proofs.YtlicnppfgfjkgaaDoor
open Go.ChangeShapes Go.WideShapes Go.RowKit
set_option linter.unusedVariables false

structure TLoop where
  tasks : List Int
  micro : List Int

def cLoop : Cod TLoop := cM (cP cIS cIS) (fun x => (x.tasks, x.micro)) (fun a => ⟨a.1, a.2⟩) (fun _ => rfl)

def TLoop.Ok (_x : TLoop) : Prop := True

theorem TLoop.out {w : World} {vs : List Value} {x : TLoop} {F : List Nat} (h : cLoop.rep w vs x F) :
    ∃ v0 v1 F0 F1, vs = [v0, v1] ∧ F = F0 ++ F1 ∧ x.Ok ∧ cIS.rep w [v0] x.tasks F0 ∧ cIS.rep w [v1] x.micro F1 := by

  obtain ⟨a0, b0, G0, H0, rfl, rfl, h0, h1⟩ := h
  obtain ⟨A0, cp0, rfl, k0⟩ := h0
  obtain ⟨A1, cp1, rfl, k1⟩ := h1
  exact ⟨_, _, G0, H0, rfl, by simp, trivial, ⟨A0, cp0, rfl, k0⟩, ⟨A1, cp1, rfl, k1⟩⟩

theorem TLoop.mk_ {w : World} {x : TLoop} {v0 : Value} {v1 : Value} {F0 : List Nat} {F1 : List Nat} (h : x.Ok) (k0 : cIS.rep w [v0] x.tasks F0) (k1 : cIS.rep w [v1] x.micro F1) : cLoop.rep w [v0, v1] x (F0 ++ F1) := by

  clear h

  exact ⟨[_], _, F0, F1, rfl, by simp, k0, k1⟩


theorem TLoop.outA {w : World} {vs : Array Value} {x : TLoop} {F : List Nat} (h : cLoop.rep w vs.toList x F) :
    ∃ v0 v1 F0 F1, vs = #[v0, v1] ∧ F = F0 ++ F1 ∧ x.Ok ∧ cIS.rep w [v0] x.tasks F0 ∧ cIS.rep w [v1] x.micro F1 := by
  obtain ⟨a0, a1, a2, a3, e, f, r⟩ := TLoop.out h
  exact ⟨a0, a1, a2, a3, Array.toList_inj.1 e, f, r⟩

end Go.Proofs.YtlicnppfgfjkgaaDoor
namespace Go.Proofs.YtlicnppfgfjkgaaDoor
open Go.ChangeShapes Go.WideShapes Go.RowKit
set_option linter.unusedVariables false

theorem infoInt : (Tryd.prog.info? 3).map (fun i => (i.zero, i.size, i.bytes)) = some (some (Value.int .i64 0), 1, 8) := by kernel_rfl

/-- A loop whose two rows are the call's own. -/
def OwnLoop (w : World) (x : TLoop) (e : Ending) (w' : World) : Prop :=
  ∃ v0 v1, e = .returned (.agg #[v0, v1]) ∧ Below w.heap.size w w' ∧ Own cI 3 w.heap.size w' v0 x.tasks [] ∧ Own cI 3 w.heap.size w' v1 x.micro [] ∧ ∀ g, ownB v0 = some g → ownB v1 ≠ some g

end Go.Proofs.YtlicnppfgfjkgaaDoor
namespace Go.Proofs.YtlicnppfgfjkgaaDoor
open Go.ChangeShapes Go.WideShapes Go.RowKit
set_option linter.unusedVariables false

/-- a string, as the list of its bytes -/
def cT : Cod (List UInt8) := cM cS baOf (fun s => s.data.toList) baOf_of
def cTS : Cod (List (List UInt8)) := cL cT (by decide) (by decide)
theorem flat_T : Flat cT := fun h => h.2.1
theorem infoT : (Tryd.prog.info? 9).map (fun i => (i.zero, i.size, i.bytes)) = some (some (Value.string ByteArray.empty), 1, 16) := by kernel_rfl
theorem cT_mk (w : World) (l : List UInt8) (h : l.length ≤ maxLen) : cT.rep w [.string (baOf l)] l [] := ⟨rfl, rfl, by rw [baOf_size]; exact h⟩
theorem repsT (w : World) : ∀ xs : List (List UInt8), (∀ x, x ∈ xs → x.length ≤ maxLen) → cT.reps w (xs.map fun l => Value.string (baOf l)) xs []
  | [], _ => ⟨rfl, rfl⟩
  | x :: xs, h => ⟨[_], _, [], [], rfl, rfl, cT_mk w x (h x (by simp)), repsT w xs fun y hy => h y (by simp [hy])⟩
theorem rowT (w : World) (T : TypeId) (xs : List (List UInt8)) (n : Nat) (hn : n = xs.length) (h0 : xs ≠ []) (hm : n ≤ maxLen) (h : ∀ x, x ∈ xs → x.length ≤ maxLen) : cTS.rep (w.alloc (.cells (xs.map fun l => Value.string (baOf l)).toArray T)) [.slice (some ⟨w.heap.size, 0, none⟩) n n] xs [w.heap.size] := by
  subst hn
  exact ⟨_, _, rfl, Nat.le_refl _, hm, .inr ⟨h0, w.heap.size, 0, [], _, rfl, rfl, fun j u hu => by rw [Nat.zero_add]; exact ⟨by rw [(Blk.new w T _).cell]; simpa using hu, (Blk.new w T _).frozen _⟩, repsT _ xs h⟩⟩

theorem cut_len (c : UInt8) : ∀ l : List UInt8, (cut c l).length ≤ l.length + 1
  | [] => by simp [cut]
  | b :: r => by
    have ih := cut_len c r
    unfold cut
    split
    · simp; omega
    · split
      · simp
      · rename_i h t e
        rw [e] at ih; simp at ih ⊢; omega
theorem cut_piece (c : UInt8) : ∀ l : List UInt8, ∀ p, p ∈ cut c l → p.length ≤ l.length
  | [], p, hp => by simp [cut] at hp; subst hp; simp
  | b :: r, p, hp => by
    have ih := cut_piece c r
    unfold cut at hp
    split at hp
    · simp at hp
      rcases hp with rfl | hp
      · simp
      · have := ih p hp; simp; omega
    · split at hp
      · simp at hp; subst hp; simp
      · rename_i h t e
        rw [e] at ih
        simp at hp
        rcases hp with rfl | hp
        · have := ih h (by simp); simp; omega
        · have := ih p (by simp [hp]); simp; omega
theorem split_pieces (s : ByteArray) (c : UInt8) : (Lib.splitB ⟨#[c]⟩ 0 (Lib.countB s ⟨#[c]⟩) s) = (cut c s.data.toList).map baOf := by
  have h := Lib.splitB_data ⟨#[c]⟩ 0 (Lib.countB s ⟨#[c]⟩) s
  have e : Lib.splitK [c] 0 (Lib.countB s ⟨#[c]⟩) s.data.toList = cut c s.data.toList := splitK_cut c s.data.toList
  rw [show (⟨#[c]⟩ : ByteArray).data.toList = [c] from rfl, e] at h
  rw [← h, List.map_map]
  have : (baOf ∘ fun x : ByteArray => x.data.toList) = id := by funext x; exact baOf_of x
  rw [this, List.map_id]
set_option maxRecDepth 100000 in
theorem strSplit_any (s : ByteArray) (c : UInt8) (w : World) (hs : s.size ≤ 1048576) (hG : Gd w) :
    Calls Tryd.prog 30 #[.string s, .string ⟨#[c]⟩] w (GivesS cTS w (cut c s.data.toList)) := by
  obtain ⟨m, hm⟩ := hG.max
  refine (Any.strings_Split { Tryd.laysM146 with } Tryd.laysM146.i9 s ⟨#[c]⟩ m w (by omega) hm (Nat.le_refl 1)).mono ?_
  rintro e w' ⟨rfl, rfl⟩
  have hl : (cut c s.data.toList).length = Lib.countB s ⟨#[c]⟩ + 1 := by
    have := congrArg List.length (split_pieces s c)
    rw [Lib.splitB_all ⟨#[c]⟩ (Nat.le_refl 1) 0 _ s rfl, List.length_map] at this
    exact this.symm
  have h1 := cut_len c s.data.toList
  rw [← Lib.size_eq] at h1
  refine ⟨_, [w.heap.size], rfl, (by repeat (first | with_reducible exact Below.refl _ _ | with_reducible assumption | with_reducible refine bel_alloc ?_ _ | with_reducible refine bel_drew ?_ | with_reducible refine bel_drewN ?_ _ | (with_reducible refine bel_set ?_ ?_ _; rotate_left; ((try simp); (try omega))))), ?_, ⟨by simp, by simp⟩⟩
  rw [split_pieces, List.map_map]
  exact rowT w _ (cut c s.data.toList) _ hl.symm (cut_ne c _) (by unfold maxLen; omega) (fun x hx => by have := cut_piece c _ x hx; rw [← Lib.size_eq] at this; unfold maxLen; omega)

/-! ### The reference's loop -/
theorem cut_end {c : UInt8} {l : List UInt8} {f : Nat} (h : ∀ x, x ∈ l.drop f → x ≠ c) : cut c (l.drop f) = [l.drop f] := cut_none h
theorem cut_at {c : UInt8} {l : List UInt8} {f k : Nat} (hfk : f ≤ k) (hk : k < l.length) (hc : l[k] = c) (h : ∀ x, x ∈ (l.drop f).take (k - f) → x ≠ c) : cut c (l.drop f) = (l.drop f).take (k - f) :: cut c (l.drop (k + 1)) := by
  have e : l.drop f = (l.drop f).take (k - f) ++ c :: l.drop (k + 1) := by
    conv => lhs; rw [← List.take_append_drop (k - f) (l.drop f)]
    rw [List.drop_drop, show f + (k - f) = k by omega, List.drop_eq_getElem_cons hk, hc]
  conv => lhs; rw [e]
  exact cut_app h
theorem piece_of (s : ByteArray) {f k : Nat} (hfk : f ≤ k) (hk : k ≤ s.size) : s.extract f k = baOf ((s.data.toList.drop f).take (k - f)) := by
  refine ba_ext ?_
  rw [Lib.extract_data, baOf_list]
theorem take_more {c : UInt8} {l : List UInt8} {f k : Nat} (hfk : f ≤ k) (hk : k < l.length) (hne : l[k] ≠ c) (h : ∀ x, x ∈ (l.drop f).take (k - f) → x ≠ c) : ∀ x, x ∈ (l.drop f).take (k + 1 - f) → x ≠ c := by
  intro x hx
  rw [show k + 1 - f = (k - f) + 1 by omega, List.take_add_one, List.mem_append] at hx
  rcases hx with hx | hx
  · exact h x hx
  · rw [List.getElem?_drop, show f + (k - f) = k by omega, List.getElem?_eq_getElem hk] at hx
    simp at hx
    subst hx; exact hne
set_option maxRecDepth 100000 in
set_option maxHeartbeats 8000000 in
theorem specSplit_any (s : ByteArray) (c : UInt8) (w : World) (hs : s.size ≤ 1048576) :
    Calls Tryd.prog 37 #[.string s, .int .u8 (c.toNat : Int)] w (GivesS cTS w (cut c s.data.toList)) := by
  obtain ⟨i0, hi0, hz0, hz1, hz2⟩ := info_parts infoT
  have HS := Lib.hid (Lib.size_eq s)
  go_enter Tryd.func37, Tryd.ntmps37
  go_wp2
  go_loopw [5, 6, 7] (fun out f i wr => ∃ (k fr : Nat) (ps : List (List UInt8)), f = .int .i64 fr ∧ i = .int .i64 k ∧ fr ≤ k ∧ k ≤ s.size + 1 ∧ ps.length ≤ k ∧ Own cT 9 w.heap.size wr out ps [] ∧ Below w.heap.size w wr ∧
      (k ≤ s.size → (∀ x, x ∈ (s.data.toList.drop fr).take (k - fr) → x ≠ c) ∧ ps ++ cut c (s.data.toList.drop fr) = cut c s.data.toList) ∧ (k = s.size + 1 → ps = cut c s.data.toList)) (fun _ _ i _ => s.size + 1 - (intOf i).toNat)
  case atStart => exact ⟨0, 0, [], rfl, rfl, Nat.le_refl _, Nat.zero_le _, Nat.zero_le _, Own.empty _, (by repeat (first | with_reducible exact Below.refl _ _ | with_reducible assumption | with_reducible refine bel_alloc ?_ _ | with_reducible refine bel_drew ?_ | with_reducible refine bel_drewN ?_ _ | (with_reducible refine bel_set ?_ ?_ _; rotate_left; ((try simp); (try omega))))), fun _ => ⟨by simp, rfl⟩, fun h => by omega⟩
  case round =>
    obtain ⟨k, fr, ps, rfl, rfl, hfk, hks, hpl, hown, hB, hin, hout⟩ := hrel
    have HO := Lib.hid hown
    have HI := Lib.hid (And.intro hin hout)
    clear hown hin hout
    by_cases hle : k ≤ s.size
    · obtain ⟨hn, hc⟩ := HI.out.1 hle
      have HN := Lib.hid (And.intro hn hc)
      clear HI hn hc
      by_cases heq : k = s.size
      · have hq : ((k : Int) == (s.size : Int)) = true := by simp; omega
        have hi1 : ((k : Int) ≤ (s.size : Int)) := by omega
        have HQ := Lib.hid heq
        clear heq
        obtain ⟨pc, hpc⟩ : ∃ q, baOf ((s.data.toList.drop fr).take (k - fr)) = q := ⟨_, rfl⟩
        have hsl : ∀ W, (Instr.slice 9 (.string s) (some (.int .i64 (fr : Int))) (some (.int .i64 (k : Int))) none).run Tryd.prog W = .ok (.string pc) W := fun W => by
          rw [run_slice_string_if _ _ s _ _ _ _ Tryd.underlying9, if_pos ⟨by omega, by omega⟩, if_pos ⟨by omega, by omega⟩, ← hpc]
          rw [show ((fr : Int)).toNat = fr by omega, show ((k : Int)).toNat = k by omega, piece_of s hfk hle]
        have HP := Lib.hid hpc
        have hpl2 : ((s.data.toList.drop fr).take (k - fr)).length ≤ 1048576 := by
          have h1 := HS.out
          rw [List.length_take, List.length_drop]; omega
        clear hpc
        go_wp2_with (at_builtin; refine wpList_app (c := cT) (B := w.heap.size) (xs := ps) (ys := [(s.data.toList.drop fr).take (k - fr)]) (Fi := []) (Fy := []) _ rfl _ _ _ rfl i0 _ _ Tryd.underlying49 hi0 hz0 hz1 hz2 rfl (by decide) rfl (HO.out.bel (by repeat (first | with_reducible exact Below.refl _ _ | with_reducible assumption | with_reducible refine bel_alloc ?_ _ | with_reducible refine bel_drew ?_ | with_reducible refine bel_drewN ?_ _ | (with_reducible refine bel_set ?_ ?_ _; rotate_left; ((try simp); (try omega)))))) (.slice (some ⟨wr.heap.size, 0, none⟩) 1 1) rfl (by rw [← HP.out]; exact src_new 9 wr.heap.size rfl (cT_mk wr _ (by unfold maxLen; omega))) (by unfold maxLen; simp; omega) (by simp; omega) (by have := hB.size; (try simp); (try omega)) (by simp) ?_)
        intro v1 w1 ho hg hat
        have hlo := HO.out.lt
        have hb1 : Below w.heap.size w w1 := (show Below w.heap.size w _ from (by repeat (first | with_reducible exact Below.refl _ _ | with_reducible assumption | with_reducible refine bel_alloc ?_ _ | with_reducible refine bel_drew ?_ | with_reducible refine bel_drewN ?_ _ | (with_reducible refine bel_set ?_ ?_ _; rotate_left; ((try simp); (try omega)))))).grown hg (by have := hB.size; (try simp); (try omega)) (fun g hg' => (hlo g hg').1)
        have HO1 := Lib.hid ho
        clear ho hg hat hlo
        go_wp2_with fail
        go_roundw
        case rel => exact ⟨k + 1, k + 1, ps ++ [(s.data.toList.drop fr).take (k - fr)], by go_num, by go_num, Nat.le_refl _, by omega, by simp; omega, HO1.out, hb1, fun h => absurd h (by have := HQ.out; omega), fun _ => by
          have h1 := HN.out.2
          have h2 : (s.data.toList.drop fr).take (k - fr) = s.data.toList.drop fr := List.take_of_length_le (by rw [List.length_drop, ← HS.out, HQ.out]; exact Nat.le_refl _)
          have h3 := HN.out.1
          rw [h2] at h3 ⊢
          rw [cut_none h3] at h1
          exact h1⟩
        case measure => have := HQ.out; simp [intOf]; omega
      · have hlt : k < s.size := by omega
        have hq : ((k : Int) == (s.size : Int)) = false := by simp; omega
        have hi1 : ((k : Int) ≤ (s.size : Int)) := by omega
        have hi2 : ((k : Int) < (s.size : Int)) := by omega
        have hkl : k < s.data.toList.length := by rw [← Lib.size_eq]; exact hlt
        have hget : s.data.toList[k] = s[k] := rfl
        by_cases hc : s[k] = c
        · have hcm : ((s[k].toNat : Int) == (c.toNat : Int)) = true := by rw [hc]; simp
          have HN2 := Lib.hid (cut_at hfk hkl (by rw [hget]; exact hc) HN.out.1)
          obtain ⟨b, hb⟩ : ∃ b, s[k].toNat = b := ⟨_, rfl⟩
          rw [hb] at hcm
          clear hc hget
          obtain ⟨pc, hpc⟩ : ∃ q, baOf ((s.data.toList.drop fr).take (k - fr)) = q := ⟨_, rfl⟩
          have hsl : ∀ W, (Instr.slice 9 (.string s) (some (.int .i64 (fr : Int))) (some (.int .i64 (k : Int))) none).run Tryd.prog W = .ok (.string pc) W := fun W => by
            rw [run_slice_string_if _ _ s _ _ _ _ Tryd.underlying9, if_pos ⟨by omega, by omega⟩, if_pos ⟨by omega, by omega⟩, ← hpc]
            rw [show ((fr : Int)).toNat = fr by omega, show ((k : Int)).toNat = k by omega, piece_of s hfk hle]
          have HP := Lib.hid hpc
          have hpl2 : ((s.data.toList.drop fr).take (k - fr)).length ≤ 1048576 := by
            have h1 := HS.out
            rw [List.length_take, List.length_drop]; omega
          clear hpc
          go_wp2_with (at_builtin; refine wpList_app (c := cT) (B := w.heap.size) (xs := ps) (ys := [(s.data.toList.drop fr).take (k - fr)]) (Fi := []) (Fy := []) _ rfl _ _ _ rfl i0 _ _ Tryd.underlying49 hi0 hz0 hz1 hz2 rfl (by decide) rfl (HO.out.bel (by repeat (first | with_reducible exact Below.refl _ _ | with_reducible assumption | with_reducible refine bel_alloc ?_ _ | with_reducible refine bel_drew ?_ | with_reducible refine bel_drewN ?_ _ | (with_reducible refine bel_set ?_ ?_ _; rotate_left; ((try simp); (try omega)))))) (.slice (some ⟨wr.heap.size, 0, none⟩) 1 1) rfl (by rw [← HP.out]; exact src_new 9 wr.heap.size rfl (cT_mk wr _ (by unfold maxLen; omega))) (by unfold maxLen; simp; omega) (by simp; omega) (by have := hB.size; (try simp); (try omega)) (by simp) ?_)
          intro v1 w1 ho hg hat
          have hlo := HO.out.lt
          have hb1 : Below w.heap.size w w1 := (show Below w.heap.size w _ from (by repeat (first | with_reducible exact Below.refl _ _ | with_reducible assumption | with_reducible refine bel_alloc ?_ _ | with_reducible refine bel_drew ?_ | with_reducible refine bel_drewN ?_ _ | (with_reducible refine bel_set ?_ ?_ _; rotate_left; ((try simp); (try omega)))))).grown hg (by have := hB.size; (try simp); (try omega)) (fun g hg' => (hlo g hg').1)
          have HO1 := Lib.hid ho
          clear ho hg hat hlo
          go_wp2_with fail
          go_roundw
          case rel => exact ⟨k + 1, k + 1, ps ++ [(s.data.toList.drop fr).take (k - fr)], by go_num, by go_num, Nat.le_refl _, by omega, by simp; omega, HO1.out, hb1, fun _ => ⟨by simp, by
            have h1 := HN.out.2
            rw [HN2.out] at h1
            rw [← h1]; simp⟩, fun h => absurd h (by omega)⟩
          case measure => simp [intOf]; omega
        · have hcm : ((s[k].toNat : Int) == (c.toNat : Int)) = false := by
            rw [beq_eq_false_iff_ne]; intro e; exact hc (UInt8.toNat_inj.1 (by omega))
          have HN2 := Lib.hid (take_more hfk hkl (by rw [hget]; exact hc) HN.out.1)
          obtain ⟨b, hb⟩ : ∃ b, s[k].toNat = b := ⟨_, rfl⟩
          rw [hb] at hcm
          clear hc hget
          go_wp2_with fail
          go_roundw
          case rel => exact ⟨k + 1, fr, ps, rfl, by go_num, by omega, by omega, by omega, HO.out, hB, fun _ => ⟨HN2.out, HN.out.2⟩, fun h => absurd h (by omega)⟩
          case measure => simp [intOf]; omega
    · have hk1 : k = s.size + 1 := by omega
      have hi1 : ¬ ((k : Int) ≤ (s.size : Int)) := by omega
      have HE := Lib.hid (HI.out.2 hk1)
      obtain ⟨F, hr, hf, -⟩ := HO.out.fresh (hw := by decide) (hw2 := by decide)
      rw [HE.out] at hr
      have HR := Lib.hid (And.intro hr hf)
      clear hr hf hk1
      go_wp2_with fail
      go_ret
      exact ⟨_, F, rfl, hB, HR.out.1, HR.out.2⟩
end Go.Proofs.YtlicnppfgfjkgaaDoor
namespace Go.Proofs.YtlicnppfgfjkgaaDoor
open Go.ChangeShapes Go.WideShapes Go.RowKit
set_option linter.unusedVariables false

theorem parseNum_of {l : List UInt8} {m : Nat} (h : Lib.decFrom 0 l = some m) (hne : l ≠ []) : parseNum l = if m ≤ 1000000000000 ∧ Lib.decDigits m = l then some m else none := by
  unfold parseNum
  have : Lib.decNat l = some m := by unfold Lib.decNat; rw [if_neg (by simpa using hne), h]
  rw [this]
theorem parseNum_bad {l : List UInt8} (h : Lib.decFrom 0 l = none) : parseNum l = none := by
  unfold parseNum
  have : Lib.decNat l = none := by unfold Lib.decNat; rw [h]; split <;> rfl
  rw [this]
theorem decFrom_step {s : ByteArray} {k n d : Nat} (h : Lib.decFrom 0 (s.data.toList.take k) = some n) (hk : k < s.size) (hd : s[k].toNat = 48 + d) (h9 : d ≤ 9) : Lib.decFrom 0 (s.data.toList.take (k + 1)) = some (n * 10 + d) := by
  refine Lib.decFrom_take s.data.toList k 0 n s[k] d h ?_ ?_
  · rw [List.getElem?_eq_getElem (by rw [← Lib.size_eq]; exact hk)]; rfl
  · unfold Lib.digitVal
    rw [if_pos (by omega), hd]; congr 1; omega
theorem decFrom_stop {s : ByteArray} {k : Nat} (hk : k < s.size) (hd : s[k].toNat < 48 ∨ 57 < s[k].toNat) : Lib.decFrom 0 s.data.toList = none := by
  cases h : Lib.decFrom 0 s.data.toList with
  | none => rfl
  | some n =>
    obtain ⟨d, hv⟩ := Lib.digit_of_decFrom s.data.toList 0 n h k s[k] (by rw [List.getElem?_eq_getElem (by rw [← Lib.size_eq]; exact hk)]; rfl)
    unfold Lib.digitVal at hv
    rw [if_neg (by omega)] at hv
    cases hv
set_option maxRecDepth 100000 in
set_option maxHeartbeats 4000000 in
theorem specParseInt_any (s : ByteArray) (w : World) (hs : s.size ≤ 1048576) :
    Calls Tryd.prog 39 #[.string s] w (Gives w (numV s.data.toList)) := by
  by_cases hr : inR s.size 1 13 = true
  · have hr2 := inR_true hr
    have HNE := Lib.hid (show s.data.toList ≠ [] from fun e => by have := Lib.size_eq s; rw [e, List.length_nil] at this; omega)
    go_enter Tryd.func39, Tryd.ntmps39
    go_wp2_with (first | (go_at_call 52; refine (l1In_any _ _ _ _).mono ?_; rintro e w1 ⟨rfl, rfl⟩))
    go_loopw [4, 5] (fun n i wr => ∃ k m : Nat, n = .int .i64 m ∧ i = .int .i64 k ∧ k ≤ s.size ∧ m < 10 ^ k ∧ Lib.decFrom 0 (s.data.toList.take k) = some m ∧ wr = w) (fun _ i _ => s.size - (intOf i).toNat)
    case atStart => exact ⟨0, 0, rfl, rfl, Nat.zero_le _, by decide, rfl, rfl⟩
    case round =>
      obtain ⟨k, m, rfl, rfl, hk, hm, hd, rfl⟩ := hrel
      have HD := Lib.hid hd
      clear hd
      have hm13 : m < 10000000000000 := Nat.lt_of_lt_of_le hm (show 10 ^ k ≤ 10 ^ 13 from Nat.pow_le_pow_right (by decide) (by omega))
      have HM := Lib.hid hm
      clear hm
      by_cases hlt : k < s.size
      · by_cases c1 : 48 ≤ s[k].toNat ∧ s[k].toNat ≤ 57
        · obtain ⟨d, hd⟩ : ∃ d, s[k].toNat = 48 + d := ⟨s[k].toNat - 48, by omega⟩
          have HS := Lib.hid (decFrom_step HD.out hlt hd (by omega))
          have hin : inR (48 + (d : Int)) 48 57 = true := inR_mk (by omega) (by omega)
          go_wp2_with (first | (go_at_call 52; refine (l1In_any _ _ _ _).mono ?_; rintro e w1 ⟨rfl, rfl⟩))
          go_roundw
          case rel => exact ⟨k + 1, m * 10 + d, by congr 1; omega, by go_num, by omega, by have := HM.out; rw [Nat.pow_succ]; omega, HS.out, trivial⟩
          case measure => simp [intOf]; omega
        · have HB := Lib.hid (parseNum_bad (decFrom_stop hlt (by omega)))
          obtain ⟨d, hd⟩ : ∃ d, s[k].toNat = d := ⟨_, rfl⟩
          have h255 := s[k].toNat_lt
          have hin : inR (d : Int) 48 57 = false := by
            rcases Nat.lt_or_ge d 48 with h | h
            · exact inR_low (by omega)
            · exact inR_high (by omega)
          go_wp2_with (first | (go_at_call 52; refine (l1In_any _ _ _ _).mono ?_; rintro e w1 ⟨rfl, rfl⟩))
          refine bodyPost_ret (v := .tuple #[.int .i64 0, .bool false]) (by simp [results, Tryd.results39]) rfl ?_
          exact ⟨by rw [numV_none HB.out], (by repeat (first | with_reducible exact Below.refl _ _ | with_reducible assumption | with_reducible refine bel_alloc ?_ _ | with_reducible refine bel_drew ?_ | with_reducible refine bel_drewN ?_ _ | (with_reducible refine bel_set ?_ ?_ _; rotate_left; ((try simp); (try omega)))))⟩
      · obtain rfl : k = s.size := by omega
        have hd := HD.out
        rw [List.take_of_length_le (by rw [← Lib.size_eq]; exact Nat.le_refl _)] at hd
        have HP := Lib.hid (parseNum_of hd HNE.out)
        clear hd
        by_cases hbig : (1000000000000 : Int) < m
        · go_wp2_with (first | (go_at_call 52; refine (l1In_any _ _ _ _).mono ?_; rintro e w1 ⟨rfl, rfl⟩))
          refine bodyPost_ret (v := .tuple #[.int .i64 0, .bool false]) (by simp [results, Tryd.results39]) rfl ?_
          exact ⟨by rw [numV_none (by rw [HP.out, if_neg (by omega)])], (by repeat (first | with_reducible exact Below.refl _ _ | with_reducible assumption | with_reducible refine bel_alloc ?_ _ | with_reducible refine bel_drew ?_ | with_reducible refine bel_drewN ?_ _ | (with_reducible refine bel_set ?_ ?_ _; rotate_left; ((try simp); (try omega)))))⟩
        · obtain ⟨sv, hsv⟩ : ∃ q, baOf (Lib.decDigits m) = q := ⟨_, rfl⟩
          have hF : ∀ W, Calls Tryd.prog 43 #[.int .i64 m] W (Gives W (.string sv)) := fun W => by rw [← hsv]; exact specFormatInt_any m (by omega) (by omega) W
          have HV := Lib.hid hsv
          clear hsv
          cases hq : (sv.toList == s.toList) with
          | true =>
            go_wp2_with (first
              | (go_at_call 52; refine (l1In_any _ _ _ _).mono ?_; rintro e w1 ⟨rfl, rfl⟩)
              | (go_at_call 43; refine (hF _).mono ?_; rintro e w2 ⟨rfl, hb2⟩))
            refine bodyPost_ret (v := .tuple #[.int .i64 m, .bool true]) (by simp [results, Tryd.results39]) rfl ?_
            rw [Lib.toList_data, Lib.toList_data, ← HV.out] at hq
            exact ⟨by rw [numV_some (by rw [HP.out, if_pos ⟨by omega, eq_of_beq hq⟩])], hb2⟩
          | false =>
            go_wp2_with (first
              | (go_at_call 52; refine (l1In_any _ _ _ _).mono ?_; rintro e w1 ⟨rfl, rfl⟩)
              | (go_at_call 43; refine (hF _).mono ?_; rintro e w2 ⟨rfl, hb2⟩))
            refine bodyPost_ret (v := .tuple #[.int .i64 0, .bool false]) (by simp [results, Tryd.results39]) rfl ?_
            rw [Lib.toList_data, Lib.toList_data, ← HV.out] at hq
            exact ⟨by rw [numV_none (by rw [HP.out, if_neg (fun h => by rw [baOf_list, h.2] at hq; simp at hq)])], hb2⟩
  · have HB := Lib.hid (show parseNum s.data.toList = none from parseNum_none fun u hu e => hr (by
      have h13 := decDigits_len13 hu
      rw [← e, ← Lib.size_eq] at h13
      exact inR_mk (by omega) (by omega)))
    go_enter Tryd.func39, Tryd.ntmps39
    go_wp2_with (first | (go_at_call 52; refine (l1In_any _ _ _ _).mono ?_; rintro e w1 ⟨rfl, rfl⟩))
    refine bodyPost_ret (v := .tuple #[.int .i64 0, .bool false]) (by simp [results, Tryd.results39]) rfl ?_
    exact ⟨by rw [numV_none HB.out], (by repeat (first | with_reducible exact Below.refl _ _ | with_reducible assumption | with_reducible refine bel_alloc ?_ _ | with_reducible refine bel_drew ?_ | with_reducible refine bel_drewN ?_ _ | (with_reducible refine bel_set ?_ ?_ _; rotate_left; ((try simp); (try omega)))))⟩
end Go.Proofs.YtlicnppfgfjkgaaDoor
namespace Go.Proofs.YtlicnppfgfjkgaaDoor
section
variable {P : Program} {ops : Array Oper} {Q : Exit → Act → World → Prop} {md : Region.Mode} {S : World → Prop} {tl : List Nat}

def rWaits (md : Region.Mode) (ops : Array Oper) (j i : Nat) : Bool :=
  match ops[j]? with
  | some oj => oj.after.any fun e => Region.binds md e && e.on == i
  | none => false
theorem rWaits_spec {j i : Nat} (h : rWaits md ops j i = true) : ∃ oj, ops[j]? = some oj ∧ ∃ e ∈ oj.after, Region.binds md e = true ∧ e.on = i := by
  unfold rWaits at h
  split at h
  · rename_i oj hj
    obtain ⟨e, he, hb⟩ := Array.any_eq_true'.1 h
    simp only [Bool.and_eq_true, beq_iff_eq] at hb
    exact ⟨oj, hj, e, he, hb.1, hb.2⟩
  · cases h
/-- what stands listed, stands with all that it waits for -/
def RClosed (md : Region.Mode) (ops : Array Oper) (listed : Array Bool) : Prop :=
  ∀ j oj, ops[j]? = some oj → listed.getD j false = true → ∀ e ∈ oj.after, Region.binds md e = true → listed.getD e.on false = true
def rClosedB (md : Region.Mode) (ops : Array Oper) (listed : Array Bool) : Bool :=
  (List.range ops.size).all fun j => !(listed.getD j false) || match ops[j]? with
    | some oj => oj.after.all fun e => !(Region.binds md e) || listed.getD e.on false
    | none => true
theorem rClosed_of {listed : Array Bool} (h : rClosedB md ops listed = true) : RClosed md ops listed := by
  intro j oj hj hl e he hb
  have hlt := (Array.getElem?_eq_some_iff.1 hj).1
  have := List.all_eq_true.1 h j (List.mem_range.2 hlt)
  simp only [hl, hj, Bool.not_true, Bool.false_or] at this
  have := Array.all_eq_true'.1 this e he
  simpa [hb] using this
theorem RClosed.set {listed : Array Bool} {i : Nat} (h : RClosed md ops listed) (hi : i ∈ Region.ready md ops listed) : RClosed md ops (listed.setIfInBounds i true) := by
  obtain ⟨_, oi, hoi, hall⟩ := mem_ready.1 hi
  intro j oj hj hl e he hb
  by_cases hij : i = j
  · subst hij
    have : oj = oi := Option.some.inj (hj.symm.trans hoi)
    subst this
    exact getD_set_true (hall e he hb)
  · rw [getD_set_ne false hij] at hl
    exact getD_set_true (h j oj hj hl e he hb)
/-- i stands ahead of T -/
def rReach (md : Region.Mode) (ops : Array Oper) : Nat → Nat → Nat → Bool
  | 0, _, _ => false
  | f + 1, i, T => rWaits md ops T i || (List.range ops.size).any fun j => rWaits md ops T j && rReach md ops f i j
theorem rReach_unlisted {listed : Array Bool} (hc : RClosed md ops listed) {i : Nat} (hi : listed.getD i false = false) : ∀ (f T : Nat), rReach md ops f i T = true → (∃ oj, ops[T]? = some oj ∧ ∃ e ∈ oj.after, Region.binds md e = true ∧ listed.getD e.on false = false)
  | 0, _, h => by cases h
  | f + 1, T, h => by
    simp only [rReach, Bool.or_eq_true] at h
    rcases h with h | h
    · obtain ⟨oj, h1, e, h2, h3, h4⟩ := rWaits_spec h
      exact ⟨oj, h1, e, h2, h3, by rw [h4]; exact hi⟩
    · obtain ⟨j, _, hj⟩ := List.any_eq_true.1 h
      simp only [Bool.and_eq_true] at hj
      obtain ⟨oj, h1, e, h2, h3, h4⟩ := rWaits_spec hj.1
      obtain ⟨o2, k1, e2, k2, k3, k4⟩ := rReach_unlisted hc hi f j hj.2
      refine ⟨oj, h1, e, h2, h3, ?_⟩
      rw [h4]
      cases hl : listed.getD j false with
      | false => rfl
      | true =>
        have := hc j o2 k1 hl e2 k2 k3
        rw [k4] at this; cases this
theorem rReach_wait {listed : Array Bool} (hc : RClosed md ops listed) {i f T : Nat} (hi : listed.getD i false = false) (h : rReach md ops f i T = true) : T ∉ Region.ready md ops listed := by
  intro hr
  obtain ⟨oj, h1, e, h2, h3, h4⟩ := rReach_unlisted hc hi f T h
  obtain ⟨_, o, ho, hall⟩ := mem_ready.1 hr
  have : oj = o := Option.some.inj (h1.symm.trans ho)
  subst this
  have := hall e h2 h3
  rw [h4] at this; cases this

def wpAnyT (P : Program) (md : Region.Mode) (ops : Array Oper) (Q : Exit → Act → World → Prop) (S : World → Prop) (tl : List Nat) : Nat → Array Bool → Act → World → Prop
  | 0, listed, a, w => Region.ready md ops listed = [] ∧ Q .normal a w
  | fuel + 1, listed, a, w =>
    (Region.ready md ops listed = [] → Q .normal a w) ∧
    ∀ i ∈ Region.ready md ops listed, wpOp P ops Q i (fun a' w' => (i ∉ tl → S w') ∧ wpAnyT P md ops Q S tl fuel (listed.setIfInBounds i true) a' w') a w
theorem wpAny_of_T : ∀ (fuel : Nat) (listed : Array Bool) (a : Act) (w : World), wpAnyT P md ops Q S tl fuel listed a w → wpAny P md ops Q fuel listed a w
  | 0, _, _, _, h => h
  | fuel + 1, _, _, _, h => ⟨h.1, fun i hi => wpOp_mono (fun a' w' h' => wpAny_of_T fuel _ a' w' h'.2) (h.2 i hi)⟩

theorem wpAnyT_first {i f : Nat} {oi : Oper} {v : Value} (hi : ops[i]? = some oi) (hsel : ∀ (j : Nat) (o : Oper) cs b, ops[j]? = some o → o.op ≠ .select cs b)
    (hQ : ∀ c a w, Q (.panic c) (a.put oi.dst v) w → Q (.panic c) a w) (htl : i ∉ tl) (hre : ∀ T, T ∈ tl → rReach md ops f i T = true) :
    ∀ (fuel : Nat) (listed : Array Bool) (a : Act) (w : World), RClosed md ops listed →
      (∀ j oj, ops[j]? = some oj → j ≠ i → listed.getD j true = false → (∀ e ∈ oj.after, Region.binds md e = true → e.on ≠ i) → oi.apart ops oj = true) →
      i ∈ Region.ready md ops listed → YieldsIf P ops S oi v a → S w →
      wpAnyT P md ops Q S tl fuel (listed.setIfInBounds i true) (a.put oi.dst v) w → wpAnyT P md ops Q S tl (fuel + 1) listed a w := by
  intro fuel
  induction fuel with
  | zero =>
    intro listed a w _ _ hr hy hS H
    refine ⟨fun h => (by rw [h] at hr; cases hr), fun j hj => ?_⟩
    by_cases hji : j = i
    · subst hji; exact hy.wpOp hi hS ⟨fun _ => hS, H⟩
    · have := ready_mono hj hji
      rw [H.1] at this
      cases this
  | succ fuel ih =>
    intro listed a w hcl hfree hr hy hS H
    refine ⟨fun h => (by rw [h] at hr; cases hr), fun j hj => ?_⟩
    by_cases hji : j = i
    · subst hji; exact hy.wpOp hi hS ⟨fun _ => hS, H⟩
    · have h1 := H.2 j (ready_mono hj hji)
      obtain ⟨hjun, oj, hoj, hall⟩ := mem_ready.1 hj
      have hiun : listed.getD i false = false := by
        have h0 := (mem_ready.1 hr).1
        rcases Nat.lt_or_ge i listed.size with h' | h'
        · simp [h'] at h0 ⊢; exact h0
        · simp [Array.getElem?_eq_none h'] at h0
      have hnot : ∀ e ∈ oj.after, Region.binds md e = true → e.on ≠ i := fun e he hb heq => by
        have h1 := hall e he hb
        rw [heq, hiun] at h1; cases h1
      have hjtl : j ∉ tl := fun hm => rReach_wait hcl hiun (hre j hm) hj
      have h2 := wpOp_putIf hoj (hfree j oj hoj hji hjun hnot) (fun cs b => hsel i oi cs b hi) (fun cs b => hsel j oj cs b hoj) hQ hy h1
      have hfree' : ∀ k ok, ops[k]? = some ok → k ≠ i → (listed.setIfInBounds j true).getD k true = false →
          (∀ e ∈ ok.after, Region.binds md e = true → e.on ≠ i) → oi.apart ops ok = true := fun k ok hk hki hun hno => by
        refine hfree k ok hk hki ?_ hno
        by_cases hjk : j = k
        · subst hjk; exact hjun
        · rw [getD_set_ne true hjk] at hun; exact hun
      refine wpOp_mono (fun a' w' h3 => ⟨fun _ => h3.2.1 hjtl, ih (listed.setIfInBounds j true) a' w' (hcl.set hj) hfree' (ready_mono hr (Ne.symm hji)) h3.1 (h3.2.1 hjtl) ?_⟩) h2
      rw [Array.setIfInBounds_comm _ _ hji]
      exact h3.2.2

theorem takeT_skip {i : Nat} (f : Nat) (d : Tmp) {oi : Oper} {fuel : Nat} {listed : Array Bool} {a : Act} {w : World} (hi : ops[i]? = some oi) (hd : oi.dst = some d)
    (hs : Region.noSelect ops = true) (hf : Region.free md ops listed i = true) (hr : (Region.ready md ops listed).contains i = true) (hc : rClosedB md ops listed = true)
    (htl : tl.contains i = false) (hre : (tl.all fun T => rReach md ops f i T) = true)
    (hQ : ∀ c a w, Q (.panic c) (a.put (some d) undef) w → Q (.panic c) a w) (hw : Region.wanted oi (yielded ops a.tmps) = false) (hS : S w)
    (h : wpAnyT P md ops Q S tl fuel (listed.setIfInBounds i true) (a.put (some d) undef) w) : wpAnyT P md ops Q S tl (fuel + 1) listed a w :=
  wpAnyT_first hi (Region.noSelect_spec hs) (by rw [hd]; exact hQ) (fun hm => by rw [List.contains_iff_mem.2 hm] at htl; cases htl) (fun T hT => List.all_eq_true.1 hre T hT) fuel listed a w (rClosed_of hc) (Region.free_spec hi hf) (by simpa using hr) (Or.inr ⟨hw, rfl⟩) hS (by rw [hd]; exact h)
theorem takeT_read {i : Nat} (f : Nat) (d : Tmp) {oi : Oper} {v : Value} {fuel : Nat} {listed : Array Bool} {a : Act} {w : World} (hi : ops[i]? = some oi) (hd : oi.dst = some d)
    (hs : Region.noSelect ops = true) (hf : Region.free md ops listed i = true) (hr : (Region.ready md ops listed).contains i = true) (hc : rClosedB md ops listed = true)
    (htl : tl.contains i = false) (hre : (tl.all fun T => rReach md ops f i T) = true)
    (hQ : ∀ c a w, Q (.panic c) (a.put (some d) v) w → Q (.panic c) a w) (hw : Region.wanted oi (yielded ops a.tmps) = true)
    (hy : ∀ w, S w → (execOp a.eval oi).run P w = .ok (.value v) w) (hS : S w)
    (h : wpAnyT P md ops Q S tl fuel (listed.setIfInBounds i true) (a.put (some d) v) w) : wpAnyT P md ops Q S tl (fuel + 1) listed a w :=
  wpAnyT_first hi (Region.noSelect_spec hs) (by rw [hd]; exact hQ) (fun hm => by rw [List.contains_iff_mem.2 hm] at htl; cases htl) (fun T hT => List.all_eq_true.1 hre T hT) fuel listed a w (rClosed_of hc) (Region.free_spec hi hf) (by simpa using hr) (Or.inl ⟨hw, hy⟩) hS (by rw [hd]; exact h)
/-- One operation alone may come up: behind it S is shown anew. -/
theorem stepT {fuel : Nat} {listed : Array Bool} {a : Act} {w : World} (i : Nat) {o : Oper} (hr : Region.ready md ops listed = [i]) (ho : ops[i]? = some o)
    (h : ∀ K' : Act → World → Prop, Shut (∀ a w, S w → (S w → wpAnyT P md ops Q S tl fuel (listed.setIfInBounds i true) a w) → K' a w) → if Region.wanted o (yielded ops a.tmps) = true then Oper.wp P o a w K' Q else K' (a.put o.dst undef) w) :
    wpAnyT P md ops Q S tl (fuel + 1) listed a w := by
  refine ⟨fun h0 => (by rw [hr] at h0; cases h0), fun j hj => ?_⟩
  rw [hr] at hj
  obtain rfl : j = i := by simpa using hj
  exact wpOp_step ho (fun K' hK => h K' (fun a w hS hW => hK a w ⟨fun _ => hS, hW hS⟩))
/-- .. one of the tail: S is asked no more. -/
theorem stepT_end {fuel : Nat} {listed : Array Bool} {a : Act} {w : World} (i : Nat) {o : Oper} (hr : Region.ready md ops listed = [i]) (ho : ops[i]? = some o) (ht : tl.contains i = true)
    (h : ∀ K' : Act → World → Prop, Shut (∀ a w, wpAnyT P md ops Q S tl fuel (listed.setIfInBounds i true) a w → K' a w) → if Region.wanted o (yielded ops a.tmps) = true then Oper.wp P o a w K' Q else K' (a.put o.dst undef) w) :
    wpAnyT P md ops Q S tl (fuel + 1) listed a w := by
  refine ⟨fun h0 => (by rw [hr] at h0; cases h0), fun j hj => ?_⟩
  rw [hr] at hj
  obtain rfl : j = i := by simpa using hj
  exact wpOp_step ho (fun K' hK => h K' (fun a w hW => hK a w ⟨fun hn => absurd (List.contains_iff_mem.1 ht) hn, hW⟩))
theorem doneT {listed : Array Bool} {a : Act} {w : World} (hr : Region.ready md ops listed = []) (h : Q .normal a w) : ∀ fuel, wpAnyT P md ops Q S tl fuel listed a w
  | 0 => ⟨hr, h⟩
  | _ + 1 => ⟨fun _ => h, by rw [hr]; simp⟩
theorem wp_regionT (tl : List Nat) {id : Nat} {a : Act} {w : World} (hm : P.follows .mixedOrders = true) (hS : S w.drew)
    (h : S w.drew → wpAnyT P .any ops Q S tl ops.size (Array.replicate ops.size false) a w.drew) : (Code.region id ops true).wp P Q a w :=
  wp_region_any hm (wpAny_of_T _ _ _ _ (h hS))
end
end Go.Proofs.YtlicnppfgfjkgaaDoor
namespace Go.Proofs.YtlicnppfgfjkgaaDoor
open Go.ChangeShapes Go.WideShapes Go.RowKit
set_option linter.unusedVariables false

set_option maxHeartbeats 2000000 in
theorem implWord_any (k : Int) (h : k = 1 ∨ k = 2 ∨ k = 3 ∨ k = 4 ∨ k = 5 ∨ k = 6 ∨ k = 7 ∨ k = 8 ∨ k = 9) (w : World) :
    Calls Tryd.prog 28 #[.int .i64 k] w (Gives w (.string (baOf (wordL k)))) := by
  rcases h with rfl | rfl | rfl | rfl | rfl | rfl | rfl | rfl | rfl
  all_goals
    go_enter Tryd.func28, Tryd.ntmps28
    go_wp2
    go_ret
    exact ⟨rfl, (by repeat (first | with_reducible exact Below.refl _ _ | with_reducible assumption | with_reducible refine bel_alloc ?_ _ | with_reducible refine bel_drew ?_ | with_reducible refine bel_drewN ?_ _ | (with_reducible refine bel_set ?_ ?_ _; rotate_left; ((try simp); (try omega)))))⟩
theorem text_ne {t : ByteArray} (h : t.data.toList ≠ []) : (t.toList == (⟨#[]⟩ : ByteArray).toList) = false := by
  rw [Lib.toList_data, Lib.toList_data]
  simpa using h
theorem wordL_len (k : Int) : (wordL k).length ≤ 5 := by
  unfold wordL
  (repeat' split) <;> decide
theorem itoa_len {n : Int} (h : 0 ≤ n) (h1 : n ≤ 1000) : (Lib.itoa n).length ≤ 13 := by
  rw [itoa_nat h]; exact (decDigits_len13 (by omega)).2
/-- what the walks need of an instruction's parts: their texts, as variables of bounded size -/
structure InsText (k r n : Int) (t sw sr sn : ByteArray) : Prop where
  eW : sw.data.toList = wordL k
  eR : sr.data.toList = Lib.itoa r
  eN : sn.data.toList = Lib.itoa n
  eI : isInstr ⟨k, r, n, t⟩ 16 = true
  eG : GoodIns ⟨k, r, n, t⟩
theorem fmt_of {k r n : Int} {t sw sr sn s : ByteArray} (h : InsText k r n t sw sr sn) (e : s.data.toList = joinWith 32 (piecesOf ⟨k, r, n, t⟩)) : s = baOf (fmtL ⟨k, r, n, t⟩) := by
  refine ba_ext (e.trans ?_)
  unfold fmtL
  rw [h.eI]; rfl
theorem sp_list : (⟨#[32]⟩ : ByteArray).data.toList = [32] := rfl
def wordCells : Array Value := #[.string ⟨#[]⟩, .string ⟨#[115, 101, 116]⟩, .string ⟨#[97, 100, 100]⟩, .string ⟨#[105, 102]⟩, .string ⟨#[103, 111, 116, 111]⟩, .string ⟨#[102, 101, 116, 99, 104]⟩, .string ⟨#[103, 101, 116]⟩, .string ⟨#[112, 117, 116]⟩, .string ⟨#[115, 101, 110, 100]⟩, .string ⟨#[101, 110, 100]⟩]
theorem wordCells_at : ∀ k : Nat, 1 ≤ k → k ≤ 9 → wordCells[k]? = some (.string (baOf (wordL k))) := by
  intro k h1 h9
  have : k = 1 ∨ k = 2 ∨ k = 3 ∨ k = 4 ∨ k = 5 ∨ k = 6 ∨ k = 7 ∨ k = 8 ∨ k = 9 := by omega
  rcases this with rfl | rfl | rfl | rfl | rfl | rfl | rfl | rfl | rfl <;> rfl
theorem specWords_any (w : World) : Calls Tryd.prog 38 #[] w fun e w' => e = .returned (.slice (some ⟨w.heap.size, 0, none⟩) 10 10) ∧ Below w.heap.size w w' ∧
    ∀ k : Nat, 1 ≤ k → k ≤ 9 → w'.cell? ⟨w.heap.size, k, none⟩ = some (.string (baOf (wordL k))) := by
  go_enter Tryd.func38, Tryd.ntmps38
  go_wp2
  go_ret
  exact ⟨rfl, (by repeat (first | with_reducible exact Below.refl _ _ | with_reducible assumption | with_reducible refine bel_alloc ?_ _ | with_reducible refine bel_drew ?_ | with_reducible refine bel_drewN ?_ _ | (with_reducible refine bel_set ?_ ?_ _; rotate_left; ((try simp); (try omega))))), fun k h1 h9 => (show World.cell? (w.alloc (.cells wordCells 9)) _ = _ by rw [(Blk.new w _ _).cell, wordCells_at k h1 h9])⟩
end Go.Proofs.YtlicnppfgfjkgaaDoor
namespace Go.Proofs.YtlicnppfgfjkgaaDoor
open Go.ChangeShapes Go.WideShapes Go.RowKit
set_option linter.unusedVariables false

set_option maxRecDepth 100000 in
set_option maxHeartbeats 8000000 in
theorem implFormatCells_any (k r n : Int) (t : ByteArray) (w : World) (hx : t.size ≤ maxLen) (hT : Tab w) :
    Calls Tryd.prog 9 #[.agg #[.int .i64 k, .int .i64 r, .int .i64 n, .string t]] w (Gives w (.string (baOf (fmtL ⟨k, r, n, t⟩)))) := by
  cases hi : isInstr ⟨k, r, n, t⟩ 16
  · have hc := fun W => implInstr_any ⟨k, r, n, t⟩ 16 W hx
    rw [hi] at hc
    rw [fmtL_not hi]
    go_enter Tryd.func9, Tryd.ntmps9
    go_wp2_with (go_at_call 11; refine (hc _).mono ?_; rintro e w1 ⟨rfl, hb1⟩)
    go_ret
    exact ⟨rfl, bel_then (by repeat (first | with_reducible exact Below.refl _ _ | with_reducible assumption | with_reducible refine bel_alloc ?_ _ | with_reducible refine bel_drew ?_ | with_reducible refine bel_drewN ?_ _ | (with_reducible refine bel_set ?_ ?_ _; rotate_left; ((try simp); (try omega))))) hb1⟩
  · have hg := good_of hi
    have hc := fun W => implInstr_any ⟨k, r, n, t⟩ 16 W hx
    rw [hi] at hc
    obtain ⟨sw, hsw⟩ : ∃ s, baOf (wordL k) = s := ⟨_, rfl⟩
    obtain ⟨sr, hsr⟩ : ∃ s, baOf (Lib.decDigits r.toNat) = s := ⟨_, rfl⟩
    obtain ⟨sn, hsn⟩ : ∃ s, baOf (Lib.decDigits n.toNat) = s := ⟨_, rfl⟩
    have HI := Lib.hid (InsText.mk (k := k) (r := r) (n := n) (t := t) (sw := sw) (sr := sr) (sn := sn) (by rw [← hsw]; rfl) (by rw [← hsr, itoa_nat hg.r0]; rfl) (by rw [← hsn, itoa_nat hg.n0]; rfl) hi hg)
    have z0 : sw.size ≤ 5 := by rw [← hsw, baOf_size]; exact wordL_len k
    have z1 : sr.size ≤ 13 := by rw [← hsr, baOf_size]; exact (decDigits_len13 (by have := hg.r0; have := hg.r3; simp only at *; omega)).2
    have z2 : sn.size ≤ 13 := by rw [← hsn, baOf_size]; exact (decDigits_len13 (by have := hg.n0; have := hg.n1; simp only at *; omega)).2
    have z3 : t.size ≤ 8 := by
      by_cases h5 : k = 5 ∨ k = 6 ∨ k = 7 ∨ k = 8
      · exact (isName_size (hg.named h5)).2
      · have := hg.bare h5; rw [Lib.size_eq, this]; decide
    have z4 : (⟨#[32]⟩ : ByteArray).size = 1 := rfl
    have hW : ∀ W, Calls Tryd.prog 28 #[.int .i64 k] W (Gives W (.string sw)) := fun W => by rw [← hsw]; exact implWord_any k hg.kind W
    have hR : ∀ W, Below w.heap.size w W → Calls Tryd.prog 29 #[.int .i64 r] W (Gives W (.string sr)) := fun W hb => by rw [← hsr]; exact implFormatInt_any _ hg.r0 (by have := hg.r3; simp only at this ⊢; omega) W (hT.bel hb)
    have hN : ∀ W, Below w.heap.size w W → Calls Tryd.prog 29 #[.int .i64 n] W (Gives W (.string sn)) := fun W hb => by rw [← hsn]; exact implFormatInt_any _ hg.n0 (by have := hg.n1; simp only at this ⊢; omega) W (hT.bel hb)
    have he : t.toList.isEmpty = !(insNamed k) := by
      rw [Lib.toList_data]
      cases hN : insNamed k
      · rw [hg.bare (by simp [insNamed] at hN; show ¬ (k = 5 ∨ k = 6 ∨ k = 7 ∨ k = 8); omega)]; rfl
      · have := (name_bytes (hg.named (by simp [insNamed] at hN; show k = 5 ∨ k = 6 ∨ k = 7 ∨ k = 8; omega))).1
        simpa using this
    have HE := Lib.hid (show t.data.toList.isEmpty = !(insNamed k) from by rw [← he, Lib.toList_data])
    have hk := hg.kind
    simp only at hk
    have HSW := Lib.hid (show baOf (wordL k) = sw from hsw)
    clear hsw hsr hsn hg hi
    rcases hk with rfl | rfl | rfl | rfl | rfl | rfl | rfl | rfl | rfl
    all_goals first | (replace he : t.toList.isEmpty = true := he) | (replace he : t.toList.isEmpty = false := he)
    all_goals
      go_enter Tryd.func9, Tryd.ntmps9
      go_wp2_with (first
        | (go_at_call 11; refine (hc _).mono ?_; rintro e w1 ⟨rfl, hb1⟩; obtain ⟨hcc, hff, hzz⟩ := bcell hb1; (try simp at hzz); have hs0 : w.heap.size < w1.heap.size := (by omega); have hB1 : Below w.heap.size w w1 := (bel_then (by repeat (first | with_reducible exact Below.refl _ _ | with_reducible assumption | with_reducible refine bel_alloc ?_ _ | with_reducible refine bel_drew ?_ | with_reducible refine bel_drewN ?_ _ | (with_reducible refine bel_set ?_ ?_ _; rotate_left; ((try simp); (try omega))))) hb1); clear hb1)
        | (go_at_call 28; refine (hW _).mono ?_; rintro e w2 ⟨rfl, hb1⟩; obtain ⟨hcc2, hff2, hzz2⟩ := bcell hb1; have hs2 : w.heap.size < w2.heap.size := (by omega); have hB2 : Below w.heap.size w w2 := (bel_then (by repeat (first | with_reducible exact Below.refl _ _ | with_reducible assumption | with_reducible refine bel_alloc ?_ _ | with_reducible refine bel_drew ?_ | with_reducible refine bel_drewN ?_ _ | (with_reducible refine bel_set ?_ ?_ _; rotate_left; ((try simp); (try omega))))) hb1); clear hb1)
        | (go_at_call 29; (first | refine (hR _ (by repeat (first | with_reducible exact Below.refl _ _ | with_reducible assumption | with_reducible refine bel_alloc ?_ _ | with_reducible refine bel_drew ?_ | with_reducible refine bel_drewN ?_ _ | (with_reducible refine bel_set ?_ ?_ _; rotate_left; ((try simp); (try omega)))))).mono ?_ | refine (hN _ (by repeat (first | with_reducible exact Below.refl _ _ | with_reducible assumption | with_reducible refine bel_alloc ?_ _ | with_reducible refine bel_drew ?_ | with_reducible refine bel_drewN ?_ _ | (with_reducible refine bel_set ?_ ?_ _; rotate_left; ((try simp); (try omega)))))).mono ?_); rintro e w3 ⟨rfl, hb1⟩; obtain ⟨hcc3, hff3, hzz3⟩ := bcell hb1; (try simp at hzz3); have hs3 : w.heap.size < w3.heap.size := (by omega); have hB3 : Below w.heap.size w w3 := (bel_then (by repeat (first | with_reducible exact Below.refl _ _ | with_reducible assumption | with_reducible refine bel_alloc ?_ _ | with_reducible refine bel_drew ?_ | with_reducible refine bel_drewN ?_ _ | (with_reducible refine bel_set ?_ ?_ _; rotate_left; ((try simp); (try omega))))) hb1); clear hb1))
      go_ret
      refine ⟨congrArg (fun s => Ending.returned (.string s)) (fmt_of HI.out ?_), (by repeat (first | with_reducible exact Below.refl _ _ | with_reducible assumption | with_reducible refine bel_alloc ?_ _ | with_reducible refine bel_drew ?_ | with_reducible refine bel_drewN ?_ _ | (with_reducible refine bel_set ?_ ?_ _; rotate_left; ((try simp); (try omega)))))⟩
      have h1 := HI.out.eW
      have h2 := HI.out.eR
      have h3 := HI.out.eN
      have h4 := HE.out
      clear HI HE
      simp [insNamed] at h4
      simp [ByteArray.data_append, piecesOf, joinWith, h1, h2, h3, h4]
end Go.Proofs.YtlicnppfgfjkgaaDoor
namespace Go.Proofs.YtlicnppfgfjkgaaDoor
open Go.ChangeShapes Go.WideShapes Go.RowKit
set_option linter.unusedVariables false

def cUS : Cod (List UInt8) := cL cU (by decide) (by decide)
theorem opens_US : Opens Tryd.prog 22 cUS := opens_slice Tryd.underlying22 (opens_u8 Tryd.underlying5 (by kernel_rfl)) (by kernel_rfl)

end Go.Proofs.YtlicnppfgfjkgaaDoor
namespace Go.Proofs.YtlicnppfgfjkgaaDoor
open Go.ChangeShapes Go.WideShapes Go.RowKit
set_option linter.unusedVariables false

def cStS : Cod (List ByteArray) := cL cS (by decide) (by decide)
theorem opens_StS : Opens Tryd.prog 49 cStS := opens_slice Tryd.underlying49 (opens_string Tryd.underlying9 (by kernel_rfl)) (by kernel_rfl)

end Go.Proofs.YtlicnppfgfjkgaaDoor
namespace Go.Proofs.YtlicnppfgfjkgaaDoor
open Go.ChangeShapes Go.WideShapes Go.RowKit
set_option linter.unusedVariables false

structure TSite where
  name : ByteArray
  ver : Int
  files : List ByteArray
  shared : Bool

def cSite : Cod TSite := cM (cP cS (cP cI (cP cStS cB))) (fun x => (x.name, x.ver, x.files, x.shared)) (fun a => ⟨a.1, a.2.1, a.2.2.1, a.2.2.2⟩) (fun _ => rfl)

structure TSite.Ok (x : TSite) : Prop where
  h0 : x.name.size ≤ maxLen
  h1 : -9223372036854775808 ≤ x.ver ∧ x.ver ≤ 9223372036854775807

theorem TSite.out {w : World} {vs : List Value} {x : TSite} {F : List Nat} (h : cSite.rep w vs x F) :
    ∃ v2 F2, vs = [Value.string x.name, .int .i64 x.ver, v2, .bool x.shared] ∧ F = F2 ∧ x.Ok ∧ cStS.rep w [v2] x.files F2 := by

  obtain ⟨a0, b0, G0, H0, rfl, rfl, ⟨rfl, rfl, h0⟩, a1, b1, G1, H1, rfl, rfl, ⟨rfl, rfl, h1⟩, a2, b2, G2, H2, rfl, rfl, h2, rfl, rfl⟩ := h
  obtain ⟨A2, cp2, rfl, k2⟩ := h2
  exact ⟨_, G2, rfl, by simp, ⟨h0, h1⟩, ⟨A2, cp2, rfl, k2⟩⟩

theorem TSite.mk_ {w : World} {x : TSite} {v2 : Value} {F2 : List Nat} (h : x.Ok) (k2 : cStS.rep w [v2] x.files F2) : cSite.rep w [Value.string x.name, .int .i64 x.ver, v2, .bool x.shared] x (F2) := by

  exact ⟨[_], _, [], F2, rfl, by simp, ⟨rfl, rfl, h.h0⟩, ⟨[_], _, [], F2, rfl, by simp, ⟨rfl, rfl, h.h1⟩, ⟨[_], _, F2, [], rfl, by simp, k2, ⟨rfl, rfl⟩⟩⟩⟩


theorem TSite.outA {w : World} {vs : Array Value} {x : TSite} {F : List Nat} (h : cSite.rep w vs.toList x F) :
    ∃ v2 F2, vs = #[Value.string x.name, .int .i64 x.ver, v2, .bool x.shared] ∧ F = F2 ∧ x.Ok ∧ cStS.rep w [v2] x.files F2 := by
  obtain ⟨a0, a1, e, f, r⟩ := TSite.out h
  exact ⟨a0, a1, Array.toList_inj.1 e, f, r⟩

end Go.Proofs.YtlicnppfgfjkgaaDoor
namespace Go.Proofs.YtlicnppfgfjkgaaDoor

def strEq (a b : ByteArray) : Bool := a.toList == b.toList
theorem strEq_comm (a b : ByteArray) : strEq a b = strEq b a := by
  unfold strEq; exact BEq.comm
theorem strEq_refl (a : ByteArray) : strEq a a = true := by simp [strEq]

section
variable {α : Type} (p : α → Bool)
def noneTo (xs : List α) (k : Nat) : Bool := (xs.take k).all fun y => !p y
theorem noneTo_zero (xs : List α) : noneTo p xs 0 = true := by simp [noneTo]
theorem noneTo_succ (xs : List α) (k : Nat) (h : k < xs.length) (h1 : noneTo p xs k = true) (h2 : p xs[k] = false) : noneTo p xs (k + 1) = true := by
  unfold noneTo at h1 ⊢
  rw [List.take_succ_eq_append_getElem h, List.all_append, h1]; simp [h2]
/-- the first place at which p holds, or -1 -/
def idxP : List α → Int
  | [] => -1
  | x :: xs => bif p x then 0 else if idxP xs < 0 then -1 else idxP xs + 1
theorem idxP_ge (xs : List α) : -1 ≤ idxP p xs := by
  induction xs with
  | nil => simp [idxP]
  | cons x xs ih =>
    simp only [idxP]
    cases p x
    · simp only [cond_false]; split <;> omega
    · simp
theorem idxP_lt (xs : List α) : idxP p xs < xs.length := by
  induction xs with
  | nil => simp [idxP]
  | cons x xs ih =>
    simp only [idxP, List.length_cons]
    cases p x
    · simp only [cond_false]; split <;> omega
    · simp only [cond_true]; omega
theorem idxP_hit : ∀ (xs : List α) (k : Nat) (h : k < xs.length), noneTo p xs k = true → p xs[k] = true → idxP p xs = k
  | x :: xs, 0, _, _, h2 => by
    simp only [List.getElem_cons_zero] at h2
    simp [idxP, h2]
  | x :: xs, k + 1, h, h1, h2 => by
    simp only [noneTo, List.take_succ_cons, List.all_cons, Bool.and_eq_true, Bool.not_eq_true'] at h1
    have := idxP_hit xs k (by simpa using h) h1.2 (by simpa using h2)
    simp only [idxP, h1.1, cond_false, this]
    rw [if_neg (by omega)]; omega
theorem idxP_miss : ∀ (xs : List α), noneTo p xs xs.length = true → idxP p xs = -1
  | [], _ => rfl
  | x :: xs, h => by
    simp only [noneTo, List.length_cons, List.take_succ_cons, List.all_cons, Bool.and_eq_true, Bool.not_eq_true'] at h
    have := idxP_miss xs h.2
    simp [idxP, h.1, this]
theorem idxP_any (xs : List α) : xs.any p = decide (0 ≤ idxP p xs) := by
  induction xs with
  | nil => simp [idxP]
  | cons x xs ih =>
    have hg := idxP_ge p xs
    cases hp : p x
    · have e : idxP p (x :: xs) = if idxP p xs < 0 then -1 else idxP p xs + 1 := by simp [idxP, hp]
      rw [List.any_cons, hp, ih, e, Bool.false_or]
      by_cases hn : idxP p xs < 0
      · rw [if_pos hn, decide_eq_false (by omega), decide_eq_false (by omega)]
      · rw [if_neg hn, decide_eq_true (by omega), decide_eq_true (by omega)]
    · have e : idxP p (x :: xs) = 0 := by simp [idxP, hp]
      rw [List.any_cons, hp, e]; rfl
theorem any_hit (xs : List α) (k : Nat) (h : k < xs.length) (h2 : p xs[k] = true) : xs.any p = true := List.any_eq_true.2 ⟨xs[k], List.getElem_mem h, h2⟩
theorem any_miss (xs : List α) (h : noneTo p xs xs.length = true) : xs.any p = false := by
  rw [idxP_any, idxP_miss p xs h]; rfl
end
end Go.Proofs.YtlicnppfgfjkgaaDoor
namespace Go.Proofs.YtlicnppfgfjkgaaDoor
open Go.ChangeShapes Go.WideShapes Go.RowKit
set_option linter.unusedVariables false

def idxStr (xs : List ByteArray) (v : ByteArray) : Int := idxP (fun y => strEq v y) xs
def hasStr (xs : List ByteArray) (v : ByteArray) : Bool := xs.any fun y => strEq v y

end Go.Proofs.YtlicnppfgfjkgaaDoor
namespace Go.Proofs.YtlicnppfgfjkgaaDoor

def allTo (p : Nat → Bool) (k : Nat) : Bool := (List.range k).all p
theorem allTo_zero (p : Nat → Bool) : allTo p 0 = true := rfl
theorem allTo_succ (p : Nat → Bool) (k : Nat) : allTo p (k + 1) = (allTo p k && p k) := by simp [allTo, List.range_succ]
theorem allTo_bad {p : Nat → Bool} {k n : Nat} (h : k < n) (hp : p k = false) : allTo p n = false := by
  cases hn : allTo p n with
  | false => rfl
  | true =>
    unfold allTo at hn
    rw [List.all_eq_true] at hn
    have := hn k (by simpa using h)
    rw [hp] at this; cases this
theorem allTo_get {p : Nat → Bool} {k n : Nat} (h : allTo p n = true) (hk : k < n) : p k = true := by
  unfold allTo at h
  rw [List.all_eq_true] at h
  exact h k (by simpa using hk)
theorem allTo_congr {p q : Nat → Bool} {n : Nat} (h : ∀ k, k < n → p k = q k) : allTo p n = allTo q n := by
  unfold allTo
  rw [Bool.eq_iff_iff, List.all_eq_true, List.all_eq_true]
  constructor
  · intro a x hx; rw [← h x (by simpa using hx)]; exact a x hx
  · intro a x hx; rw [h x (by simpa using hx)]; exact a x hx
theorem allTo_intro {p : Nat → Bool} {n : Nat} (h : ∀ k, k < n → p k = true) : allTo p n = true := by
  unfold allTo
  rw [List.all_eq_true]
  intro x hx; exact h x (by simpa using hx)

/-- texts in the order of their bytes -/
def strLess (a b : ByteArray) : Bool := Op.bytesLess a.toList b.toList
theorem bytesLess_turn : ∀ x y : List UInt8, (Op.bytesLess x y || x == y) = !Op.bytesLess y x
  | [], [] => by simp [Op.bytesLess]
  | [], y :: ys => by simp [Op.bytesLess]
  | x :: xs, [] => by simp [Op.bytesLess]
  | x :: xs, y :: ys => by
    have ih := bytesLess_turn xs ys
    simp only [Op.bytesLess]
    rcases Nat.lt_trichotomy x.toNat y.toNat with h | h | h
    · have h1 : x < y := UInt8.lt_iff_toNat_lt.2 h
      have h2 : ¬ y < x := fun e => by have := UInt8.lt_iff_toNat_lt.1 e; omega
      have h3 : (y == x) = false := by simp; intro e; subst e; omega
      simp [h1, h2, h3]
    · obtain rfl : x = y := UInt8.toNat_inj.1 h
      have h1 : ¬ x < x := fun e => by have := UInt8.lt_iff_toNat_lt.1 e; omega
      simp [h1, ih]
    · have h1 : y < x := UInt8.lt_iff_toNat_lt.2 h
      have h2 : ¬ x < y := fun e => by have := UInt8.lt_iff_toNat_lt.1 e; omega
      have h3 : (x == y) = false := by simp; intro e; subst e; omega
      simp [h1, h2, h3]
theorem strLess_turn (a b : ByteArray) : (Op.bytesLess a.toList b.toList || a.toList == b.toList) = !strLess b a := bytesLess_turn _ _
end Go.Proofs.YtlicnppfgfjkgaaDoor
namespace Go.Proofs.YtlicnppfgfjkgaaDoor
open Go.ChangeShapes Go.WideShapes Go.RowKit
set_option linter.unusedVariables false

def siteAt (fs : List ByteArray) (i : Nat) : Bool :=
  match fs[i]? with
  | some f => isName f && (i == 0 || match fs[i - 1]? with | some g => strLess g f | none => false)
  | none => false
theorem siteAt_zero {fs : List ByteArray} (h : 0 < fs.length) : siteAt fs 0 = isName fs[0] := by
  unfold siteAt; rw [List.getElem?_eq_getElem h]; simp
theorem siteAt_succ {fs : List ByteArray} {k : Nat} (h : k < fs.length) (h0 : 0 < k) (h1 : k - 1 < fs.length) : siteAt fs k = (isName fs[k] && strLess fs[k - 1] fs[k]) := by
  unfold siteAt
  rw [List.getElem?_eq_getElem h, List.getElem?_eq_getElem h1]
  have : (k == 0) = false := by simp; omega
  simp [this]
theorem siteAt_name {fs : List ByteArray} {k : Nat} (h : k < fs.length) (hn : isName fs[k] = false) : siteAt fs k = false := by
  unfold siteAt
  rw [List.getElem?_eq_getElem h]; simp [hn]
def isSite (x : TSite) : Bool := allTo (siteAt x.files) x.files.length && isName x.name && inR x.ver 1 1000000000000 && inR x.files.length 1 6

end Go.Proofs.YtlicnppfgfjkgaaDoor
namespace Go.Proofs.YtlicnppfgfjkgaaDoor
open Go.ChangeShapes Go.WideShapes Go.RowKit
set_option linter.unusedVariables false

structure TReg where
  site : ByteArray
  ins : Int
  wai : Int
  act : Int

def cReg : Cod TReg := cM (cP cS (cP cI (cP cI cI))) (fun x => (x.site, x.ins, x.wai, x.act)) (fun a => ⟨a.1, a.2.1, a.2.2.1, a.2.2.2⟩) (fun _ => rfl)

structure TReg.Ok (x : TReg) : Prop where
  h0 : x.site.size ≤ maxLen
  h1 : -9223372036854775808 ≤ x.ins ∧ x.ins ≤ 9223372036854775807
  h2 : -9223372036854775808 ≤ x.wai ∧ x.wai ≤ 9223372036854775807
  h3 : -9223372036854775808 ≤ x.act ∧ x.act ≤ 9223372036854775807

theorem TReg.out {w : World} {vs : List Value} {x : TReg} {F : List Nat} (h : cReg.rep w vs x F) :
    vs = [Value.string x.site, .int .i64 x.ins, .int .i64 x.wai, .int .i64 x.act] ∧ F = [] ∧ x.Ok := by

  obtain ⟨a0, b0, G0, H0, rfl, rfl, ⟨rfl, rfl, h0⟩, a1, b1, G1, H1, rfl, rfl, ⟨rfl, rfl, h1⟩, a2, b2, G2, H2, rfl, rfl, ⟨rfl, rfl, h2⟩, rfl, rfl, h3⟩ := h
  exact ⟨rfl, by simp, ⟨h0, h1, h2, h3⟩⟩

theorem TReg.mk_ {w : World} {x : TReg} (h : x.Ok) : cReg.rep w [Value.string x.site, .int .i64 x.ins, .int .i64 x.wai, .int .i64 x.act] x ([]) := by

  exact ⟨[_], _, [], [], rfl, by simp, ⟨rfl, rfl, h.h0⟩, ⟨[_], _, [], [], rfl, by simp, ⟨rfl, rfl, h.h1⟩, ⟨[_], _, [], [], rfl, by simp, ⟨rfl, rfl, h.h2⟩, ⟨rfl, rfl, h.h3⟩⟩⟩⟩


def TReg.val (x : TReg) : Value := .agg #[Value.string x.site, .int .i64 x.ins, .int .i64 x.wai, .int .i64 x.act]

theorem TReg.val_of {w : World} {cs : Array Value} {x : TReg} {F : List Nat} (h : cReg.rep w cs.toList x F) : Value.agg cs = x.val := by
  have := (TReg.out h).1
  unfold TReg.val
  rw [← Array.toList_inj.1 (show cs.toList = #[Value.string x.site, .int .i64 x.ins, .int .i64 x.wai, .int .i64 x.act].toList from this)]

end Go.Proofs.YtlicnppfgfjkgaaDoor
namespace Go.Proofs.YtlicnppfgfjkgaaDoor
section
variable {P : Program} {ops : Array Oper} {Q : Exit → Act → World → Prop} {md : Region.Mode} {S : World → Prop}

theorem take_skip {i : Nat} (d : Tmp) {oi : Oper} {fuel : Nat} {listed : Array Bool} {a : Act} {w : World} (hi : ops[i]? = some oi) (hd : oi.dst = some d)
    (hs : Region.noSelect ops = true) (hf : Region.free md ops listed i = true) (hr : (Region.ready md ops listed).contains i = true)
    (hQ : ∀ c a w, Q (.panic c) (a.put (some d) undef) w → Q (.panic c) a w) (hw : Region.wanted oi (yielded ops a.tmps) = false) (hS : S w)
    (h : wpAnyH P md ops Q S fuel (listed.setIfInBounds i true) (a.put (some d) undef) w) : wpAnyH P md ops Q S (fuel + 1) listed a w :=
  wpAnyH_take hi hs hf hr (by rw [hd]; exact hQ) (Or.inr ⟨hw, rfl⟩) hS (by rw [hd]; exact h)
theorem take_read {i : Nat} (d : Tmp) {oi : Oper} {v : Value} {fuel : Nat} {listed : Array Bool} {a : Act} {w : World} (hi : ops[i]? = some oi) (hd : oi.dst = some d)
    (hs : Region.noSelect ops = true) (hf : Region.free md ops listed i = true) (hr : (Region.ready md ops listed).contains i = true)
    (hQ : ∀ c a w, Q (.panic c) (a.put (some d) v) w → Q (.panic c) a w) (hw : Region.wanted oi (yielded ops a.tmps) = true)
    (hy : ∀ w, S w → (execOp a.eval oi).run P w = .ok (.value v) w) (hS : S w)
    (h : wpAnyH P md ops Q S fuel (listed.setIfInBounds i true) (a.put (some d) v) w) : wpAnyH P md ops Q S (fuel + 1) listed a w :=
  wpAnyH_take hi hs hf hr (by rw [hd]; exact hQ) (Or.inl ⟨hw, hy⟩) hS (by rw [hd]; exact h)
end
end Go.Proofs.YtlicnppfgfjkgaaDoor
namespace Go.Proofs.YtlicnppfgfjkgaaDoor
open Go.ChangeShapes Go.WideShapes Go.RowKit
set_option linter.unusedVariables false

def maxI (a b : Int) : Int := if a < b then b else a
theorem serves_ints (a v : Int) : inR v (maxI 1 (a - 1)) a = (decide (a - 2 < v) && decide (v ≤ a) && decide (1 ≤ v)) := by
  have h : maxI 1 (a - 1) ≤ v ↔ (a - 2 < v ∧ 1 ≤ v) := by
    unfold maxI
    split
    · exact ⟨fun h => ⟨by omega, by omega⟩, fun h => by omega⟩
    · exact ⟨fun h => ⟨by omega, by omega⟩, fun h => by omega⟩
  rw [Bool.eq_iff_iff]
  simp only [inR, Bool.and_eq_true, decide_eq_true_eq, h]
  exact ⟨fun h => ⟨⟨h.1.1, h.2⟩, h.1.2⟩, fun h => ⟨⟨h.1.1, h.2⟩, h.1.2⟩⟩
def servesVersion (x : TSite) (v : Int) : Bool := isSite x && inR v (maxI 1 (x.ver - 1)) x.ver
theorem isSite_ver {x : TSite} (h : isSite x = true) : 1 ≤ x.ver ∧ x.ver ≤ 1000000000000 := by
  simp only [isSite, Bool.and_eq_true] at h
  exact inR_true h.1.2

def versionFor (r : TReg) (x : TSite) (online : Bool) : Int := bif r.act != 0 then r.act else bif online then x.ver else 0
end Go.Proofs.YtlicnppfgfjkgaaDoor
namespace Go.Proofs.YtlicnppfgfjkgaaDoor
open Go.ChangeShapes Go.WideShapes Go.RowKit
set_option linter.unusedVariables false

def hashStep (d x : Int) : Int := (d * 1000003 + x % 2147483647 + 13) % 2147483647
def hashL (l : List Int) : Int := l.foldl hashStep 11
theorem hashL_range (l : List Int) : 0 ≤ hashL l ∧ hashL l < 2147483647 := by
  have : ∀ (l : List Int) (d : Int), 0 ≤ d ∧ d < 2147483647 → 0 ≤ l.foldl hashStep d ∧ l.foldl hashStep d < 2147483647 := by
    intro l
    induction l with
    | nil => exact fun d h => h
    | cons x l ih => exact fun d h => ih _ (by unfold hashStep; omega)
  exact this l 11 (by omega)
theorem hashL_take {l : List Int} {k : Nat} (h : k < l.length) : hashL (l.take (k + 1)) = hashStep (hashL (l.take k)) l[k] := by
  unfold hashL
  rw [List.take_succ_eq_append_getElem h, List.foldl_append]; rfl
def keyedHash (k : Int) (l : List Int) : Int := hashL (([k] ++ l) ++ [k])
def bytesInts (b : List UInt8) : List Int := (b.length : Int) :: b.map fun x => (x.toNat : Int)
def derive (k : Int) (s : ByteArray) : Int := if keyedHash k (bytesInts s.data.toList) = 0 then 1 else keyedHash k (bytesInts s.data.toList)

theorem tmod_mod (n : Int) : (n.tmod 2147483647 + 2147483647).tmod 2147483647 = n % 2147483647 := by
  rcases Int.le_total 0 n with h | h
  · rw [Int.tmod_eq_emod_of_nonneg h, Int.tmod_eq_emod_of_nonneg (by omega)]; omega
  · have h1 : n.tmod 2147483647 = -((-n) % 2147483647) := by rw [← Int.tmod_eq_emod_of_nonneg (by omega : 0 ≤ -n), Int.neg_tmod, Int.neg_neg]
    rw [h1, Int.tmod_eq_emod_of_nonneg (by omega)]; omega
theorem tmod_neg {n : Int} (h : n.tmod 2147483647 < 0) : n.tmod 2147483647 + 2147483647 = n % 2147483647 := by
  rcases Int.le_total 0 n with h0 | h0
  · rw [Int.tmod_eq_emod_of_nonneg h0] at h; omega
  · have h1 : n.tmod 2147483647 = -((-n) % 2147483647) := by rw [← Int.tmod_eq_emod_of_nonneg (by omega : 0 ≤ -n), Int.neg_tmod, Int.neg_neg]
    rw [h1] at h ⊢; omega
theorem tmod_pos {n : Int} (h : ¬ n.tmod 2147483647 < 0) : n.tmod 2147483647 = n % 2147483647 := by
  rcases Int.le_total 0 n with h0 | h0
  · rw [Int.tmod_eq_emod_of_nonneg h0]
  · have h1 : n.tmod 2147483647 = -((-n) % 2147483647) := by rw [← Int.tmod_eq_emod_of_nonneg (by omega : 0 ≤ -n), Int.neg_tmod, Int.neg_neg]
    rw [h1] at h ⊢; omega
theorem tmod_bounds (n : Int) : -2147483647 < n.tmod 2147483647 ∧ n.tmod 2147483647 < 2147483647 := by
  rcases Int.le_total 0 n with h0 | h0
  · rw [Int.tmod_eq_emod_of_nonneg h0]; omega
  · have h1 : n.tmod 2147483647 = -((-n) % 2147483647) := by rw [← Int.tmod_eq_emod_of_nonneg (by omega : 0 ≤ -n), Int.neg_tmod, Int.neg_neg]
    rw [h1]; omega


theorem Own.of_new {α : Type} {c : Cod α} {w : World} {vs : Array Value} {xs : List α} {F : List Nat} (T : TypeId) (n : Nat) (hn : n = xs.length) (hc : 0 < n) (hm : n ≤ maxLen) (hs : vs.size = n * c.wd) (h : c.reps (w.alloc (.cells vs T)) vs.toList xs F) :
    Own c T w.heap.size (w.alloc (.cells vs T)) (.slice (some ⟨w.heap.size, 0, none⟩) n n) xs F := by
  subst hn
  refine .inr ⟨vs.toList, ⟨by simpa using hs, .inr ⟨w.heap.size, xs.length, vs, rfl, Nat.le_refl _, heap_alloc_new w _, Nat.le_refl _, hm, hs, ?_⟩⟩, h⟩
  rw [List.take_of_length_le (by simpa using Nat.le_of_eq hs)]
theorem repsI {w : World} {n : Int} (h : -9223372036854775808 ≤ n ∧ n ≤ 9223372036854775807) : cI.reps w (#[Value.int .i64 n] : Array Value).toList [n] [] := Cod.reps_one ⟨rfl, rfl, h.1, h.2⟩


/-! ### KeyedHash -/

/-! ### A text's bytes as numbers -/
theorem repsU (w : World) : ∀ l : List UInt8, cU.reps w (l.map fun b => Value.int .u8 (b.toNat : Int)) l []
  | [] => ⟨rfl, rfl⟩
  | b :: l => ⟨[_], _, [], [], rfl, rfl, ⟨rfl, rfl⟩, repsU w l⟩
theorem conv_str (w : World) (s : ByteArray) (hs : s.size ≤ maxLen) : ∃ cp w' F, Sem.run Tryd.prog (convert 9 22 (.string s)) w = .ok (.slice (some ⟨w.heap.size, 0, none⟩) s.size cp) w' ∧ Below w.heap.size w w' ∧
    cUS.rep w' [.slice (some ⟨w.heap.size, 0, none⟩) s.data.toList.length cp] s.data.toList F := by
  have hlen : s.data.toList.length = s.size := (Array.length_toList : s.data.toList.length = s.data.size)
  have hle := grownCap_ge w s.size 0 5
  have hcm := grownCap_le_maxLen w s.size 0 5 hs
  refine ⟨grownCap w s.size 0 5, _, if s.data.toList = [] then [] else [w.heap.size], run_bytes_of_string (P := Tryd.prog) w _ _ _ s Tryd.underlying9 Tryd.underlying22 Tryd.underlying5, bel_alloc (Below.refl _ _).drew _, ?_⟩
  by_cases h0 : s.data.toList = []
  · rw [if_pos h0]
    rw [h0]
    exact ⟨_, _, rfl, Nat.zero_le _, hcm, .inl ⟨rfl, rfl⟩⟩
  · rw [if_neg h0]
    refine ⟨_, _, rfl, by rw [hlen]; exact hle, hcm, .inr ⟨h0, w.heap.size, 0, [], _, rfl, rfl, fun j u hu => ?_, repsU _ _⟩⟩
    have hj : j < s.data.size := by
      have := (List.getElem?_eq_some_iff.1 hu).1
      simpa using this
    have hu2 : u = .int .u8 (s.data[j].toNat : Int) := by
      rw [List.getElem?_map] at hu
      simp at hu
      obtain ⟨a, ha, hau⟩ := hu
      rw [Array.getElem?_eq_getElem hj, Option.some.injEq] at ha
      rw [← hau, ← ha]
    subst hu2
    have hh : (w.drew.alloc (.cells (bytesRow s (grownCap w s.size 0 5)) 5 ((bytesRow s (grownCap w s.size 0 5)).size, (bytesRow s (grownCap w s.size 0 5)).size + 1))).heap[w.heap.size]? = some (.cells (bytesRow s (grownCap w s.size 0 5)) 5 ((bytesRow s (grownCap w s.size 0 5)).size, (bytesRow s (grownCap w s.size 0 5)).size + 1)) := heap_alloc_new w.drew _
    have hbs : j < (bytesRow s (grownCap w s.size 0 5)).size := by
      have h9 := bytesRow_at s (grownCap w s.size 0 5) j hj
      exact (Array.getElem?_eq_some_iff.1 h9).1
    refine ⟨?_, ?_⟩
    · rw [cell_of_row _ w.heap.size (0 + j) _ _ _ hh, Nat.zero_add]
      exact bytesRow_at s _ j hj
    · unfold World.frozen?
      rw [hh]
      simp; omega
end Go.Proofs.YtlicnppfgfjkgaaDoor
namespace Go.Proofs.YtlicnppfgfjkgaaDoor
open Go.ChangeShapes Go.WideShapes Go.RowKit
set_option linter.unusedVariables false

def biTo (n : Int) (xs : List UInt8) (k : Nat) : List Int := n :: (xs.take k).map fun x => (x.toNat : Int)
theorem bytesInts_take {xs : List UInt8} {k : Nat} (h : k < xs.length) (n : Int) : biTo n xs k ++ [(xs[k].toNat : Int)] = biTo n xs (k + 1) := by
  unfold biTo
  rw [List.take_succ_eq_append_getElem h, List.map_append]; rfl
theorem src_int {w : World} {n : Int} (h : -9223372036854775808 ≤ n ∧ n ≤ 9223372036854775807) : AppSrc cI (w.alloc (.cells #[.int .i64 n] 3)) (.slice (some ⟨w.heap.size, 0, none⟩) 1 1) [n] [] :=
  ⟨_, 1, [.int .i64 n], rfl, repsI h, fun _ => ⟨_, rfl, fun j u hu => by cases j with | zero => (simp at hu; subst hu; rw [Addr.add_lit]; exact (Blk.new w 3 #[.int .i64 n]).cell 0) | succ j => simp at hu⟩⟩
end Go.Proofs.YtlicnppfgfjkgaaDoor
namespace Go.Proofs.YtlicnppfgfjkgaaDoor
open Go.ChangeShapes Go.WideShapes Go.RowKit
set_option linter.unusedVariables false

structure TResp where
  type : Int
  status : Int
  ver : Int
  body : List UInt8
  shares : Bool

def cResp : Cod TResp := cM (cP cI (cP cI (cP cI (cP cUS cB)))) (fun x => (x.type, x.status, x.ver, x.body, x.shares)) (fun a => ⟨a.1, a.2.1, a.2.2.1, a.2.2.2.1, a.2.2.2.2⟩) (fun _ => rfl)

structure TResp.Ok (x : TResp) : Prop where
  h0 : -9223372036854775808 ≤ x.type ∧ x.type ≤ 9223372036854775807
  h1 : -9223372036854775808 ≤ x.status ∧ x.status ≤ 9223372036854775807
  h2 : -9223372036854775808 ≤ x.ver ∧ x.ver ≤ 9223372036854775807

theorem TResp.out {w : World} {vs : List Value} {x : TResp} {F : List Nat} (h : cResp.rep w vs x F) :
    ∃ v3 F3, vs = [Value.int .i64 x.type, .int .i64 x.status, .int .i64 x.ver, v3, .bool x.shares] ∧ F = F3 ∧ x.Ok ∧ cUS.rep w [v3] x.body F3 := by

  obtain ⟨a0, b0, G0, H0, rfl, rfl, ⟨rfl, rfl, h0⟩, a1, b1, G1, H1, rfl, rfl, ⟨rfl, rfl, h1⟩, a2, b2, G2, H2, rfl, rfl, ⟨rfl, rfl, h2⟩, a3, b3, G3, H3, rfl, rfl, h3, rfl, rfl⟩ := h
  obtain ⟨A3, cp3, rfl, k3⟩ := h3
  exact ⟨_, G3, rfl, by simp, ⟨h0, h1, h2⟩, ⟨A3, cp3, rfl, k3⟩⟩

theorem TResp.mk_ {w : World} {x : TResp} {v3 : Value} {F3 : List Nat} (h : x.Ok) (k3 : cUS.rep w [v3] x.body F3) : cResp.rep w [Value.int .i64 x.type, .int .i64 x.status, .int .i64 x.ver, v3, .bool x.shares] x (F3) := by

  exact ⟨[_], _, [], F3, rfl, by simp, ⟨rfl, rfl, h.h0⟩, ⟨[_], _, [], F3, rfl, by simp, ⟨rfl, rfl, h.h1⟩, ⟨[_], _, [], F3, rfl, by simp, ⟨rfl, rfl, h.h2⟩, ⟨[_], _, F3, [], rfl, by simp, k3, ⟨rfl, rfl⟩⟩⟩⟩⟩


theorem TResp.outA {w : World} {vs : Array Value} {x : TResp} {F : List Nat} (h : cResp.rep w vs.toList x F) :
    ∃ v3 F3, vs = #[Value.int .i64 x.type, .int .i64 x.status, .int .i64 x.ver, v3, .bool x.shares] ∧ F = F3 ∧ x.Ok ∧ cUS.rep w [v3] x.body F3 := by
  obtain ⟨a0, a1, e, f, r⟩ := TResp.out h
  exact ⟨a0, a1, Array.toList_inj.1 e, f, r⟩

end Go.Proofs.YtlicnppfgfjkgaaDoor
