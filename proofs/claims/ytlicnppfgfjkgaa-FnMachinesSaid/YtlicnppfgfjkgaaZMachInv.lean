/-
  The law FnMachines: what holds from round to round, in plain words; a box that holds a machine. No conditions.
-/
import Derived.Test.YtlicnppfgfjkgaaZA
import Derived.Test.YtlicnppfgfjkgaaZDrawScript
namespace Go.Proofs.Ytlicnppfgfjkgaa
open Go.ChangeShapes Go.WideShapes Go.RowKit
set_option linter.unusedVariables false

structure MInv (sc : List TIns) (k : Nat) (x : TMach) : Prop where
  regs : RegsIn x.regs
  lo : (k : Int) ≤ x.steps
  hi : x.steps ≤ 60
  wait : x.wait = false
  script : x.done = false → x.script = sc
  sz : cMach.sz x ≤ 1048576
theorem small_szs : ∀ xs : List TIns, (∀ x, x ∈ xs → SmallIns x) → cInsS.sz xs ≤ 101 * xs.length
  | [], _ => Nat.le_refl _
  | x :: xs, h => by
    have h1 := (h x (by simp)).2
    have h2 := small_szs xs fun y hy => h y (by simp [hy])
    have e : cInsS.sz (x :: xs) = (0 + (0 + (0 + x.text.size))) + 1 + cInsS.sz xs := rfl
    rw [e, List.length_cons]
    omega
theorem mach_sz (y : TMach) : cMach.sz y = cInsS.sz y.script + y.regs.length := by
  have e : cMach.sz y = cInsS.sz y.script + (0 + (cI.szs y.regs + (0 + (0 + 0)))) := rfl
  rw [e, Cod.szs_flat (c := cI) (fun _ => rfl)]; omega
theorem minv_new {l : List TIns} (h : SmallScript l) : MInv l 0 (newMachine l) := by
  have h1 := small_szs l h.2
  have hr : RegsIn [0, 0, 0, 0] := ⟨rfl, fun v hv => by simp at hv; omega⟩
  have hsm := h.1
  unfold newMachine
  cases isScript l with
  | true => exact ⟨hr, Int.le_refl _, (by simp only [cond_true]; omega), rfl, fun _ => rfl, (by rw [mach_sz]; simp only [cond_true, List.length_cons, List.length_nil]; omega)⟩
  | false => exact ⟨hr, Int.le_refl _, (by simp only [cond_false]; omega), rfl, (fun e => by simp at e), (by rw [mach_sz]; simp only [cond_false]; decide)⟩
/-- what a round's run leaves -/
structure MRun (sc : List TIns) (k : Nat) (y : TMach) (a : TAsk) : Prop where
  found : ∃ x, x ∈ sc ∧ x.text = a.text ∧ 5 ≤ x.kind ∧ x.kind ≤ 8
  script : y.script = sc
  regs : RegsIn y.regs
  lo : (k : Int) + 1 ≤ y.steps
  hi : y.steps ≤ 60
  done : y.done = false
  wait : y.wait = (a.kind == 1 || a.kind == 2)
  value : -1 ≤ a.value ∧ a.value ≤ 1000
  r : 0 ≤ a.r ∧ a.r ≤ 3
  sz : cMach.sz y ≤ 1048576
theorem minv_run {sc : List TIns} {k : Nat} {x : TMach} (h : MInv sc k x) :
    ((runMachine x).2.kind = 0 ∧ (runMachine x).1.done = true ∧ (runMachine x).1.steps ≤ 60 ∧ (k : Int) ≤ (runMachine x).1.steps) ∨ ((runMachine x).2.kind ≠ 0 ∧ MRun sc k (runMachine x).1 (runMachine x).2) := by
  have hz := runMachine_sz x
  have hl := h.lo
  have hw := h.wait
  have hr := h.regs.1
  have hh := h.hi
  cases hd : x.done with
  | true =>
    left
    unfold runMachine
    rw [hd]
    exact ⟨rfl, hd, hh, hl⟩
  | false =>
    have he : runMachine x = runLoop x.script (60 - x.steps).toNat x.pc x.regs x.steps := by
      unfold runMachine
      rw [hd, hw, decide_eq_true hr, decide_eq_false (by omega)]; rfl
    have hran := runLoop_ran (sc := x.script) (60 - x.steps).toNat x.pc x.regs x.steps h.regs (by omega) (by omega)
    rw [← he] at hran
    by_cases hk : (runMachine x).2.kind = 0
    · exact .inl ⟨hk, hran.none hk, hran.hi, by have := hran.lo; omega⟩
    · obtain ⟨hf, h1, h2, h3, h4, h5⟩ := hran.some hk
      rw [h.script hd] at hf
      exact .inr ⟨hk, hf, hran.script.trans (h.script hd), hran.regs, by omega, hran.hi, h2, h3, h4, h5, by rw [hz]; exact h.sz⟩
theorem minv_next {sc : List TIns} {k : Nat} {y : TMach} {a : TAsk} (h : MRun sc k y a) (hw : y.wait = false) : MInv sc (k + 1) y :=
  ⟨h.regs, by have := h.lo; push_cast; omega, h.hi, hw, fun _ => h.script, h.sz⟩
theorem minv_answer {sc : List TIns} {k : Nat} {y : TMach} {a : TAsk} (h : MRun sc k y a) (hw : y.wait = true) {c : Int} (hc : 0 ≤ c ∧ c ≤ 255) :
    answerMachine y a.r c = (⟨y.script, y.pc, y.regs.set a.r.toNat c, y.steps, y.done, false⟩, true) ∧ MInv sc (k + 1) ⟨y.script, y.pc, y.regs.set a.r.toNat c, y.steps, y.done, false⟩ := by
  have hr := h.r
  have hl := h.regs.1
  refine ⟨?_, set_in h.regs _ ⟨by omega, by omega⟩, by have := h.lo; push_cast; show (k : Int) + 1 ≤ y.steps; omega, h.hi, rfl, fun _ => h.script, ?_⟩
  · unfold answerMachine
    rw [hw, show inR a.r 0 ((y.regs.length : Int) - 1) = true from by unfold inR; simp; omega, show inR c (-1) 1000 = true from by unfold inR; simp; omega]; rfl
  · have := h.sz
    rw [mach_sz] at this ⊢
    simp only [List.length_set]
    exact this
/-- the instruction that the ask is looked for by -/
def hitIns (t : ByteArray) (x : TIns) : Bool := x.text.toList == t.toList && (decide (5 ≤ x.kind) && decide (x.kind ≤ 8))
def hits (t : ByteArray) (sc : List TIns) (j : Nat) : Bool := (sc.take j).any (hitIns t)
theorem hits_zero (t : ByteArray) (sc : List TIns) : hits t sc 0 = false := rfl
theorem hits_succ (t : ByteArray) (sc : List TIns) (j : Nat) (h : j < sc.length) : hits t sc (j + 1) = (hits t sc j || hitIns t sc[j]) := by
  unfold hits
  rw [List.take_succ_eq_append_getElem h, List.any_append]; simp
theorem hits_all {t : ByteArray} {sc : List TIns} (h : ∃ x, x ∈ sc ∧ x.text = t ∧ 5 ≤ x.kind ∧ x.kind ≤ 8) : hits t sc sc.length = true := by
  obtain ⟨x, hm, rfl, h1, h2⟩ := h
  unfold hits
  rw [List.take_length, List.any_eq_true]
  exact ⟨x, hm, by unfold hitIns; simp [h1, h2]⟩

/-- a box that holds a machine -/
structure MBox (wr : World) (b : Nat) (x : TMach) : Prop where
  rep : ∃ A0 c0 A2 c2 F, wr.cell? ⟨b, 0, none⟩ = some (.slice A0 x.script.length c0) ∧ wr.cell? ⟨b, 1, none⟩ = some (.int .i64 x.pc) ∧ wr.cell? ⟨b, 2, none⟩ = some (.slice A2 x.regs.length c2) ∧ wr.cell? ⟨b, 3, none⟩ = some (.int .i64 x.steps) ∧ wr.cell? ⟨b, 4, none⟩ = some (.bool x.done) ∧ wr.cell? ⟨b, 5, none⟩ = some (.bool x.wait) ∧
    cMach.rep wr [.slice A0 x.script.length c0, .int .i64 x.pc, .slice A2 x.regs.length c2, .int .i64 x.steps, .bool x.done, .bool x.wait] x F ∧ ∀ y, y ∈ F → y ≠ b
  lt : b < wr.heap.size
  fz : ∀ j, wr.frozen? ⟨b, j, none⟩ = false
theorem MBox.new {w' : World} {x : TMach} {A0 A2 : Option Addr} {c0 c2 : Nat} {F : List Nat} (T : TypeId) (h : cMach.rep w' [.slice A0 x.script.length c0, .int .i64 x.pc, .slice A2 x.regs.length c2, .int .i64 x.steps, .bool x.done, .bool x.wait] x F) :
    MBox (w'.alloc (.cells #[.slice A0 x.script.length c0, .int .i64 x.pc, .slice A2 x.regs.length c2, .int .i64 x.steps, .bool x.done, .bool x.wait] T)) w'.heap.size x :=
  ⟨⟨A0, c0, A2, c2, F, (Blk.new w' T _).cell 0, (Blk.new w' T _).cell 1, (Blk.new w' T _).cell 2, (Blk.new w' T _).cell 3, (Blk.new w' T _).cell 4, (Blk.new w' T _).cell 5, Cod.bel h (bel_alloc (Below.refl _ _) _), fun y hy => by have := Cod.lt _ h y hy; omega⟩, by simp, fun j => (Blk.new w' T _).frozen j⟩
theorem MBox.bel {w w' : World} {b : Nat} {x : TMach} (h : MBox w b x) (hb : Below w.heap.size w w') : MBox w' b x := by
  obtain ⟨A0, c0, A2, c2, F, h0, h1, h2, h3, h4, h5, hr, hF⟩ := h.rep
  have hl := h.lt
  exact ⟨⟨A0, c0, A2, c2, F, (hb.cell (p := ⟨b, 0, none⟩) hl).trans h0, (hb.cell (p := ⟨b, 1, none⟩) hl).trans h1, (hb.cell (p := ⟨b, 2, none⟩) hl).trans h2, (hb.cell (p := ⟨b, 3, none⟩) hl).trans h3, (hb.cell (p := ⟨b, 4, none⟩) hl).trans h4, (hb.cell (p := ⟨b, 5, none⟩) hl).trans h5, Cod.bel hr hb, hF⟩,
    Nat.lt_of_lt_of_le hl hb.size, fun j => (hb.frozen (p := ⟨b, j, none⟩) hl).trans (h.fz j)⟩
/-- the box stored anew -/
theorem MBox.store {wr : World} {b : Nat} {x0 x : TMach} (h : MBox wr b x0) {A0 A2 : Option Addr} {c0 c2 : Nat} {F : List Nat} (hr : cMach.rep wr [.slice A0 x.script.length c0, .int .i64 x.pc, .slice A2 x.regs.length c2, .int .i64 x.steps, .bool x.done, .bool x.wait] x F) (hF : ∀ y, y ∈ F → y ≠ b) :
    MBox ((((((wr.setCell ⟨b, 0, none⟩ (.slice A0 x.script.length c0)).setCell ⟨b, 1, none⟩ (.int .i64 x.pc)).setCell ⟨b, 2, none⟩ (.slice A2 x.regs.length c2)).setCell ⟨b, 3, none⟩ (.int .i64 x.steps)).setCell ⟨b, 4, none⟩ (.bool x.done)).setCell ⟨b, 5, none⟩ (.bool x.wait)) b x := by
  obtain ⟨A0', c0', A2', c2', F', h0, h1, h2, h3, h4, h5, -, -⟩ := h.rep
  obtain ⟨k0, k1, k2, k3, k4, k5⟩ := sets6 (a := .slice A0 x.script.length c0) (b := .int .i64 x.pc) (c := .slice A2 x.regs.length c2) (d := .int .i64 x.steps) (e := .bool x.done) (f := .bool x.wait) h0 h1 h2 h3 h4 h5
  have hb : b ∉ F := fun hm => hF b hm rfl
  exact ⟨⟨A0, c0, A2, c2, F, k0, k1, k2, k3, k4, k5, Cod.set_ (Cod.set_ (Cod.set_ (Cod.set_ (Cod.set_ (Cod.set_ hr hb 0 _) hb 1 _) hb 2 _) hb 3 _) hb 4 _) hb 5 _, hF⟩, by simpa using h.lt, fun j => by rw [frozen?_set, frozen?_set, frozen?_set, frozen?_set, frozen?_set, frozen?_set]; exact h.fz j⟩
theorem sets6_block {wr : World} {b c : Nat} (h : c ≠ b) (v0 v1 v2 v3 v4 v5 : Value) : ((((((wr.setCell ⟨b, 0, none⟩ v0).setCell ⟨b, 1, none⟩ v1).setCell ⟨b, 2, none⟩ v2).setCell ⟨b, 3, none⟩ v3).setCell ⟨b, 4, none⟩ v4).setCell ⟨b, 5, none⟩ v5).heap[c]? = wr.heap[c]? := by
  have k : ∀ (w : World) (i : Nat) (v : Value), (w.setCell ⟨b, i, none⟩ v).heap[c]? = w.heap[c]? := fun w i v => Below.heap_setCell _ _ _ _ h
  rw [k, k, k, k, k, k]
theorem regs_get {w : World} {v : Value} {xs : List Int} {r : Nat} {c : Int} {F : List Nat} (h : cIS.rep w [v] (xs.set r c) F) (hr : r < xs.length) : ∃ g o cp, v = .slice (some ⟨g, o, none⟩) xs.length cp ∧ w.cell? ⟨g, o + r, none⟩ = some (.int .i64 c) ∧ g ∈ F := by
  have hr2 : r < (xs.set r c).length := by rw [List.length_set]; exact hr
  obtain ⟨A, cp, rfl⟩ := cL_form h
  obtain ⟨g, o, vs, F1, hA, hgF, ⟨rfl, -⟩, -, hc⟩ := cL_get (hw := by decide) (hw2 := by decide) h hr2
  have h0 := (hc 0 _ rfl).1
  rw [show cI.wd = 1 from rfl, Nat.mul_one, Nat.add_zero, List.getElem_set_self] at h0
  subst hA
  exact ⟨g, o, cp, by rw [List.length_set], h0, hgF⟩
end Go.Proofs.Ytlicnppfgfjkgaa
