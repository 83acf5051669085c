/-
  A region that draws its order, whose last operations (an append, a store) turn the very cells that the region reads: as Derived/OrdersHeld.lean, but the condition S is not asked behind the tail. Whatever is taken first must stand ahead of each operation of the tail. No conditions.
-/
import Derived.Test.YtlicnppfgfjkgaaZA
import Derived.Deep.RegionHeld3
namespace Go.Proofs.Ytlicnppfgfjkgaa
section
variable {P : Program} {ops : Array Oper} {Q : Exit → Act → World → Prop} {md : Region.Mode} {S : World → Prop} {tl : List Nat}

def rWaits (md : Region.Mode) (ops : Array Oper) (j i : Nat) : Bool :=
  match ops[j]? with
  | some oj => oj.after.any fun e => Region.binds md e && e.on == i
  | none => false
theorem rWaits_spec {j i : Nat} (h : rWaits md ops j i = true) : ∃ oj, ops[j]? = some oj ∧ ∃ e ∈ oj.after, Region.binds md e = true ∧ e.on = i := by
  unfold rWaits at h
  split at h
  · rename_i oj hj
    obtain ⟨e, he, hb⟩ := Array.any_eq_true'.1 h
    simp only [Bool.and_eq_true, beq_iff_eq] at hb
    exact ⟨oj, hj, e, he, hb.1, hb.2⟩
  · cases h
/-- what stands listed, stands with all that it waits for -/
def RClosed (md : Region.Mode) (ops : Array Oper) (listed : Array Bool) : Prop :=
  ∀ j oj, ops[j]? = some oj → listed.getD j false = true → ∀ e ∈ oj.after, Region.binds md e = true → listed.getD e.on false = true
def rClosedB (md : Region.Mode) (ops : Array Oper) (listed : Array Bool) : Bool :=
  (List.range ops.size).all fun j => !(listed.getD j false) || match ops[j]? with
    | some oj => oj.after.all fun e => !(Region.binds md e) || listed.getD e.on false
    | none => true
theorem rClosed_of {listed : Array Bool} (h : rClosedB md ops listed = true) : RClosed md ops listed := by
  intro j oj hj hl e he hb
  have hlt := (Array.getElem?_eq_some_iff.1 hj).1
  have := List.all_eq_true.1 h j (List.mem_range.2 hlt)
  simp only [hl, hj, Bool.not_true, Bool.false_or] at this
  have := Array.all_eq_true'.1 this e he
  simpa [hb] using this
theorem RClosed.set {listed : Array Bool} {i : Nat} (h : RClosed md ops listed) (hi : i ∈ Region.ready md ops listed) : RClosed md ops (listed.setIfInBounds i true) := by
  obtain ⟨_, oi, hoi, hall⟩ := mem_ready.1 hi
  intro j oj hj hl e he hb
  by_cases hij : i = j
  · subst hij
    have : oj = oi := Option.some.inj (hj.symm.trans hoi)
    subst this
    exact getD_set_true (hall e he hb)
  · rw [getD_set_ne false hij] at hl
    exact getD_set_true (h j oj hj hl e he hb)
/-- i stands ahead of T -/
def rReach (md : Region.Mode) (ops : Array Oper) : Nat → Nat → Nat → Bool
  | 0, _, _ => false
  | f + 1, i, T => rWaits md ops T i || (List.range ops.size).any fun j => rWaits md ops T j && rReach md ops f i j
theorem rReach_unlisted {listed : Array Bool} (hc : RClosed md ops listed) {i : Nat} (hi : listed.getD i false = false) : ∀ (f T : Nat), rReach md ops f i T = true → (∃ oj, ops[T]? = some oj ∧ ∃ e ∈ oj.after, Region.binds md e = true ∧ listed.getD e.on false = false)
  | 0, _, h => by cases h
  | f + 1, T, h => by
    simp only [rReach, Bool.or_eq_true] at h
    rcases h with h | h
    · obtain ⟨oj, h1, e, h2, h3, h4⟩ := rWaits_spec h
      exact ⟨oj, h1, e, h2, h3, by rw [h4]; exact hi⟩
    · obtain ⟨j, _, hj⟩ := List.any_eq_true.1 h
      simp only [Bool.and_eq_true] at hj
      obtain ⟨oj, h1, e, h2, h3, h4⟩ := rWaits_spec hj.1
      obtain ⟨o2, k1, e2, k2, k3, k4⟩ := rReach_unlisted hc hi f j hj.2
      refine ⟨oj, h1, e, h2, h3, ?_⟩
      rw [h4]
      cases hl : listed.getD j false with
      | false => rfl
      | true =>
        have := hc j o2 k1 hl e2 k2 k3
        rw [k4] at this; cases this
theorem rReach_wait {listed : Array Bool} (hc : RClosed md ops listed) {i f T : Nat} (hi : listed.getD i false = false) (h : rReach md ops f i T = true) : T ∉ Region.ready md ops listed := by
  intro hr
  obtain ⟨oj, h1, e, h2, h3, h4⟩ := rReach_unlisted hc hi f T h
  obtain ⟨_, o, ho, hall⟩ := mem_ready.1 hr
  have : oj = o := Option.some.inj (h1.symm.trans ho)
  subst this
  have := hall e h2 h3
  rw [h4] at this; cases this

def wpAnyT (P : Program) (md : Region.Mode) (ops : Array Oper) (Q : Exit → Act → World → Prop) (S : World → Prop) (tl : List Nat) : Nat → Array Bool → Act → World → Prop
  | 0, listed, a, w => Region.ready md ops listed = [] ∧ Q .normal a w
  | fuel + 1, listed, a, w =>
    (Region.ready md ops listed = [] → Q .normal a w) ∧
    ∀ i ∈ Region.ready md ops listed, wpOp P ops Q i (fun a' w' => (i ∉ tl → S w') ∧ wpAnyT P md ops Q S tl fuel (listed.setIfInBounds i true) a' w') a w
theorem wpAny_of_T : ∀ (fuel : Nat) (listed : Array Bool) (a : Act) (w : World), wpAnyT P md ops Q S tl fuel listed a w → wpAny P md ops Q fuel listed a w
  | 0, _, _, _, h => h
  | fuel + 1, _, _, _, h => ⟨h.1, fun i hi => wpOp_mono (fun a' w' h' => wpAny_of_T fuel _ a' w' h'.2) (h.2 i hi)⟩

theorem wpAnyT_first {i f : Nat} {oi : Oper} {v : Value} (hi : ops[i]? = some oi) (hsel : ∀ (j : Nat) (o : Oper) cs b, ops[j]? = some o → o.op ≠ .select cs b)
    (hQ : ∀ c a w, Q (.panic c) (a.put oi.dst v) w → Q (.panic c) a w) (htl : i ∉ tl) (hre : ∀ T, T ∈ tl → rReach md ops f i T = true) :
    ∀ (fuel : Nat) (listed : Array Bool) (a : Act) (w : World), RClosed md ops listed →
      (∀ j oj, ops[j]? = some oj → j ≠ i → listed.getD j true = false → (∀ e ∈ oj.after, Region.binds md e = true → e.on ≠ i) → oi.apart ops oj = true) →
      i ∈ Region.ready md ops listed → YieldsIf P ops S oi v a → S w →
      wpAnyT P md ops Q S tl fuel (listed.setIfInBounds i true) (a.put oi.dst v) w → wpAnyT P md ops Q S tl (fuel + 1) listed a w := by
  intro fuel
  induction fuel with
  | zero =>
    intro listed a w _ _ hr hy hS H
    refine ⟨fun h => (by rw [h] at hr; cases hr), fun j hj => ?_⟩
    by_cases hji : j = i
    · subst hji; exact hy.wpOp hi hS ⟨fun _ => hS, H⟩
    · have := ready_mono hj hji
      rw [H.1] at this
      cases this
  | succ fuel ih =>
    intro listed a w hcl hfree hr hy hS H
    refine ⟨fun h => (by rw [h] at hr; cases hr), fun j hj => ?_⟩
    by_cases hji : j = i
    · subst hji; exact hy.wpOp hi hS ⟨fun _ => hS, H⟩
    · have h1 := H.2 j (ready_mono hj hji)
      obtain ⟨hjun, oj, hoj, hall⟩ := mem_ready.1 hj
      have hiun : listed.getD i false = false := by
        have h0 := (mem_ready.1 hr).1
        rcases Nat.lt_or_ge i listed.size with h' | h'
        · simp [h'] at h0 ⊢; exact h0
        · simp [Array.getElem?_eq_none h'] at h0
      have hnot : ∀ e ∈ oj.after, Region.binds md e = true → e.on ≠ i := fun e he hb heq => by
        have h1 := hall e he hb
        rw [heq, hiun] at h1; cases h1
      have hjtl : j ∉ tl := fun hm => rReach_wait hcl hiun (hre j hm) hj
      have h2 := wpOp_putIf hoj (hfree j oj hoj hji hjun hnot) (fun cs b => hsel i oi cs b hi) (fun cs b => hsel j oj cs b hoj) hQ hy h1
      have hfree' : ∀ k ok, ops[k]? = some ok → k ≠ i → (listed.setIfInBounds j true).getD k true = false →
          (∀ e ∈ ok.after, Region.binds md e = true → e.on ≠ i) → oi.apart ops ok = true := fun k ok hk hki hun hno => by
        refine hfree k ok hk hki ?_ hno
        by_cases hjk : j = k
        · subst hjk; exact hjun
        · rw [getD_set_ne true hjk] at hun; exact hun
      refine wpOp_mono (fun a' w' h3 => ⟨fun _ => h3.2.1 hjtl, ih (listed.setIfInBounds j true) a' w' (hcl.set hj) hfree' (ready_mono hr (Ne.symm hji)) h3.1 (h3.2.1 hjtl) ?_⟩) h2
      rw [Array.setIfInBounds_comm _ _ hji]
      exact h3.2.2

theorem takeT_skip {i : Nat} (f : Nat) (d : Tmp) {oi : Oper} {fuel : Nat} {listed : Array Bool} {a : Act} {w : World} (hi : ops[i]? = some oi) (hd : oi.dst = some d)
    (hs : Region.noSelect ops = true) (hf : Region.free md ops listed i = true) (hr : (Region.ready md ops listed).contains i = true) (hc : rClosedB md ops listed = true)
    (htl : tl.contains i = false) (hre : (tl.all fun T => rReach md ops f i T) = true)
    (hQ : ∀ c a w, Q (.panic c) (a.put (some d) undef) w → Q (.panic c) a w) (hw : Region.wanted oi (yielded ops a.tmps) = false) (hS : S w)
    (h : wpAnyT P md ops Q S tl fuel (listed.setIfInBounds i true) (a.put (some d) undef) w) : wpAnyT P md ops Q S tl (fuel + 1) listed a w :=
  wpAnyT_first hi (Region.noSelect_spec hs) (by rw [hd]; exact hQ) (fun hm => by rw [List.contains_iff_mem.2 hm] at htl; cases htl) (fun T hT => List.all_eq_true.1 hre T hT) fuel listed a w (rClosed_of hc) (Region.free_spec hi hf) (by simpa using hr) (Or.inr ⟨hw, rfl⟩) hS (by rw [hd]; exact h)
theorem takeT_read {i : Nat} (f : Nat) (d : Tmp) {oi : Oper} {v : Value} {fuel : Nat} {listed : Array Bool} {a : Act} {w : World} (hi : ops[i]? = some oi) (hd : oi.dst = some d)
    (hs : Region.noSelect ops = true) (hf : Region.free md ops listed i = true) (hr : (Region.ready md ops listed).contains i = true) (hc : rClosedB md ops listed = true)
    (htl : tl.contains i = false) (hre : (tl.all fun T => rReach md ops f i T) = true)
    (hQ : ∀ c a w, Q (.panic c) (a.put (some d) v) w → Q (.panic c) a w) (hw : Region.wanted oi (yielded ops a.tmps) = true)
    (hy : ∀ w, S w → (execOp a.eval oi).run P w = .ok (.value v) w) (hS : S w)
    (h : wpAnyT P md ops Q S tl fuel (listed.setIfInBounds i true) (a.put (some d) v) w) : wpAnyT P md ops Q S tl (fuel + 1) listed a w :=
  wpAnyT_first hi (Region.noSelect_spec hs) (by rw [hd]; exact hQ) (fun hm => by rw [List.contains_iff_mem.2 hm] at htl; cases htl) (fun T hT => List.all_eq_true.1 hre T hT) fuel listed a w (rClosed_of hc) (Region.free_spec hi hf) (by simpa using hr) (Or.inl ⟨hw, hy⟩) hS (by rw [hd]; exact h)
/-- One operation alone may come up: behind it S is shown anew. -/
theorem stepT {fuel : Nat} {listed : Array Bool} {a : Act} {w : World} (i : Nat) {o : Oper} (hr : Region.ready md ops listed = [i]) (ho : ops[i]? = some o)
    (h : ∀ K' : Act → World → Prop, Shut (∀ a w, S w → (S w → wpAnyT P md ops Q S tl fuel (listed.setIfInBounds i true) a w) → K' a w) → if Region.wanted o (yielded ops a.tmps) = true then Oper.wp P o a w K' Q else K' (a.put o.dst undef) w) :
    wpAnyT P md ops Q S tl (fuel + 1) listed a w := by
  refine ⟨fun h0 => (by rw [hr] at h0; cases h0), fun j hj => ?_⟩
  rw [hr] at hj
  obtain rfl : j = i := by simpa using hj
  exact wpOp_step ho (fun K' hK => h K' (fun a w hS hW => hK a w ⟨fun _ => hS, hW hS⟩))
/-- .. one of the tail: S is asked no more. -/
theorem stepT_end {fuel : Nat} {listed : Array Bool} {a : Act} {w : World} (i : Nat) {o : Oper} (hr : Region.ready md ops listed = [i]) (ho : ops[i]? = some o) (ht : tl.contains i = true)
    (h : ∀ K' : Act → World → Prop, Shut (∀ a w, wpAnyT P md ops Q S tl fuel (listed.setIfInBounds i true) a w → K' a w) → if Region.wanted o (yielded ops a.tmps) = true then Oper.wp P o a w K' Q else K' (a.put o.dst undef) w) :
    wpAnyT P md ops Q S tl (fuel + 1) listed a w := by
  refine ⟨fun h0 => (by rw [hr] at h0; cases h0), fun j hj => ?_⟩
  rw [hr] at hj
  obtain rfl : j = i := by simpa using hj
  exact wpOp_step ho (fun K' hK => h K' (fun a w hW => hK a w ⟨fun hn => absurd (List.contains_iff_mem.1 ht) hn, hW⟩))
theorem doneT {listed : Array Bool} {a : Act} {w : World} (hr : Region.ready md ops listed = []) (h : Q .normal a w) : ∀ fuel, wpAnyT P md ops Q S tl fuel listed a w
  | 0 => ⟨hr, h⟩
  | _ + 1 => ⟨fun _ => h, by rw [hr]; simp⟩
theorem wp_regionT (tl : List Nat) {id : Nat} {a : Act} {w : World} (hm : P.follows .mixedOrders = true) (hS : S w.drew)
    (h : S w.drew → wpAnyT P .any ops Q S tl ops.size (Array.replicate ops.size false) a w.drew) : (Code.region id ops true).wp P Q a w :=
  wp_region_any hm (wpAny_of_T _ _ _ _ (h hS))
end
end Go.Proofs.Ytlicnppfgfjkgaa
