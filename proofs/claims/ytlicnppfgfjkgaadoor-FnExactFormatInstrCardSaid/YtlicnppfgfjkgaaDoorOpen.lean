/-
  Arguments opened: what a type's reading gives as a codec's reading. No conditions.
-/
import Derived.Test.YtlicnppfgfjkgaaDoorCod
namespace Go.Proofs.YtlicnppfgfjkgaaDoor
open Go.ChangeShapes Go.WideShapes Go.RowKit Go.Deep

/-- Whatever reads as data of type t reads by the codec. -/
def Opens {α : Type} (P : Program) (t : TypeId) (c : Cod α) : Prop :=
  P.cellsOf t = c.wd ∧ ∀ (H : Type) (enc : TypeId × Value → H) (w : World) (fuel : Nat) (cs : List Value) (x : DataW H × List MemPlace),
    DataW.trod enc P w 0 (fun _ => true) true fuel t cs = some x → w.noneFrozen x.2 → ∃ a F, c.rep w cs a F

section
variable {P : Program} {t e : TypeId}

theorem noneFrozen_mono {w : World} {p q : List MemPlace} (h : w.noneFrozen q) (hs : ∀ x, x ∈ p → x ∈ q) : w.noneFrozen p := fun b o hb => h b o (hs _ hb)

theorem opens_int (h : P.underlying t = some (.int .i64)) (hk : P.cellsOf t = 1) : Opens P t cI := by
  refine ⟨hk, fun H enc w fuel cs x hx _ => ?_⟩
  obtain ⟨n, rfl, _, hw⟩ := DataW.trod_int h hx
  exact ⟨n, [], rfl, rfl, by simpa [Lit.wf, IntKind.min, IntKind.max, IntKind.signed, IntKind.bits] using hw⟩
theorem opens_u8 (h : P.underlying t = some (.int .u8)) (hk : P.cellsOf t = 1) : Opens P t cU := by
  refine ⟨hk, fun H enc w fuel cs x hx _ => ?_⟩
  obtain ⟨n, rfl, _, hw⟩ := DataW.trod_int h hx
  have hr : 0 ≤ n ∧ n ≤ 255 := by simpa [Lit.wf, IntKind.min, IntKind.max, IntKind.signed, IntKind.bits] using hw
  refine ⟨UInt8.ofNat n.toNat, [], ?_, rfl⟩
  have : (UInt8.ofNat n.toNat).toNat = n.toNat := by
    rw [UInt8.toNat_ofNat']; omega
  rw [this, Int.toNat_of_nonneg hr.1]
theorem opens_bool (h : P.underlying t = some .bool) (hk : P.cellsOf t = 1) : Opens P t cB := by
  refine ⟨hk, fun H enc w fuel cs x hx _ => ?_⟩
  obtain ⟨b, rfl, _⟩ := DataW.trod_bool h hx
  exact ⟨b, [], rfl, rfl⟩
theorem opens_string (h : P.underlying t = some .string) (hk : P.cellsOf t = 1) : Opens P t cS := by
  refine ⟨hk, fun H enc w fuel cs x hx _ => ?_⟩
  obtain ⟨s, rfl, _, hs⟩ := DataW.trod_string h hx
  exact ⟨s, [], rfl, rfl, hs⟩

theorem addr_spot {w : World} {a : Addr} {v : Value} (h : w.cell? a = some v) : a.spot = none := World.cell?_spot h
theorem add_at (g o k : Nat) : (⟨g, o, none⟩ : Addr).add k = ⟨g, o + k, none⟩ := by
  unfold Addr.add; split <;> simp_all

theorem opens_slice {α : Type} {c : Cod α} {hw : 0 < c.wd} {hw2 : c.wd ≤ 32} (ht : P.underlying t = some (.slice e)) (he : Opens P e c) (hk : P.cellsOf t = 1) : Opens P t (cL c hw hw2) := by
  obtain ⟨hc, he⟩ := he
  refine ⟨hk, fun H enc w fuel cs x hx hf => ?_⟩
  rcases open_slice ht hx with ⟨rfl, _⟩ | ⟨a, len, cap, m, n, D, Pl, rfl, _, hl, hm, hmm, rfl, hi⟩
  · exact ⟨[], [], none, 0, rfl, Nat.le_refl _, by unfold maxLen; omega, .inl ⟨rfl, rfl⟩⟩
  · simp only [if_true] at hmm
    subst hmm
    have hfr : ∀ j, j < m * c.wd → w.frozen? ⟨a.block, a.off + j, none⟩ = false := fun j hj => hf _ _ (by
      simp only [List.mem_append]; left
      simp only [MemPlace.row, List.mem_map, List.mem_range]
      exact ⟨j, by rw [hc]; exact hj, rfl⟩)
    have hpl : ∀ i, i < m → w.noneFrozen (Pl i) := fun i him => noneFrozen_mono hf fun y hy => by
      simp only [List.mem_append, List.mem_flatMap, List.mem_range]
      exact .inr ⟨i, him, hy⟩
    -- the values, one by one
    have key : ∀ k, k ≤ len → ∃ us xs F, xs.length = k ∧ (∀ j u, us[j]? = some u → w.cell? (a.add j) = some u) ∧ c.reps w us xs F := by
      intro k
      induction k with
      | zero => exact fun _ => ⟨[], [], [], rfl, fun j u hu => by simp at hu, rfl, rfl⟩
      | succ k ih =>
        intro hk'
        obtain ⟨us, xs, F, hxl, hcell, hr⟩ := ih (by omega)
        obtain ⟨cs', h1, h2⟩ := hi k (by omega)
        obtain ⟨y, G, hy⟩ := he H enc w n cs' _ h2 (hpl k (by omega))
        obtain ⟨_, hcl, hat⟩ := World.cells?_some h1
        refine ⟨us ++ cs', xs ++ [y], F ++ G, by simp [hxl], fun j u hu => ?_, Cod.reps_app hr (Cod.reps_one hy)⟩
        have hul := Cod.reps_len hr
        by_cases hj : j < us.length
        · rw [List.getElem?_append_left hj] at hu
          exact hcell j u hu
        · rw [List.getElem?_append_right (by omega)] at hu
          have hj2 : j - us.length < P.cellsOf e := by rw [← hcl]; exact (List.getElem?_eq_some_iff.1 hu).1
          have := hat (j - us.length) hj2
          rw [hu, add_add, hc] at this
          rwa [hul, hxl, show k * c.wd + (j - k * c.wd) = j by rw [hul, hxl] at hj; omega] at this
    obtain ⟨us, xs, F, hxl, hcell, hr⟩ := key len (Nat.le_refl _)
    by_cases h0 : len = 0
    · subst h0
      obtain rfl := List.eq_nil_of_length_eq_zero hxl
      exact ⟨[], [], some a, m, by simp, by simp, hm, .inl ⟨rfl, rfl⟩⟩
    · have hul := Cod.reps_len hr
      have hul0 : 0 < us.length := by rw [hul, hxl]; exact Nat.mul_pos (by omega) hw
      obtain ⟨g, o, sp⟩ := a
      have hsp : sp = none := by
        have := hcell 0 us[0] (List.getElem?_eq_getElem hul0)
        have := addr_spot this
        simpa [Addr.add] using this
      subst hsp
      refine ⟨xs, g :: F, some ⟨g, o, none⟩, m, by rw [hxl], by rw [hxl]; exact hl, hm, .inr ⟨fun e => h0 (by rw [← hxl, e]; rfl), g, o, F, us, rfl, rfl, fun j u hu => ?_, hr⟩⟩
      refine ⟨by rw [← add_at]; exact hcell j u hu, hfr j ?_⟩
      have hj : j < us.length := (List.getElem?_eq_some_iff.1 hu).1
      rw [hul, hxl] at hj
      exact Nat.lt_of_lt_of_le hj (Nat.mul_le_mul_right _ hl)

/-- The fields from one place on. -/
def OpensFs {α : Type} (P : Program) (fs : List Field) (o : Nat) (c : Cod α) : Prop :=
  ∀ (H : Type) (enc : TypeId × Value → H) (w : World) (n : Nat) (cs : List Value) (xs : List (DataW H × List MemPlace)), cs.length = o + c.wd → xs.length = fs.length →
    (∀ (i : Nat) (f : Field), fs[i]? = some f → DataW.trod enc P w 0 (fun _ => true) true n f.type ((cs.drop f.offset).take (P.cellsOf f.type)) = xs[i]?) →
    w.noneFrozen (xs.flatMap (·.2)) → ∃ a F, c.rep w (cs.drop o) a F

theorem opensFs_one {α : Type} {c : Cod α} {f : Field} {o : Nat} (ho : f.offset = o) (h : Opens P f.type c) : OpensFs P [f] o c := by
  intro H enc w n cs xs hl hx hi hf
  match xs, hx with
  | [x], _ =>
    have h0 := hi 0 f rfl
    rw [ho, h.1, List.take_of_length_le (by rw [List.length_drop, hl]; omega)] at h0
    exact h.2 H enc w n _ x h0 (by simpa using hf)

theorem opensFs_cons {α β : Type} {c : Cod α} {d : Cod β} {f : Field} {fs : List Field} {o : Nat} (ho : f.offset = o) (h : Opens P f.type c) (k : OpensFs P fs (o + c.wd) d) : OpensFs P (f :: fs) o (cP c d) := by
  intro H enc w n cs xs hl hx hi hf
  match xs, hx with
  | x :: xs, hx =>
    have h0 := hi 0 f rfl
    rw [ho, h.1] at h0
    obtain ⟨a, F, ha⟩ := h.2 H enc w n _ x h0 (noneFrozen_mono hf fun y hy => by simp [hy])
    obtain ⟨b, G, hb⟩ := k H enc w n cs xs (by rw [hl]; show o + (c.wd + d.wd) = _; omega) (by simpa using hx) (fun i f hf => by simpa using hi (i + 1) f hf) (noneFrozen_mono hf fun y hy => by
      simp only [List.flatMap_cons, List.mem_append]; exact .inr hy)
    exact ⟨(a, b), F ++ G, _, _, F, G, by rw [← List.drop_drop, List.take_append_drop], rfl, ha, hb⟩

theorem opens_struct {α : Type} {c : Cod α} {fs : Array Field} (ht : P.underlying t = some (.struct fs)) (hk : P.cellsOf t = c.wd) (h : OpensFs P fs.toList 0 c) : Opens P t c := by
  refine ⟨hk, fun H enc w fuel cs x hx hf => ?_⟩
  obtain ⟨xs, n, _, rfl, hl, hxl, hi⟩ := DataW.trod_struct ht hx
  have := h H enc w n cs xs (by rw [hl, hk]; omega) (by simpa using hxl) (fun i f hf => hi i f (by simpa using hf)) hf
  simpa using this

theorem opens_map {α σ : Type} {c : Cod α} {f : σ → α} {g : α → σ} {hg : ∀ a, f (g a) = a} (h : Opens P t c) : Opens P t (cM c f g hg) := by
  refine ⟨h.1, fun H enc w fuel cs x hx hz => ?_⟩
  obtain ⟨a, F, ha⟩ := h.2 H enc w fuel cs x hx hz
  exact ⟨g a, F, by show c.rep w cs (f (g a)) F; rw [hg]; exact ha⟩

/-- A struct that came in. -/
theorem Opens.struct_ {α : Type} {c : Cod α} {fs : Array Field} (h : Opens P t c) (ht : P.underlying t = some (.struct fs)) {H : Type} {enc : TypeId × Value → H} {w : World} {base : Nat} {v : Value} {d : DataW H} {p : List MemPlace}
    (hv : Value.okWide P w .any base t v) (hd : DataW.Trod enc P w 0 (fun _ => true) true t v d p) (hf : w.noneFrozen p) : ∃ cs a F, v = .agg cs ∧ c.rep w cs.toList a F := by
  obtain ⟨cs, rfl, _⟩ := okWide_struct ht hv
  obtain ⟨n, hn⟩ := hd
  obtain ⟨a, F, ha⟩ := h.2 H enc w n _ _ hn hf
  exact ⟨cs, a, F, rfl, ha⟩
theorem Opens.slice_ {α : Type} {c : Cod α} (h : Opens P t c) (ht : P.underlying t = some (.slice e)) {H : Type} {enc : TypeId × Value → H} {w : World} {base : Nat} {v : Value} {d : DataW H} {p : List MemPlace}
    (hv : Value.okWide P w .any base t v) (hd : DataW.Trod enc P w 0 (fun _ => true) true t v d p) (hf : w.noneFrozen p) : ∃ a F, c.rep w [v] a F := by
  obtain ⟨A, len, cap, rfl⟩ := okWide_slice ht hv
  obtain ⟨n, hn⟩ := hd
  exact h.2 H enc w n _ _ hn hf
end

end Go.Proofs.YtlicnppfgfjkgaaDoor
