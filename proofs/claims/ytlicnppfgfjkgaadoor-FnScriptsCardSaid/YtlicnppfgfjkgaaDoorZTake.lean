/-
  The function that takes the next word, as the program's ParseInstr makes it. No conditions.
-/
import Derived.Test.YtlicnppfgfjkgaaDoorZParseS
namespace Go.Proofs.YtlicnppfgfjkgaaDoor
open Go.ChangeShapes Go.WideShapes Go.RowKit
set_option linter.unusedVariables false

/-- a box that holds the words to come -/
def RestBox (w : World) (b : Nat) (L : Nat) (qs : List (List UInt8)) : Prop :=
  ∃ A cp F, w.cell? ⟨b, 0, none⟩ = some (.slice A qs.length cp) ∧ w.frozen? ⟨b, 0, none⟩ = false ∧ cTS.rep w [.slice A qs.length cp] qs F ∧ ∀ x, x ∈ F → x < L
theorem RestBox.keep {w w' : World} {b L : Nat} {qs : List (List UInt8)} (h : RestBox w b L qs) (hb : w'.heap[b]? = w.heap[b]?) (hL : ∀ x, x < L → w'.heap[x]? = w.heap[x]?) : RestBox w' b L qs := by
  obtain ⟨A, cp, F, h1, h2, h3, h4⟩ := h
  exact ⟨A, cp, F, (World.cell?_of_block (a := ⟨b, 0, none⟩) hb).trans h1, (World.frozen?_of_block (a := ⟨b, 0, none⟩) hb).trans h2, Cod.keep _ h3 (fun x hx => hL x (h4 x hx)), h4⟩
set_option maxRecDepth 100000 in
set_option maxHeartbeats 4000000 in
theorem take_any (b L : Nat) (qs : List (List UInt8)) (w : World) (h : RestBox w b L qs) (hbL : L ≤ b) (hq : qs.length ≤ 2097152) :
    Calls Tryd.prog 31 #[.pointer (some ⟨b, 0, none⟩)] w fun e w' => e = .returned (.string (baOf (qs.headD []))) ∧ RestBox w' b L qs.tail ∧ Only [b] w w' := by
  obtain ⟨A, cp, F, hc, hz, hr, hF⟩ := h
  cases qs with
  | nil =>
    have HR := Lib.hid (And.intro hr hF)
    clear hr hF
    simp only [List.length_nil] at hc
    go_enter Tryd.func31, Tryd.ntmps31
    go_wp2_with fail
    go_ret
    exact ⟨rfl, ⟨A, cp, F, hc, hz, HR.out.1, HR.out.2⟩, Only.refl _ _⟩
  | cons q qs =>
    obtain ⟨-, hcp, hm⟩ := cL_len hr
    obtain ⟨n, hn⟩ : ∃ n, qs.length = n := ⟨_, rfl⟩
    simp only [List.length_cons, hn] at hc hcp hr hq
    obtain ⟨cap, rfl⟩ : ∃ cap, cp = cap + 1 := ⟨cp - 1, by omega⟩
    unfold maxLen at hm
    obtain ⟨g, o, vs, F1, rfl, hgF, hxx, -, hcc⟩ := cL_get (hw := by decide) (hw2 := by decide) hr (show 0 < (q :: qs).length by simp)
    obtain ⟨rfl, -, -⟩ := hxx
    have p0 : w.cell? ⟨g, o, none⟩ = some (.string (baOf q)) := (by have h1 := (hcc 0 _ rfl).1; simpa using h1)
    have hgb : ¬ g = b := by have := hF g hgF; omega
    obtain ⟨G, k1, k2, -⟩ := cL_cut hr 1 (by omega)
    have HR := Lib.hid (And.intro k1 (And.intro k2 hF))
    have HN := Lib.hid hn
    obtain ⟨sq, hsq⟩ : ∃ z, baOf q = z := ⟨_, rfl⟩
    rw [hsq] at p0
    have HQ := Lib.hid hsq
    clear hr k1 k2 hcc hn hsq hF
    have hS : ∀ x, x ∈ G → x ≠ b := fun x hx e => by have := HR.out.2.2 x (HR.out.2.1 x hx); omega
    by_cases hcap : cap = 0
    · subst hcap
      obtain rfl : n = 0 := by omega
      go_enter Tryd.func31, Tryd.ntmps31
      go_wp2_with fail
      go_ret
      refine ⟨by rw [← HQ.out]; rfl, ?_, (Only.refl _ _).set_ (by simp) _⟩
      have k4 := HR.out.1
      replace k4 : cTS.rep w [.slice (some ⟨g, o, none⟩) qs.length 0] qs G := by (rw [HN.out]; simp at k4; exact k4)
      rw [show (Value.slice (some ⟨g, o, none⟩) 0 0 : Value) = .slice (some ⟨g, o, none⟩) qs.length 0 by rw [HN.out]]
      exact ⟨_, 0, G, cell?_set_same hc, (frozen?_set _ _ _ _).trans hz, Cod.keep _ k4 (fun x hx => Below.heap_setCell _ _ _ _ (hS x hx)), fun x hx => HR.out.2.2 x (HR.out.2.1 x hx)⟩
    · go_enter Tryd.func31, Tryd.ntmps31
      go_wp2_with fail
      go_ret
      refine ⟨by rw [← HQ.out]; rfl, ?_, (Only.refl _ _).set_ (by simp) _⟩
      have k4 := HR.out.1
      replace k4 : cTS.rep w [.slice (some ⟨g, o + 1, none⟩) qs.length cap] qs G := by (rw [HN.out]; simp [Addr.add_lit, hcap, show (cT).wd = 1 from rfl] at k4; exact k4)
      rw [show (Value.slice (some ⟨g, o + 1, none⟩) n cap : Value) = .slice (some ⟨g, o + 1, none⟩) qs.length cap by rw [HN.out]]
      exact ⟨_, cap, G, cell?_set_same hc, (frozen?_set _ _ _ _).trans hz, Cod.keep _ k4 (fun x hx => Below.heap_setCell _ _ _ _ (hS x hx)), fun x hx => HR.out.2.2 x (HR.out.2.1 x hx)⟩
end Go.Proofs.YtlicnppfgfjkgaaDoor
