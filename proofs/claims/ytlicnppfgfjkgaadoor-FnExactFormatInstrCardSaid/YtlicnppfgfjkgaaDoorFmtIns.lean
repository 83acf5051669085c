/-
  FormatInstr of the program. The one condition: the library's table of powers of ten holds what its text lays.
-/
import Derived.Test.YtlicnppfgfjkgaaDoorFmtWord
import Derived.Test.YtlicnppfgfjkgaaDoorRegT
namespace Go.Proofs.YtlicnppfgfjkgaaDoor
open Go.ChangeShapes Go.WideShapes Go.RowKit
set_option linter.unusedVariables false

set_option maxRecDepth 100000 in
set_option maxHeartbeats 8000000 in
theorem implFormatCells_any (k r n : Int) (t : ByteArray) (w : World) (hx : t.size ≤ maxLen) (hT : Tab w) :
    Calls Tryd.prog 9 #[.agg #[.int .i64 k, .int .i64 r, .int .i64 n, .string t]] w (Gives w (.string (baOf (fmtL ⟨k, r, n, t⟩)))) := by
  cases hi : isInstr ⟨k, r, n, t⟩ 16
  · have hc := fun W => implInstr_any ⟨k, r, n, t⟩ 16 W hx
    rw [hi] at hc
    rw [fmtL_not hi]
    go_enter Tryd.func9, Tryd.ntmps9
    go_wp2_with (go_at_call 11; refine (hc _).mono ?_; rintro e w1 ⟨rfl, hb1⟩)
    go_ret
    exact ⟨rfl, bel_then (by repeat (first | with_reducible exact Below.refl _ _ | with_reducible assumption | with_reducible refine bel_alloc ?_ _ | with_reducible refine bel_drew ?_ | with_reducible refine bel_drewN ?_ _ | (with_reducible refine bel_set ?_ ?_ _; rotate_left; ((try simp); (try omega))))) hb1⟩
  · have hg := good_of hi
    have hc := fun W => implInstr_any ⟨k, r, n, t⟩ 16 W hx
    rw [hi] at hc
    obtain ⟨sw, hsw⟩ : ∃ s, baOf (wordL k) = s := ⟨_, rfl⟩
    obtain ⟨sr, hsr⟩ : ∃ s, baOf (Lib.decDigits r.toNat) = s := ⟨_, rfl⟩
    obtain ⟨sn, hsn⟩ : ∃ s, baOf (Lib.decDigits n.toNat) = s := ⟨_, rfl⟩
    have HI := Lib.hid (InsText.mk (k := k) (r := r) (n := n) (t := t) (sw := sw) (sr := sr) (sn := sn) (by rw [← hsw]; rfl) (by rw [← hsr, itoa_nat hg.r0]; rfl) (by rw [← hsn, itoa_nat hg.n0]; rfl) hi hg)
    have z0 : sw.size ≤ 5 := by rw [← hsw, baOf_size]; exact wordL_len k
    have z1 : sr.size ≤ 13 := by rw [← hsr, baOf_size]; exact (decDigits_len13 (by have := hg.r0; have := hg.r3; simp only at *; omega)).2
    have z2 : sn.size ≤ 13 := by rw [← hsn, baOf_size]; exact (decDigits_len13 (by have := hg.n0; have := hg.n1; simp only at *; omega)).2
    have z3 : t.size ≤ 8 := by
      by_cases h5 : k = 5 ∨ k = 6 ∨ k = 7 ∨ k = 8
      · exact (isName_size (hg.named h5)).2
      · have := hg.bare h5; rw [Lib.size_eq, this]; decide
    have z4 : (⟨#[32]⟩ : ByteArray).size = 1 := rfl
    have hW : ∀ W, Calls Tryd.prog 28 #[.int .i64 k] W (Gives W (.string sw)) := fun W => by rw [← hsw]; exact implWord_any k hg.kind W
    have hR : ∀ W, Below w.heap.size w W → Calls Tryd.prog 29 #[.int .i64 r] W (Gives W (.string sr)) := fun W hb => by rw [← hsr]; exact implFormatInt_any _ hg.r0 (by have := hg.r3; simp only at this ⊢; omega) W (hT.bel hb)
    have hN : ∀ W, Below w.heap.size w W → Calls Tryd.prog 29 #[.int .i64 n] W (Gives W (.string sn)) := fun W hb => by rw [← hsn]; exact implFormatInt_any _ hg.n0 (by have := hg.n1; simp only at this ⊢; omega) W (hT.bel hb)
    have he : t.toList.isEmpty = !(insNamed k) := by
      rw [Lib.toList_data]
      cases hN : insNamed k
      · rw [hg.bare (by simp [insNamed] at hN; show ¬ (k = 5 ∨ k = 6 ∨ k = 7 ∨ k = 8); omega)]; rfl
      · have := (name_bytes (hg.named (by simp [insNamed] at hN; show k = 5 ∨ k = 6 ∨ k = 7 ∨ k = 8; omega))).1
        simpa using this
    have HE := Lib.hid (show t.data.toList.isEmpty = !(insNamed k) from by rw [← he, Lib.toList_data])
    have hk := hg.kind
    simp only at hk
    have HSW := Lib.hid (show baOf (wordL k) = sw from hsw)
    clear hsw hsr hsn hg hi
    rcases hk with rfl | rfl | rfl | rfl | rfl | rfl | rfl | rfl | rfl
    all_goals first | (replace he : t.toList.isEmpty = true := he) | (replace he : t.toList.isEmpty = false := he)
    all_goals
      go_enter Tryd.func9, Tryd.ntmps9
      go_wp2_with (first
        | (go_at_call 11; refine (hc _).mono ?_; rintro e w1 ⟨rfl, hb1⟩; obtain ⟨hcc, hff, hzz⟩ := bcell hb1; (try simp at hzz); have hs0 : w.heap.size < w1.heap.size := (by omega); have hB1 : Below w.heap.size w w1 := (bel_then (by repeat (first | with_reducible exact Below.refl _ _ | with_reducible assumption | with_reducible refine bel_alloc ?_ _ | with_reducible refine bel_drew ?_ | with_reducible refine bel_drewN ?_ _ | (with_reducible refine bel_set ?_ ?_ _; rotate_left; ((try simp); (try omega))))) hb1); clear hb1)
        | (go_at_call 28; refine (hW _).mono ?_; rintro e w2 ⟨rfl, hb1⟩; obtain ⟨hcc2, hff2, hzz2⟩ := bcell hb1; have hs2 : w.heap.size < w2.heap.size := (by omega); have hB2 : Below w.heap.size w w2 := (bel_then (by repeat (first | with_reducible exact Below.refl _ _ | with_reducible assumption | with_reducible refine bel_alloc ?_ _ | with_reducible refine bel_drew ?_ | with_reducible refine bel_drewN ?_ _ | (with_reducible refine bel_set ?_ ?_ _; rotate_left; ((try simp); (try omega))))) hb1); clear hb1)
        | (go_at_call 29; (first | refine (hR _ (by repeat (first | with_reducible exact Below.refl _ _ | with_reducible assumption | with_reducible refine bel_alloc ?_ _ | with_reducible refine bel_drew ?_ | with_reducible refine bel_drewN ?_ _ | (with_reducible refine bel_set ?_ ?_ _; rotate_left; ((try simp); (try omega)))))).mono ?_ | refine (hN _ (by repeat (first | with_reducible exact Below.refl _ _ | with_reducible assumption | with_reducible refine bel_alloc ?_ _ | with_reducible refine bel_drew ?_ | with_reducible refine bel_drewN ?_ _ | (with_reducible refine bel_set ?_ ?_ _; rotate_left; ((try simp); (try omega)))))).mono ?_); rintro e w3 ⟨rfl, hb1⟩; obtain ⟨hcc3, hff3, hzz3⟩ := bcell hb1; (try simp at hzz3); have hs3 : w.heap.size < w3.heap.size := (by omega); have hB3 : Below w.heap.size w w3 := (bel_then (by repeat (first | with_reducible exact Below.refl _ _ | with_reducible assumption | with_reducible refine bel_alloc ?_ _ | with_reducible refine bel_drew ?_ | with_reducible refine bel_drewN ?_ _ | (with_reducible refine bel_set ?_ ?_ _; rotate_left; ((try simp); (try omega))))) hb1); clear hb1))
      go_ret
      refine ⟨congrArg (fun s => Ending.returned (.string s)) (fmt_of HI.out ?_), (by repeat (first | with_reducible exact Below.refl _ _ | with_reducible assumption | with_reducible refine bel_alloc ?_ _ | with_reducible refine bel_drew ?_ | with_reducible refine bel_drewN ?_ _ | (with_reducible refine bel_set ?_ ?_ _; rotate_left; ((try simp); (try omega)))))⟩
      have h1 := HI.out.eW
      have h2 := HI.out.eR
      have h3 := HI.out.eN
      have h4 := HE.out
      clear HI HE
      simp [insNamed] at h4
      simp [ByteArray.data_append, piecesOf, joinWith, h1, h2, h3, h4]
end Go.Proofs.YtlicnppfgfjkgaaDoor
