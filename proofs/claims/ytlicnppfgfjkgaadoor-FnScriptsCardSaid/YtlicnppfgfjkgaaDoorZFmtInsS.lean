/-
  FormatInstr of the reference. The one condition: the library's table of powers of ten holds what its text lays.
-/
import Derived.Test.YtlicnppfgfjkgaaDoorZA
namespace Go.Proofs.YtlicnppfgfjkgaaDoor
open Go.ChangeShapes Go.WideShapes Go.RowKit
set_option linter.unusedVariables false

set_option maxRecDepth 100000 in
set_option maxHeartbeats 8000000 in
theorem specFormatCells_any (k r n : Int) (t : ByteArray) (w : World) (hx : t.size ≤ maxLen) :
    Calls Tryd.prog 20 #[.agg #[.int .i64 k, .int .i64 r, .int .i64 n, .string t]] w (Gives w (.string (baOf (fmtL ⟨k, r, n, t⟩)))) := by
  cases hi : isInstr ⟨k, r, n, t⟩ 16
  · have hc := fun W => specInstr_any ⟨k, r, n, t⟩ 16 W hx
    rw [hi] at hc
    rw [fmtL_not hi]
    go_enter Tryd.func20, Tryd.ntmps20
    go_wp2_with (go_at_call 42; refine (hc _).mono ?_; rintro e w1 ⟨rfl, hb1⟩)
    go_ret
    exact ⟨rfl, bel_then (by repeat (first | with_reducible exact Below.refl _ _ | with_reducible assumption | with_reducible refine bel_alloc ?_ _ | with_reducible refine bel_drew ?_ | with_reducible refine bel_drewN ?_ _ | (with_reducible refine bel_set ?_ ?_ _; rotate_left; ((try simp); (try omega))))) hb1⟩
  · have hg := good_of hi
    have hc := fun W => specInstr_any ⟨k, r, n, t⟩ 16 W hx
    rw [hi] at hc
    obtain ⟨sw, hsw⟩ : ∃ s, baOf (wordL k) = s := ⟨_, rfl⟩
    obtain ⟨sr, hsr⟩ : ∃ s, baOf (Lib.decDigits r.toNat) = s := ⟨_, rfl⟩
    obtain ⟨sn, hsn⟩ : ∃ s, baOf (Lib.decDigits n.toNat) = s := ⟨_, rfl⟩
    have HI := Lib.hid (InsText.mk (k := k) (r := r) (n := n) (t := t) (sw := sw) (sr := sr) (sn := sn) (by rw [← hsw]; rfl) (by rw [← hsr, itoa_nat hg.r0]; rfl) (by rw [← hsn, itoa_nat hg.n0]; rfl) hi hg)
    have z0 : sw.size ≤ 5 := by rw [← hsw, baOf_size]; exact wordL_len k
    have z1 : sr.size ≤ 13 := by rw [← hsr, baOf_size]; exact (decDigits_len13 (by have := hg.r0; have := hg.r3; simp only at *; omega)).2
    have z2 : sn.size ≤ 13 := by rw [← hsn, baOf_size]; exact (decDigits_len13 (by have := hg.n0; have := hg.n1; simp only at *; omega)).2
    have z3 : t.size ≤ 8 := by
      by_cases h5 : k = 5 ∨ k = 6 ∨ k = 7 ∨ k = 8
      · exact (isName_size (hg.named h5)).2
      · have := hg.bare h5; rw [Lib.size_eq, this]; decide
    have z4 : (⟨#[32]⟩ : ByteArray).size = 1 := rfl
    have hR : ∀ W, Below w.heap.size w W → Calls Tryd.prog 43 #[.int .i64 r] W (Gives W (.string sr)) := fun W hb => by rw [← hsr]; exact specFormatInt_any _ hg.r0 (by have := hg.r3; simp only at this ⊢; omega) W
    have hN : ∀ W, Below w.heap.size w W → Calls Tryd.prog 43 #[.int .i64 n] W (Gives W (.string sn)) := fun W hb => by rw [← hsn]; exact specFormatInt_any _ hg.n0 (by have := hg.n1; simp only at this ⊢; omega) W
    have he : t.toList.isEmpty = !(insNamed k) := by
      rw [Lib.toList_data]
      cases hN : insNamed k
      · rw [hg.bare (by simp [insNamed] at hN; show ¬ (k = 5 ∨ k = 6 ∨ k = 7 ∨ k = 8); omega)]; rfl
      · have := (name_bytes (hg.named (by simp [insNamed] at hN; show k = 5 ∨ k = 6 ∨ k = 7 ∨ k = 8; omega))).1
        simpa using this
    have HE := Lib.hid (show t.data.toList.isEmpty = !(insNamed k) from by rw [← he, Lib.toList_data])
    have hk := hg.kind
    simp only at hk
    have HSW := Lib.hid (show baOf (wordL k) = sw from hsw)
    clear hsw hsr hsn hg hi
    rcases hk with rfl | rfl | rfl | rfl | rfl | rfl | rfl | rfl | rfl
    · first | (replace he : t.toList.isEmpty = true := he) | (replace he : t.toList.isEmpty = false := he)
      go_enter Tryd.func20, Tryd.ntmps20
      go_wp2_with (first
        | (go_at_call 42; refine (hc _).mono ?_; rintro e w1 ⟨rfl, hb1⟩; obtain ⟨hcc, hff, hzz⟩ := bcell hb1; (try simp at hzz); have hs0 : w.heap.size < w1.heap.size := (by omega); have hB1 : Below w.heap.size w w1 := (bel_then (by repeat (first | with_reducible exact Below.refl _ _ | with_reducible assumption | with_reducible refine bel_alloc ?_ _ | with_reducible refine bel_drew ?_ | with_reducible refine bel_drewN ?_ _ | (with_reducible refine bel_set ?_ ?_ _; rotate_left; ((try simp); (try omega))))) hb1); clear hb1))
      have hS : ∀ w9, Below w1.heap.size w1 w9 → w9.cell? ⟨w.heap.size, 0, none⟩ = some (.int .i64 1) := fun w9 hb => (hb.cell (p := ⟨w.heap.size, 0, none⟩) (by (try simp); (try omega))).trans (by go_simp)
      refine wp_regionT (S := (fun w9 => w9.cell? ⟨w.heap.size, 0, none⟩ = some (.int .i64 1))) [3, 4, 5] (by kernel_rfl) (by (try dsimp only); exact hS _ (by repeat (first | with_reducible exact Below.refl _ _ | with_reducible assumption | with_reducible refine bel_alloc ?_ _ | with_reducible refine bel_drew ?_ | with_reducible refine bel_drewN ?_ _ | (with_reducible refine bel_set ?_ ?_ _; rotate_left; ((try simp); (try omega)))))) (fun hHeld => ?_)
      refine takeT_read (i := 1) 6 8 (v := ?v1) rfl rfl (by kernel_rfl) (by kernel_rfl) (by kernel_rfl) (by kernel_rfl) (by kernel_rfl) (by kernel_rfl) (fun _ _ _ h => h) (by rfl) ?hy1 (by assumption) ?rest1
      case hy1 => (intro w hSw; (try dsimp only at hSw); go_simp; (try with_reducible rfl))
      try simp only [Act.put, List.setIfInBounds_toArray, List.set_cons_zero, List.set_cons_succ]
      refine takeT_read (i := 2) 6 9 (v := ?v2) rfl rfl (by kernel_rfl) (by kernel_rfl) (by kernel_rfl) (by kernel_rfl) (by kernel_rfl) (by kernel_rfl) (fun _ _ _ h => h) (by rfl) ?hy2 (by assumption) ?rest2
      case hy2 => (intro w hSw; (try dsimp only at hSw); go_simp; (try with_reducible rfl))
      try simp only [Act.put, List.setIfInBounds_toArray, List.set_cons_zero, List.set_cons_succ]
      refine stepT 0 (by kernel_rfl) rfl (fun K hK => ?_)
      go_simp
      (go_at_call 38; refine (specWords_any _).mono ?_; rintro e w2 ⟨rfl, hb1, hcell⟩; have hwc : w2.cell? ⟨w1.heap.size, 1, none⟩ = some (.string sw) := ((hcell 1 (by decide) (by decide)).trans (congrArg (fun s => some (Value.string s)) HSW.out)); have hBw2 : Below w1.heap.size w1 w2 := (bel_then (by repeat (first | with_reducible exact Below.refl _ _ | with_reducible assumption | with_reducible refine bel_alloc ?_ _ | with_reducible refine bel_drew ?_ | with_reducible refine bel_drewN ?_ _ | (with_reducible refine bel_set ?_ ?_ _; rotate_left; ((try simp); (try omega))))) hb1); obtain ⟨hcc2, hff2, hzz2⟩ := bcell hBw2; have hs2 : w.heap.size < w2.heap.size := (by omega); have hB2 : Below w.heap.size w w2 := (bel_then (by repeat (first | with_reducible exact Below.refl _ _ | with_reducible assumption | with_reducible refine bel_alloc ?_ _ | with_reducible refine bel_drew ?_ | with_reducible refine bel_drewN ?_ _ | (with_reducible refine bel_set ?_ ?_ _; rotate_left; ((try simp); (try omega))))) hb1); clear hb1 hcell)
      try go_wp2_with fail
      refine hK.out _ _ ?_ (fun hHeld => ?_)
      · (try dsimp only)
        exact hS _ (by repeat (first | with_reducible exact Below.refl _ _ | with_reducible assumption | with_reducible refine bel_alloc ?_ _ | with_reducible refine bel_drew ?_ | with_reducible refine bel_drewN ?_ _ | (with_reducible refine bel_set ?_ ?_ _; rotate_left; ((try simp); (try omega)))))
      clear hK K
      refine stepT_end 3 (by kernel_rfl) rfl (by kernel_rfl) (fun K hK => ?_)
      go_simp
      refine hK.out _ _ ?_
      clear hK K
      refine stepT_end 4 (by kernel_rfl) rfl (by kernel_rfl) (fun K hK => ?_)
      go_simp
      refine hK.out _ _ ?_
      clear hK K
      refine stepT_end 5 (by kernel_rfl) rfl (by kernel_rfl) (fun K hK => ?_)
      go_simp
      refine hK.out _ _ ?_
      clear hK K
      refine doneT (by kernel_rfl) ?_ _
      go_wp2_with fail
      refine (hR _ (by repeat (first | with_reducible exact Below.refl _ _ | with_reducible assumption | with_reducible refine bel_alloc ?_ _ | with_reducible refine bel_drew ?_ | with_reducible refine bel_drewN ?_ _ | (with_reducible refine bel_set ?_ ?_ _; rotate_left; ((try simp); (try omega)))))).mono ?_
      rintro e w3 ⟨rfl, hb1⟩
      have hccw3 : ∀ b o, b < w2.heap.size → w3.cell? ⟨b, o, none⟩ = w2.cell? ⟨b, o, none⟩ := (bcell hb1).1
      have hsw3 : w.heap.size < w3.heap.size := (by have := hb1.size; omega)
      have hBw3 : Below w.heap.size w w3 := (bel_then (by repeat (first | with_reducible exact Below.refl _ _ | with_reducible assumption | with_reducible refine bel_alloc ?_ _ | with_reducible refine bel_drew ?_ | with_reducible refine bel_drewN ?_ _ | (with_reducible refine bel_set ?_ ?_ _; rotate_left; ((try simp); (try omega))))) hb1)
      clear hb1
      go_wp2_with fail
      refine (hN _ (by repeat (first | with_reducible exact Below.refl _ _ | with_reducible assumption | with_reducible refine bel_alloc ?_ _ | with_reducible refine bel_drew ?_ | with_reducible refine bel_drewN ?_ _ | (with_reducible refine bel_set ?_ ?_ _; rotate_left; ((try simp); (try omega)))))).mono ?_
      rintro e w4 ⟨rfl, hb1⟩
      have hccw4 : ∀ b o, b < w3.heap.size → w4.cell? ⟨b, o, none⟩ = w3.cell? ⟨b, o, none⟩ := (bcell hb1).1
      have hsw4 : w.heap.size < w4.heap.size := (by have := hb1.size; omega)
      have hBw4 : Below w.heap.size w w4 := (bel_then (by repeat (first | with_reducible exact Below.refl _ _ | with_reducible assumption | with_reducible refine bel_alloc ?_ _ | with_reducible refine bel_drew ?_ | with_reducible refine bel_drewN ?_ _ | (with_reducible refine bel_set ?_ ?_ _; rotate_left; ((try simp); (try omega))))) hb1)
      clear hb1
      go_wp2_with fail
      go_ret
      refine ⟨congrArg (fun s => Ending.returned (.string s)) (fmt_of HI.out ?_), (by repeat (first | with_reducible exact Below.refl _ _ | with_reducible assumption | with_reducible refine bel_alloc ?_ _ | with_reducible refine bel_drew ?_ | with_reducible refine bel_drewN ?_ _ | (with_reducible refine bel_set ?_ ?_ _; rotate_left; ((try simp); (try omega)))))⟩
      have h1 := HI.out.eW
      have h2 := HI.out.eR
      have h3 := HI.out.eN
      have h4 := HE.out
      clear HI HE
      simp [insNamed] at h4
      simp [ByteArray.data_append, piecesOf, joinWith, h1, h2, h3, h4]
    · first | (replace he : t.toList.isEmpty = true := he) | (replace he : t.toList.isEmpty = false := he)
      go_enter Tryd.func20, Tryd.ntmps20
      go_wp2_with (first
        | (go_at_call 42; refine (hc _).mono ?_; rintro e w1 ⟨rfl, hb1⟩; obtain ⟨hcc, hff, hzz⟩ := bcell hb1; (try simp at hzz); have hs0 : w.heap.size < w1.heap.size := (by omega); have hB1 : Below w.heap.size w w1 := (bel_then (by repeat (first | with_reducible exact Below.refl _ _ | with_reducible assumption | with_reducible refine bel_alloc ?_ _ | with_reducible refine bel_drew ?_ | with_reducible refine bel_drewN ?_ _ | (with_reducible refine bel_set ?_ ?_ _; rotate_left; ((try simp); (try omega))))) hb1); clear hb1))
      have hS : ∀ w9, Below w1.heap.size w1 w9 → w9.cell? ⟨w.heap.size, 0, none⟩ = some (.int .i64 2) := fun w9 hb => (hb.cell (p := ⟨w.heap.size, 0, none⟩) (by (try simp); (try omega))).trans (by go_simp)
      refine wp_regionT (S := (fun w9 => w9.cell? ⟨w.heap.size, 0, none⟩ = some (.int .i64 2))) [3, 4, 5] (by kernel_rfl) (by (try dsimp only); exact hS _ (by repeat (first | with_reducible exact Below.refl _ _ | with_reducible assumption | with_reducible refine bel_alloc ?_ _ | with_reducible refine bel_drew ?_ | with_reducible refine bel_drewN ?_ _ | (with_reducible refine bel_set ?_ ?_ _; rotate_left; ((try simp); (try omega)))))) (fun hHeld => ?_)
      refine takeT_read (i := 1) 6 8 (v := ?x2_v1) rfl rfl (by kernel_rfl) (by kernel_rfl) (by kernel_rfl) (by kernel_rfl) (by kernel_rfl) (by kernel_rfl) (fun _ _ _ h => h) (by rfl) ?x2_hy1 (by assumption) ?x2_rest1
      case x2_hy1 => (intro w hSw; (try dsimp only at hSw); go_simp; (try with_reducible rfl))
      try simp only [Act.put, List.setIfInBounds_toArray, List.set_cons_zero, List.set_cons_succ]
      refine takeT_read (i := 2) 6 9 (v := ?x2_v2) rfl rfl (by kernel_rfl) (by kernel_rfl) (by kernel_rfl) (by kernel_rfl) (by kernel_rfl) (by kernel_rfl) (fun _ _ _ h => h) (by rfl) ?x2_hy2 (by assumption) ?x2_rest2
      case x2_hy2 => (intro w hSw; (try dsimp only at hSw); go_simp; (try with_reducible rfl))
      try simp only [Act.put, List.setIfInBounds_toArray, List.set_cons_zero, List.set_cons_succ]
      refine stepT 0 (by kernel_rfl) rfl (fun K hK => ?_)
      go_simp
      (go_at_call 38; refine (specWords_any _).mono ?_; rintro e w2 ⟨rfl, hb1, hcell⟩; have hwc : w2.cell? ⟨w1.heap.size, 2, none⟩ = some (.string sw) := ((hcell 2 (by decide) (by decide)).trans (congrArg (fun s => some (Value.string s)) HSW.out)); have hBw2 : Below w1.heap.size w1 w2 := (bel_then (by repeat (first | with_reducible exact Below.refl _ _ | with_reducible assumption | with_reducible refine bel_alloc ?_ _ | with_reducible refine bel_drew ?_ | with_reducible refine bel_drewN ?_ _ | (with_reducible refine bel_set ?_ ?_ _; rotate_left; ((try simp); (try omega))))) hb1); obtain ⟨hcc2, hff2, hzz2⟩ := bcell hBw2; have hs2 : w.heap.size < w2.heap.size := (by omega); have hB2 : Below w.heap.size w w2 := (bel_then (by repeat (first | with_reducible exact Below.refl _ _ | with_reducible assumption | with_reducible refine bel_alloc ?_ _ | with_reducible refine bel_drew ?_ | with_reducible refine bel_drewN ?_ _ | (with_reducible refine bel_set ?_ ?_ _; rotate_left; ((try simp); (try omega))))) hb1); clear hb1 hcell)
      try go_wp2_with fail
      refine hK.out _ _ ?_ (fun hHeld => ?_)
      · (try dsimp only)
        exact hS _ (by repeat (first | with_reducible exact Below.refl _ _ | with_reducible assumption | with_reducible refine bel_alloc ?_ _ | with_reducible refine bel_drew ?_ | with_reducible refine bel_drewN ?_ _ | (with_reducible refine bel_set ?_ ?_ _; rotate_left; ((try simp); (try omega)))))
      clear hK K
      refine stepT_end 3 (by kernel_rfl) rfl (by kernel_rfl) (fun K hK => ?_)
      go_simp
      refine hK.out _ _ ?_
      clear hK K
      refine stepT_end 4 (by kernel_rfl) rfl (by kernel_rfl) (fun K hK => ?_)
      go_simp
      refine hK.out _ _ ?_
      clear hK K
      refine stepT_end 5 (by kernel_rfl) rfl (by kernel_rfl) (fun K hK => ?_)
      go_simp
      refine hK.out _ _ ?_
      clear hK K
      refine doneT (by kernel_rfl) ?_ _
      go_wp2_with fail
      refine (hR _ (by repeat (first | with_reducible exact Below.refl _ _ | with_reducible assumption | with_reducible refine bel_alloc ?_ _ | with_reducible refine bel_drew ?_ | with_reducible refine bel_drewN ?_ _ | (with_reducible refine bel_set ?_ ?_ _; rotate_left; ((try simp); (try omega)))))).mono ?_
      rintro e w3 ⟨rfl, hb1⟩
      have hccw3 : ∀ b o, b < w2.heap.size → w3.cell? ⟨b, o, none⟩ = w2.cell? ⟨b, o, none⟩ := (bcell hb1).1
      have hsw3 : w.heap.size < w3.heap.size := (by have := hb1.size; omega)
      have hBw3 : Below w.heap.size w w3 := (bel_then (by repeat (first | with_reducible exact Below.refl _ _ | with_reducible assumption | with_reducible refine bel_alloc ?_ _ | with_reducible refine bel_drew ?_ | with_reducible refine bel_drewN ?_ _ | (with_reducible refine bel_set ?_ ?_ _; rotate_left; ((try simp); (try omega))))) hb1)
      clear hb1
      go_wp2_with fail
      refine (hN _ (by repeat (first | with_reducible exact Below.refl _ _ | with_reducible assumption | with_reducible refine bel_alloc ?_ _ | with_reducible refine bel_drew ?_ | with_reducible refine bel_drewN ?_ _ | (with_reducible refine bel_set ?_ ?_ _; rotate_left; ((try simp); (try omega)))))).mono ?_
      rintro e w4 ⟨rfl, hb1⟩
      have hccw4 : ∀ b o, b < w3.heap.size → w4.cell? ⟨b, o, none⟩ = w3.cell? ⟨b, o, none⟩ := (bcell hb1).1
      have hsw4 : w.heap.size < w4.heap.size := (by have := hb1.size; omega)
      have hBw4 : Below w.heap.size w w4 := (bel_then (by repeat (first | with_reducible exact Below.refl _ _ | with_reducible assumption | with_reducible refine bel_alloc ?_ _ | with_reducible refine bel_drew ?_ | with_reducible refine bel_drewN ?_ _ | (with_reducible refine bel_set ?_ ?_ _; rotate_left; ((try simp); (try omega))))) hb1)
      clear hb1
      go_wp2_with fail
      go_ret
      refine ⟨congrArg (fun s => Ending.returned (.string s)) (fmt_of HI.out ?_), (by repeat (first | with_reducible exact Below.refl _ _ | with_reducible assumption | with_reducible refine bel_alloc ?_ _ | with_reducible refine bel_drew ?_ | with_reducible refine bel_drewN ?_ _ | (with_reducible refine bel_set ?_ ?_ _; rotate_left; ((try simp); (try omega)))))⟩
      have h1 := HI.out.eW
      have h2 := HI.out.eR
      have h3 := HI.out.eN
      have h4 := HE.out
      clear HI HE
      simp [insNamed] at h4
      simp [ByteArray.data_append, piecesOf, joinWith, h1, h2, h3, h4]
    · first | (replace he : t.toList.isEmpty = true := he) | (replace he : t.toList.isEmpty = false := he)
      go_enter Tryd.func20, Tryd.ntmps20
      go_wp2_with (first
        | (go_at_call 42; refine (hc _).mono ?_; rintro e w1 ⟨rfl, hb1⟩; obtain ⟨hcc, hff, hzz⟩ := bcell hb1; (try simp at hzz); have hs0 : w.heap.size < w1.heap.size := (by omega); have hB1 : Below w.heap.size w w1 := (bel_then (by repeat (first | with_reducible exact Below.refl _ _ | with_reducible assumption | with_reducible refine bel_alloc ?_ _ | with_reducible refine bel_drew ?_ | with_reducible refine bel_drewN ?_ _ | (with_reducible refine bel_set ?_ ?_ _; rotate_left; ((try simp); (try omega))))) hb1); clear hb1))
      have hS : ∀ w9, Below w1.heap.size w1 w9 → w9.cell? ⟨w.heap.size, 0, none⟩ = some (.int .i64 3) := fun w9 hb => (hb.cell (p := ⟨w.heap.size, 0, none⟩) (by (try simp); (try omega))).trans (by go_simp)
      refine wp_regionT (S := (fun w9 => w9.cell? ⟨w.heap.size, 0, none⟩ = some (.int .i64 3))) [3, 4, 5] (by kernel_rfl) (by (try dsimp only); exact hS _ (by repeat (first | with_reducible exact Below.refl _ _ | with_reducible assumption | with_reducible refine bel_alloc ?_ _ | with_reducible refine bel_drew ?_ | with_reducible refine bel_drewN ?_ _ | (with_reducible refine bel_set ?_ ?_ _; rotate_left; ((try simp); (try omega)))))) (fun hHeld => ?_)
      refine takeT_read (i := 1) 6 8 (v := ?x3_v1) rfl rfl (by kernel_rfl) (by kernel_rfl) (by kernel_rfl) (by kernel_rfl) (by kernel_rfl) (by kernel_rfl) (fun _ _ _ h => h) (by rfl) ?x3_hy1 (by assumption) ?x3_rest1
      case x3_hy1 => (intro w hSw; (try dsimp only at hSw); go_simp; (try with_reducible rfl))
      try simp only [Act.put, List.setIfInBounds_toArray, List.set_cons_zero, List.set_cons_succ]
      refine takeT_read (i := 2) 6 9 (v := ?x3_v2) rfl rfl (by kernel_rfl) (by kernel_rfl) (by kernel_rfl) (by kernel_rfl) (by kernel_rfl) (by kernel_rfl) (fun _ _ _ h => h) (by rfl) ?x3_hy2 (by assumption) ?x3_rest2
      case x3_hy2 => (intro w hSw; (try dsimp only at hSw); go_simp; (try with_reducible rfl))
      try simp only [Act.put, List.setIfInBounds_toArray, List.set_cons_zero, List.set_cons_succ]
      refine stepT 0 (by kernel_rfl) rfl (fun K hK => ?_)
      go_simp
      (go_at_call 38; refine (specWords_any _).mono ?_; rintro e w2 ⟨rfl, hb1, hcell⟩; have hwc : w2.cell? ⟨w1.heap.size, 3, none⟩ = some (.string sw) := ((hcell 3 (by decide) (by decide)).trans (congrArg (fun s => some (Value.string s)) HSW.out)); have hBw2 : Below w1.heap.size w1 w2 := (bel_then (by repeat (first | with_reducible exact Below.refl _ _ | with_reducible assumption | with_reducible refine bel_alloc ?_ _ | with_reducible refine bel_drew ?_ | with_reducible refine bel_drewN ?_ _ | (with_reducible refine bel_set ?_ ?_ _; rotate_left; ((try simp); (try omega))))) hb1); obtain ⟨hcc2, hff2, hzz2⟩ := bcell hBw2; have hs2 : w.heap.size < w2.heap.size := (by omega); have hB2 : Below w.heap.size w w2 := (bel_then (by repeat (first | with_reducible exact Below.refl _ _ | with_reducible assumption | with_reducible refine bel_alloc ?_ _ | with_reducible refine bel_drew ?_ | with_reducible refine bel_drewN ?_ _ | (with_reducible refine bel_set ?_ ?_ _; rotate_left; ((try simp); (try omega))))) hb1); clear hb1 hcell)
      try go_wp2_with fail
      refine hK.out _ _ ?_ (fun hHeld => ?_)
      · (try dsimp only)
        exact hS _ (by repeat (first | with_reducible exact Below.refl _ _ | with_reducible assumption | with_reducible refine bel_alloc ?_ _ | with_reducible refine bel_drew ?_ | with_reducible refine bel_drewN ?_ _ | (with_reducible refine bel_set ?_ ?_ _; rotate_left; ((try simp); (try omega)))))
      clear hK K
      refine stepT_end 3 (by kernel_rfl) rfl (by kernel_rfl) (fun K hK => ?_)
      go_simp
      refine hK.out _ _ ?_
      clear hK K
      refine stepT_end 4 (by kernel_rfl) rfl (by kernel_rfl) (fun K hK => ?_)
      go_simp
      refine hK.out _ _ ?_
      clear hK K
      refine stepT_end 5 (by kernel_rfl) rfl (by kernel_rfl) (fun K hK => ?_)
      go_simp
      refine hK.out _ _ ?_
      clear hK K
      refine doneT (by kernel_rfl) ?_ _
      go_wp2_with fail
      refine (hR _ (by repeat (first | with_reducible exact Below.refl _ _ | with_reducible assumption | with_reducible refine bel_alloc ?_ _ | with_reducible refine bel_drew ?_ | with_reducible refine bel_drewN ?_ _ | (with_reducible refine bel_set ?_ ?_ _; rotate_left; ((try simp); (try omega)))))).mono ?_
      rintro e w3 ⟨rfl, hb1⟩
      have hccw3 : ∀ b o, b < w2.heap.size → w3.cell? ⟨b, o, none⟩ = w2.cell? ⟨b, o, none⟩ := (bcell hb1).1
      have hsw3 : w.heap.size < w3.heap.size := (by have := hb1.size; omega)
      have hBw3 : Below w.heap.size w w3 := (bel_then (by repeat (first | with_reducible exact Below.refl _ _ | with_reducible assumption | with_reducible refine bel_alloc ?_ _ | with_reducible refine bel_drew ?_ | with_reducible refine bel_drewN ?_ _ | (with_reducible refine bel_set ?_ ?_ _; rotate_left; ((try simp); (try omega))))) hb1)
      clear hb1
      go_wp2_with fail
      refine (hN _ (by repeat (first | with_reducible exact Below.refl _ _ | with_reducible assumption | with_reducible refine bel_alloc ?_ _ | with_reducible refine bel_drew ?_ | with_reducible refine bel_drewN ?_ _ | (with_reducible refine bel_set ?_ ?_ _; rotate_left; ((try simp); (try omega)))))).mono ?_
      rintro e w4 ⟨rfl, hb1⟩
      have hccw4 : ∀ b o, b < w3.heap.size → w4.cell? ⟨b, o, none⟩ = w3.cell? ⟨b, o, none⟩ := (bcell hb1).1
      have hsw4 : w.heap.size < w4.heap.size := (by have := hb1.size; omega)
      have hBw4 : Below w.heap.size w w4 := (bel_then (by repeat (first | with_reducible exact Below.refl _ _ | with_reducible assumption | with_reducible refine bel_alloc ?_ _ | with_reducible refine bel_drew ?_ | with_reducible refine bel_drewN ?_ _ | (with_reducible refine bel_set ?_ ?_ _; rotate_left; ((try simp); (try omega))))) hb1)
      clear hb1
      go_wp2_with fail
      go_ret
      refine ⟨congrArg (fun s => Ending.returned (.string s)) (fmt_of HI.out ?_), (by repeat (first | with_reducible exact Below.refl _ _ | with_reducible assumption | with_reducible refine bel_alloc ?_ _ | with_reducible refine bel_drew ?_ | with_reducible refine bel_drewN ?_ _ | (with_reducible refine bel_set ?_ ?_ _; rotate_left; ((try simp); (try omega)))))⟩
      have h1 := HI.out.eW
      have h2 := HI.out.eR
      have h3 := HI.out.eN
      have h4 := HE.out
      clear HI HE
      simp [insNamed] at h4
      simp [ByteArray.data_append, piecesOf, joinWith, h1, h2, h3, h4]
    · first | (replace he : t.toList.isEmpty = true := he) | (replace he : t.toList.isEmpty = false := he)
      go_enter Tryd.func20, Tryd.ntmps20
      go_wp2_with (first
        | (go_at_call 42; refine (hc _).mono ?_; rintro e w1 ⟨rfl, hb1⟩; obtain ⟨hcc, hff, hzz⟩ := bcell hb1; (try simp at hzz); have hs0 : w.heap.size < w1.heap.size := (by omega); have hB1 : Below w.heap.size w w1 := (bel_then (by repeat (first | with_reducible exact Below.refl _ _ | with_reducible assumption | with_reducible refine bel_alloc ?_ _ | with_reducible refine bel_drew ?_ | with_reducible refine bel_drewN ?_ _ | (with_reducible refine bel_set ?_ ?_ _; rotate_left; ((try simp); (try omega))))) hb1); clear hb1))
      have hS : ∀ w9, Below w1.heap.size w1 w9 → w9.cell? ⟨w.heap.size, 0, none⟩ = some (.int .i64 4) := fun w9 hb => (hb.cell (p := ⟨w.heap.size, 0, none⟩) (by (try simp); (try omega))).trans (by go_simp)
      refine wp_regionT (S := (fun w9 => w9.cell? ⟨w.heap.size, 0, none⟩ = some (.int .i64 4))) [3, 4, 5] (by kernel_rfl) (by (try dsimp only); exact hS _ (by repeat (first | with_reducible exact Below.refl _ _ | with_reducible assumption | with_reducible refine bel_alloc ?_ _ | with_reducible refine bel_drew ?_ | with_reducible refine bel_drewN ?_ _ | (with_reducible refine bel_set ?_ ?_ _; rotate_left; ((try simp); (try omega)))))) (fun hHeld => ?_)
      refine takeT_read (i := 1) 6 8 (v := ?x4_v1) rfl rfl (by kernel_rfl) (by kernel_rfl) (by kernel_rfl) (by kernel_rfl) (by kernel_rfl) (by kernel_rfl) (fun _ _ _ h => h) (by rfl) ?x4_hy1 (by assumption) ?x4_rest1
      case x4_hy1 => (intro w hSw; (try dsimp only at hSw); go_simp; (try with_reducible rfl))
      try simp only [Act.put, List.setIfInBounds_toArray, List.set_cons_zero, List.set_cons_succ]
      refine takeT_read (i := 2) 6 9 (v := ?x4_v2) rfl rfl (by kernel_rfl) (by kernel_rfl) (by kernel_rfl) (by kernel_rfl) (by kernel_rfl) (by kernel_rfl) (fun _ _ _ h => h) (by rfl) ?x4_hy2 (by assumption) ?x4_rest2
      case x4_hy2 => (intro w hSw; (try dsimp only at hSw); go_simp; (try with_reducible rfl))
      try simp only [Act.put, List.setIfInBounds_toArray, List.set_cons_zero, List.set_cons_succ]
      refine stepT 0 (by kernel_rfl) rfl (fun K hK => ?_)
      go_simp
      (go_at_call 38; refine (specWords_any _).mono ?_; rintro e w2 ⟨rfl, hb1, hcell⟩; have hwc : w2.cell? ⟨w1.heap.size, 4, none⟩ = some (.string sw) := ((hcell 4 (by decide) (by decide)).trans (congrArg (fun s => some (Value.string s)) HSW.out)); have hBw2 : Below w1.heap.size w1 w2 := (bel_then (by repeat (first | with_reducible exact Below.refl _ _ | with_reducible assumption | with_reducible refine bel_alloc ?_ _ | with_reducible refine bel_drew ?_ | with_reducible refine bel_drewN ?_ _ | (with_reducible refine bel_set ?_ ?_ _; rotate_left; ((try simp); (try omega))))) hb1); obtain ⟨hcc2, hff2, hzz2⟩ := bcell hBw2; have hs2 : w.heap.size < w2.heap.size := (by omega); have hB2 : Below w.heap.size w w2 := (bel_then (by repeat (first | with_reducible exact Below.refl _ _ | with_reducible assumption | with_reducible refine bel_alloc ?_ _ | with_reducible refine bel_drew ?_ | with_reducible refine bel_drewN ?_ _ | (with_reducible refine bel_set ?_ ?_ _; rotate_left; ((try simp); (try omega))))) hb1); clear hb1 hcell)
      try go_wp2_with fail
      refine hK.out _ _ ?_ (fun hHeld => ?_)
      · (try dsimp only)
        exact hS _ (by repeat (first | with_reducible exact Below.refl _ _ | with_reducible assumption | with_reducible refine bel_alloc ?_ _ | with_reducible refine bel_drew ?_ | with_reducible refine bel_drewN ?_ _ | (with_reducible refine bel_set ?_ ?_ _; rotate_left; ((try simp); (try omega)))))
      clear hK K
      refine stepT_end 3 (by kernel_rfl) rfl (by kernel_rfl) (fun K hK => ?_)
      go_simp
      refine hK.out _ _ ?_
      clear hK K
      refine stepT_end 4 (by kernel_rfl) rfl (by kernel_rfl) (fun K hK => ?_)
      go_simp
      refine hK.out _ _ ?_
      clear hK K
      refine stepT_end 5 (by kernel_rfl) rfl (by kernel_rfl) (fun K hK => ?_)
      go_simp
      refine hK.out _ _ ?_
      clear hK K
      refine doneT (by kernel_rfl) ?_ _
      go_wp2_with fail
      refine (hN _ (by repeat (first | with_reducible exact Below.refl _ _ | with_reducible assumption | with_reducible refine bel_alloc ?_ _ | with_reducible refine bel_drew ?_ | with_reducible refine bel_drewN ?_ _ | (with_reducible refine bel_set ?_ ?_ _; rotate_left; ((try simp); (try omega)))))).mono ?_
      rintro e w3 ⟨rfl, hb1⟩
      have hccw3 : ∀ b o, b < w2.heap.size → w3.cell? ⟨b, o, none⟩ = w2.cell? ⟨b, o, none⟩ := (bcell hb1).1
      have hsw3 : w.heap.size < w3.heap.size := (by have := hb1.size; omega)
      have hBw3 : Below w.heap.size w w3 := (bel_then (by repeat (first | with_reducible exact Below.refl _ _ | with_reducible assumption | with_reducible refine bel_alloc ?_ _ | with_reducible refine bel_drew ?_ | with_reducible refine bel_drewN ?_ _ | (with_reducible refine bel_set ?_ ?_ _; rotate_left; ((try simp); (try omega))))) hb1)
      clear hb1
      go_wp2_with fail
      go_ret
      refine ⟨congrArg (fun s => Ending.returned (.string s)) (fmt_of HI.out ?_), (by repeat (first | with_reducible exact Below.refl _ _ | with_reducible assumption | with_reducible refine bel_alloc ?_ _ | with_reducible refine bel_drew ?_ | with_reducible refine bel_drewN ?_ _ | (with_reducible refine bel_set ?_ ?_ _; rotate_left; ((try simp); (try omega)))))⟩
      have h1 := HI.out.eW
      have h2 := HI.out.eR
      have h3 := HI.out.eN
      have h4 := HE.out
      clear HI HE
      simp [insNamed] at h4
      simp [ByteArray.data_append, piecesOf, joinWith, h1, h3, h4]
    · first | (replace he : t.toList.isEmpty = true := he) | (replace he : t.toList.isEmpty = false := he)
      go_enter Tryd.func20, Tryd.ntmps20
      go_wp2_with (first
        | (go_at_call 42; refine (hc _).mono ?_; rintro e w1 ⟨rfl, hb1⟩; obtain ⟨hcc, hff, hzz⟩ := bcell hb1; (try simp at hzz); have hs0 : w.heap.size < w1.heap.size := (by omega); have hB1 : Below w.heap.size w w1 := (bel_then (by repeat (first | with_reducible exact Below.refl _ _ | with_reducible assumption | with_reducible refine bel_alloc ?_ _ | with_reducible refine bel_drew ?_ | with_reducible refine bel_drewN ?_ _ | (with_reducible refine bel_set ?_ ?_ _; rotate_left; ((try simp); (try omega))))) hb1); clear hb1))
      have hS : ∀ w9, Below w1.heap.size w1 w9 → w9.cell? ⟨w.heap.size, 0, none⟩ = some (.int .i64 5) := fun w9 hb => (hb.cell (p := ⟨w.heap.size, 0, none⟩) (by (try simp); (try omega))).trans (by go_simp)
      refine wp_regionT (S := (fun w9 => w9.cell? ⟨w.heap.size, 0, none⟩ = some (.int .i64 5))) [3, 4, 5] (by kernel_rfl) (by (try dsimp only); exact hS _ (by repeat (first | with_reducible exact Below.refl _ _ | with_reducible assumption | with_reducible refine bel_alloc ?_ _ | with_reducible refine bel_drew ?_ | with_reducible refine bel_drewN ?_ _ | (with_reducible refine bel_set ?_ ?_ _; rotate_left; ((try simp); (try omega)))))) (fun hHeld => ?_)
      refine takeT_read (i := 1) 6 8 (v := ?x5_v1) rfl rfl (by kernel_rfl) (by kernel_rfl) (by kernel_rfl) (by kernel_rfl) (by kernel_rfl) (by kernel_rfl) (fun _ _ _ h => h) (by rfl) ?x5_hy1 (by assumption) ?x5_rest1
      case x5_hy1 => (intro w hSw; (try dsimp only at hSw); go_simp; (try with_reducible rfl))
      try simp only [Act.put, List.setIfInBounds_toArray, List.set_cons_zero, List.set_cons_succ]
      refine takeT_read (i := 2) 6 9 (v := ?x5_v2) rfl rfl (by kernel_rfl) (by kernel_rfl) (by kernel_rfl) (by kernel_rfl) (by kernel_rfl) (by kernel_rfl) (fun _ _ _ h => h) (by rfl) ?x5_hy2 (by assumption) ?x5_rest2
      case x5_hy2 => (intro w hSw; (try dsimp only at hSw); go_simp; (try with_reducible rfl))
      try simp only [Act.put, List.setIfInBounds_toArray, List.set_cons_zero, List.set_cons_succ]
      refine stepT 0 (by kernel_rfl) rfl (fun K hK => ?_)
      go_simp
      (go_at_call 38; refine (specWords_any _).mono ?_; rintro e w2 ⟨rfl, hb1, hcell⟩; have hwc : w2.cell? ⟨w1.heap.size, 5, none⟩ = some (.string sw) := ((hcell 5 (by decide) (by decide)).trans (congrArg (fun s => some (Value.string s)) HSW.out)); have hBw2 : Below w1.heap.size w1 w2 := (bel_then (by repeat (first | with_reducible exact Below.refl _ _ | with_reducible assumption | with_reducible refine bel_alloc ?_ _ | with_reducible refine bel_drew ?_ | with_reducible refine bel_drewN ?_ _ | (with_reducible refine bel_set ?_ ?_ _; rotate_left; ((try simp); (try omega))))) hb1); obtain ⟨hcc2, hff2, hzz2⟩ := bcell hBw2; have hs2 : w.heap.size < w2.heap.size := (by omega); have hB2 : Below w.heap.size w w2 := (bel_then (by repeat (first | with_reducible exact Below.refl _ _ | with_reducible assumption | with_reducible refine bel_alloc ?_ _ | with_reducible refine bel_drew ?_ | with_reducible refine bel_drewN ?_ _ | (with_reducible refine bel_set ?_ ?_ _; rotate_left; ((try simp); (try omega))))) hb1); clear hb1 hcell)
      try go_wp2_with fail
      refine hK.out _ _ ?_ (fun hHeld => ?_)
      · (try dsimp only)
        exact hS _ (by repeat (first | with_reducible exact Below.refl _ _ | with_reducible assumption | with_reducible refine bel_alloc ?_ _ | with_reducible refine bel_drew ?_ | with_reducible refine bel_drewN ?_ _ | (with_reducible refine bel_set ?_ ?_ _; rotate_left; ((try simp); (try omega)))))
      clear hK K
      refine stepT_end 3 (by kernel_rfl) rfl (by kernel_rfl) (fun K hK => ?_)
      go_simp
      refine hK.out _ _ ?_
      clear hK K
      refine stepT_end 4 (by kernel_rfl) rfl (by kernel_rfl) (fun K hK => ?_)
      go_simp
      refine hK.out _ _ ?_
      clear hK K
      refine stepT_end 5 (by kernel_rfl) rfl (by kernel_rfl) (fun K hK => ?_)
      go_simp
      refine hK.out _ _ ?_
      clear hK K
      refine doneT (by kernel_rfl) ?_ _
      go_wp2_with fail
      refine (hR _ (by repeat (first | with_reducible exact Below.refl _ _ | with_reducible assumption | with_reducible refine bel_alloc ?_ _ | with_reducible refine bel_drew ?_ | with_reducible refine bel_drewN ?_ _ | (with_reducible refine bel_set ?_ ?_ _; rotate_left; ((try simp); (try omega)))))).mono ?_
      rintro e w3 ⟨rfl, hb1⟩
      have hccw3 : ∀ b o, b < w2.heap.size → w3.cell? ⟨b, o, none⟩ = w2.cell? ⟨b, o, none⟩ := (bcell hb1).1
      have hsw3 : w.heap.size < w3.heap.size := (by have := hb1.size; omega)
      have hBw3 : Below w.heap.size w w3 := (bel_then (by repeat (first | with_reducible exact Below.refl _ _ | with_reducible assumption | with_reducible refine bel_alloc ?_ _ | with_reducible refine bel_drew ?_ | with_reducible refine bel_drewN ?_ _ | (with_reducible refine bel_set ?_ ?_ _; rotate_left; ((try simp); (try omega))))) hb1)
      clear hb1
      go_wp2_with fail
      go_ret
      refine ⟨congrArg (fun s => Ending.returned (.string s)) (fmt_of HI.out ?_), (by repeat (first | with_reducible exact Below.refl _ _ | with_reducible assumption | with_reducible refine bel_alloc ?_ _ | with_reducible refine bel_drew ?_ | with_reducible refine bel_drewN ?_ _ | (with_reducible refine bel_set ?_ ?_ _; rotate_left; ((try simp); (try omega)))))⟩
      have h1 := HI.out.eW
      have h2 := HI.out.eR
      have h3 := HI.out.eN
      have h4 := HE.out
      clear HI HE
      simp [insNamed] at h4
      simp [ByteArray.data_append, piecesOf, joinWith, h1, h2, h4]
    · first | (replace he : t.toList.isEmpty = true := he) | (replace he : t.toList.isEmpty = false := he)
      go_enter Tryd.func20, Tryd.ntmps20
      go_wp2_with (first
        | (go_at_call 42; refine (hc _).mono ?_; rintro e w1 ⟨rfl, hb1⟩; obtain ⟨hcc, hff, hzz⟩ := bcell hb1; (try simp at hzz); have hs0 : w.heap.size < w1.heap.size := (by omega); have hB1 : Below w.heap.size w w1 := (bel_then (by repeat (first | with_reducible exact Below.refl _ _ | with_reducible assumption | with_reducible refine bel_alloc ?_ _ | with_reducible refine bel_drew ?_ | with_reducible refine bel_drewN ?_ _ | (with_reducible refine bel_set ?_ ?_ _; rotate_left; ((try simp); (try omega))))) hb1); clear hb1))
      have hS : ∀ w9, Below w1.heap.size w1 w9 → w9.cell? ⟨w.heap.size, 0, none⟩ = some (.int .i64 6) := fun w9 hb => (hb.cell (p := ⟨w.heap.size, 0, none⟩) (by (try simp); (try omega))).trans (by go_simp)
      refine wp_regionT (S := (fun w9 => w9.cell? ⟨w.heap.size, 0, none⟩ = some (.int .i64 6))) [3, 4, 5] (by kernel_rfl) (by (try dsimp only); exact hS _ (by repeat (first | with_reducible exact Below.refl _ _ | with_reducible assumption | with_reducible refine bel_alloc ?_ _ | with_reducible refine bel_drew ?_ | with_reducible refine bel_drewN ?_ _ | (with_reducible refine bel_set ?_ ?_ _; rotate_left; ((try simp); (try omega)))))) (fun hHeld => ?_)
      refine takeT_read (i := 1) 6 8 (v := ?x6_v1) rfl rfl (by kernel_rfl) (by kernel_rfl) (by kernel_rfl) (by kernel_rfl) (by kernel_rfl) (by kernel_rfl) (fun _ _ _ h => h) (by rfl) ?x6_hy1 (by assumption) ?x6_rest1
      case x6_hy1 => (intro w hSw; (try dsimp only at hSw); go_simp; (try with_reducible rfl))
      try simp only [Act.put, List.setIfInBounds_toArray, List.set_cons_zero, List.set_cons_succ]
      refine takeT_read (i := 2) 6 9 (v := ?x6_v2) rfl rfl (by kernel_rfl) (by kernel_rfl) (by kernel_rfl) (by kernel_rfl) (by kernel_rfl) (by kernel_rfl) (fun _ _ _ h => h) (by rfl) ?x6_hy2 (by assumption) ?x6_rest2
      case x6_hy2 => (intro w hSw; (try dsimp only at hSw); go_simp; (try with_reducible rfl))
      try simp only [Act.put, List.setIfInBounds_toArray, List.set_cons_zero, List.set_cons_succ]
      refine stepT 0 (by kernel_rfl) rfl (fun K hK => ?_)
      go_simp
      (go_at_call 38; refine (specWords_any _).mono ?_; rintro e w2 ⟨rfl, hb1, hcell⟩; have hwc : w2.cell? ⟨w1.heap.size, 6, none⟩ = some (.string sw) := ((hcell 6 (by decide) (by decide)).trans (congrArg (fun s => some (Value.string s)) HSW.out)); have hBw2 : Below w1.heap.size w1 w2 := (bel_then (by repeat (first | with_reducible exact Below.refl _ _ | with_reducible assumption | with_reducible refine bel_alloc ?_ _ | with_reducible refine bel_drew ?_ | with_reducible refine bel_drewN ?_ _ | (with_reducible refine bel_set ?_ ?_ _; rotate_left; ((try simp); (try omega))))) hb1); obtain ⟨hcc2, hff2, hzz2⟩ := bcell hBw2; have hs2 : w.heap.size < w2.heap.size := (by omega); have hB2 : Below w.heap.size w w2 := (bel_then (by repeat (first | with_reducible exact Below.refl _ _ | with_reducible assumption | with_reducible refine bel_alloc ?_ _ | with_reducible refine bel_drew ?_ | with_reducible refine bel_drewN ?_ _ | (with_reducible refine bel_set ?_ ?_ _; rotate_left; ((try simp); (try omega))))) hb1); clear hb1 hcell)
      try go_wp2_with fail
      refine hK.out _ _ ?_ (fun hHeld => ?_)
      · (try dsimp only)
        exact hS _ (by repeat (first | with_reducible exact Below.refl _ _ | with_reducible assumption | with_reducible refine bel_alloc ?_ _ | with_reducible refine bel_drew ?_ | with_reducible refine bel_drewN ?_ _ | (with_reducible refine bel_set ?_ ?_ _; rotate_left; ((try simp); (try omega)))))
      clear hK K
      refine stepT_end 3 (by kernel_rfl) rfl (by kernel_rfl) (fun K hK => ?_)
      go_simp
      refine hK.out _ _ ?_
      clear hK K
      refine stepT_end 4 (by kernel_rfl) rfl (by kernel_rfl) (fun K hK => ?_)
      go_simp
      refine hK.out _ _ ?_
      clear hK K
      refine stepT_end 5 (by kernel_rfl) rfl (by kernel_rfl) (fun K hK => ?_)
      go_simp
      refine hK.out _ _ ?_
      clear hK K
      refine doneT (by kernel_rfl) ?_ _
      go_wp2_with fail
      refine (hR _ (by repeat (first | with_reducible exact Below.refl _ _ | with_reducible assumption | with_reducible refine bel_alloc ?_ _ | with_reducible refine bel_drew ?_ | with_reducible refine bel_drewN ?_ _ | (with_reducible refine bel_set ?_ ?_ _; rotate_left; ((try simp); (try omega)))))).mono ?_
      rintro e w3 ⟨rfl, hb1⟩
      have hccw3 : ∀ b o, b < w2.heap.size → w3.cell? ⟨b, o, none⟩ = w2.cell? ⟨b, o, none⟩ := (bcell hb1).1
      have hsw3 : w.heap.size < w3.heap.size := (by have := hb1.size; omega)
      have hBw3 : Below w.heap.size w w3 := (bel_then (by repeat (first | with_reducible exact Below.refl _ _ | with_reducible assumption | with_reducible refine bel_alloc ?_ _ | with_reducible refine bel_drew ?_ | with_reducible refine bel_drewN ?_ _ | (with_reducible refine bel_set ?_ ?_ _; rotate_left; ((try simp); (try omega))))) hb1)
      clear hb1
      go_wp2_with fail
      refine (hN _ (by repeat (first | with_reducible exact Below.refl _ _ | with_reducible assumption | with_reducible refine bel_alloc ?_ _ | with_reducible refine bel_drew ?_ | with_reducible refine bel_drewN ?_ _ | (with_reducible refine bel_set ?_ ?_ _; rotate_left; ((try simp); (try omega)))))).mono ?_
      rintro e w4 ⟨rfl, hb1⟩
      have hccw4 : ∀ b o, b < w3.heap.size → w4.cell? ⟨b, o, none⟩ = w3.cell? ⟨b, o, none⟩ := (bcell hb1).1
      have hsw4 : w.heap.size < w4.heap.size := (by have := hb1.size; omega)
      have hBw4 : Below w.heap.size w w4 := (bel_then (by repeat (first | with_reducible exact Below.refl _ _ | with_reducible assumption | with_reducible refine bel_alloc ?_ _ | with_reducible refine bel_drew ?_ | with_reducible refine bel_drewN ?_ _ | (with_reducible refine bel_set ?_ ?_ _; rotate_left; ((try simp); (try omega))))) hb1)
      clear hb1
      go_wp2_with fail
      go_ret
      refine ⟨congrArg (fun s => Ending.returned (.string s)) (fmt_of HI.out ?_), (by repeat (first | with_reducible exact Below.refl _ _ | with_reducible assumption | with_reducible refine bel_alloc ?_ _ | with_reducible refine bel_drew ?_ | with_reducible refine bel_drewN ?_ _ | (with_reducible refine bel_set ?_ ?_ _; rotate_left; ((try simp); (try omega)))))⟩
      have h1 := HI.out.eW
      have h2 := HI.out.eR
      have h3 := HI.out.eN
      have h4 := HE.out
      clear HI HE
      simp [insNamed] at h4
      simp [ByteArray.data_append, piecesOf, joinWith, h1, h2, h3, h4]
    · first | (replace he : t.toList.isEmpty = true := he) | (replace he : t.toList.isEmpty = false := he)
      go_enter Tryd.func20, Tryd.ntmps20
      go_wp2_with (first
        | (go_at_call 42; refine (hc _).mono ?_; rintro e w1 ⟨rfl, hb1⟩; obtain ⟨hcc, hff, hzz⟩ := bcell hb1; (try simp at hzz); have hs0 : w.heap.size < w1.heap.size := (by omega); have hB1 : Below w.heap.size w w1 := (bel_then (by repeat (first | with_reducible exact Below.refl _ _ | with_reducible assumption | with_reducible refine bel_alloc ?_ _ | with_reducible refine bel_drew ?_ | with_reducible refine bel_drewN ?_ _ | (with_reducible refine bel_set ?_ ?_ _; rotate_left; ((try simp); (try omega))))) hb1); clear hb1))
      have hS : ∀ w9, Below w1.heap.size w1 w9 → w9.cell? ⟨w.heap.size, 0, none⟩ = some (.int .i64 7) := fun w9 hb => (hb.cell (p := ⟨w.heap.size, 0, none⟩) (by (try simp); (try omega))).trans (by go_simp)
      refine wp_regionT (S := (fun w9 => w9.cell? ⟨w.heap.size, 0, none⟩ = some (.int .i64 7))) [3, 4, 5] (by kernel_rfl) (by (try dsimp only); exact hS _ (by repeat (first | with_reducible exact Below.refl _ _ | with_reducible assumption | with_reducible refine bel_alloc ?_ _ | with_reducible refine bel_drew ?_ | with_reducible refine bel_drewN ?_ _ | (with_reducible refine bel_set ?_ ?_ _; rotate_left; ((try simp); (try omega)))))) (fun hHeld => ?_)
      refine takeT_read (i := 1) 6 8 (v := ?x7_v1) rfl rfl (by kernel_rfl) (by kernel_rfl) (by kernel_rfl) (by kernel_rfl) (by kernel_rfl) (by kernel_rfl) (fun _ _ _ h => h) (by rfl) ?x7_hy1 (by assumption) ?x7_rest1
      case x7_hy1 => (intro w hSw; (try dsimp only at hSw); go_simp; (try with_reducible rfl))
      try simp only [Act.put, List.setIfInBounds_toArray, List.set_cons_zero, List.set_cons_succ]
      refine takeT_read (i := 2) 6 9 (v := ?x7_v2) rfl rfl (by kernel_rfl) (by kernel_rfl) (by kernel_rfl) (by kernel_rfl) (by kernel_rfl) (by kernel_rfl) (fun _ _ _ h => h) (by rfl) ?x7_hy2 (by assumption) ?x7_rest2
      case x7_hy2 => (intro w hSw; (try dsimp only at hSw); go_simp; (try with_reducible rfl))
      try simp only [Act.put, List.setIfInBounds_toArray, List.set_cons_zero, List.set_cons_succ]
      refine stepT 0 (by kernel_rfl) rfl (fun K hK => ?_)
      go_simp
      (go_at_call 38; refine (specWords_any _).mono ?_; rintro e w2 ⟨rfl, hb1, hcell⟩; have hwc : w2.cell? ⟨w1.heap.size, 7, none⟩ = some (.string sw) := ((hcell 7 (by decide) (by decide)).trans (congrArg (fun s => some (Value.string s)) HSW.out)); have hBw2 : Below w1.heap.size w1 w2 := (bel_then (by repeat (first | with_reducible exact Below.refl _ _ | with_reducible assumption | with_reducible refine bel_alloc ?_ _ | with_reducible refine bel_drew ?_ | with_reducible refine bel_drewN ?_ _ | (with_reducible refine bel_set ?_ ?_ _; rotate_left; ((try simp); (try omega))))) hb1); obtain ⟨hcc2, hff2, hzz2⟩ := bcell hBw2; have hs2 : w.heap.size < w2.heap.size := (by omega); have hB2 : Below w.heap.size w w2 := (bel_then (by repeat (first | with_reducible exact Below.refl _ _ | with_reducible assumption | with_reducible refine bel_alloc ?_ _ | with_reducible refine bel_drew ?_ | with_reducible refine bel_drewN ?_ _ | (with_reducible refine bel_set ?_ ?_ _; rotate_left; ((try simp); (try omega))))) hb1); clear hb1 hcell)
      try go_wp2_with fail
      refine hK.out _ _ ?_ (fun hHeld => ?_)
      · (try dsimp only)
        exact hS _ (by repeat (first | with_reducible exact Below.refl _ _ | with_reducible assumption | with_reducible refine bel_alloc ?_ _ | with_reducible refine bel_drew ?_ | with_reducible refine bel_drewN ?_ _ | (with_reducible refine bel_set ?_ ?_ _; rotate_left; ((try simp); (try omega)))))
      clear hK K
      refine stepT_end 3 (by kernel_rfl) rfl (by kernel_rfl) (fun K hK => ?_)
      go_simp
      refine hK.out _ _ ?_
      clear hK K
      refine stepT_end 4 (by kernel_rfl) rfl (by kernel_rfl) (fun K hK => ?_)
      go_simp
      refine hK.out _ _ ?_
      clear hK K
      refine stepT_end 5 (by kernel_rfl) rfl (by kernel_rfl) (fun K hK => ?_)
      go_simp
      refine hK.out _ _ ?_
      clear hK K
      refine doneT (by kernel_rfl) ?_ _
      go_wp2_with fail
      refine (hR _ (by repeat (first | with_reducible exact Below.refl _ _ | with_reducible assumption | with_reducible refine bel_alloc ?_ _ | with_reducible refine bel_drew ?_ | with_reducible refine bel_drewN ?_ _ | (with_reducible refine bel_set ?_ ?_ _; rotate_left; ((try simp); (try omega)))))).mono ?_
      rintro e w3 ⟨rfl, hb1⟩
      have hccw3 : ∀ b o, b < w2.heap.size → w3.cell? ⟨b, o, none⟩ = w2.cell? ⟨b, o, none⟩ := (bcell hb1).1
      have hsw3 : w.heap.size < w3.heap.size := (by have := hb1.size; omega)
      have hBw3 : Below w.heap.size w w3 := (bel_then (by repeat (first | with_reducible exact Below.refl _ _ | with_reducible assumption | with_reducible refine bel_alloc ?_ _ | with_reducible refine bel_drew ?_ | with_reducible refine bel_drewN ?_ _ | (with_reducible refine bel_set ?_ ?_ _; rotate_left; ((try simp); (try omega))))) hb1)
      clear hb1
      go_wp2_with fail
      refine (hN _ (by repeat (first | with_reducible exact Below.refl _ _ | with_reducible assumption | with_reducible refine bel_alloc ?_ _ | with_reducible refine bel_drew ?_ | with_reducible refine bel_drewN ?_ _ | (with_reducible refine bel_set ?_ ?_ _; rotate_left; ((try simp); (try omega)))))).mono ?_
      rintro e w4 ⟨rfl, hb1⟩
      have hccw4 : ∀ b o, b < w3.heap.size → w4.cell? ⟨b, o, none⟩ = w3.cell? ⟨b, o, none⟩ := (bcell hb1).1
      have hsw4 : w.heap.size < w4.heap.size := (by have := hb1.size; omega)
      have hBw4 : Below w.heap.size w w4 := (bel_then (by repeat (first | with_reducible exact Below.refl _ _ | with_reducible assumption | with_reducible refine bel_alloc ?_ _ | with_reducible refine bel_drew ?_ | with_reducible refine bel_drewN ?_ _ | (with_reducible refine bel_set ?_ ?_ _; rotate_left; ((try simp); (try omega))))) hb1)
      clear hb1
      go_wp2_with fail
      go_ret
      refine ⟨congrArg (fun s => Ending.returned (.string s)) (fmt_of HI.out ?_), (by repeat (first | with_reducible exact Below.refl _ _ | with_reducible assumption | with_reducible refine bel_alloc ?_ _ | with_reducible refine bel_drew ?_ | with_reducible refine bel_drewN ?_ _ | (with_reducible refine bel_set ?_ ?_ _; rotate_left; ((try simp); (try omega)))))⟩
      have h1 := HI.out.eW
      have h2 := HI.out.eR
      have h3 := HI.out.eN
      have h4 := HE.out
      clear HI HE
      simp [insNamed] at h4
      simp [ByteArray.data_append, piecesOf, joinWith, h1, h2, h3, h4]
    · first | (replace he : t.toList.isEmpty = true := he) | (replace he : t.toList.isEmpty = false := he)
      go_enter Tryd.func20, Tryd.ntmps20
      go_wp2_with (first
        | (go_at_call 42; refine (hc _).mono ?_; rintro e w1 ⟨rfl, hb1⟩; obtain ⟨hcc, hff, hzz⟩ := bcell hb1; (try simp at hzz); have hs0 : w.heap.size < w1.heap.size := (by omega); have hB1 : Below w.heap.size w w1 := (bel_then (by repeat (first | with_reducible exact Below.refl _ _ | with_reducible assumption | with_reducible refine bel_alloc ?_ _ | with_reducible refine bel_drew ?_ | with_reducible refine bel_drewN ?_ _ | (with_reducible refine bel_set ?_ ?_ _; rotate_left; ((try simp); (try omega))))) hb1); clear hb1))
      have hS : ∀ w9, Below w1.heap.size w1 w9 → w9.cell? ⟨w.heap.size, 0, none⟩ = some (.int .i64 8) := fun w9 hb => (hb.cell (p := ⟨w.heap.size, 0, none⟩) (by (try simp); (try omega))).trans (by go_simp)
      refine wp_regionT (S := (fun w9 => w9.cell? ⟨w.heap.size, 0, none⟩ = some (.int .i64 8))) [3, 4, 5] (by kernel_rfl) (by (try dsimp only); exact hS _ (by repeat (first | with_reducible exact Below.refl _ _ | with_reducible assumption | with_reducible refine bel_alloc ?_ _ | with_reducible refine bel_drew ?_ | with_reducible refine bel_drewN ?_ _ | (with_reducible refine bel_set ?_ ?_ _; rotate_left; ((try simp); (try omega)))))) (fun hHeld => ?_)
      refine takeT_read (i := 1) 6 8 (v := ?x8_v1) rfl rfl (by kernel_rfl) (by kernel_rfl) (by kernel_rfl) (by kernel_rfl) (by kernel_rfl) (by kernel_rfl) (fun _ _ _ h => h) (by rfl) ?x8_hy1 (by assumption) ?x8_rest1
      case x8_hy1 => (intro w hSw; (try dsimp only at hSw); go_simp; (try with_reducible rfl))
      try simp only [Act.put, List.setIfInBounds_toArray, List.set_cons_zero, List.set_cons_succ]
      refine takeT_read (i := 2) 6 9 (v := ?x8_v2) rfl rfl (by kernel_rfl) (by kernel_rfl) (by kernel_rfl) (by kernel_rfl) (by kernel_rfl) (by kernel_rfl) (fun _ _ _ h => h) (by rfl) ?x8_hy2 (by assumption) ?x8_rest2
      case x8_hy2 => (intro w hSw; (try dsimp only at hSw); go_simp; (try with_reducible rfl))
      try simp only [Act.put, List.setIfInBounds_toArray, List.set_cons_zero, List.set_cons_succ]
      refine stepT 0 (by kernel_rfl) rfl (fun K hK => ?_)
      go_simp
      (go_at_call 38; refine (specWords_any _).mono ?_; rintro e w2 ⟨rfl, hb1, hcell⟩; have hwc : w2.cell? ⟨w1.heap.size, 8, none⟩ = some (.string sw) := ((hcell 8 (by decide) (by decide)).trans (congrArg (fun s => some (Value.string s)) HSW.out)); have hBw2 : Below w1.heap.size w1 w2 := (bel_then (by repeat (first | with_reducible exact Below.refl _ _ | with_reducible assumption | with_reducible refine bel_alloc ?_ _ | with_reducible refine bel_drew ?_ | with_reducible refine bel_drewN ?_ _ | (with_reducible refine bel_set ?_ ?_ _; rotate_left; ((try simp); (try omega))))) hb1); obtain ⟨hcc2, hff2, hzz2⟩ := bcell hBw2; have hs2 : w.heap.size < w2.heap.size := (by omega); have hB2 : Below w.heap.size w w2 := (bel_then (by repeat (first | with_reducible exact Below.refl _ _ | with_reducible assumption | with_reducible refine bel_alloc ?_ _ | with_reducible refine bel_drew ?_ | with_reducible refine bel_drewN ?_ _ | (with_reducible refine bel_set ?_ ?_ _; rotate_left; ((try simp); (try omega))))) hb1); clear hb1 hcell)
      try go_wp2_with fail
      refine hK.out _ _ ?_ (fun hHeld => ?_)
      · (try dsimp only)
        exact hS _ (by repeat (first | with_reducible exact Below.refl _ _ | with_reducible assumption | with_reducible refine bel_alloc ?_ _ | with_reducible refine bel_drew ?_ | with_reducible refine bel_drewN ?_ _ | (with_reducible refine bel_set ?_ ?_ _; rotate_left; ((try simp); (try omega)))))
      clear hK K
      refine stepT_end 3 (by kernel_rfl) rfl (by kernel_rfl) (fun K hK => ?_)
      go_simp
      refine hK.out _ _ ?_
      clear hK K
      refine stepT_end 4 (by kernel_rfl) rfl (by kernel_rfl) (fun K hK => ?_)
      go_simp
      refine hK.out _ _ ?_
      clear hK K
      refine stepT_end 5 (by kernel_rfl) rfl (by kernel_rfl) (fun K hK => ?_)
      go_simp
      refine hK.out _ _ ?_
      clear hK K
      refine doneT (by kernel_rfl) ?_ _
      go_wp2_with fail
      refine (hR _ (by repeat (first | with_reducible exact Below.refl _ _ | with_reducible assumption | with_reducible refine bel_alloc ?_ _ | with_reducible refine bel_drew ?_ | with_reducible refine bel_drewN ?_ _ | (with_reducible refine bel_set ?_ ?_ _; rotate_left; ((try simp); (try omega)))))).mono ?_
      rintro e w3 ⟨rfl, hb1⟩
      have hccw3 : ∀ b o, b < w2.heap.size → w3.cell? ⟨b, o, none⟩ = w2.cell? ⟨b, o, none⟩ := (bcell hb1).1
      have hsw3 : w.heap.size < w3.heap.size := (by have := hb1.size; omega)
      have hBw3 : Below w.heap.size w w3 := (bel_then (by repeat (first | with_reducible exact Below.refl _ _ | with_reducible assumption | with_reducible refine bel_alloc ?_ _ | with_reducible refine bel_drew ?_ | with_reducible refine bel_drewN ?_ _ | (with_reducible refine bel_set ?_ ?_ _; rotate_left; ((try simp); (try omega))))) hb1)
      clear hb1
      go_wp2_with fail
      refine (hN _ (by repeat (first | with_reducible exact Below.refl _ _ | with_reducible assumption | with_reducible refine bel_alloc ?_ _ | with_reducible refine bel_drew ?_ | with_reducible refine bel_drewN ?_ _ | (with_reducible refine bel_set ?_ ?_ _; rotate_left; ((try simp); (try omega)))))).mono ?_
      rintro e w4 ⟨rfl, hb1⟩
      have hccw4 : ∀ b o, b < w3.heap.size → w4.cell? ⟨b, o, none⟩ = w3.cell? ⟨b, o, none⟩ := (bcell hb1).1
      have hsw4 : w.heap.size < w4.heap.size := (by have := hb1.size; omega)
      have hBw4 : Below w.heap.size w w4 := (bel_then (by repeat (first | with_reducible exact Below.refl _ _ | with_reducible assumption | with_reducible refine bel_alloc ?_ _ | with_reducible refine bel_drew ?_ | with_reducible refine bel_drewN ?_ _ | (with_reducible refine bel_set ?_ ?_ _; rotate_left; ((try simp); (try omega))))) hb1)
      clear hb1
      go_wp2_with fail
      go_ret
      refine ⟨congrArg (fun s => Ending.returned (.string s)) (fmt_of HI.out ?_), (by repeat (first | with_reducible exact Below.refl _ _ | with_reducible assumption | with_reducible refine bel_alloc ?_ _ | with_reducible refine bel_drew ?_ | with_reducible refine bel_drewN ?_ _ | (with_reducible refine bel_set ?_ ?_ _; rotate_left; ((try simp); (try omega)))))⟩
      have h1 := HI.out.eW
      have h2 := HI.out.eR
      have h3 := HI.out.eN
      have h4 := HE.out
      clear HI HE
      simp [insNamed] at h4
      simp [ByteArray.data_append, piecesOf, joinWith, h1, h2, h3, h4]
    · first | (replace he : t.toList.isEmpty = true := he) | (replace he : t.toList.isEmpty = false := he)
      go_enter Tryd.func20, Tryd.ntmps20
      go_wp2_with (first
        | (go_at_call 42; refine (hc _).mono ?_; rintro e w1 ⟨rfl, hb1⟩; obtain ⟨hcc, hff, hzz⟩ := bcell hb1; (try simp at hzz); have hs0 : w.heap.size < w1.heap.size := (by omega); have hB1 : Below w.heap.size w w1 := (bel_then (by repeat (first | with_reducible exact Below.refl _ _ | with_reducible assumption | with_reducible refine bel_alloc ?_ _ | with_reducible refine bel_drew ?_ | with_reducible refine bel_drewN ?_ _ | (with_reducible refine bel_set ?_ ?_ _; rotate_left; ((try simp); (try omega))))) hb1); clear hb1))
      have hS : ∀ w9, Below w1.heap.size w1 w9 → w9.cell? ⟨w.heap.size, 0, none⟩ = some (.int .i64 9) := fun w9 hb => (hb.cell (p := ⟨w.heap.size, 0, none⟩) (by (try simp); (try omega))).trans (by go_simp)
      refine wp_regionT (S := (fun w9 => w9.cell? ⟨w.heap.size, 0, none⟩ = some (.int .i64 9))) [3, 4, 5] (by kernel_rfl) (by (try dsimp only); exact hS _ (by repeat (first | with_reducible exact Below.refl _ _ | with_reducible assumption | with_reducible refine bel_alloc ?_ _ | with_reducible refine bel_drew ?_ | with_reducible refine bel_drewN ?_ _ | (with_reducible refine bel_set ?_ ?_ _; rotate_left; ((try simp); (try omega)))))) (fun hHeld => ?_)
      refine takeT_read (i := 1) 6 8 (v := ?x9_v1) rfl rfl (by kernel_rfl) (by kernel_rfl) (by kernel_rfl) (by kernel_rfl) (by kernel_rfl) (by kernel_rfl) (fun _ _ _ h => h) (by rfl) ?x9_hy1 (by assumption) ?x9_rest1
      case x9_hy1 => (intro w hSw; (try dsimp only at hSw); go_simp; (try with_reducible rfl))
      try simp only [Act.put, List.setIfInBounds_toArray, List.set_cons_zero, List.set_cons_succ]
      refine takeT_read (i := 2) 6 9 (v := ?x9_v2) rfl rfl (by kernel_rfl) (by kernel_rfl) (by kernel_rfl) (by kernel_rfl) (by kernel_rfl) (by kernel_rfl) (fun _ _ _ h => h) (by rfl) ?x9_hy2 (by assumption) ?x9_rest2
      case x9_hy2 => (intro w hSw; (try dsimp only at hSw); go_simp; (try with_reducible rfl))
      try simp only [Act.put, List.setIfInBounds_toArray, List.set_cons_zero, List.set_cons_succ]
      refine stepT 0 (by kernel_rfl) rfl (fun K hK => ?_)
      go_simp
      (go_at_call 38; refine (specWords_any _).mono ?_; rintro e w2 ⟨rfl, hb1, hcell⟩; have hwc : w2.cell? ⟨w1.heap.size, 9, none⟩ = some (.string sw) := ((hcell 9 (by decide) (by decide)).trans (congrArg (fun s => some (Value.string s)) HSW.out)); have hBw2 : Below w1.heap.size w1 w2 := (bel_then (by repeat (first | with_reducible exact Below.refl _ _ | with_reducible assumption | with_reducible refine bel_alloc ?_ _ | with_reducible refine bel_drew ?_ | with_reducible refine bel_drewN ?_ _ | (with_reducible refine bel_set ?_ ?_ _; rotate_left; ((try simp); (try omega))))) hb1); obtain ⟨hcc2, hff2, hzz2⟩ := bcell hBw2; have hs2 : w.heap.size < w2.heap.size := (by omega); have hB2 : Below w.heap.size w w2 := (bel_then (by repeat (first | with_reducible exact Below.refl _ _ | with_reducible assumption | with_reducible refine bel_alloc ?_ _ | with_reducible refine bel_drew ?_ | with_reducible refine bel_drewN ?_ _ | (with_reducible refine bel_set ?_ ?_ _; rotate_left; ((try simp); (try omega))))) hb1); clear hb1 hcell)
      try go_wp2_with fail
      refine hK.out _ _ ?_ (fun hHeld => ?_)
      · (try dsimp only)
        exact hS _ (by repeat (first | with_reducible exact Below.refl _ _ | with_reducible assumption | with_reducible refine bel_alloc ?_ _ | with_reducible refine bel_drew ?_ | with_reducible refine bel_drewN ?_ _ | (with_reducible refine bel_set ?_ ?_ _; rotate_left; ((try simp); (try omega)))))
      clear hK K
      refine stepT_end 3 (by kernel_rfl) rfl (by kernel_rfl) (fun K hK => ?_)
      go_simp
      refine hK.out _ _ ?_
      clear hK K
      refine stepT_end 4 (by kernel_rfl) rfl (by kernel_rfl) (fun K hK => ?_)
      go_simp
      refine hK.out _ _ ?_
      clear hK K
      refine stepT_end 5 (by kernel_rfl) rfl (by kernel_rfl) (fun K hK => ?_)
      go_simp
      refine hK.out _ _ ?_
      clear hK K
      refine doneT (by kernel_rfl) ?_ _
      go_wp2_with fail
      go_ret
      refine ⟨congrArg (fun s => Ending.returned (.string s)) (fmt_of HI.out ?_), (by repeat (first | with_reducible exact Below.refl _ _ | with_reducible assumption | with_reducible refine bel_alloc ?_ _ | with_reducible refine bel_drew ?_ | with_reducible refine bel_drewN ?_ _ | (with_reducible refine bel_set ?_ ?_ _; rotate_left; ((try simp); (try omega)))))⟩
      have h1 := HI.out.eW
      have h2 := HI.out.eR
      have h3 := HI.out.eN
      have h4 := HE.out
      clear HI HE
      simp [insNamed] at h4
      simp [piecesOf, joinWith, h1, h4]
end Go.Proofs.YtlicnppfgfjkgaaDoor
