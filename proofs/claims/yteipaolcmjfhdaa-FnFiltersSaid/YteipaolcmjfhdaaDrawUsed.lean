/-
  The draw of the versions used. No conditions.
-/
import Derived.Test.YteipaolcmjfhdaaDraw
namespace Go.Proofs.Yteipaolcmjfhdaa
open Go.ChangeShapes Go.WideShapes Go.RowKit
set_option linter.unusedVariables false

theorem Only.grown {F : List Nat} {a b c : World} {row : Option Nat} (h : Only F a b) (hg : b.grownBy c row) (hr : ∀ g, row = some g → a.heap.size ≤ g) : Only F a c :=
  ⟨hg.os.trans h.os, hg.tape.trans h.tape, hg.output.trans h.output, Nat.le_trans h.size hg.size, fun k hk hn => (hg.block k (Nat.lt_of_lt_of_le hk h.size) (fun e => by have := hr k e.symm; omega)).trans (h.block k hk hn)⟩
theorem Cur.grown {w c : World} {p : Nat} {row : Option Nat} (h : Cur w p) (hg : w.grownBy c row) (hr : ∀ g, row = some g → p < g) : Cur c p := by
  obtain ⟨A, n, cp, xs, F, i, hh, h0, h1, h2, f1, f2, hrp, hp, hl, hi, hn⟩ := h
  have hb : c.heap[p]? = w.heap[p]? := hg.block p hl (fun e => by have := hr p e.symm; omega)
  exact ⟨A, n, cp, xs, F, i, hh, (World.cell?_of_block hb).trans h0, (World.cell?_of_block hb).trans h1, (World.cell?_of_block hb).trans h2, (World.frozen?_of_block hb).trans f1, (World.frozen?_of_block hb).trans f2, Cod.keep _ hrp fun b hm => hg.block b (Cod.lt _ hrp b hm) (fun e => by have h8 := hr b e.symm; have h9 := hp b hm; omega), hp, Nat.lt_of_lt_of_le hl hg.size, hi, hn⟩
set_option maxRecDepth 100000 in
set_option maxHeartbeats 4000000 in
theorem l18Used_any (p : Nat) (w : World) (h : Cur w p) :
    Calls Try.prog 130 #[.pointer (some ⟨p, 0, none⟩)] w (Draws p w fun v w' => ∃ xs : List Int, ∃ F, cIS.rep w' [v] xs F ∧ xs.length ≤ 2 ∧ Fresh w.heap.size F) := by
  obtain ⟨i0, hi0, hz0, hz1, hz2⟩ := info_parts infoInt
  have hpl := h.lt
  go_enter Try.func130, Try.ntmps130
  go_wp2_with fail
  refine (l1Below_any p _ _ (h.alloc _) (by omega)).mono ?_
  rintro e w1 ⟨v, rfl, ⟨r, rfl, hr0, hr1⟩, ho, hc⟩
  have hO1 : Only [p] w w1 := (Only.alloc (Only.refl _ _) _).trans ho
  clear ho
  go_wp2
  go_loopw [3, 4] (fun a i wr => ∃ k : Int, i = .int .i64 k ∧ 0 ≤ k ∧ k ≤ 2 ∧ (∃ xs : List Int, Own cI 3 w.heap.size wr a xs [] ∧ xs.length + k.toNat ≤ 2) ∧ Only [p] w wr ∧ Cur wr p) (fun _ i _ => (intOf i).toNat)
  case atStart => exact ⟨r, rfl, hr0, by omega, ⟨[], Own.empty _, by simp; omega⟩, hO1, hc⟩
  case round =>
    obtain ⟨k, rfl, hk0, hk2, ⟨xs, hown, hxl⟩, hO, hcur⟩ := hrel
    have HO := Lib.hid hown
    clear hown
    by_cases hpos : 0 < k
    · go_wp2_with fail
      refine (l1Below_any p _ _ hcur (by omega)).mono ?_
      rintro e w2 ⟨v, rfl, ⟨q, rfl, hq0, hq1⟩, ho, hc2⟩
      have hown2 : Own cI 3 w.heap.size w2 _ xs [] := HO.out.keep (fun g hg => ho.block g (HO.out.lt g hg).2 (by have := (HO.out.lt g hg).1; simp; omega)) (fun b hb => by simp at hb)
      have hO2 : Only [p] w w2 := hO.trans ho
      have hz2' := hO2.size
      have HO2 := Lib.hid hown2
      clear hown2 ho
      go_wp2_with (at_builtin; refine wpList_app (c := cI) (B := w.heap.size) (xs := xs) (ys := [q]) (Fi := []) (Fy := []) _ rfl _ _ _ rfl i0 _ _ Try.underlying24 hi0 hz0 hz1 hz2 rfl (by decide) rfl (HO2.out.bel (by repeat (first | with_reducible exact Below.refl _ _ | with_reducible assumption | with_reducible refine bel_alloc ?_ _ | with_reducible refine bel_drew ?_ | with_reducible refine bel_drewN ?_ _ | (with_reducible refine bel_set ?_ ?_ _; rotate_left; ((try simp); (try omega)))))) (.slice (some ⟨w2.heap.size, 0, none⟩) 1 1) rfl (src_int (by omega)) (by unfold maxLen; simp; omega) (by simp; omega) (by (try simp); (try omega)) (by simp) ?_)
      intro v3 w3 ho3 hg3 hat3
      have hlo := HO2.out.lt
      have hO3 : Only [p] w w3 := (show Only [p] w _ from (by repeat (first | with_reducible exact Only.refl _ _ | with_reducible assumption | with_reducible refine Only.alloc ?_ _ | with_reducible refine Only.drew ?_ | with_reducible refine Only.drewN ?_ _ | (with_reducible refine Only.setNew ?_ ?_ _; rotate_left; ((try simp); (try omega)))))).grown hg3 (fun g hg => (hlo g hg).1)
      have hc3 : Cur w3 p := (show Cur _ p from (by repeat (first | with_reducible assumption | with_reducible refine Cur.alloc ?_ _ | with_reducible refine Cur.drew ?_ | with_reducible refine Cur.drewN ?_ _ | (with_reducible refine Cur.set ?_ ?_ _; rotate_left; ((try simp); (try omega)))))).grown hg3 (fun g hg => by have := (hlo g hg).1; omega)
      have HO3 := Lib.hid ho3
      clear ho3 hg3 hat3 hlo
      go_wp2_with fail
      go_roundw
      case rel => exact ⟨k - 1, by go_num, by omega, by omega, ⟨xs ++ [q], HO3.out, by simp; omega⟩, hO3, hc3⟩
      case measure => simp [intOf]; omega
    · obtain ⟨G, hr2, hf2, -⟩ := HO.out.fresh (hw := by decide) (hw2 := by decide)
      have HR := Lib.hid hr2
      clear hr2
      go_wp2
      go_ret
      exact ⟨_, rfl, ⟨xs, G, HR.out, by omega, hf2⟩, hO, hcur⟩
end Go.Proofs.Yteipaolcmjfhdaa
