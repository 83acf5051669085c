/-
  The draw of a script. No conditions.
-/
import Derived.Test.YtlicnppfgfjkgaaZDrawIns
import Derived.Test.YtlicnppfgfjkgaaZA
namespace Go.Proofs.Ytlicnppfgfjkgaa
open Go.ChangeShapes Go.WideShapes Go.RowKit
set_option linter.unusedVariables false

theorem infoInsD : (Try.prog.info? 35).map (fun i => (i.zero, i.size, i.bytes)) = some (some (Value.agg #[.int .i64 0, .int .i64 0, .int .i64 0, .string ByteArray.empty]), 4, 40) := by kernel_rfl
theorem flat_InsD : Flat cIns := fun h => (TIns.out h).2.1
def SmallScript (xs : List TIns) : Prop := xs.length ≤ 8 ∧ ∀ x, x ∈ xs → SmallIns x
set_option maxRecDepth 100000 in
set_option maxHeartbeats 8000000 in
theorem l13Script_any (p : Nat) (w : World) (h : Cur w p) :
    Calls Try.prog 61 #[.pointer (some ⟨p, 0, none⟩)] w (Draws p w fun v w' => ∃ xs : List TIns, Own cIns 35 w.heap.size w' v xs [] ∧ SmallScript xs) := by
  obtain ⟨i0, hi0, hz0, hz1, hz2⟩ := info_parts infoInsD
  have hpl := h.lt
  go_enter Try.func61, Try.ntmps61
  go_wp2_with fail
  refine (l1Below_any p 8 _ h (by omega)).mono ?_
  rintro e w1 ⟨v, rfl, ⟨n, rfl, hn0, hn1⟩, ho1, hc1⟩
  have hz1' := ho1.size
  go_wp2_with fail
  go_loopw [4, 5] (fun o i wr => ∃ k : Nat, i = .int .i64 k ∧ (k : Int) ≤ n ∧ (∃ xs : List TIns, Own cIns 35 w.heap.size wr o xs [] ∧ xs.length = k ∧ ∀ x, x ∈ xs → SmallIns x) ∧ Only [p] w wr ∧ Cur wr p) (fun _ i _ => n.toNat - (intOf i).toNat)
  case atStart => exact ⟨0, rfl, by omega, ⟨[], Own.empty _, rfl, by simp⟩, (show Only [p] w _ from ho1.alloc _), hc1.alloc _⟩
  case round =>
    obtain ⟨k, rfl, hk, ⟨xs, hown, hxl, hsm⟩, hO, hcur⟩ := hrel
    have HO := Lib.hid hown
    have HX := Lib.hid (And.intro hxl hsm)
    clear hown hxl hsm
    have hszr := hO.size
    by_cases hpos : (k : Int) < n
    · go_wp2_with fail
      refine (l13Instr_any p n _ hcur (by omega)).mono ?_
      rintro e w2 ⟨v, rfl, ⟨x, rfl, hx⟩, ho, hc2⟩
      have hown2 : Own cIns 35 w.heap.size w2 _ xs [] := HO.out.keep (fun g hg => ho.block g (HO.out.lt g hg).2 (by have := (HO.out.lt g hg).1; simp; omega)) (fun b hb => by simp at hb)
      have hO2 : Only [p] w w2 := hO.trans ho
      have hsz2 := hO2.size
      have HO2 := Lib.hid hown2
      have HS := Lib.hid hx
      clear hown2 ho hx
      unfold TIns.val
      go_wp2_with (at_builtin; refine wpList_app (c := cIns) (B := w.heap.size) (xs := xs) (ys := [x]) (Fi := []) (Fy := []) _ rfl _ _ _ rfl i0 _ _ Try.underlying24 hi0 hz0 hz1 hz2 rfl (by decide) rfl (HO2.out.bel (by repeat (first | with_reducible exact Below.refl _ _ | with_reducible assumption | with_reducible refine bel_alloc ?_ _ | with_reducible refine bel_drew ?_ | with_reducible refine bel_drewN ?_ _ | (with_reducible refine bel_set ?_ ?_ _; rotate_left; ((try simp); (try omega)))))) (.slice (some ⟨w2.heap.size, 0, none⟩) 1 1) rfl (src_new 35 w2.heap.size rfl (TIns.mk_ HS.out.1)) (by have := HX.out.1; unfold maxLen; simp; omega) (by have := HX.out.1; simp; omega) (by (try simp); (try omega)) (by simp) ?_)
      intro v3 w3 ho3 hg3 hat3
      have hlo := HO2.out.lt
      have hO3 : Only [p] w w3 := (show Only [p] w _ from (by repeat (first | with_reducible exact Only.refl _ _ | with_reducible assumption | with_reducible refine Only.alloc ?_ _ | with_reducible refine Only.drew ?_ | with_reducible refine Only.drewN ?_ _ | (with_reducible refine Only.setNew ?_ ?_ _; rotate_left; ((try simp); (try omega)))))).grown hg3 (fun g hg => (hlo g hg).1)
      have hc3 : Cur w3 p := (show Cur _ p from (by repeat (first | with_reducible assumption | with_reducible refine Cur.alloc ?_ _ | with_reducible refine Cur.drew ?_ | with_reducible refine Cur.drewN ?_ _ | (with_reducible refine Cur.set ?_ ?_ _; rotate_left; ((try simp); (try omega)))))).grown hg3 (fun g hg => by have := (hlo g hg).1; omega)
      have HO3 := Lib.hid ho3
      clear ho3 hg3 hat3 hlo
      go_wp2_with fail
      go_roundw
      case rel => exact ⟨k + 1, by go_num, by omega, ⟨xs ++ [x], HO3.out, by have := HX.out.1; simp; omega, fun y hy => by
        rcases List.mem_append.1 hy with hy | hy
        · exact HX.out.2 y hy
        · rw [List.mem_singleton.1 hy]; exact HS.out⟩, hO3, hc3⟩
      case measure => simp [intOf]; omega
    · go_wp2
      go_ret
      exact ⟨_, rfl, ⟨xs, HO.out, by have := HX.out.1; omega, HX.out.2⟩, hO, hcur⟩
end Go.Proofs.Ytlicnppfgfjkgaa
