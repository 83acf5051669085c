/-
  Words for walks along the cursor of the draws; paths, bytes. No conditions.
-/
import Derived.Test.YtlicnppfgfjkgaaZB
import Derived.Test.YtlicnppfgfjkgaaZDrawUsed
import Derived.Test.YtlicnppfgfjkgaaZA
namespace Go.Proofs.Ytlicnppfgfjkgaa
open Go.ChangeShapes Go.WideShapes Go.RowKit
set_option linter.unusedVariables false

/-- a call on the cursor p led from a to b -/
def Turn (p : Nat) (a b : World) : Prop := Only [p] a b
theorem Turn.mk {p : Nat} {a b : World} (h : Only [p] a b) : Turn p a b := h
theorem Turn.only {p : Nat} {a b w : World} (h : Turn p a b) (k : Only [p] w a) : Only [p] w b := k.trans h
theorem Turn.rep {α : Type} {c : Cod α} {p : Nat} {a b : World} {vs : List Value} {x : α} {F : List Nat} (h : Turn p a b) (hp : p ∉ F) (k : c.rep a vs x F) : c.rep b vs x F :=
  Cod.only k h fun y hy hm => hp (by simp at hm; exact hm ▸ hy)
theorem ocellA {W w1 : World} {p : Nat} {o : Obj} (hb : Only [p] (W.alloc o) w1) : (∀ b o, b < W.heap.size → ¬ b = p → w1.cell? ⟨b, o, none⟩ = W.cell? ⟨b, o, none⟩) ∧ (∀ b o, b < W.heap.size → ¬ b = p → w1.frozen? ⟨b, o, none⟩ = W.frozen? ⟨b, o, none⟩) ∧ W.heap.size + 1 ≤ w1.heap.size := by
  have h1 : Only [p] W w1 := (Only.alloc (Only.refl _ _) _).trans hb
  obtain ⟨c, f, -⟩ := ocell h1
  exact ⟨c, f, by have := hb.size; simpa using this⟩
set_option maxHeartbeats 2000000 in
theorem l15Path_any (p : Nat) (w : World) (h : Cur w p) :
    Calls Try.prog 131 #[.pointer (some ⟨p, 0, none⟩)] w (Draws p w fun v _ => ∃ x : ByteArray, v = .string x ∧ x.size ≤ 100) := by
  have hpl := h.lt
  go_enter Try.func131, Try.ntmps131
  go_wp2_with fail
  refine (l1Str_any p _ [⟨#[105, 110, 100, 101, 120]⟩, ⟨#[115, 116, 121, 108, 101]⟩, ⟨#[99, 111, 100, 101]⟩, ⟨#[100, 97, 116, 97]⟩] _ _ (h.alloc _) (by exact rowStr w _ [⟨#[105, 110, 100, 101, 120]⟩, ⟨#[115, 116, 121, 108, 101]⟩, ⟨#[99, 111, 100, 101]⟩, ⟨#[100, 97, 116, 97]⟩] 4 rfl (by simp) (by decide) (by decide)) (by simp) (by simp; omega)).mono ?_
  rintro e w1 ⟨v, rfl, ⟨x, rfl, hx⟩, ho, hc⟩
  go_wp2_with fail
  go_ret
  exact ⟨_, rfl, ⟨_, rfl, (by decide : ∀ x ∈ ([⟨#[105, 110, 100, 101, 120]⟩, ⟨#[115, 116, 121, 108, 101]⟩, ⟨#[99, 111, 100, 101]⟩, ⟨#[100, 97, 116, 97]⟩] : List ByteArray), x.size ≤ 100) x hx⟩, (Only.alloc (Only.refl _ _) _).trans ho, hc⟩
theorem byte_nat {q : Int} (h0 : 0 ≤ q) (h1 : q ≤ 255) : (((UInt8.ofNat q.toNat).toNat : Nat) : Int) = q := by
  rw [UInt8.toNat_ofNat']; omega
set_option maxRecDepth 100000 in
set_option maxHeartbeats 4000000 in
theorem l1Bytes_any (p : Nat) (n : Int) (w : World) (h : Cur w p) (hn : n ≤ 256) :
    Calls Try.prog 137 #[.pointer (some ⟨p, 0, none⟩), .int .i64 n] w (Draws p w fun v w' => ∃ xs : List UInt8, ∃ F, cUS.rep w' [v] xs F ∧ xs.length ≤ 256 ∧ Fresh w.heap.size F) := by
  obtain ⟨i0, hi0, hz0, hz1, hz2⟩ := info_parts infoU8
  have hpl := h.lt
  go_enter Try.func137, Try.ntmps137
  go_wp2
  go_loopw [5, 6] (fun a i wr => ∃ k : Nat, i = .int .i64 k ∧ k ≤ 256 ∧ (∃ xs : List UInt8, Own cU 5 w.heap.size wr a xs [] ∧ xs.length = k) ∧ Only [p] w wr ∧ Cur wr p) (fun _ i _ => 256 - (intOf i).toNat)
  case atStart => exact ⟨0, rfl, by omega, ⟨[], Own.empty _, rfl⟩, (by repeat (first | with_reducible exact Only.refl _ _ | with_reducible assumption | with_reducible refine Only.alloc ?_ _ | with_reducible refine Only.drew ?_ | with_reducible refine Only.drewN ?_ _ | (with_reducible refine Only.setNew ?_ ?_ _; rotate_left; ((try simp); (try omega))))), (by repeat (first | with_reducible assumption | with_reducible refine Cur.alloc ?_ _ | with_reducible refine Cur.drew ?_ | with_reducible refine Cur.drewN ?_ _ | (with_reducible refine Cur.set ?_ ?_ _; rotate_left; ((try simp); (try omega)))))⟩
  case round =>
    obtain ⟨k, rfl, hk, ⟨xs, hown, hxl⟩, hO, hcur⟩ := hrel
    have HO := Lib.hid hown
    have HX := Lib.hid hxl
    clear hown hxl
    by_cases hpos : (k : Int) < n
    · go_wp2_with fail
      refine (l1Byte_any p _ hcur).mono ?_
      rintro e w2 ⟨v, rfl, ⟨q, rfl, hq0, hq1⟩, ho, hc2⟩
      have hown2 : Own cU 5 w.heap.size w2 _ xs [] := HO.out.keep (fun g hg => ho.block g (HO.out.lt g hg).2 (by have := (HO.out.lt g hg).1; simp; omega)) (fun b hb => by simp at hb)
      have hO2 : Only [p] w w2 := hO.trans ho
      have hz2' := hO2.size
      have HO2 := Lib.hid hown2
      clear hown2 ho
      go_wp2_with (at_builtin; refine wpList_app (c := cU) (B := w.heap.size) (xs := xs) (ys := [UInt8.ofNat q.toNat]) (Fi := []) (Fy := []) _ rfl _ _ _ rfl i0 _ _ Try.underlying22 hi0 hz0 hz1 hz2 rfl (by decide) rfl (HO2.out.bel (by repeat (first | with_reducible exact Below.refl _ _ | with_reducible assumption | with_reducible refine bel_alloc ?_ _ | with_reducible refine bel_drew ?_ | with_reducible refine bel_drewN ?_ _ | (with_reducible refine bel_set ?_ ?_ _; rotate_left; ((try simp); (try omega)))))) (.slice (some ⟨w2.heap.size, 0, none⟩) 1 1) rfl (src_u8 (by rw [byte_nat hq0 hq1]; try omega)) (by have := HX.out; unfold maxLen; simp; omega) (by have := HX.out; simp; omega) (by (try simp); (try omega)) (by simp) ?_)
      intro v3 w3 ho3 hg3 hat3
      have hlo := HO2.out.lt
      have hO3 : Only [p] w w3 := (show Only [p] w _ from (by repeat (first | with_reducible exact Only.refl _ _ | with_reducible assumption | with_reducible refine Only.alloc ?_ _ | with_reducible refine Only.drew ?_ | with_reducible refine Only.drewN ?_ _ | (with_reducible refine Only.setNew ?_ ?_ _; rotate_left; ((try simp); (try omega)))))).grown hg3 (fun g hg => (hlo g hg).1)
      have hc3 : Cur w3 p := (show Cur _ p from (by repeat (first | with_reducible assumption | with_reducible refine Cur.alloc ?_ _ | with_reducible refine Cur.drew ?_ | with_reducible refine Cur.drewN ?_ _ | (with_reducible refine Cur.set ?_ ?_ _; rotate_left; ((try simp); (try omega)))))).grown hg3 (fun g hg => by have := (hlo g hg).1; omega)
      have HO3 := Lib.hid ho3
      clear ho3 hg3 hat3 hlo
      go_wp2_with fail
      go_roundw
      case rel => exact ⟨k + 1, by go_num, by omega, ⟨xs ++ [UInt8.ofNat q.toNat], HO3.out, by have := HX.out; simp; omega⟩, hO3, hc3⟩
      case measure => simp [intOf]; omega
    · obtain ⟨G, hr2, hf2, -⟩ := HO.out.fresh (hw := by decide) (hw2 := by decide)
      have HR := Lib.hid hr2
      clear hr2
      go_wp2
      go_ret
      exact ⟨_, rfl, ⟨xs, G, HR.out, by have := HX.out; omega, hf2⟩, hO, hcur⟩
end Go.Proofs.Ytlicnppfgfjkgaa
