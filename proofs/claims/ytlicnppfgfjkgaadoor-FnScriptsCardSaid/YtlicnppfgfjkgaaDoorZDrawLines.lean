/-
  The draw of a script's text. No conditions but the input's length.
-/
import Derived.Test.YtlicnppfgfjkgaaDoorZDrawText
import Derived.Test.YtlicnppfgfjkgaaDoorZDrawScr
namespace Go.Proofs.YtlicnppfgfjkgaaDoor
open Go.ChangeShapes Go.WideShapes Go.RowKit
set_option linter.unusedVariables false

set_option maxRecDepth 100000 in
set_option maxHeartbeats 8000000 in
theorem drawParseLines_any (v : Value) (xs : List UInt8) (F : List Nat) (w : World) (h : cUS.rep w [v] xs F) (hn : xs.length ≤ 1048576) :
    Calls Tryd.prog 14 #[v] w fun e w' => ∃ s : ByteArray, e = .returned (.string s) ∧ s.size ≤ 1000 ∧ Below w.heap.size w w' := by
  go_enter Tryd.func14, Tryd.ntmps14
  go_wp2_with fail
  refine (l1New_any v xs F _ h hn).mono ?_
  rintro e w1 ⟨rfl, hb1, hc1⟩
  have hz1 := hb1.size
  have hon : ∀ W, Only [w.heap.size] w1 W → Below w.heap.size w W := fun W ho => ⟨ho.os.trans hb1.os, ho.tape.trans hb1.tape, ho.output.trans hb1.output, by have := ho.size; omega, fun b hb => (ho.block b (by omega) (by simp; omega)).trans (hb1.block b hb)⟩
  go_wp2_with fail
  refine (l13Script_any _ _ hc1).mono ?_
  rintro e w2 ⟨v2, rfl, ⟨ys, hown, hsm⟩, ho2, hc2⟩
  have hz2 := ho2.size
  obtain ⟨G, hr2, -, -⟩ := hown.fresh (hw := by decide) (hw2 := by decide)
  obtain ⟨A2, c2, rfl⟩ := hown.slice
  have hlen := hsm.1
  have HR := Lib.hid (And.intro hr2 hsm)
  have HC := Lib.hid (And.intro hc2 (And.intro ho2 hon))
  clear hr2 hsm hown hc2 ho2 hon hc1 hb1
  obtain ⟨n, hnn⟩ : ∃ n, ys.length = n := ⟨_, rfl⟩
  have HN := Lib.hid hnn
  rw [hnn] at hlen ⊢
  clear hnn
  go_wp2_with fail
  go_loopw [5, 6] (fun s i wr => ∃ (k : Nat) (sb : ByteArray), i = .int .i64 k ∧ s = .string sb ∧ k ≤ n ∧ sb.size ≤ 61 * k ∧ Below w2.heap.size w2 wr) (fun _ i _ => n - (intOf i).toNat)
  case atStart => exact ⟨0, ⟨#[]⟩, rfl, rfl, Nat.zero_le _, by decide, Below.refl _ _⟩
  case round =>
    obtain ⟨k, sb, rfl, rfl, hkn, hsb, hB⟩ := hrel
    have h1 : (⟨#[59]⟩ : ByteArray).size = 1 := rfl
    by_cases hlt : k < n
    · have hki : (k : Int) < (n : Int) := by omega
      have hkx : k < ys.length := by rw [HN.out]; exact hlt
      obtain ⟨g, o, vs, F1, rfl, hgF, hxx, -, hc⟩ := cL_get (hw := by decide) (hw2 := by decide) (Cod.bel HR.out.1 hB) hkx
      obtain ⟨rfl, -, hok⟩ := TIns.out hxx
      have p0 : wr.cell? ⟨g, o + k * 4, none⟩ = some _ := (hc 0 _ rfl).1
      have p1 : wr.cell? ⟨g, o + k * 4 + 1, none⟩ = some _ := (hc 1 _ rfl).1
      have p2 : wr.cell? ⟨g, o + k * 4 + 2, none⟩ = some _ := (hc 2 _ rfl).1
      have p3 : wr.cell? ⟨g, o + k * 4 + 3, none⟩ = some _ := (hc 3 _ rfl).1
      clear hc hxx
      have hF := fun W => specFormatCells_any ys[k].kind ys[k].r ys[k].n ys[k].text W hok.h3
      have hfl := fmtL_len ys[k]
      rw [← baOf_size] at hfl
      generalize hsf : baOf (fmtL ⟨ys[k].kind, ys[k].r, ys[k].n, ys[k].text⟩) = sf at hF
      have hfs : sf.size ≤ 60 := by rw [← hsf]; exact hfl
      clear hsf hfl hok
      by_cases hk0 : (0 : Int) < (k : Int)
      · go_wp2_with fail
        refine (hF _).mono ?_
        rintro e w4 ⟨rfl, hb4⟩
        go_wp2_with fail
        go_roundw
        case rel => exact ⟨k + 1, _, by go_num, rfl, by omega, by simp; omega, bel_then hB hb4⟩
        case measure => simp [intOf]; omega
      · go_wp2_with fail
        refine (hF _).mono ?_
        rintro e w4 ⟨rfl, hb4⟩
        go_wp2_with fail
        go_roundw
        case rel => exact ⟨k + 1, _, by go_num, rfl, by omega, by simp; omega, bel_then hB hb4⟩
        case measure => simp [intOf]; omega
    · have hki : ¬ (k : Int) < (n : Int) := by omega
      have hcw := HC.out.1.bel hB
      have hO1 : Only [w.heap.size] w1 wr := HC.out.2.1.trans ⟨hB.os, hB.tape, hB.output, hB.size, fun b hb _ => hB.block b hb⟩
      have hss : sb.size ≤ 488 := by omega
      have HW := Lib.hid (And.intro hcw hO1)
      clear hcw hO1
      go_wp2_with fail
      refine (l1Once_any _ 5 _ HW.out.1 (by omega)).mono ?_
      rintro e w5 ⟨v5, rfl, ⟨b, rfl⟩, ho5, hc5⟩
      have hcl := hc5.lt
      cases b
      · go_wp2_with fail
        go_ret
        exact ⟨_, rfl, by omega, HC.out.2.2 _ (HW.out.2.trans ho5)⟩
      · go_wp2_with fail
        refine (l1Str_any _ _ [⟨#[59]⟩, ⟨#[59, 119, 104, 97, 116]⟩, ⟨#[120]⟩, ⟨#[59, 103, 111, 116, 111, 32, 49, 54]⟩] _ _ (hc5.alloc _) (by exact rowStr _ _ [⟨#[59]⟩, ⟨#[59, 119, 104, 97, 116]⟩, ⟨#[120]⟩, ⟨#[59, 103, 111, 116, 111, 32, 49, 54]⟩] 4 rfl (by simp) (by decide) (by decide)) (by simp) (by simp; omega)).mono ?_
        rintro e w6 ⟨v6, rfl, ⟨x, rfl, hx⟩, ho6, hc6⟩
        have hxs : x.size ≤ 100 := (by decide : ∀ x ∈ ([⟨#[59]⟩, ⟨#[59, 119, 104, 97, 116]⟩, ⟨#[120]⟩, ⟨#[59, 103, 111, 116, 111, 32, 49, 54]⟩] : List ByteArray), x.size ≤ 100) x hx
        clear hx
        go_wp2_with fail
        go_ret
        exact ⟨_, rfl, by simp; omega, HC.out.2.2 _ (HW.out.2.trans (ho5.trans ((Only.alloc (Only.refl _ _) _).trans ho6)))⟩
end Go.Proofs.YtlicnppfgfjkgaaDoor
