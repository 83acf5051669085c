/-
  Slices of Instr: eq. No conditions but the budget of the laws.
-/
import Derived.Test.YteipaolcmjfhdaaRows
import Derived.Test.YteipaolcmjfhdaaMem
import Derived.LoopTactic
import Derived.StillTailTactics
import Derived.Test.YteipaolcmjfhdaaTSIns
import Derived.Test.YteipaolcmjfhdaaEqIns
namespace Go.Proofs.Yteipaolcmjfhdaa
open Go.ChangeShapes Go.WideShapes Go.RowKit
set_option linter.unusedVariables false

set_option maxRecDepth 100000 in
set_option maxHeartbeats 1000000 in
theorem eqInstrS_any (v1 v2 : Value) (xs : List TIns) (F1 F2 : List Nat) (w : World) (h1 : cInsS.rep w [v1] xs F1) (h2 : cInsS.rep w [v2] xs F2) :
    Calls Try.prog 116 #[v1, v2] w (Gives w (.bool true)) := by
  obtain ⟨A, cp, rfl⟩ := cL_form h1
  obtain ⟨B, cq, rfl⟩ := cL_form h2
  obtain ⟨-, hcp, hm⟩ := cL_len h1
  obtain ⟨n, hxn⟩ : ∃ n, xs.length = n := ⟨_, rfl⟩
  have HN := Lib.hid hxn
  rw [hxn] at hcp ⊢
  clear hxn
  unfold maxLen at hm
  go_enter Try.func116, Try.ntmps116
  go_wp2
  go_loopw [5] (fun i wr => ∃ k : Nat, k ≤ n ∧ i = .int .i64 k ∧ Below w.heap.size w wr) (fun i _ => n - (intOf i).toNat)
  case atStart => exact ⟨0, Nat.zero_le _, rfl, Below.refl _ _⟩
  case round =>
    obtain ⟨k, hk, rfl, hB⟩ := hrel
    by_cases hlt : k < n
    · have hkx : k < xs.length := by rw [HN.out]; exact hlt
      obtain ⟨g, o, vs, G1, rfl, -, hx, -, hc⟩ := cL_get (hw := by decide) (hw2 := by decide) (Cod.bel h1 hB) hkx
      obtain ⟨g2, o2, vs2, G2, rfl, -, hx2, -, hc2⟩ := cL_get (hw := by decide) (hw2 := by decide) (Cod.bel h2 hB) hkx
      have hy := hx
      have hy2 := hx2
      obtain ⟨rfl, rfl, -⟩ := TIns.out hx
      obtain ⟨rfl, rfl, -⟩ := TIns.out hx2
      have q0 : wr.cell? ⟨g, o + k * 4, none⟩ = some _ := (hc 0 _ rfl).1
      have q1 : wr.cell? ⟨g, o + k * 4 + 1, none⟩ = some _ := (hc 1 _ rfl).1
      have q2 : wr.cell? ⟨g, o + k * 4 + 2, none⟩ = some _ := (hc 2 _ rfl).1
      have q3 : wr.cell? ⟨g, o + k * 4 + 3, none⟩ = some _ := (hc 3 _ rfl).1
      have r0 : wr.cell? ⟨g2, o2 + k * 4, none⟩ = some _ := (hc2 0 _ rfl).1
      have r1 : wr.cell? ⟨g2, o2 + k * 4 + 1, none⟩ = some _ := (hc2 1 _ rfl).1
      have r2 : wr.cell? ⟨g2, o2 + k * 4 + 2, none⟩ = some _ := (hc2 2 _ rfl).1
      have r3 : wr.cell? ⟨g2, o2 + k * 4 + 3, none⟩ = some _ := (hc2 3 _ rfl).1
      clear hc hc2
      have hki : ((k : Int) < (n : Int)) := by omega
      go_wp2
      go_still_tail 8, (by kernel_rfl)
      change wpList _ _ _ _ _ wr.drew
      have hB2 : Below w.heap.size w wr.drew := bel_drew hB
      have hbd : Below wr.heap.size wr wr.drew := bel_drew (Below.refl _ _)
      generalize wr.drew = wd at hB2 hbd ⊢
      go_wp2_with fail
      refine (eqInstr_any _ _ xs[k] _ _ _ (by exact Cod.bel hy hbd) (by exact Cod.bel hy2 hbd)).mono ?_
      rintro e w1 ⟨rfl, hb1⟩
      have hB1 : Below w.heap.size w w1 := bel_then hB2 hb1
      go_wp2_with fail
      go_roundw
      case rel => exact ⟨k + 1, by omega, by go_num, hB1⟩
      case measure => simp [intOf]; omega
    · obtain rfl : k = n := by omega
      go_wp2
      go_ret
      exact ⟨rfl, hB⟩

end Go.Proofs.Yteipaolcmjfhdaa
