/-
  The words of instructions. No conditions.
-/
import Derived.Test.YtlicnppfgfjkgaaDoorFmtInt
import Derived.Test.YtlicnppfgfjkgaaDoorRegT
namespace Go.Proofs.YtlicnppfgfjkgaaDoor
open Go.ChangeShapes Go.WideShapes Go.RowKit
set_option linter.unusedVariables false

set_option maxHeartbeats 2000000 in
theorem implWord_any (k : Int) (h : k = 1 ∨ k = 2 ∨ k = 3 ∨ k = 4 ∨ k = 5 ∨ k = 6 ∨ k = 7 ∨ k = 8 ∨ k = 9) (w : World) :
    Calls Tryd.prog 28 #[.int .i64 k] w (Gives w (.string (baOf (wordL k)))) := by
  rcases h with rfl | rfl | rfl | rfl | rfl | rfl | rfl | rfl | rfl
  all_goals
    go_enter Tryd.func28, Tryd.ntmps28
    go_wp2
    go_ret
    exact ⟨rfl, (by repeat (first | with_reducible exact Below.refl _ _ | with_reducible assumption | with_reducible refine bel_alloc ?_ _ | with_reducible refine bel_drew ?_ | with_reducible refine bel_drewN ?_ _ | (with_reducible refine bel_set ?_ ?_ _; rotate_left; ((try simp); (try omega)))))⟩
theorem text_ne {t : ByteArray} (h : t.data.toList ≠ []) : (t.toList == (⟨#[]⟩ : ByteArray).toList) = false := by
  rw [Lib.toList_data, Lib.toList_data]
  simpa using h
theorem wordL_len (k : Int) : (wordL k).length ≤ 5 := by
  unfold wordL
  (repeat' split) <;> decide
theorem itoa_len {n : Int} (h : 0 ≤ n) (h1 : n ≤ 1000) : (Lib.itoa n).length ≤ 13 := by
  rw [itoa_nat h]; exact (decDigits_len13 (by omega)).2
/-- what the walks need of an instruction's parts: their texts, as variables of bounded size -/
structure InsText (k r n : Int) (t sw sr sn : ByteArray) : Prop where
  eW : sw.data.toList = wordL k
  eR : sr.data.toList = Lib.itoa r
  eN : sn.data.toList = Lib.itoa n
  eI : isInstr ⟨k, r, n, t⟩ 16 = true
  eG : GoodIns ⟨k, r, n, t⟩
theorem fmt_of {k r n : Int} {t sw sr sn s : ByteArray} (h : InsText k r n t sw sr sn) (e : s.data.toList = joinWith 32 (piecesOf ⟨k, r, n, t⟩)) : s = baOf (fmtL ⟨k, r, n, t⟩) := by
  refine ba_ext (e.trans ?_)
  unfold fmtL
  rw [h.eI]; rfl
theorem sp_list : (⟨#[32]⟩ : ByteArray).data.toList = [32] := rfl
def wordCells : Array Value := #[.string ⟨#[]⟩, .string ⟨#[115, 101, 116]⟩, .string ⟨#[97, 100, 100]⟩, .string ⟨#[105, 102]⟩, .string ⟨#[103, 111, 116, 111]⟩, .string ⟨#[102, 101, 116, 99, 104]⟩, .string ⟨#[103, 101, 116]⟩, .string ⟨#[112, 117, 116]⟩, .string ⟨#[115, 101, 110, 100]⟩, .string ⟨#[101, 110, 100]⟩]
theorem wordCells_at : ∀ k : Nat, 1 ≤ k → k ≤ 9 → wordCells[k]? = some (.string (baOf (wordL k))) := by
  intro k h1 h9
  have : k = 1 ∨ k = 2 ∨ k = 3 ∨ k = 4 ∨ k = 5 ∨ k = 6 ∨ k = 7 ∨ k = 8 ∨ k = 9 := by omega
  rcases this with rfl | rfl | rfl | rfl | rfl | rfl | rfl | rfl | rfl <;> rfl
theorem specWords_any (w : World) : Calls Tryd.prog 38 #[] w fun e w' => e = .returned (.slice (some ⟨w.heap.size, 0, none⟩) 10 10) ∧ Below w.heap.size w w' ∧
    ∀ k : Nat, 1 ≤ k → k ≤ 9 → w'.cell? ⟨w.heap.size, k, none⟩ = some (.string (baOf (wordL k))) := by
  go_enter Tryd.func38, Tryd.ntmps38
  go_wp2
  go_ret
  exact ⟨rfl, (by repeat (first | with_reducible exact Below.refl _ _ | with_reducible assumption | with_reducible refine bel_alloc ?_ _ | with_reducible refine bel_drew ?_ | with_reducible refine bel_drewN ?_ _ | (with_reducible refine bel_set ?_ ?_ _; rotate_left; ((try simp); (try omega))))), fun k h1 h9 => (show World.cell? (w.alloc (.cells wordCells 9)) _ = _ by rw [(Blk.new w _ _).cell, wordCells_at k h1 h9])⟩
end Go.Proofs.YtlicnppfgfjkgaaDoor
