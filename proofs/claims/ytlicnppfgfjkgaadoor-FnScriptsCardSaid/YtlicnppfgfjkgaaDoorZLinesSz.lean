/-
  A script read from a text is short. No conditions.
-/
import Derived.Test.YtlicnppfgfjkgaaDoorZLines
namespace Go.Proofs.YtlicnppfgfjkgaaDoor
set_option linter.unusedVariables false

theorem instr_text {x : TIns} {n : Int} (h : isInstr x n = true) : x.text.size ≤ 8 := by
  unfold isInstr at h
  simp only [Bool.and_eq_true] at h
  obtain ⟨⟨⟨⟨-, -⟩, -⟩, h4⟩, -⟩ := h
  cases hn : insNamed x.kind with
  | true =>
    rw [hn] at h4
    exact (isName_size h4).2
  | false =>
    rw [hn] at h4
    have h6 : x.text.toList.isEmpty = true := h4
    rw [Lib.toList_data] at h6
    have h7 : x.text.data.toList = [] := by simpa using h6
    rw [Lib.size_eq, h7]; decide
theorem szs_short : ∀ xs : List TIns, (∀ x, x ∈ xs → x.text.size ≤ 8) → Cod.szs cIns xs ≤ 9 * xs.length
  | [], _ => by simp [Cod.szs]
  | x :: xs, h => by
    have h1 := h x (by simp)
    have h2 := szs_short xs fun y hy => h y (by simp [hy])
    have h3 : cIns.sz x = 0 + (0 + (0 + x.text.size)) := rfl
    simp only [Cod.szs, List.length_cons]
    omega
theorem parseLines_sz (s : ByteArray) : cInsS.sz (parseLines s.data.toList).1 ≤ 144 := by
  have h0 : cInsS.sz ([] : List TIns) ≤ 144 := by decide
  unfold parseLines
  split
  · exact h0
  · split
    · exact h0
    · cases hsc : isScript (linesTo (cut 59 s.data.toList) (cut 59 s.data.toList).length) with
      | false => exact h0
      | true =>
        simp only [cond_true]
        generalize linesTo (cut 59 s.data.toList) (cut 59 s.data.toList).length = xs at *
        unfold isScript at hsc
        simp only [Bool.and_eq_true, decide_eq_true_eq, Bool.not_eq_true', List.any_eq_false] at hsc
        have h1 := szs_short xs fun x hx => instr_text (n := xs.length) (by have := hsc.1 x hx; simpa using this)
        show Cod.szs cIns xs ≤ 144
        omega
end Go.Proofs.YtlicnppfgfjkgaaDoor
