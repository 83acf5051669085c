/-
  A script's text read line by line: what comes of it, in plain Lean. No conditions.
-/
import Derived.Test.YtlicnppfgfjkgaaDoorZA
import Derived.Test.YtlicnppfgfjkgaaDoorZScriptOk
namespace Go.Proofs.YtlicnppfgfjkgaaDoor
set_option linter.unusedVariables false

/-- the instructions of the first k lines -/
def linesTo (ls : List (List UInt8)) (k : Nat) : List TIns := (ls.take k).map fun l => (parseInstr l).1
def okTo (ls : List (List UInt8)) (k : Nat) : Prop := ∀ j, j < k → ∀ l, ls[j]? = some l → (parseInstr l).2 = true
/-- the first line that is no instruction -/
def badAt : List (List UInt8) → Option Nat
  | [] => none
  | l :: ls => bif (parseInstr l).2 then (badAt ls).map (· + 1) else some 0
def parseLines (s : List UInt8) : List TIns × Int :=
  if s = [] then ([], -1) else
    match badAt (cut 59 s) with
    | some i => ([], (i : Int))
    | none => bif isScript (linesTo (cut 59 s) (cut 59 s).length) then (linesTo (cut 59 s) (cut 59 s).length, -1) else ([], ((cut 59 s).length : Int))
theorem okTo_zero (ls : List (List UInt8)) : okTo ls 0 := fun j h => by omega
theorem okTo_succ {ls : List (List UInt8)} {k : Nat} (h : okTo ls k) (hk : k < ls.length) (h2 : (parseInstr ls[k]).2 = true) : okTo ls (k + 1) := by
  intro j hj l hl
  by_cases e : j = k
  · subst e
    rw [List.getElem?_eq_getElem hk] at hl
    injection hl with hl
    rw [← hl]; exact h2
  · exact h j (by omega) l hl
theorem badAt_hit : ∀ {ls : List (List UInt8)} {k : Nat}, okTo ls k → (hk : k < ls.length) → (parseInstr ls[k]).2 = false → badAt ls = some k
  | [], k, _, hk, _ => by simp at hk
  | l :: ls, 0, _, _, h => by
    have h2 : (parseInstr l).2 = false := h
    simp [badAt, h2]
  | l :: ls, k + 1, ho, hk, h => by
    have h0 := ho 0 (by omega) l rfl
    have ih := badAt_hit (ls := ls) (k := k) (fun j hj l' hl' => ho (j + 1) (by omega) l' (by simpa using hl')) (by simpa using hk) (by simpa using h)
    simp [badAt, h0, ih]
theorem badAt_none : ∀ {ls : List (List UInt8)}, okTo ls ls.length → badAt ls = none
  | [], _ => rfl
  | l :: ls, ho => by
    have h0 := ho 0 (by simp) l rfl
    have ih := badAt_none (ls := ls) (fun j hj l' hl' => ho (j + 1) (by simp; omega) l' (by simpa using hl'))
    simp [badAt, h0, ih]
theorem linesTo_zero (ls : List (List UInt8)) : linesTo ls 0 = [] := rfl
theorem linesTo_succ {ls : List (List UInt8)} {k : Nat} (hk : k < ls.length) : linesTo ls (k + 1) = linesTo ls k ++ [(parseInstr ls[k]).1] := by
  unfold linesTo
  rw [List.take_succ_eq_append_getElem hk, List.map_append]; rfl
theorem linesTo_len {ls : List (List UInt8)} {k : Nat} (hk : k ≤ ls.length) : (linesTo ls k).length = k := by
  unfold linesTo
  simp; omega
/-- what a reading has where a line is none -/
theorem lines_bad {s : List UInt8} {k : Nat} (hs : s ≠ []) (ho : okTo (cut 59 s) k) (hk : k < (cut 59 s).length) (h : (parseInstr (cut 59 s)[k]).2 = false) : parseLines s = ([], (k : Int)) := by
  unfold parseLines
  rw [if_neg hs, badAt_hit ho hk h]
theorem lines_end {s : List UInt8} (hs : s ≠ []) (ho : okTo (cut 59 s) (cut 59 s).length) : parseLines s = bif isScript (linesTo (cut 59 s) (cut 59 s).length) then (linesTo (cut 59 s) (cut 59 s).length, -1) else ([], ((cut 59 s).length : Int)) := by
  unfold parseLines
  rw [if_neg hs, badAt_none ho]
theorem lines_nil : parseLines [] = ([], -1) := rfl
theorem parse_okL {l : List UInt8} (h : l.length ≤ 1048576) : (parseInstr l).1.Ok := by
  by_cases hp : fmtL (specCore (cut 32 l)) = l ∧ l ≠ []
  · have e : parseInstr l = (specCore (cut 32 l), true) := by unfold parseInstr; rw [if_pos hp]
    have hi := instr_of_fmt (x := specCore (cut 32 l)) (by rw [hp.1]; exact hp.2)
    have hg := good_of hi
    rw [e]
    show TIns.Ok (specCore (cut 32 l))
    clear e hp
    generalize specCore (cut 32 l) = x at *
    have h1 := hg.kind; have h2 := hg.r0; have h3 := hg.r3; have h4 := hg.n0; have h5 := hg.n1
    refine ⟨by omega, by omega, by omega, ?_⟩
    by_cases hk : x.kind = 5 ∨ x.kind = 6 ∨ x.kind = 7 ∨ x.kind = 8
    · have := (isName_size (hg.named hk)).2; unfold maxLen; omega
    · have := hg.bare hk; rw [Lib.size_eq, this]; decide
  · have e : parseInstr l = (insZero, false) := by unfold parseInstr; rw [if_neg hp]
    rw [e]
    exact ⟨by decide, by decide, by decide, by decide⟩
end Go.Proofs.YtlicnppfgfjkgaaDoor
