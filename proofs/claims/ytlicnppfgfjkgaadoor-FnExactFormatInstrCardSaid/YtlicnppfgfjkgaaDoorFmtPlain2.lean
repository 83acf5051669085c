/-
  Instructions and their texts, in plain Lean: whatever text an instruction has is read back as that instruction, on both roads. No conditions.
-/
import Derived.Test.YtlicnppfgfjkgaaDoorFmtPlain
namespace Go.Proofs.YtlicnppfgfjkgaaDoor
set_option linter.unusedVariables false

def wordL (k : Int) : List UInt8 :=
  if k = 1 then [115, 101, 116] else if k = 2 then [97, 100, 100] else if k = 3 then [105, 102] else if k = 4 then [103, 111, 116, 111] else if k = 5 then [102, 101, 116, 99, 104]
  else if k = 6 then [103, 101, 116] else if k = 7 then [112, 117, 116] else if k = 8 then [115, 101, 110, 100] else if k = 9 then [101, 110, 100] else []
/-- an instruction's words -/
def piecesOf (x : TIns) : List (List UInt8) :=
  wordL x.kind :: ((if x.kind = 4 ∨ x.kind = 9 then [] else [Lib.itoa x.r]) ++ ((if x.kind = 5 ∨ x.kind = 9 then [] else [Lib.itoa x.n]) ++ (if x.text.data.toList = [] then [] else [x.text.data.toList])))
/-- its text; none: where it is no instruction -/
def fmtL (x : TIns) : List UInt8 := bif isInstr x 16 then joinWith 32 (piecesOf x) else []

/-- the kind that a word tells: the last of the first k words that it is -/
def kindTo (w : List UInt8) : Nat → Int
  | 0 => 0
  | k + 1 => if wordL ((k + 1 : Nat) : Int) = w then ((k + 1 : Nat) : Int) else kindTo w k
theorem kindTo_range (w : List UInt8) : ∀ k, 0 ≤ kindTo w k ∧ kindTo w k ≤ k
  | 0 => ⟨Int.le_refl _, Int.le_refl _⟩
  | k + 1 => by
    have := kindTo_range w k
    unfold kindTo
    split <;> omega
theorem kindTo_nil : ∀ k, k ≤ 9 → kindTo [] k = 0 := by
  intro k hk
  have : k = 0 ∨ k = 1 ∨ k = 2 ∨ k = 3 ∨ k = 4 ∨ k = 5 ∨ k = 6 ∨ k = 7 ∨ k = 8 ∨ k = 9 := by omega
  rcases this with rfl | rfl | rfl | rfl | rfl | rfl | rfl | rfl | rfl | rfl <;> decide

/-- what the program reads out of the words -/
def numD (l : List UInt8) : Int := ((parseNum l).getD 0 : Nat)
def implCore (ps : List (List UInt8)) : TIns :=
  let k := kindTo (ps.headD []) 9
  let r0 := ps.tail
  let r := if k = 4 ∨ k = 9 then 0 else numD (r0.headD [])
  let r1 := if k = 4 ∨ k = 9 then r0 else r0.tail
  let n := if k = 5 ∨ k = 9 then 0 else numD (r1.headD [])
  let r2 := if k = 5 ∨ k = 9 then r1 else r1.tail
  ⟨k, r, n, baOf (r2.headD [])⟩
/-- the numbers at the front, and the word behind them -/
def numsOf : List (List UInt8) → List Int × List UInt8
  | [] => ([], [])
  | p :: ps => match parseNum p with
    | some m => ((m : Int) :: (numsOf ps).1, (numsOf ps).2)
    | none => ([], p)
/-- what the reference reads out of the words -/
def specCore (ps : List (List UInt8)) : TIns :=
  let k := kindTo (ps.headD []) 9
  let q := numsOf ps.tail
  let l := if k = 4 then 0 :: q.1 else q.1
  ⟨k, l.getD 0 0, l.getD 1 0, baOf q.2⟩

def insZero : TIns := ⟨0, 0, 0, ⟨#[]⟩⟩
def parseInstr (s : List UInt8) : TIns × Bool := if fmtL (specCore (cut 32 s)) = s ∧ s ≠ [] then (specCore (cut 32 s), true) else (insZero, false)

/-! ### A text is read back -/
theorem name_bytes {t : ByteArray} (h : isName t = true) : t.data.toList ≠ [] ∧ ∀ c, c ∈ t.data.toList → isLow c = true := by
  have h1 := isName_size h
  refine ⟨fun e => ?_, ?_⟩
  · have h2 : t.size = t.data.toList.length := Lib.size_eq t
    rw [e, List.length_nil] at h2; omega
  · unfold isName isWord at h
    rw [Bool.and_eq_true] at h
    have h2 := h.1
    unfold lowTo at h2
    rw [List.take_of_length_le (by rw [Lib.size_eq]; exact Nat.le_refl _)] at h2
    exact List.all_eq_true.1 h2
theorem low_ne {c : UInt8} (h : isLow c = true) : c ≠ 32 ∧ c ≠ 59 ∧ isDig c = false := by
  unfold isLow at h
  simp only [Bool.and_eq_true, decide_eq_true_eq] at h
  refine ⟨?_, ?_, ?_⟩
  · rintro rfl; have : (32 : UInt8).toNat = 32 := rfl; omega
  · rintro rfl; have : (59 : UInt8).toNat = 59 := rfl; omega
  · unfold isDig; simp; omega
theorem dig_ne {c : UInt8} (h : isDig c = true) : c ≠ 32 ∧ c ≠ 59 := by
  unfold isDig at h
  simp only [Bool.and_eq_true, decide_eq_true_eq] at h
  refine ⟨?_, ?_⟩
  · rintro rfl; have : (32 : UInt8).toNat = 32 := rfl; omega
  · rintro rfl; have : (59 : UInt8).toNat = 59 := rfl; omega
theorem parseNum_name {t : ByteArray} (h : isName t = true) : parseNum t.data.toList = none := by
  obtain ⟨h1, h2⟩ := name_bytes h
  cases e : t.data.toList with
  | nil => exact absurd e h1
  | cons c l => exact parseNum_letter (low_ne (h2 c (by rw [e]; simp))).2.2
theorem itoa_nat {n : Int} (h : 0 ≤ n) : Lib.itoa n = Lib.decDigits n.toNat := by unfold Lib.itoa; rw [if_neg (by omega)]
theorem parseNum_itoa {n : Int} (h : 0 ≤ n) (h1 : n ≤ 1000) : parseNum (Lib.itoa n) = some n.toNat := by
  rw [itoa_nat h]; exact parseNum_digits (by omega)
theorem itoa_bytes {n : Int} (h : 0 ≤ n) : ∀ c, c ∈ Lib.itoa n → c ≠ 32 ∧ c ≠ 59 := by
  rw [itoa_nat h]
  exact fun c hc => dig_ne (decDigits_all _ c hc)

/-- What holds of an instruction. -/
structure GoodIns (x : TIns) : Prop where
  kind : x.kind = 1 ∨ x.kind = 2 ∨ x.kind = 3 ∨ x.kind = 4 ∨ x.kind = 5 ∨ x.kind = 6 ∨ x.kind = 7 ∨ x.kind = 8 ∨ x.kind = 9
  r0 : 0 ≤ x.r
  r3 : x.r ≤ 3
  n0 : 0 ≤ x.n
  n1 : x.n ≤ 1000
  rz : x.kind = 4 ∨ x.kind = 9 → x.r = 0
  nz : x.kind = 5 ∨ x.kind = 9 → x.n = 0
  named : x.kind = 5 ∨ x.kind = 6 ∨ x.kind = 7 ∨ x.kind = 8 → isName x.text = true
  bare : ¬ (x.kind = 5 ∨ x.kind = 6 ∨ x.kind = 7 ∨ x.kind = 8) → x.text.data.toList = []
theorem good_of {x : TIns} (h : isInstr x 16 = true) : GoodIns x := by
  unfold isInstr at h
  simp only [Bool.and_eq_true] at h
  obtain ⟨⟨⟨⟨h1, h2⟩, h3⟩, h4⟩, h5⟩ := h
  have k1 := inR_true h1
  have k2 := inR_true h2
  have k5 := inR_true h5
  have hk : x.kind = 1 ∨ x.kind = 2 ∨ x.kind = 3 ∨ x.kind = 4 ∨ x.kind = 5 ∨ x.kind = 6 ∨ x.kind = 7 ∨ x.kind = 8 ∨ x.kind = 9 := by omega
  have hm : insMost x.kind 16 ≤ 1000 := by unfold insMost; (repeat' split) <;> omega
  refine ⟨hk, k2.1, k2.2, k5.1, by omega, ?_, ?_, ?_, ?_⟩
  · intro h; simp at h3; rcases h with h | h <;> simp [h] at h3 <;> exact h3
  · intro h
    rcases h with h | h <;> (rw [h] at k5; simp [insMost] at k5; omega)
  · intro h
    have : insNamed x.kind = true := by unfold insNamed; rcases h with h | h | h | h <;> simp [h]
    rw [this] at h4; exact h4
  · intro h
    have : insNamed x.kind = false := by unfold insNamed; simp; omega
    rw [this] at h4
    have h6 : x.text.toList.isEmpty = true := h4
    rw [Lib.toList_data] at h6
    simpa using h6
theorem wordL_bytes (k : Int) : ∀ c, c ∈ wordL k → c ≠ 32 ∧ c ≠ 59 := by
  unfold wordL
  (repeat' split) <;> decide
theorem pieces_bytes {x : TIns} (h : GoodIns x) : ∀ p, p ∈ piecesOf x → ∀ c, c ∈ p → c ≠ 32 ∧ c ≠ 59 := by
  intro p hp c hc
  unfold piecesOf at hp
  simp only [List.mem_cons, List.mem_append] at hp
  rcases hp with rfl | hp | hp | hp
  · exact wordL_bytes _ c hc
  · split at hp
    · simp at hp
    · obtain rfl := List.mem_singleton.1 hp; exact itoa_bytes h.r0 c hc
  · split at hp
    · simp at hp
    · obtain rfl := List.mem_singleton.1 hp; exact itoa_bytes h.n0 c hc
  · split at hp
    · simp at hp
    · obtain rfl := List.mem_singleton.1 hp
      rename_i hne
      by_cases hk : x.kind = 5 ∨ x.kind = 6 ∨ x.kind = 7 ∨ x.kind = 8
      · have := low_ne ((name_bytes (h.named hk)).2 c hc)
        exact ⟨this.1, this.2.1⟩
      · exact absurd (h.bare hk) hne
theorem kindTo_word {k : Int} (h : k = 1 ∨ k = 2 ∨ k = 3 ∨ k = 4 ∨ k = 5 ∨ k = 6 ∨ k = 7 ∨ k = 8 ∨ k = 9) : kindTo (wordL k) 9 = k := by
  rcases h with rfl | rfl | rfl | rfl | rfl | rfl | rfl | rfl | rfl <;> decide
theorem numD_itoa {n : Int} (h : 0 ≤ n) (h1 : n ≤ 1000) : numD (Lib.itoa n) = n := by
  unfold numD; rw [parseNum_itoa h h1]; simp; omega
theorem implCore_pieces {x : TIns} (h : GoodIns x) : implCore (piecesOf x) = x := by
  have hr := numD_itoa h.r0 (by have := h.r3; omega)
  have hn := numD_itoa h.n0 h.n1
  have hw := kindTo_word h.kind
  have h1 := h.rz; have h2 := h.nz; have h4 := h.bare
  have h3 := fun e => (name_bytes (h.named e)).1
  have hk := h.kind
  have hb := baOf_of x.text
  clear h
  obtain ⟨k, r, n, t⟩ := x
  simp only at hr hn hw h1 h2 h3 h4 hk hb
  have hp : piecesOf ⟨k, r, n, t⟩ = wordL k :: ((if k = 4 ∨ k = 9 then [] else [Lib.itoa r]) ++ ((if k = 5 ∨ k = 9 then [] else [Lib.itoa n]) ++ (if t.data.toList = [] then [] else [t.data.toList]))) := rfl
  rw [hp]
  clear hp
  generalize t.data.toList = tl at *
  subst hb
  rcases hk with rfl | rfl | rfl | rfl | rfl | rfl | rfl | rfl | rfl
  all_goals (
    simp at h1 h2 h3 h4
    (try subst h1)
    (try subst h2)
    (try subst h4)
    simp [implCore, *])
theorem numsOf_two {a b : List UInt8} {m n : Nat} {ps : List (List UInt8)} (h1 : parseNum a = some m) (h2 : parseNum b = some n) : numsOf (a :: b :: ps) = ((m : Int) :: (n : Int) :: (numsOf ps).1, (numsOf ps).2) := by
  simp [numsOf, h1, h2]
theorem specCore_pieces {x : TIns} (h : GoodIns x) : specCore (piecesOf x) = x := by
  have hr := parseNum_itoa h.r0 (by have := h.r3; omega)
  have hn := parseNum_itoa h.n0 h.n1
  have hr' : ((x.r.toNat : Nat) : Int) = x.r := by have := h.r0; omega
  have hn' : ((x.n.toNat : Nat) : Int) = x.n := by have := h.n0; omega
  have hw := kindTo_word h.kind
  have h1 := h.rz; have h2 := h.nz; have h4 := h.bare
  have h3 := fun e => (name_bytes (h.named e)).1
  have h5 := fun e => parseNum_name (h.named e)
  have hk := h.kind
  have hb := baOf_of x.text
  clear h
  obtain ⟨k, r, n, t⟩ := x
  simp only at hr hn hr' hn' hw h1 h2 h3 h4 h5 hk hb
  have hp : piecesOf ⟨k, r, n, t⟩ = wordL k :: ((if k = 4 ∨ k = 9 then [] else [Lib.itoa r]) ++ ((if k = 5 ∨ k = 9 then [] else [Lib.itoa n]) ++ (if t.data.toList = [] then [] else [t.data.toList]))) := rfl
  rw [hp]
  clear hp
  generalize t.data.toList = tl at *
  subst hb
  rcases hk with rfl | rfl | rfl | rfl | rfl | rfl | rfl | rfl | rfl
  all_goals (
    simp at h1 h2 h3 h4 h5
    (try subst h1)
    (try subst h2)
    (try subst h4)
    simp only [specCore, List.headD_cons, List.tail_cons, hw]
    simp [numsOf, *])
theorem fmtL_good {x : TIns} (h : GoodIns x) (hi : isInstr x 16 = true) : cut 32 (fmtL x) = piecesOf x := by
  unfold fmtL
  rw [hi]
  exact cut_join (by simp [piecesOf]) fun p hp c hc => (pieces_bytes h p hp c hc).1
theorem fmtL_not {x : TIns} (hi : isInstr x 16 = false) : fmtL x = [] := by unfold fmtL; rw [hi]; rfl
theorem wordL_ne {k : Int} (h : k = 1 ∨ k = 2 ∨ k = 3 ∨ k = 4 ∨ k = 5 ∨ k = 6 ∨ k = 7 ∨ k = 8 ∨ k = 9) : wordL k ≠ [] := by
  rcases h with rfl | rfl | rfl | rfl | rfl | rfl | rfl | rfl | rfl <;> decide
theorem fmtL_ne {x : TIns} (hi : isInstr x 16 = true) : fmtL x ≠ [] := by
  have h := wordL_ne (good_of hi).kind
  unfold fmtL
  rw [hi]
  simp only [cond_true, piecesOf, joinWith]
  intro e
  rw [List.append_eq_nil_iff] at e
  exact h e.1
theorem instr_of_fmt {x : TIns} (h : fmtL x ≠ []) : isInstr x 16 = true := by
  cases hi : isInstr x 16 with
  | true => rfl
  | false => exact absurd (fmtL_not hi) h
theorem parse_fmt {x : TIns} (hi : isInstr x 16 = true) : parseInstr (fmtL x) = (x, true) := by
  have hg := good_of hi
  unfold parseInstr
  rw [fmtL_good hg hi, specCore_pieces hg, if_pos ⟨rfl, fmtL_ne hi⟩]
/-- The program's reading is the reference's. -/
theorem parse_impl (s : List UInt8) : parseInstr s = if (implCore (cut 32 s)).kind ≠ 0 ∧ fmtL (implCore (cut 32 s)) = s then (implCore (cut 32 s), true) else (insZero, false) := by
  by_cases h : (implCore (cut 32 s)).kind ≠ 0 ∧ fmtL (implCore (cut 32 s)) = s
  · rw [if_pos h]
    obtain ⟨h1, h2⟩ := h
    by_cases hs : s = []
    · subst hs
      have e : (implCore (cut 32 [])).kind = kindTo [] 9 := rfl
      exact absurd (e.trans (kindTo_nil 9 (Nat.le_refl _))) h1
    · have hi := instr_of_fmt (x := implCore (cut 32 s)) (by rw [h2]; exact hs)
      have := parse_fmt hi
      rw [h2] at this
      exact this
  · rw [if_neg h]
    unfold parseInstr
    rw [if_neg]
    rintro ⟨h1, h2⟩
    have hi := instr_of_fmt (x := specCore (cut 32 s)) (by rw [h1]; exact h2)
    have hg := good_of hi
    have hc := fmtL_good hg hi
    rw [h1] at hc
    have he := implCore_pieces hg
    rw [← hc] at he
    exact h ⟨by rw [he]; rcases hg.kind with e | e | e | e | e | e | e | e | e <;> omega, by rw [he]; exact h1⟩
end Go.Proofs.YtlicnppfgfjkgaaDoor
