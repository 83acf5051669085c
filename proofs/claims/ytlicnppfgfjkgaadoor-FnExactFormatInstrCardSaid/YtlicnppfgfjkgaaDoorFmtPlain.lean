/-
  Instructions and their texts, in plain Lean: a numeral's value, a text cut at a byte, an instruction's text and what is read out of a text. No conditions.
-/
import Derived.Test.YtlicnppfgfjkgaaDoorIns
import Derived.Lib.ItoaLen
import Derived.Lib.AtoiTie
import Derived.Lib.AtoiAllCases
import Derived.Lib.SplitLaws
namespace Go.Proofs.YtlicnppfgfjkgaaDoor
set_option linter.unusedVariables false

/-! ### Strings as lists of bytes -/
def baOf (l : List UInt8) : ByteArray := ⟨l.toArray⟩
theorem baOf_list (l : List UInt8) : (baOf l).data.toList = l := rfl
theorem baOf_of (s : ByteArray) : baOf s.data.toList = s := by
  obtain ⟨⟨l⟩⟩ := s; rfl
theorem baOf_inj {a b : List UInt8} (h : baOf a = baOf b) : a = b := by
  have := congrArg (fun s : ByteArray => s.data.toList) h
  simpa [baOf] using this
theorem baOf_size (l : List UInt8) : (baOf l).size = l.length := by simp [baOf, ByteArray.size]
theorem baOf_app (a b : List UInt8) : baOf a ++ baOf b = baOf (a ++ b) := by
  apply ByteArray.ext
  show ((baOf a) ++ (baOf b)).data = _
  rw [ByteArray.data_append]
  simp [baOf]
theorem ba_ext {a b : ByteArray} (h : a.data.toList = b.data.toList) : a = b := by
  rw [← baOf_of a, ← baOf_of b, h]

/-! ### Numerals -/
def isDig (c : UInt8) : Bool := decide (48 ≤ c.toNat) && decide (c.toNat ≤ 57)
theorem dig_of (d : Nat) (h : d < 10) : (UInt8.ofNat (48 + d)).toNat = 48 + d := by
  rw [UInt8.toNat_ofNat']; omega
theorem digitVal_of (d : Nat) (h : d < 10) : Lib.digitVal (UInt8.ofNat (48 + d)) = some d := by
  unfold Lib.digitVal
  rw [dig_of d h, if_pos (by omega)]; congr 1; omega
theorem decFrom_app : ∀ (a b : List UInt8) (n : Nat), Lib.decFrom n (a ++ b) = (Lib.decFrom n a).bind fun m => Lib.decFrom m b
  | [], b, n => rfl
  | c :: a, b, n => by
    simp only [List.cons_append, Lib.decFrom]
    cases Lib.digitVal c with
    | none => rfl
    | some d => exact decFrom_app a b _
theorem decFrom_digits (u : Nat) : Lib.decFrom 0 (Lib.decDigits u) = some u := by
  induction u using Nat.strongRecOn with
  | _ u ih =>
    by_cases h : u < 10
    · rw [Lib.decDigits_one h]
      simp only [Lib.decFrom, digitVal_of u h, Nat.zero_mul, Nat.zero_add]
    · rw [Lib.decDigits, dif_neg h, decFrom_app, ih (u / 10) (by omega)]
      simp only [Option.bind_some, Lib.decFrom, digitVal_of (u % 10) (by omega)]
      congr 1; omega
theorem decDigits_ne (u : Nat) : Lib.decDigits u ≠ [] := by
  intro e
  have h1 := Lib.decDigits_length u
  have h2 := Lib.nDigits_pos u
  rw [e, List.length_nil] at h1
  omega
theorem decNat_digits (u : Nat) : Lib.decNat (Lib.decDigits u) = some u := by
  unfold Lib.decNat
  rw [if_neg (by simpa using decDigits_ne u), decFrom_digits]
theorem decDigits_all (u : Nat) : ∀ c, c ∈ Lib.decDigits u → isDig c = true := by
  induction u using Nat.strongRecOn with
  | _ u ih =>
    intro c hc
    by_cases h : u < 10
    · rw [Lib.decDigits_one h] at hc
      obtain rfl := List.mem_singleton.1 hc
      unfold isDig; rw [dig_of u h]; simp; omega
    · rw [Lib.decDigits, dif_neg h, List.mem_append] at hc
      rcases hc with hc | hc
      · exact ih (u / 10) (by omega) c hc
      · obtain rfl := List.mem_singleton.1 hc
        unfold isDig; rw [dig_of (u % 10) (by omega)]; simp; omega
theorem nDigits_le : ∀ (k u : Nat), u < 10 ^ (k + 1) → Lib.nDigits u ≤ k + 1
  | 0, u, h => by rw [Lib.nDigits_small (by simpa using h)]; exact Nat.le_refl _
  | k + 1, u, h => by
    by_cases h10 : u < 10
    · rw [Lib.nDigits_small h10]; omega
    · rw [Lib.nDigits_big h10]
      have := nDigits_le k (u / 10) (by rw [Nat.pow_succ] at h; omega)
      omega
theorem decDigits_len13 {u : Nat} (h : u ≤ 1000000000000) : 1 ≤ (Lib.decDigits u).length ∧ (Lib.decDigits u).length ≤ 13 := by
  rw [Lib.decDigits_length]
  exact ⟨Lib.nDigits_pos u, nDigits_le 12 u (by omega)⟩

/-- What ParseInt reads: a numeral from 0 to 10^12, written as it is written. -/
def parseNum (l : List UInt8) : Option Nat :=
  match Lib.decNat l with
  | some m => if m ≤ 1000000000000 ∧ Lib.decDigits m = l then some m else none
  | none => none
theorem parseNum_digits {u : Nat} (h : u ≤ 1000000000000) : parseNum (Lib.decDigits u) = some u := by
  unfold parseNum
  rw [decNat_digits]
  simp [h]
theorem parseNum_some {l : List UInt8} {m : Nat} (h : parseNum l = some m) : m ≤ 1000000000000 ∧ l = Lib.decDigits m := by
  unfold parseNum at h
  split at h
  · split at h
    · rename_i hm
      injection h with h
      subst h
      exact ⟨hm.1, hm.2.symm⟩
    · cases h
  · cases h
theorem parseNum_none {l : List UInt8} (h : ∀ u, u ≤ 1000000000000 → l ≠ Lib.decDigits u) : parseNum l = none := by
  cases hp : parseNum l with
  | none => rfl
  | some m =>
    obtain ⟨h1, h2⟩ := parseNum_some hp
    exact absurd h2 (h m h1)
theorem parseNum_letter {c : UInt8} {l : List UInt8} (h : isDig c = false) : parseNum (c :: l) = none := by
  refine parseNum_none fun u _ e => ?_
  have := decDigits_all u c (by rw [← e]; simp)
  rw [h] at this; cases this
theorem parseNum_nil : parseNum [] = none := rfl

theorem atoi_digits (u : Nat) : Lib.atoi (Lib.decDigits u) = some (u : Int) := by
  have hd := decNat_digits u
  have ha := decDigits_all u
  cases h : Lib.decDigits u with
  | nil => exact absurd h (decDigits_ne u)
  | cons b r =>
    rw [h] at hd ha
    have hb := ha b (by simp)
    unfold isDig at hb
    simp only [Bool.and_eq_true, decide_eq_true_eq] at hb
    have h45 : (b == 45) = false := by
      rw [beq_eq_false_iff_ne]; intro e; subst e; have : (45 : UInt8).toNat = 45 := rfl; omega
    have h43 : (b == 43) = false := by
      rw [beq_eq_false_iff_ne]; intro e; subst e; have : (43 : UInt8).toNat = 43 := rfl; omega
    show (if (b == 45) = true then _ else if (b == 43) = true then _ else (Lib.decNat (b :: r)).map fun (m : Nat) => (m : Int)) = _
    rw [h45, h43, hd]
    rfl
/-- .. by way of Atoi and Itoa. -/
theorem parseNum_atoi {l : List UInt8} {v : Int} (h : Lib.atoiAll l = .ok v) (h0 : 0 ≤ v) (h1 : v ≤ 1000000000000) (he : Lib.itoa v = l) : parseNum l = some v.toNat := by
  obtain ⟨u, rfl⟩ : ∃ u : Nat, v = u := ⟨v.toNat, by omega⟩
  have : Lib.itoa (u : Int) = Lib.decDigits u := by unfold Lib.itoa; rw [if_neg (by omega)]; simp
  rw [this] at he
  rw [← he]
  simpa using parseNum_digits (u := u) (by omega)
theorem parseNum_atoi' {l : List UInt8} {m : Nat} (h : parseNum l = some m) : Lib.atoiAll l = .ok (m : Int) ∧ Lib.itoa (m : Int) = l ∧ m ≤ 1000000000000 := by
  obtain ⟨h1, rfl⟩ := parseNum_some h
  refine ⟨?_, ?_, h1⟩
  · rw [Lib.atoiAll_short _ (by have := decDigits_len13 h1; omega), atoi_digits]; rfl
  · unfold Lib.itoa; rw [if_neg (by omega)]; simp

/-! ### A text cut at a byte -/
def cut (c : UInt8) : List UInt8 → List (List UInt8)
  | [] => [[]]
  | b :: r => if b = c then [] :: cut c r else
    match cut c r with
    | [] => [[b]]
    | h :: t => (b :: h) :: t
theorem cut_ne (c : UInt8) : ∀ l : List UInt8, cut c l ≠ []
  | [] => by simp [cut]
  | b :: r => by
    unfold cut
    split
    · simp
    · split <;> simp
theorem cut_none {c : UInt8} : ∀ {a : List UInt8}, (∀ x, x ∈ a → x ≠ c) → cut c a = [a]
  | [], _ => rfl
  | b :: a, h => by
    have ih := cut_none (a := a) fun x hx => h x (by simp [hx])
    unfold cut
    rw [if_neg (h b (by simp)), ih]
theorem cut_app {c : UInt8} {b : List UInt8} : ∀ {a : List UInt8}, (∀ x, x ∈ a → x ≠ c) → cut c (a ++ c :: b) = a :: cut c b
  | [], _ => by simp [cut]
  | d :: a, h => by
    have ih := cut_app (c := c) (b := b) (a := a) fun x hx => h x (by simp [hx])
    show cut c (d :: (a ++ c :: b)) = _
    rw [cut, if_neg (h d (by simp)), ih]
/-- The pieces, joined again by the byte, are the text. -/
def joinWith (c : UInt8) : List (List UInt8) → List UInt8
  | [] => []
  | p :: ps => p ++ ps.flatMap fun q => c :: q
theorem cut_join {c : UInt8} : ∀ {ps : List (List UInt8)}, ps ≠ [] → (∀ p, p ∈ ps → ∀ x, x ∈ p → x ≠ c) → cut c (joinWith c ps) = ps
  | [], h, _ => absurd rfl h
  | [p], _, h => by simpa [joinWith] using cut_none (c := c) (a := p) (h p (by simp))
  | p :: q :: ps, _, h => by
    have ih := cut_join (c := c) (ps := q :: ps) (by simp) fun r hr => h r (by simp [hr])
    have e : joinWith c (p :: q :: ps) = p ++ c :: joinWith c (q :: ps) := by simp [joinWith]
    rw [e, cut_app (h p (by simp)), ih]
/-- Split's pieces are these. -/
theorem splitK_cut (c : UInt8) : ∀ (s : List UInt8), Lib.split s [c] = cut c s
  | [] => by simp [Lib.split, Lib.count_one, Lib.splitK, cut]
  | b :: s => by
    have ih := splitK_cut c s
    unfold Lib.split at ih ⊢
    rw [Lib.count_one] at ih ⊢
    by_cases hb : b = c
    · subst hb
      rw [List.count_cons_self]
      have hix : Lib.index (b :: s) [b] = 0 := by rw [Lib.index]; simp [List.isPrefixOf]
      unfold Lib.splitK
      rw [hix]
      simp only [show ((0 : Int) == -1) = false from rfl, Bool.false_eq_true, if_false]
      simp only [Int.toNat_zero, Nat.add_zero, List.take_zero, List.length_singleton, Nat.zero_add, List.drop_one, List.tail_cons]
      rw [ih]
      simp [cut]
    · rw [List.count_cons_of_ne (by simpa using hb)]
      have hp : ([c] : List UInt8).isPrefixOf (b :: s) = false := by simp [List.isPrefixOf, Ne.symm hb]
      have hix : Lib.index (b :: s) [c] = if Lib.index s [c] == -1 then -1 else Lib.index s [c] + 1 := by rw [Lib.index, hp]; simp
      rw [show cut c (b :: s) = (match cut c s with | [] => [[b]] | h :: t => (b :: h) :: t) by rw [cut]; simp [hb]]
      rw [← ih]
      cases hk : s.count c with
      | zero => simp [Lib.splitK]
      | succ k =>
        unfold Lib.splitK
        rw [hix]
        cases hm : (Lib.index s [c] == -1)
        · have hge := Lib.index_ge s [c]
          have hne : Lib.index s [c] ≠ -1 := by simpa using hm
          obtain ⟨j, hj⟩ : ∃ j : Nat, Lib.index s [c] = j := ⟨(Lib.index s [c]).toNat, by omega⟩
          rw [hj]
          have h1 : (((j : Int) + 1) == -1) = false := by rw [beq_eq_false_iff_ne]; omega
          have h2 : ((j : Int) + 1).toNat = j + 1 := by omega
          simp [h1, h2, List.take_succ_cons, List.drop_succ_cons]
        · simp
end Go.Proofs.YtlicnppfgfjkgaaDoor
