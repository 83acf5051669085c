/-
  A machine that runs: what it does, in plain words. No conditions.
-/
import Derived.Test.YteipaolcmjfhdaaNewMach
import Derived.Test.YteipaolcmjfhdaaTAsk
import Derived.Test.YteipaolcmjfhdaaServes
namespace Go.Proofs.Yteipaolcmjfhdaa
open Go.ChangeShapes Go.WideShapes Go.RowKit
set_option linter.unusedVariables false

def ask0 : TAsk := ⟨0, 0, 0, ⟨#[]⟩, 0⟩
def clampI (n : Int) : Int := max (-1) (min 1000 n)
theorem clampI_range (n : Int) : -1 ≤ clampI n ∧ clampI n ≤ 1000 := by unfold clampI; omega
def regAt (rg : List Int) (i : Int) : Int := rg[i.toNat]?.getD 0
/-- one step: the end (left) or what is left to run (right): pc, registers -/
def runStep (sc : List TIns) (pc : Int) (rg : List Int) (st : Int) (x : TIns) : (TMach × TAsk) ⊕ (Int × List Int) :=
  if x.kind = 1 then .inr (pc + 1, rg.set x.r.toNat x.n)
  else if x.kind = 2 then .inr (pc + 1, rg.set x.r.toNat (clampI (clampI (regAt rg x.r) + clampI (regAt rg x.n))))
  else if x.kind = 3 then .inr (if regAt rg x.r = 0 then x.n else pc + 1, rg)
  else if x.kind = 4 then .inr (x.n, rg)
  else if x.kind = 5 then .inl (⟨sc, pc + 1, rg, st + 1, false, true⟩, ⟨1, x.r, 0, x.text, 0⟩)
  else if x.kind = 6 then .inl (⟨sc, pc + 1, rg, st + 1, false, true⟩, ⟨2, x.r, x.n, x.text, 0⟩)
  else if x.kind = 7 then .inl (⟨sc, pc + 1, rg, st + 1, false, false⟩, ⟨3, 0, x.n, x.text, regAt rg x.r⟩)
  else if x.kind = 8 then .inl (⟨sc, pc + 1, rg, st + 1, false, false⟩, ⟨4, 0, x.n, x.text, regAt rg x.r⟩)
  else .inl (⟨sc, pc + 1, rg, st + 1, true, false⟩, ask0)
def runLoop (sc : List TIns) : Nat → Int → List Int → Int → TMach × TAsk
  | 0, pc, rg, st => (⟨sc, pc, rg, st, true, false⟩, ask0)
  | f + 1, pc, rg, st =>
    match (if 0 ≤ pc then sc[pc.toNat]? else none) with
    | none => (⟨sc, pc, rg, st, true, false⟩, ask0)
    | some x =>
      bif !isInstr x sc.length then (⟨sc, pc, rg, st, true, false⟩, ask0)
      else match runStep sc pc rg st x with
        | .inl r => r
        | .inr y => runLoop sc f y.1 y.2 (st + 1)
def runMachine (x : TMach) : TMach × TAsk :=
  bif x.done || x.wait || !decide (x.regs.length = 4) || decide (x.steps < 0) then (x, ask0) else runLoop x.script (60 - x.steps).toNat x.pc x.regs x.steps
theorem run_low (sc : List TIns) (f : Nat) (pc : Int) (rg : List Int) (st : Int) (h : pc < 0) : runLoop sc f pc rg st = (⟨sc, pc, rg, st, true, false⟩, ask0) := by
  cases f with
  | zero => rfl
  | succ f => simp only [runLoop]; rw [if_neg (by omega)]
theorem run_high (sc : List TIns) (f : Nat) (pc : Int) (rg : List Int) (st : Int) (h : (sc.length : Int) ≤ pc) : runLoop sc f pc rg st = (⟨sc, pc, rg, st, true, false⟩, ask0) := by
  cases f with
  | zero => rfl
  | succ f => simp only [runLoop]; rw [if_pos (by omega), List.getElem?_eq_none (by omega)]
theorem run_bad (sc : List TIns) (f k : Nat) (rg : List Int) (st : Int) (h : k < sc.length) (hi : isInstr sc[k] sc.length = false) : runLoop sc f k rg st = (⟨sc, k, rg, st, true, false⟩, ask0) := by
  cases f with
  | zero => rfl
  | succ f => simp only [runLoop]; rw [if_pos (by omega), Int.toNat_natCast, List.getElem?_eq_getElem h]; simp [hi]
theorem run_end (sc : List TIns) (pc : Int) (rg : List Int) (st : Int) (h : 60 ≤ st) : runLoop sc (60 - st).toNat pc rg st = (⟨sc, pc, rg, st, true, false⟩, ask0) := by
  rw [show (60 - st).toNat = 0 by omega]; rfl
theorem run_left (sc : List TIns) (k : Nat) (rg : List Int) (st : Int) (h : k < sc.length) (hi : isInstr sc[k] sc.length = true) (hs : st < 60) {r : TMach × TAsk} (hr : runStep sc k rg st sc[k] = .inl r) : runLoop sc (60 - st).toNat k rg st = r := by
  rw [show (60 - st).toNat = (60 - (st + 1)).toNat + 1 by omega]
  simp only [runLoop]; rw [if_pos (by omega), Int.toNat_natCast, List.getElem?_eq_getElem h]; simp [hi, hr]
theorem run_right (sc : List TIns) (k : Nat) (rg : List Int) (st : Int) (h : k < sc.length) (hi : isInstr sc[k] sc.length = true) (hs : st < 60) {y : Int × List Int} (hr : runStep sc k rg st sc[k] = .inr y) : runLoop sc (60 - st).toNat k rg st = runLoop sc (60 - (st + 1)).toNat y.1 y.2 (st + 1) := by
  rw [show (60 - st).toNat = (60 - (st + 1)).toNat + 1 by omega]
  simp only [runLoop]; rw [if_pos (by omega), Int.toNat_natCast, List.getElem?_eq_getElem h]; simp [hi, hr]
/-- what a valid instruction is like -/
theorem ins_parts {x : TIns} {n : Int} (h : isInstr x n = true) : (1 ≤ x.kind ∧ x.kind ≤ 9) ∧ (0 ≤ x.r ∧ x.r ≤ 3) ∧ 0 ≤ x.n ∧ (x.kind = 2 → x.n ≤ 3) ∧ (x.kind ≠ 3 → x.kind ≠ 4 → x.n ≤ 1000) ∧ (x.kind = 3 ∨ x.kind = 4 → x.n ≤ n) := by
  simp only [isInstr, Bool.and_eq_true] at h
  obtain ⟨⟨⟨⟨h1, h2⟩, h3⟩, h4⟩, h5⟩ := h
  have k1 := inR_true h1
  have k2 := inR_true h2
  have k5 := inR_true h5
  unfold insMost at k5
  refine ⟨k1, k2, k5.1, fun e => ?_, fun e1 e2 => ?_, fun e => ?_⟩
  · have := k5.2; rw [if_neg (by omega), if_pos e] at this; exact this
  · have := k5.2
    split at this
    · omega
    · split at this
      · omega
      · split at this
        · rename_i h; omega
        · split at this <;> omega
  · have := k5.2; rw [if_neg (by omega), if_neg (by omega), if_pos e] at this; exact this
theorem regAt_get {rg : List Int} {i : Nat} (h : i < rg.length) : regAt rg i = rg[i] := by unfold regAt; rw [Int.toNat_natCast, List.getElem?_eq_getElem h]; rfl
theorem implClamp_any (n : Int) (w : World) : Calls Try.prog 84 #[.int .i64 n] w fun e w' => e = .returned (.int .i64 (clampI n)) ∧ w = w' := by
  go_enter Try.func84, Try.ntmps84
  go_wp2
  all_goals go_ret
  all_goals exact ⟨ret_int (by unfold clampI; omega), rfl⟩
theorem specMin_any (a b : Int) (w : World) : Calls Try.prog 142 #[.int .i64 a, .int .i64 b] w fun e w' => e = .returned (.int .i64 (min a b)) ∧ w = w' := by
  go_enter Try.func142, Try.ntmps142
  go_wp2
  all_goals go_ret
  all_goals exact ⟨ret_int (by omega), rfl⟩
theorem specClamp_any (n : Int) (w : World) : Calls Try.prog 112 #[.int .i64 n] w fun e w' => e = .returned (.int .i64 (clampI n)) ∧ w = w' := by
  go_enter Try.func112, Try.ntmps112
  go_wp2_with (first | (go_at_call 142; refine (specMin_any _ _ _).mono ?_; rintro e w1 ⟨rfl, rfl⟩) | (go_at_call 104; refine (specMax_any _ _ _).mono ?_; rintro e w1 ⟨rfl, rfl⟩))
  all_goals go_ret
  all_goals exact ⟨ret_int (by unfold clampI maxI; omega), rfl⟩
end Go.Proofs.Yteipaolcmjfhdaa
