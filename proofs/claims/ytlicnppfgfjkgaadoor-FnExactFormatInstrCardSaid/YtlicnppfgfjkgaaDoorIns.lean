/-
  IsInstr of the program and of the reference. No conditions.
-/
import Derived.Test.YtlicnppfgfjkgaaDoorTIns
import Derived.Test.YtlicnppfgfjkgaaDoorName
namespace Go.Proofs.YtlicnppfgfjkgaaDoor
open Go.ChangeShapes Go.WideShapes Go.RowKit

def insMost (kind lines : Int) : Int := if kind = 1 then 1000 else if kind = 2 then 3 else if kind = 3 ∨ kind = 4 then lines else if kind = 6 ∨ kind = 7 ∨ kind = 8 then 100 else 0
def insNamed (kind : Int) : Bool := kind == 5 || kind == 6 || kind == 7 || kind == 8
def isEmpty (s : ByteArray) : Bool := s.toList.isEmpty
def isInstr (x : TIns) (lines : Int) : Bool :=
  inR x.kind 1 9 && inR x.r 0 3 && !((x.kind == 4 || x.kind == 9) && x.r != 0) && (bif insNamed x.kind then isName x.text else isEmpty x.text) && inR x.n 0 (insMost x.kind lines)

theorem ins_zero (n : Int) : (n == 0) = inR n 0 0 := by
  rw [Bool.eq_iff_iff]; simp [inR]; omega
set_option maxHeartbeats 4000000 in
theorem implInstr_any (x : TIns) (lines : Int) (w : World) (hx : x.text.size ≤ maxLen) : Calls Tryd.prog 11 #[x.val, .int .i64 lines] w (Gives w (.bool (isInstr x lines))) := by
  unfold TIns.val
  obtain ⟨kind, r, n, t⟩ := x
  by_cases hk : inR kind 1 9 = true
  · have hkr := inR_true hk
    have hc : kind = 1 ∨ kind = 2 ∨ kind = 3 ∨ kind = 4 ∨ kind = 5 ∨ kind = 6 ∨ kind = 7 ∨ kind = 8 ∨ kind = 9 := by omega
    clear hkr hk
    rcases hc with rfl | rfl | rfl | rfl | rfl | rfl | rfl | rfl | rfl
    all_goals
      go_enter Tryd.func11, Tryd.ntmps11
      go_wp2_with (first
        | (go_at_call 33; refine (inRange_any _ _ _ _).mono ?_; rintro e w1 ⟨rfl, rfl⟩)
        | (go_at_call 34; refine (implName_any _ _ hx).mono ?_; rintro e w1 ⟨rfl, rfl⟩))
    all_goals go_ret
    all_goals refine ⟨ret_bool ?_, (by repeat (first | with_reducible exact Below.refl _ _ | with_reducible assumption | with_reducible refine bel_alloc ?_ _ | with_reducible refine bel_drew ?_ | with_reducible refine bel_drewN ?_ _ | (with_reducible refine bel_set ?_ ?_ _; rotate_left; ((try simp); (try omega)))))⟩
    all_goals try simp only [Bool.not_eq_true', Bool.not_eq_false'] at *
    all_goals first
      | (simp [isInstr, insMost, insNamed, isEmpty, -List.isEmpty_iff, *]; done)
      | (rw [ins_zero]; simp [isInstr, insMost, insNamed, isEmpty, -List.isEmpty_iff, *]; done)
      | skip
  · go_enter Tryd.func11, Tryd.ntmps11
    go_wp2_with (first
      | (go_at_call 33; refine (inRange_any _ _ _ _).mono ?_; rintro e w1 ⟨rfl, rfl⟩)
      | (go_at_call 34; refine (implName_any _ _ hx).mono ?_; rintro e w1 ⟨rfl, rfl⟩))
    go_ret
    exact ⟨ret_bool (by simp [isInstr, hk]), (by repeat (first | with_reducible exact Below.refl _ _ | with_reducible assumption | with_reducible refine bel_alloc ?_ _ | with_reducible refine bel_drew ?_ | with_reducible refine bel_drewN ?_ _ | (with_reducible refine bel_set ?_ ?_ _; rotate_left; ((try simp); (try omega)))))⟩
set_option maxHeartbeats 4000000 in
theorem specInstr_any (x : TIns) (lines : Int) (w : World) (hx : x.text.size ≤ maxLen) : Calls Tryd.prog 42 #[x.val, .int .i64 lines] w (Gives w (.bool (isInstr x lines))) := by
  unfold TIns.val
  obtain ⟨kind, r, n, t⟩ := x
  by_cases hk : inR kind 1 9 = true
  · have hkr := inR_true hk
    have hc : kind = 1 ∨ kind = 2 ∨ kind = 3 ∨ kind = 4 ∨ kind = 5 ∨ kind = 6 ∨ kind = 7 ∨ kind = 8 ∨ kind = 9 := by omega
    clear hkr hk
    rcases hc with rfl | rfl | rfl | rfl | rfl | rfl | rfl | rfl | rfl
    all_goals
      go_enter Tryd.func42, Tryd.ntmps42
      go_wp2_with (first
        | (go_at_call 52; refine (l1In_any _ _ _ _).mono ?_; rintro e w1 ⟨rfl, rfl⟩)
        | (go_at_call 53; refine (specName_any _ _ hx).mono ?_; rintro e w1 ⟨rfl, rfl⟩))
    all_goals go_ret
    all_goals refine ⟨ret_bool ?_, (by repeat (first | with_reducible exact Below.refl _ _ | with_reducible assumption | with_reducible refine bel_alloc ?_ _ | with_reducible refine bel_drew ?_ | with_reducible refine bel_drewN ?_ _ | (with_reducible refine bel_set ?_ ?_ _; rotate_left; ((try simp); (try omega)))))⟩
    all_goals try simp only [Bool.not_eq_true', Bool.not_eq_false'] at *
    all_goals first
      | (simp [isInstr, insMost, insNamed, isEmpty, -List.isEmpty_iff, *]; done)
      | (simp [isInstr, insMost, insNamed, isEmpty, -List.isEmpty_iff, inR]; done)
      | skip
  · have hk' : inR kind 1 9 = false := by simpa using hk
    have hkr := inR_false hk'
    have b1 : (kind == 1) = false := by simp; omega
    have b2 : (kind == 2) = false := by simp; omega
    have b3 : (kind == 3) = false := by simp; omega
    have b4 : (kind == 4) = false := by simp; omega
    have b5 : (kind == 5) = false := by simp; omega
    have b6 : (kind == 6) = false := by simp; omega
    have b7 : (kind == 7) = false := by simp; omega
    have b8 : (kind == 8) = false := by simp; omega
    have b9 : (kind == 9) = false := by simp; omega
    clear hkr hk
    go_enter Tryd.func42, Tryd.ntmps42
    go_wp2_with (first
      | (go_at_call 52; refine (l1In_any _ _ _ _).mono ?_; rintro e w1 ⟨rfl, rfl⟩)
      | (go_at_call 53; refine (specName_any _ _ hx).mono ?_; rintro e w1 ⟨rfl, rfl⟩))
    all_goals go_ret
    all_goals exact ⟨ret_bool (by simp [isInstr, hk']), (by repeat (first | with_reducible exact Below.refl _ _ | with_reducible assumption | with_reducible refine bel_alloc ?_ _ | with_reducible refine bel_drew ?_ | with_reducible refine bel_drewN ?_ _ | (with_reducible refine bel_set ?_ ?_ _; rotate_left; ((try simp); (try omega)))))⟩
theorem implIsInstr_any (vs : Array Value) (x : TIns) (F : List Nat) (lines : Int) (w : World) (h : cIns.rep w vs.toList x F) (_hn : cIns.sz x ≤ 1048576) (_hl : -9223372036854775808 ≤ lines ∧ lines ≤ 9223372036854775807) :
    Calls Tryd.prog 11 #[.agg vs, .int .i64 lines] w (Gives w (.bool (isInstr x lines))) := by
  rw [TIns.val_of h]
  exact implInstr_any x lines w (TIns.out h).2.2.h3
theorem specIsInstr_any (vs : Array Value) (x : TIns) (F : List Nat) (lines : Int) (w : World) (h : cIns.rep w vs.toList x F) (_hn : cIns.sz x ≤ 1048576) (_hl : -9223372036854775808 ≤ lines ∧ lines ≤ 9223372036854775807) :
    Calls Tryd.prog 42 #[.agg vs, .int .i64 lines] w (Gives w (.bool (isInstr x lines))) := by
  rw [TIns.val_of h]
  exact specInstr_any x lines w (TIns.out h).2.2.h3
end Go.Proofs.YtlicnppfgfjkgaaDoor
