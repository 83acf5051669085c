/-
  The contracts of FnWorkers' functions, their results as values. No conditions.
-/
import Derived.Test.YteipaolcmjfhdaaWorkPlain
import Derived.Test.YteipaolcmjfhdaaContains
namespace Go.Proofs.Yteipaolcmjfhdaa
open Go.ChangeShapes Go.WideShapes Go.RowKit
set_option linter.unusedVariables false

theorem implNewest_any (s : ByteArray) (a b c : Int) (w : World) : Calls Try.prog 37 #[.agg #[.string s, .int .i64 a, .int .i64 b, .int .i64 c]] w (Gives w (.int .i64 (max c (max b a)))) := by
  go_enter Try.func37, Try.ntmps37
  go_wp2
  all_goals go_ret
  all_goals exact ⟨ret_int (by omega), (by repeat (first | with_reducible exact Below.refl _ _ | with_reducible assumption | with_reducible refine bel_alloc ?_ _ | with_reducible refine bel_drew ?_ | with_reducible refine bel_drewN ?_ _ | (with_reducible refine bel_set ?_ ?_ _; rotate_left; ((try simp); (try omega)))))⟩
theorem regSz {s : ByteArray} {a b c : Int} (h : s.size ≤ 100) : cReg.sz ⟨s, a, b, c⟩ ≤ 1048576 := by have : cReg.sz ⟨s, a, b, c⟩ = s.size + (0 + (0 + 0)) := rfl; omega
theorem usSz : ∀ {us : List Int}, us.length ≤ 2 → cIS.sz us ≤ 1048576
  | [], _ => Nat.zero_le _
  | [_], _ => (by decide : 0 + 1 + 0 ≤ 1048576)
  | [_, _], _ => (by decide : 0 + 1 + (0 + 1 + 0) ≤ 1048576)
  | _ :: _ :: _ :: _, h => by simp at h
theorem actV (s : ByteArray) (a b c : Int) (A : Value) (us : List Int) (G : List Nat) (w : World) (hok : (⟨s, a, b, c⟩ : TReg).Ok) (hs : s.size ≤ 100) (h : cIS.rep w [A] us G) (hn : us.length ≤ 2) :
    Calls Try.prog 29 #[.agg #[.string s, .int .i64 a, .int .i64 b, .int .i64 c], A] w (Gives w (.tuple #[(activate ⟨s, a, b, c⟩ us).1.val, .int .i64 (activate ⟨s, a, b, c⟩ us).2.1, .bool (activate ⟨s, a, b, c⟩ us).2.2])) :=
  (implActivate_any _ ⟨s, a, b, c⟩ [] A us G w (TReg.mk_ hok) (regSz hs) h (usSz hn)).mono (fun e w' ⟨vs, F, he, hb, hr, _⟩ => ⟨by rw [he, TReg.val_of hr], hb⟩)
theorem implCanV (s : ByteArray) (a b c : Int) (A : Value) (us : List Int) (G : List Nat) (w : World) (hok : (⟨s, a, b, c⟩ : TReg).Ok) (hs : s.size ≤ 100) (h : cIS.rep w [A] us G) (hn : us.length ≤ 2) :
    Calls Try.prog 30 #[.agg #[.string s, .int .i64 a, .int .i64 b, .int .i64 c], A] w (Gives w (.bool (canActivate ⟨s, a, b, c⟩ us))) :=
  implCanActivate_any _ ⟨s, a, b, c⟩ [] A us G w (TReg.mk_ hok) (regSz hs) h (usSz hn)
theorem implBeginV (s : ByteArray) (a b c v : Int) (w : World) (hok : (⟨s, a, b, c⟩ : TReg).Ok) (hs : s.size ≤ 100) (hv : -9223372036854775808 ≤ v ∧ v ≤ 9223372036854775807) :
    Calls Try.prog 35 #[.agg #[.string s, .int .i64 a, .int .i64 b, .int .i64 c], .int .i64 v] w (Gives w (.tuple #[(beginInstall ⟨s, a, b, c⟩ v).1.val, .bool (beginInstall ⟨s, a, b, c⟩ v).2])) :=
  (implBeginInstall_any _ ⟨s, a, b, c⟩ [] v w (TReg.mk_ hok) (regSz hs) hv).mono (fun e w' ⟨vs, F, he, hb, hr, _⟩ => ⟨by rw [he, TReg.val_of hr], hb⟩)
theorem specCanV (s : ByteArray) (a b c : Int) (A : Value) (us : List Int) (G : List Nat) (w : World) (hok : (⟨s, a, b, c⟩ : TReg).Ok) (hs : s.size ≤ 100) (h : cIS.rep w [A] us G) (hn : us.length ≤ 2) :
    Calls Try.prog 31 #[.agg #[.string s, .int .i64 a, .int .i64 b, .int .i64 c], A] w (Gives w (.bool (canActivate ⟨s, a, b, c⟩ us))) :=
  specCanActivate_any _ ⟨s, a, b, c⟩ [] A us G w (TReg.mk_ hok) (regSz hs) h (usSz hn)
theorem specBeginV (s : ByteArray) (a b c v : Int) (w : World) (hok : (⟨s, a, b, c⟩ : TReg).Ok) (hs : s.size ≤ 100) (hv : -9223372036854775808 ≤ v ∧ v ≤ 9223372036854775807) :
    Calls Try.prog 36 #[.agg #[.string s, .int .i64 a, .int .i64 b, .int .i64 c], .int .i64 v] w (Gives w (.tuple #[(beginInstall ⟨s, a, b, c⟩ v).1.val, .bool (beginInstall ⟨s, a, b, c⟩ v).2])) :=
  (specBeginInstall_any _ ⟨s, a, b, c⟩ [] v w (TReg.mk_ hok) (regSz hs) hv).mono (fun e w' ⟨vs, F, he, hb, hr, _⟩ => ⟨by rw [he, TReg.val_of hr], hb⟩)
theorem endV (s : ByteArray) (a b c : Int) (ok : Bool) (w : World) (hok : (⟨s, a, b, c⟩ : TReg).Ok) (hs : s.size ≤ 100) :
    Calls Try.prog 38 #[.agg #[.string s, .int .i64 a, .int .i64 b, .int .i64 c], .bool ok] w (Gives w (.tuple #[(endInstall ⟨s, a, b, c⟩ ok).1.val, .int .i64 (endInstall ⟨s, a, b, c⟩ ok).2])) :=
  (implEndInstall_any _ ⟨s, a, b, c⟩ [] ok w (TReg.mk_ hok) (regSz hs)).mono (fun e w' ⟨vs, F, he, hb, hr, _⟩ => ⟨by rw [he, TReg.val_of hr], hb⟩)
end Go.Proofs.Yteipaolcmjfhdaa
