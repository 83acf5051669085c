/-
  Registrations: the type, and what the functions of laws over it do. No conditions.
-/
import Derived.Test.YtdogljbchedkaaaRows
import Derived.Test.YtdogljbchedkaaaOpen
import Derived.Deep.QuietTactic
import Derived.BigQuiet
namespace Go.Proofs.Ytdogljbchedkaaa
open Go.ChangeShapes Go.WideShapes Go.RowKit

structure TReg where
  site : ByteArray
  ins : Int
  wai : Int
  act : Int
def cReg : Cod TReg := cM (cP cS (cP cI (cP cI cI))) fun x => (x.site, x.ins, x.wai, x.act)
theorem TReg.all (a : ByteArray × Int × Int × Int) : ∃ x : TReg, (x.site, x.ins, x.wai, x.act) = a := ⟨⟨a.1, a.2.1, a.2.2.1, a.2.2.2⟩, rfl⟩
theorem TReg.out {w : World} {vs : List Value} {x : TReg} {F : List Nat} (h : cReg.rep w vs x F) :
    vs = [.string x.site, .int .i64 x.ins, .int .i64 x.wai, .int .i64 x.act] ∧ F = [] ∧ x.site.size ≤ maxLen ∧ (-9223372036854775808 ≤ x.ins ∧ x.ins ≤ 9223372036854775807) ∧
      (-9223372036854775808 ≤ x.wai ∧ x.wai ≤ 9223372036854775807) ∧ (-9223372036854775808 ≤ x.act ∧ x.act ≤ 9223372036854775807) := by
  obtain ⟨v1, v2, F1, F2, rfl, rfl, ⟨rfl, rfl, h1⟩, v3, v4, F3, F4, rfl, rfl, ⟨rfl, rfl, h2⟩, v5, v6, F5, F6, rfl, rfl, ⟨rfl, rfl, h3⟩, rfl, rfl, h4⟩ := h
  exact ⟨rfl, rfl, h1, h2, h3, h4⟩
theorem opens_lReg : Opens Try.prog 23 cReg :=
  opens_map (opens_struct Try.underlying23 (by kernel_rfl)
    (opensFs_cons rfl (opens_string Try.underlying9 (by kernel_rfl)) (opensFs_cons rfl (opens_int Try.underlying3 (by kernel_rfl)) (opensFs_cons rfl (opens_int Try.underlying3 (by kernel_rfl)) (opensFs_one rfl (opens_int Try.underlying3 (by kernel_rfl))))))) TReg.all
def TReg.val (x : TReg) : Value := .agg #[.string x.site, .int .i64 x.ins, .int .i64 x.wai, .int .i64 x.act]
theorem TReg.val_of {w : World} {cs : Array Value} {x : TReg} {F : List Nat} (h : cReg.rep w cs.toList x F) : Value.agg cs = x.val := by
  have := (TReg.out h).1
  unfold TReg.val
  rw [← Array.toList_inj.1 (show cs.toList = #[Value.string x.site, .int .i64 x.ins, .int .i64 x.wai, .int .i64 x.act].toList from this)]

theorem toRegistration_any (x : TReg) (w : World) : Calls Try.prog 17 #[x.val] w (Gives w x.val) := by
  unfold TReg.val
  go_enter Try.func17, Try.ntmps17
  go_wp2
  exact bodyPost_ret (v := .agg #[.string x.site, .int .i64 x.ins, .int .i64 x.wai, .int .i64 x.act]) (by simp [results, Try.results17, go_sem]) rfl ⟨rfl, (by repeat (first | exact Below.refl _ _ | assumption | refine bel_alloc ?_ _ | refine bel_drew ?_ | refine bel_drewN ?_ _ | refine bel_set ?_ (by simp; try omega) _))⟩

theorem szRegistration_any (x : TReg) (n : Int) (w : World) (hs : x.site.size ≤ maxLen) (h0 : 0 ≤ n) (h1 : n ≤ 1048576) :
    Calls Try.prog 15 #[x.val, .int .i64 n] w (Gives w (.int .i64 (leftOf n x.site.size))) := by
  unfold maxLen at hs
  unfold TReg.val
  by_cases hlt : n - x.site.size < 0
  · go_enter Try.func15, Try.ntmps15
    go_wp2
    go_ret
    exact ⟨ret_int (leftOf_neg (by omega)).symm, (by repeat (first | exact Below.refl _ _ | assumption | refine bel_alloc ?_ _ | refine bel_drew ?_ | refine bel_drewN ?_ _ | refine bel_set ?_ (by simp; try omega) _))⟩
  · go_enter Try.func15, Try.ntmps15
    go_wp2
    go_ret
    exact ⟨ret_int (leftOf_pos (by omega)).symm, (by repeat (first | exact Below.refl _ _ | assumption | refine bel_alloc ?_ _ | refine bel_drew ?_ | refine bel_drewN ?_ _ | refine bel_set ?_ (by simp; try omega) _))⟩
end Go.Proofs.Ytdogljbchedkaaa
