/-
  Registration: sz and to. No conditions but the budget of the laws.
-/
import Derived.Test.YtfciadidlbnioaaRows
import Derived.Test.YtfciadidlbnioaaMem
import Derived.LoopTactic
import Derived.Test.YtfciadidlbnioaaTReg
namespace Go.Proofs.Ytfciadidlbnioaa
open Go.ChangeShapes Go.WideShapes Go.RowKit
set_option linter.unusedVariables false

set_option maxHeartbeats 1000000 in
theorem szRegistration_any (vs : Array Value) (x : TReg) (F : List Nat) (n : Int) (w : World) (h : cReg.rep w vs.toList x F) (h0 : 0 ≤ n) (h1 : n ≤ 1048576) :
    Calls Try.prog 14 #[.agg vs, .int .i64 n] w (Gives w (.int .i64 (leftOf n (cReg.sz x)))) := by
  obtain ⟨e, rfl, hok⟩ := TReg.out h
  obtain rfl : vs = #[Value.string x.site, .int .i64 x.ins, .int .i64 x.wai, .int .i64 x.act] := Array.toList_inj.1 e
  have hsz : cReg.sz x = x.site.size + (0 + (0 + (0))) := rfl
  have hm0 := hok.h0
  unfold maxLen at hm0
  have HZ := Lib.hid (And.intro hsz trivial)
  clear hsz
  by_cases l0 : n - (x.site.size : Int) < 0
  · go_enter Try.func14, Try.ntmps14
    go_wp2_with fail
    go_ret
    exact ⟨ret_int (leftOf_neg (by have hh := HZ.out; omega)).symm, (by repeat (first | with_reducible exact Below.refl _ _ | with_reducible assumption | with_reducible refine bel_alloc ?_ _ | with_reducible refine bel_drew ?_ | with_reducible refine bel_drewN ?_ _ | (with_reducible refine bel_set ?_ ?_ _; rotate_left; ((try simp); (try omega)))))⟩
  · have p0 : 0 ≤ n - (x.site.size : Int) := by omega
    go_enter Try.func14, Try.ntmps14
    go_wp2_with fail
    go_ret
    exact ⟨ret_int (by have hh := HZ.out; rw [leftOf_pos (by omega)]; omega), (by repeat (first | with_reducible exact Below.refl _ _ | with_reducible assumption | with_reducible refine bel_alloc ?_ _ | with_reducible refine bel_drew ?_ | with_reducible refine bel_drewN ?_ _ | (with_reducible refine bel_set ?_ ?_ _; rotate_left; ((try simp); (try omega)))))⟩

set_option maxHeartbeats 1000000 in
theorem toRegistration_any (vs : Array Value) (x : TReg) (F : List Nat) (w : World) (h : cReg.rep w vs.toList x F) (hn : cReg.sz x ≤ 1048576) :
    Calls Try.prog 16 #[.agg vs] w (GivesR cReg w x) := by
  obtain ⟨e, rfl, hok⟩ := TReg.out h
  obtain rfl : vs = #[Value.string x.site, .int .i64 x.ins, .int .i64 x.wai, .int .i64 x.act] := Array.toList_inj.1 e
  go_enter Try.func16, Try.ntmps16
  go_wp2
  exact bodyPost_ret (v := .agg #[Value.string x.site, .int .i64 x.ins, .int .i64 x.wai, .int .i64 x.act]) (by simp [results, Try.results16, go_sem]) rfl ⟨_, [], rfl, (by repeat (first | with_reducible exact Below.refl _ _ | with_reducible assumption | with_reducible refine bel_alloc ?_ _ | with_reducible refine bel_drew ?_ | with_reducible refine bel_drewN ?_ _ | (with_reducible refine bel_set ?_ ?_ _; rotate_left; ((try simp); (try omega))))), TReg.mk_ hok, Fresh.nil _⟩

end Go.Proofs.Ytfciadidlbnioaa
