/-
  Instr: sz and to. No conditions but the budget of the laws.
-/
import Derived.Test.YtlicnppfgfjkgaaDoorRows
import Derived.Test.YtlicnppfgfjkgaaDoorMem
import Derived.LoopTactic
import Derived.Test.YtlicnppfgfjkgaaDoorTIns
namespace Go.Proofs.YtlicnppfgfjkgaaDoor
open Go.ChangeShapes Go.WideShapes Go.RowKit
set_option linter.unusedVariables false

set_option maxHeartbeats 1000000 in
theorem szInstr_any (vs : Array Value) (x : TIns) (F : List Nat) (n : Int) (w : World) (h : cIns.rep w vs.toList x F) (h0 : 0 ≤ n) (h1 : n ≤ 1048576) :
    Calls Tryd.prog 19 #[.agg vs, .int .i64 n] w (Gives w (.int .i64 (leftOf n (cIns.sz x)))) := by
  obtain ⟨e, rfl, hok⟩ := TIns.out h
  obtain rfl : vs = #[Value.int .i64 x.kind, .int .i64 x.r, .int .i64 x.n, .string x.text] := Array.toList_inj.1 e
  have hsz : cIns.sz x = 0 + (0 + (0 + (x.text.size))) := rfl
  have hm3 := hok.h3
  unfold maxLen at hm3
  have HZ := Lib.hid (And.intro hsz trivial)
  clear hsz
  by_cases l0 : n - (x.text.size : Int) < 0
  · go_enter Tryd.func19, Tryd.ntmps19
    go_wp2_with fail
    go_ret
    exact ⟨ret_int (leftOf_neg (by have hh := HZ.out; omega)).symm, (by repeat (first | with_reducible exact Below.refl _ _ | with_reducible assumption | with_reducible refine bel_alloc ?_ _ | with_reducible refine bel_drew ?_ | with_reducible refine bel_drewN ?_ _ | (with_reducible refine bel_set ?_ ?_ _; rotate_left; ((try simp); (try omega)))))⟩
  · have p0 : 0 ≤ n - (x.text.size : Int) := by omega
    go_enter Tryd.func19, Tryd.ntmps19
    go_wp2_with fail
    go_ret
    exact ⟨ret_int (by have hh := HZ.out; rw [leftOf_pos (by omega)]; omega), (by repeat (first | with_reducible exact Below.refl _ _ | with_reducible assumption | with_reducible refine bel_alloc ?_ _ | with_reducible refine bel_drew ?_ | with_reducible refine bel_drewN ?_ _ | (with_reducible refine bel_set ?_ ?_ _; rotate_left; ((try simp); (try omega)))))⟩

set_option maxHeartbeats 1000000 in
theorem toInstr_any (vs : Array Value) (x : TIns) (F : List Nat) (w : World) (h : cIns.rep w vs.toList x F) (hn : cIns.sz x ≤ 1048576) :
    Calls Tryd.prog 21 #[.agg vs] w (GivesR cIns w x) := by
  obtain ⟨e, rfl, hok⟩ := TIns.out h
  obtain rfl : vs = #[Value.int .i64 x.kind, .int .i64 x.r, .int .i64 x.n, .string x.text] := Array.toList_inj.1 e
  go_enter Tryd.func21, Tryd.ntmps21
  go_wp2
  exact bodyPost_ret (v := .agg #[Value.int .i64 x.kind, .int .i64 x.r, .int .i64 x.n, .string x.text]) (by simp [results, Tryd.results21, go_sem]) rfl ⟨_, [], rfl, (by repeat (first | with_reducible exact Below.refl _ _ | with_reducible assumption | with_reducible refine bel_alloc ?_ _ | with_reducible refine bel_drew ?_ | with_reducible refine bel_drewN ?_ _ | (with_reducible refine bel_set ?_ ?_ _; rotate_left; ((try simp); (try omega))))), TIns.mk_ hok, Fresh.nil _⟩

end Go.Proofs.YtlicnppfgfjkgaaDoor
