/-
  Machine: eq. No conditions but the budget of the laws.
-/
import Derived.Test.YteipaolcmjfhdaaRows
import Derived.Test.YteipaolcmjfhdaaMem
import Derived.LoopTactic
import Derived.Test.YteipaolcmjfhdaaEqSI
import Derived.Test.YteipaolcmjfhdaaEqSIns
import Derived.Test.YteipaolcmjfhdaaTMach
namespace Go.Proofs.Yteipaolcmjfhdaa
open Go.ChangeShapes Go.WideShapes Go.RowKit
set_option linter.unusedVariables false

set_option maxHeartbeats 1000000 in
theorem eqMachine_any (vs1 vs2 : Array Value) (x : TMach) (F1 F2 : List Nat) (w : World) (h1 : cMach.rep w vs1.toList x F1) (h2 : cMach.rep w vs2.toList x F2) :
    Calls Try.prog 63 #[.agg vs1, .agg vs2] w (Gives w (.bool true)) := by
  obtain ⟨a0, a2, F0, F2, rfl, rfl, hok, m0, m2⟩ := TMach.outA h1
  obtain ⟨b0, b2, Q0, Q2, rfl, rfl, -, n0, n2⟩ := TMach.outA h2
  go_enter Try.func63, Try.ntmps63
  go_wp2_with fail
  refine (eqInstrS_any _ _ x.script _ _ _ (by exact Cod.bel m0 (by repeat (first | with_reducible exact Below.refl _ _ | with_reducible assumption | with_reducible refine bel_alloc ?_ _ | with_reducible refine bel_drew ?_ | with_reducible refine bel_drewN ?_ _ | (with_reducible refine bel_set ?_ ?_ _; rotate_left; ((try simp); (try omega)))))) (by exact Cod.bel n0 (by repeat (first | with_reducible exact Below.refl _ _ | with_reducible assumption | with_reducible refine bel_alloc ?_ _ | with_reducible refine bel_drew ?_ | with_reducible refine bel_drewN ?_ _ | (with_reducible refine bel_set ?_ ?_ _; rotate_left; ((try simp); (try omega))))))).mono ?_
  rintro e w1 ⟨rfl, hb1⟩
  have hz1 := hb1.size
  (try simp at hz1)
  have hs1_0 : w.heap.size < w1.heap.size := by omega
  have hs1_1 : w.heap.size + 1 < w1.heap.size := by omega
  have hB1 : Below w.heap.size w w1 := bel_then (by repeat (first | with_reducible exact Below.refl _ _ | with_reducible assumption | with_reducible refine bel_alloc ?_ _ | with_reducible refine bel_drew ?_ | with_reducible refine bel_drewN ?_ _ | (with_reducible refine bel_set ?_ ?_ _; rotate_left; ((try simp); (try omega))))) hb1
  obtain ⟨hc1, hfz1, -⟩ := bcell hb1
  clear hb1
  go_wp2_with fail
  refine (eqIntS_any _ _ x.regs _ _ _ (by exact Cod.bel m2 (by repeat (first | with_reducible exact Below.refl _ _ | with_reducible assumption | with_reducible refine bel_alloc ?_ _ | with_reducible refine bel_drew ?_ | with_reducible refine bel_drewN ?_ _ | (with_reducible refine bel_set ?_ ?_ _; rotate_left; ((try simp); (try omega)))))) (by exact Cod.bel n2 (by repeat (first | with_reducible exact Below.refl _ _ | with_reducible assumption | with_reducible refine bel_alloc ?_ _ | with_reducible refine bel_drew ?_ | with_reducible refine bel_drewN ?_ _ | (with_reducible refine bel_set ?_ ?_ _; rotate_left; ((try simp); (try omega))))))).mono ?_
  rintro e w2 ⟨rfl, hb2⟩
  have hz2 := hb2.size
  (try simp at hz2)
  have hs2_0 : w.heap.size < w2.heap.size := by omega
  have hs2_1 : w.heap.size + 1 < w2.heap.size := by omega
  have hB2 : Below w.heap.size w w2 := bel_then (by repeat (first | with_reducible exact Below.refl _ _ | with_reducible assumption | with_reducible refine bel_alloc ?_ _ | with_reducible refine bel_drew ?_ | with_reducible refine bel_drewN ?_ _ | (with_reducible refine bel_set ?_ ?_ _; rotate_left; ((try simp); (try omega))))) hb2
  obtain ⟨hc2, hfz2, -⟩ := bcell hb2
  clear hb2
  go_wp2_with fail
  go_ret
  exact ⟨rfl, (by repeat (first | with_reducible exact Below.refl _ _ | with_reducible assumption | with_reducible refine bel_alloc ?_ _ | with_reducible refine bel_drew ?_ | with_reducible refine bel_drewN ?_ _ | (with_reducible refine bel_set ?_ ?_ _; rotate_left; ((try simp); (try omega)))))⟩

end Go.Proofs.Yteipaolcmjfhdaa
