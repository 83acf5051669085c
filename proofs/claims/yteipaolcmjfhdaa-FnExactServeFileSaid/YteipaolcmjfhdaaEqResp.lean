/-
  Response: eq. No conditions but the budget of the laws.
-/
import Derived.Test.YteipaolcmjfhdaaRows
import Derived.Test.YteipaolcmjfhdaaMem
import Derived.LoopTactic
import Derived.Test.YteipaolcmjfhdaaEqSU
import Derived.Test.YteipaolcmjfhdaaTResp
namespace Go.Proofs.Yteipaolcmjfhdaa
open Go.ChangeShapes Go.WideShapes Go.RowKit
set_option linter.unusedVariables false

set_option maxHeartbeats 1000000 in
theorem eqResponse_any (vs1 vs2 : Array Value) (x : TResp) (F1 F2 : List Nat) (w : World) (h1 : cResp.rep w vs1.toList x F1) (h2 : cResp.rep w vs2.toList x F2) :
    Calls Try.prog 57 #[.agg vs1, .agg vs2] w (Gives w (.bool true)) := by
  obtain ⟨a3, F3, rfl, rfl, hok, m3⟩ := TResp.outA h1
  obtain ⟨b3, Q3, rfl, rfl, -, n3⟩ := TResp.outA h2
  go_enter Try.func57, Try.ntmps57
  go_wp2_with fail
  refine (eqByteS_any _ _ x.body _ _ _ (by exact Cod.bel m3 (by repeat (first | with_reducible exact Below.refl _ _ | with_reducible assumption | with_reducible refine bel_alloc ?_ _ | with_reducible refine bel_drew ?_ | with_reducible refine bel_drewN ?_ _ | (with_reducible refine bel_set ?_ ?_ _; rotate_left; ((try simp); (try omega)))))) (by exact Cod.bel n3 (by repeat (first | with_reducible exact Below.refl _ _ | with_reducible assumption | with_reducible refine bel_alloc ?_ _ | with_reducible refine bel_drew ?_ | with_reducible refine bel_drewN ?_ _ | (with_reducible refine bel_set ?_ ?_ _; rotate_left; ((try simp); (try omega))))))).mono ?_
  rintro e w1 ⟨rfl, hb1⟩
  have hz1 := hb1.size
  (try simp at hz1)
  have hs1_0 : w.heap.size < w1.heap.size := by omega
  have hs1_1 : w.heap.size + 1 < w1.heap.size := by omega
  have hB1 : Below w.heap.size w w1 := bel_then (by repeat (first | with_reducible exact Below.refl _ _ | with_reducible assumption | with_reducible refine bel_alloc ?_ _ | with_reducible refine bel_drew ?_ | with_reducible refine bel_drewN ?_ _ | (with_reducible refine bel_set ?_ ?_ _; rotate_left; ((try simp); (try omega))))) hb1
  obtain ⟨hc1, hfz1, -⟩ := bcell hb1
  clear hb1
  go_wp2_with fail
  go_ret
  exact ⟨rfl, (by repeat (first | with_reducible exact Below.refl _ _ | with_reducible assumption | with_reducible refine bel_alloc ?_ _ | with_reducible refine bel_drew ?_ | with_reducible refine bel_drewN ?_ _ | (with_reducible refine bel_set ?_ ?_ _; rotate_left; ((try simp); (try omega)))))⟩

end Go.Proofs.Yteipaolcmjfhdaa
