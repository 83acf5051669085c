/-
  Site: eq. No conditions but the budget of the laws.
-/
import Derived.Test.YteipaolcmjfhdaaRows
import Derived.Test.YteipaolcmjfhdaaMem
import Derived.LoopTactic
import Derived.Test.YteipaolcmjfhdaaEqSSt
import Derived.Test.YteipaolcmjfhdaaTSite
namespace Go.Proofs.Yteipaolcmjfhdaa
open Go.ChangeShapes Go.WideShapes Go.RowKit
set_option linter.unusedVariables false

set_option maxHeartbeats 1000000 in
theorem eqSite_any (vs1 vs2 : Array Value) (x : TSite) (F1 F2 : List Nat) (w : World) (h1 : cSite.rep w vs1.toList x F1) (h2 : cSite.rep w vs2.toList x F2) :
    Calls Try.prog 44 #[.agg vs1, .agg vs2] w (Gives w (.bool true)) := by
  obtain ⟨a2, F2, rfl, rfl, hok, m2⟩ := TSite.outA h1
  obtain ⟨b2, Q2, rfl, rfl, -, n2⟩ := TSite.outA h2
  go_enter Try.func44, Try.ntmps44
  go_wp2_with fail
  refine (eqStringS_any _ _ x.files _ _ _ (by exact Cod.bel m2 (by repeat (first | with_reducible exact Below.refl _ _ | with_reducible assumption | with_reducible refine bel_alloc ?_ _ | with_reducible refine bel_drew ?_ | with_reducible refine bel_drewN ?_ _ | (with_reducible refine bel_set ?_ ?_ _; rotate_left; ((try simp); (try omega)))))) (by exact Cod.bel n2 (by repeat (first | with_reducible exact Below.refl _ _ | with_reducible assumption | with_reducible refine bel_alloc ?_ _ | with_reducible refine bel_drew ?_ | with_reducible refine bel_drewN ?_ _ | (with_reducible refine bel_set ?_ ?_ _; rotate_left; ((try simp); (try omega))))))).mono ?_
  rintro e w1 ⟨rfl, hb1⟩
  have hz1 := hb1.size
  (try simp at hz1)
  have hs1_0 : w.heap.size < w1.heap.size := by omega
  have hs1_1 : w.heap.size + 1 < w1.heap.size := by omega
  have hB1 : Below w.heap.size w w1 := bel_then (by repeat (first | with_reducible exact Below.refl _ _ | with_reducible assumption | with_reducible refine bel_alloc ?_ _ | with_reducible refine bel_drew ?_ | with_reducible refine bel_drewN ?_ _ | (with_reducible refine bel_set ?_ ?_ _; rotate_left; ((try simp); (try omega))))) hb1
  obtain ⟨hc1, hfz1, -⟩ := bcell hb1
  clear hb1
  go_wp2_with fail
  go_ret
  exact ⟨rfl, (by repeat (first | with_reducible exact Below.refl _ _ | with_reducible assumption | with_reducible refine bel_alloc ?_ _ | with_reducible refine bel_drew ?_ | with_reducible refine bel_drewN ?_ _ | (with_reducible refine bel_set ?_ ?_ _; rotate_left; ((try simp); (try omega)))))⟩

end Go.Proofs.Yteipaolcmjfhdaa
