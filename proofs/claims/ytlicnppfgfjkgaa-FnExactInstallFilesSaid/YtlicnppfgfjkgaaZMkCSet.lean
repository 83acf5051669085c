/-
  CacheSet: mark and held. No conditions but the budget of the laws.
-/
import Derived.Test.YtlicnppfgfjkgaaRows
import Derived.Test.YtlicnppfgfjkgaaZA
import Derived.LoopTactic
import Derived.Test.YtlicnppfgfjkgaaZMk0CSet
import Derived.Test.YtlicnppfgfjkgaaZHdSCache
import Derived.Test.YtlicnppfgfjkgaaZMkSCache
namespace Go.Proofs.Ytlicnppfgfjkgaa
open Go.ChangeShapes Go.WideShapes Go.RowKit
set_option linter.unusedVariables false

def MarkedCacheSet (w : World) (vs : Array Value) (F : List Nat) (n : Int) (x : TCSet) (e : Ending) (w' : World) : Prop := e = .returned (.int .i64 n) ∧ Only F w w' ∧ cCSet.rep w' vs.toList x F
set_option maxHeartbeats 1000000 in
theorem markCacheSet_any (vs : Array Value) (x : TCSet) (F : List Nat) (k0 : Int) (w : World) (h : cCSet.rep w vs.toList x F) (hnd : F.Nodup) (h0 : 0 ≤ k0) (h1 : k0 + ((TCSet.tcn x : Nat) : Int) ≤ 900000000) :
    Calls Try.prog 50 #[.agg vs, .int .i64 k0] w (MarkedCacheSet w vs F (k0 + ((TCSet.tcn x : Nat) : Int)) (TCSet.top k0 x)) := by
  obtain ⟨v0, F0, rfl, rfl, hok, m0⟩ := TCSet.outA h
  have htc : TCSet.tcn x = cCacheS.cn x.caches := rfl
  have hnd0 := hnd
  go_enter Try.func50, Try.ntmps50
  go_wp2_with fail
  have hO0 : Only (F) w w := Only.refl _ _
  refine (markCacheS_any _ x.caches _ _ _ (by exact Cod.bel m0 (by repeat (first | with_reducible exact Below.refl _ _ | with_reducible assumption | with_reducible refine bel_alloc ?_ _ | with_reducible refine bel_drew ?_ | with_reducible refine bel_drewN ?_ _ | (with_reducible refine bel_set ?_ ?_ _; rotate_left; ((try simp); (try omega)))))) hnd0 (by omega) (by omega)).mono ?_
  rintro e w1 ⟨rfl, ho1, hr1⟩
  have hz1 := ho1.size
  (try simp at hz1)
  have hs1 : w.heap.size < w1.heap.size := by omega
  have hbox1 : w1.heap[w.heap.size]? = _ := ho1.block w.heap.size (by (try simp); (try omega)) (fun hm => Nat.lt_irrefl _ (Cod.lt _ m0 _ hm))
  have hcb1 : ∀ o : Nat, w1.cell? ⟨w.heap.size, o, none⟩ = _ := fun o => World.cell?_of_block (a := ⟨w.heap.size, o, none⟩) hbox1
  clear hbox1
  have hO1 : Only (F) w w1 := (Only.trans hO0 (by exact Only.trans (Only.of_below (by repeat (first | with_reducible exact Below.refl _ _ | with_reducible assumption | with_reducible refine bel_alloc ?_ _ | with_reducible refine bel_drew ?_ | with_reducible refine bel_drewN ?_ _ | (with_reducible refine bel_set ?_ ?_ _; rotate_left; ((try simp); (try omega)))))) (ho1.mono (fun x hx => by simp [hx]))))
  go_wp2_with fail
  go_ret
  exact ⟨ret_int (by (try simp only [htc]); (try omega)), hO1, TCSet.mk_ (x := TCSet.top k0 x) trivial hr1⟩
set_option maxHeartbeats 1000000 in
theorem heldCacheSet_any (vs : Array Value) (x : TCSet) (F : List Nat) (k0 : Int) (w : World) (h : cCSet.rep w vs.toList (TCSet.top k0 x) F) (h0 : 0 ≤ k0) (h1 : k0 + ((TCSet.tcn x : Nat) : Int) ≤ 900000000) :
    Calls Try.prog 51 #[.agg vs, .int .i64 k0] w (Gives w (.int .i64 (k0 + ((TCSet.tcn x : Nat) : Int)))) := by
  obtain ⟨v0, F0, rfl, rfl, hok, m0⟩ := TCSet.outA h
  clear hok h
  have htc : TCSet.tcn x = cCacheS.cn x.caches := rfl
  go_enter Try.func51, Try.ntmps51
  go_wp2_with fail
  refine (heldCacheS_any _ x.caches _ _ _ (by exact Cod.bel m0 (by repeat (first | with_reducible exact Below.refl _ _ | with_reducible assumption | with_reducible refine bel_alloc ?_ _ | with_reducible refine bel_drew ?_ | with_reducible refine bel_drewN ?_ _ | (with_reducible refine bel_set ?_ ?_ _; rotate_left; ((try simp); (try omega)))))) (by omega) (by omega)).mono ?_
  rintro e w1 ⟨rfl, hb1⟩
  obtain ⟨hc1, hfz1, hz1⟩ := bcell hb1
  (try simp at hz1)
  have hs1 : w.heap.size < w1.heap.size := by omega
  have hB1 : Below w.heap.size w w1 := bel_then (by repeat (first | with_reducible exact Below.refl _ _ | with_reducible assumption | with_reducible refine bel_alloc ?_ _ | with_reducible refine bel_drew ?_ | with_reducible refine bel_drewN ?_ _ | (with_reducible refine bel_set ?_ ?_ _; rotate_left; ((try simp); (try omega))))) hb1
  clear hb1
  go_wp2_with fail
  go_ret
  exact ⟨ret_int (by (try simp only [htc]); (try omega)), (by repeat (first | with_reducible exact Below.refl _ _ | with_reducible assumption | with_reducible refine bel_alloc ?_ _ | with_reducible refine bel_drew ?_ | with_reducible refine bel_drewN ?_ _ | (with_reducible refine bel_set ?_ ?_ _; rotate_left; ((try simp); (try omega)))))⟩

end Go.Proofs.Ytlicnppfgfjkgaa
