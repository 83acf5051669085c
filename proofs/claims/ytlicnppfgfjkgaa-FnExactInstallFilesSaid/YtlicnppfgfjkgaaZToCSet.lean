/-
  CacheSet: sz and to. No conditions but the budget of the laws.
-/
import Derived.Test.YtlicnppfgfjkgaaRows
import Derived.Test.YtlicnppfgfjkgaaZA
import Derived.LoopTactic
import Derived.Test.YtlicnppfgfjkgaaZToSCache
namespace Go.Proofs.Ytlicnppfgfjkgaa
open Go.ChangeShapes Go.WideShapes Go.RowKit
set_option linter.unusedVariables false

set_option maxHeartbeats 1000000 in
theorem szCacheSet_any (vs : Array Value) (x : TCSet) (F : List Nat) (n : Int) (w : World) (h : cCSet.rep w vs.toList x F) (h0 : 0 ≤ n) (h1 : n ≤ 1048576) :
    Calls Try.prog 45 #[.agg vs, .int .i64 n] w (Gives w (.int .i64 (leftOf n (cCSet.sz x)))) := by
  obtain ⟨v0, F0, rfl, rfl, hok, m0⟩ := TCSet.outA h
  have hsz : cCSet.sz x = cCacheS.sz x.caches := rfl
  have HZ := Lib.hid (And.intro hsz trivial)
  clear hsz
  go_enter Try.func45, Try.ntmps45
  go_wp2_with fail
  by_cases l0 : n - (cCacheS.sz x.caches : Nat) < 0
  · have HV := Lib.hid (leftOf_neg l0)
    refine (szCacheS_any _ _ _ _ _ (by exact Cod.bel m0 (by repeat (first | with_reducible exact Below.refl _ _ | with_reducible assumption | with_reducible refine bel_alloc ?_ _ | with_reducible refine bel_drew ?_ | with_reducible refine bel_drewN ?_ _ | (with_reducible refine bel_set ?_ ?_ _; rotate_left; ((try simp); (try omega)))))) (by omega) (by omega)).mono ?_
    rintro e w1 ⟨rfl, hb0⟩
    rw [HV.out]
    have hB0 : Below w.heap.size w w1 := bel_then (by repeat (first | with_reducible exact Below.refl _ _ | with_reducible assumption | with_reducible refine bel_alloc ?_ _ | with_reducible refine bel_drew ?_ | with_reducible refine bel_drewN ?_ _ | (with_reducible refine bel_set ?_ ?_ _; rotate_left; ((try simp); (try omega))))) hb0
    go_wp2_with fail
    go_ret
    exact ⟨ret_int (leftOf_neg (by have hh := HZ.out; omega)).symm, hB0⟩
  · have HV := Lib.hid (leftOf_pos l0)
    have p0 : 0 ≤ n - (cCacheS.sz x.caches : Nat) := by omega
    refine (szCacheS_any _ _ _ _ _ (by exact Cod.bel m0 (by repeat (first | with_reducible exact Below.refl _ _ | with_reducible assumption | with_reducible refine bel_alloc ?_ _ | with_reducible refine bel_drew ?_ | with_reducible refine bel_drewN ?_ _ | (with_reducible refine bel_set ?_ ?_ _; rotate_left; ((try simp); (try omega)))))) (by omega) (by omega)).mono ?_
    rintro e w1 ⟨rfl, hb0⟩
    rw [HV.out]
    obtain ⟨hc0, hfz0, hz0⟩ := bcell hb0
    have hs0 : w.heap.size < w1.heap.size := (by (try simp only [World.size_alloc] at hz0); omega)
    have hB0 : Below w.heap.size w w1 := bel_then (by repeat (first | with_reducible exact Below.refl _ _ | with_reducible assumption | with_reducible refine bel_alloc ?_ _ | with_reducible refine bel_drew ?_ | with_reducible refine bel_drewN ?_ _ | (with_reducible refine bel_set ?_ ?_ _; rotate_left; ((try simp); (try omega))))) hb0
    clear hb0
    go_wp2_with fail
    go_ret
    exact ⟨ret_int (by have hh := HZ.out; rw [leftOf_pos (by omega)]; omega), (by repeat (first | with_reducible exact Below.refl _ _ | with_reducible assumption | with_reducible refine bel_alloc ?_ _ | with_reducible refine bel_drew ?_ | with_reducible refine bel_drewN ?_ _ | (with_reducible refine bel_set ?_ ?_ _; rotate_left; ((try simp); (try omega)))))⟩

set_option maxHeartbeats 1000000 in
theorem toCacheSet_any (vs : Array Value) (x : TCSet) (F : List Nat) (w : World) (h : cCSet.rep w vs.toList x F) (hn : cCSet.sz x ≤ 1048576) :
    Calls Try.prog 47 #[.agg vs] w (GivesR cCSet w x) := by
  obtain ⟨v0, F0, rfl, rfl, hok, m0⟩ := TCSet.outA h
  have hsz : cCSet.sz x = cCacheS.sz x.caches := rfl
  go_enter Try.func47, Try.ntmps47
  go_wp2_with fail
  refine (toCacheS_any _ _ _ _ (by exact Cod.bel m0 (by repeat (first | with_reducible exact Below.refl _ _ | with_reducible assumption | with_reducible refine bel_alloc ?_ _ | with_reducible refine bel_drew ?_ | with_reducible refine bel_drewN ?_ _ | (with_reducible refine bel_set ?_ ?_ _; rotate_left; ((try simp); (try omega)))))) (by omega)).mono ?_
  rintro e w1 ⟨r1, G1, rfl, hb1, hr1, hf1⟩
  obtain ⟨A1, c1, rfl⟩ := cL_form hr1
  have hlt1 : ∀ b, b ∈ G1 → b < w1.heap.size := fun b hb => Cod.lt _ hr1 b hb
  have hz1 := hb1.size
  (try simp at hz1)
  have hs1_0 : w.heap.size < w1.heap.size := by omega
  have hs1_1 : w.heap.size + 1 < w1.heap.size := by omega
  have hs1_2 : w.heap.size + 2 < w1.heap.size := by omega
  have hB1 : Below w.heap.size w w1 := bel_then (by repeat (first | with_reducible exact Below.refl _ _ | with_reducible assumption | with_reducible refine bel_alloc ?_ _ | with_reducible refine bel_drew ?_ | with_reducible refine bel_drewN ?_ _ | (with_reducible refine bel_set ?_ ?_ _; rotate_left; ((try simp); (try omega))))) hb1
  have hA1 : Fresh w.heap.size G1 := hf1.mono (by simp; try omega)
  have hL1 := hlt1
  obtain ⟨hc1, hfz1, -⟩ := bcell hb1
  clear hb1
  go_wp2_with fail
  have hret : ∀ Wf : World, Below w.heap.size w Wf → Keep _ w1 Wf → GivesR cCSet w x (.returned (.agg #[.slice A1 x.caches.length c1])) Wf := fun Wf hBf K => ⟨_, _, rfl, hBf, TCSet.mk_ hok (Cod.keep2 hr1 hf1 (by first | exact K | exact K.mono (by (try simp); (try omega)))), hA1⟩
  refine bodyPost_ret (v := .agg #[.slice A1 x.caches.length c1]) ?_ rfl ?_
  · simp [results, Try.results47, go_sem, *]
  · exact hret _ (by repeat (first | with_reducible exact Below.refl _ _ | with_reducible assumption | with_reducible refine bel_alloc ?_ _ | with_reducible refine bel_drew ?_ | with_reducible refine bel_drewN ?_ _ | (with_reducible refine bel_set ?_ ?_ _; rotate_left; ((try simp); (try omega))))) (by repeat (first | with_reducible exact Keep.refl _ _ | with_reducible assumption | with_reducible refine Keep.alloc ?_ _ | with_reducible refine Keep.drew ?_ | with_reducible refine Keep.drewN ?_ _ | (with_reducible refine Keep.set_ ?_ ?_ _; rotate_left; ((try simp); (try omega)))))

end Go.Proofs.Ytlicnppfgfjkgaa
