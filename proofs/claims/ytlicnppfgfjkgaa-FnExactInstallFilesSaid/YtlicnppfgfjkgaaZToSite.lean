/-
  Site: sz and to. No conditions but the budget of the laws.
-/
import Derived.Test.YtlicnppfgfjkgaaRows
import Derived.Test.YtlicnppfgfjkgaaZA
import Derived.LoopTactic
import Derived.Test.YtlicnppfgfjkgaaZToSSt
namespace Go.Proofs.Ytlicnppfgfjkgaa
open Go.ChangeShapes Go.WideShapes Go.RowKit
set_option linter.unusedVariables false

set_option maxHeartbeats 1000000 in
theorem szSite_any (vs : Array Value) (x : TSite) (F : List Nat) (n : Int) (w : World) (h : cSite.rep w vs.toList x F) (h0 : 0 ≤ n) (h1 : n ≤ 1048576) :
    Calls Try.prog 56 #[.agg vs, .int .i64 n] w (Gives w (.int .i64 (leftOf n (cSite.sz x)))) := by
  obtain ⟨v2, F2, rfl, rfl, hok, m2⟩ := TSite.outA h
  have hsz : cSite.sz x = x.name.size + (0 + (cStS.sz x.files + (0))) := rfl
  have hm0 := hok.h0
  unfold maxLen at hm0
  have HZ := Lib.hid (And.intro hsz trivial)
  clear hsz
  by_cases l0 : n - (x.name.size : Int) < 0
  · go_enter Try.func56, Try.ntmps56
    go_wp2_with fail
    go_ret
    exact ⟨ret_int (leftOf_neg (by have hh := HZ.out; omega)).symm, (by repeat (first | with_reducible exact Below.refl _ _ | with_reducible assumption | with_reducible refine bel_alloc ?_ _ | with_reducible refine bel_drew ?_ | with_reducible refine bel_drewN ?_ _ | (with_reducible refine bel_set ?_ ?_ _; rotate_left; ((try simp); (try omega)))))⟩
  · have p0 : 0 ≤ n - (x.name.size : Int) := by omega
    go_enter Try.func56, Try.ntmps56
    go_wp2_with fail
    by_cases l1 : n - (x.name.size : Int) - (cStS.sz x.files : Nat) < 0
    · have HV := Lib.hid (leftOf_neg l1)
      refine (szStringS_any _ _ _ _ _ (by exact Cod.bel m2 (by repeat (first | with_reducible exact Below.refl _ _ | with_reducible assumption | with_reducible refine bel_alloc ?_ _ | with_reducible refine bel_drew ?_ | with_reducible refine bel_drewN ?_ _ | (with_reducible refine bel_set ?_ ?_ _; rotate_left; ((try simp); (try omega)))))) (by omega) (by omega)).mono ?_
      rintro e w2 ⟨rfl, hb1⟩
      rw [HV.out]
      have hB1 : Below w.heap.size w w2 := bel_then (by repeat (first | with_reducible exact Below.refl _ _ | with_reducible assumption | with_reducible refine bel_alloc ?_ _ | with_reducible refine bel_drew ?_ | with_reducible refine bel_drewN ?_ _ | (with_reducible refine bel_set ?_ ?_ _; rotate_left; ((try simp); (try omega))))) hb1
      go_wp2_with fail
      go_ret
      exact ⟨ret_int (leftOf_neg (by have hh := HZ.out; omega)).symm, hB1⟩
    · have HV := Lib.hid (leftOf_pos l1)
      have p1 : 0 ≤ n - (x.name.size : Int) - (cStS.sz x.files : Nat) := by omega
      refine (szStringS_any _ _ _ _ _ (by exact Cod.bel m2 (by repeat (first | with_reducible exact Below.refl _ _ | with_reducible assumption | with_reducible refine bel_alloc ?_ _ | with_reducible refine bel_drew ?_ | with_reducible refine bel_drewN ?_ _ | (with_reducible refine bel_set ?_ ?_ _; rotate_left; ((try simp); (try omega)))))) (by omega) (by omega)).mono ?_
      rintro e w2 ⟨rfl, hb1⟩
      rw [HV.out]
      obtain ⟨hc1, hfz1, hz1⟩ := bcell hb1
      have hs1 : w.heap.size < w2.heap.size := (by (try simp only [World.size_alloc] at hz1); omega)
      have hB1 : Below w.heap.size w w2 := bel_then (by repeat (first | with_reducible exact Below.refl _ _ | with_reducible assumption | with_reducible refine bel_alloc ?_ _ | with_reducible refine bel_drew ?_ | with_reducible refine bel_drewN ?_ _ | (with_reducible refine bel_set ?_ ?_ _; rotate_left; ((try simp); (try omega))))) hb1
      clear hb1
      go_wp2_with fail
      go_ret
      exact ⟨ret_int (by have hh := HZ.out; rw [leftOf_pos (by omega)]; omega), (by repeat (first | with_reducible exact Below.refl _ _ | with_reducible assumption | with_reducible refine bel_alloc ?_ _ | with_reducible refine bel_drew ?_ | with_reducible refine bel_drewN ?_ _ | (with_reducible refine bel_set ?_ ?_ _; rotate_left; ((try simp); (try omega)))))⟩

set_option maxHeartbeats 1000000 in
theorem toSite_any (vs : Array Value) (x : TSite) (F : List Nat) (w : World) (h : cSite.rep w vs.toList x F) (hn : cSite.sz x ≤ 1048576) :
    Calls Try.prog 57 #[.agg vs] w (GivesR cSite w x) := by
  obtain ⟨v2, F2, rfl, rfl, hok, m2⟩ := TSite.outA h
  have hsz : cSite.sz x = x.name.size + (0 + (cStS.sz x.files + (0))) := rfl
  go_enter Try.func57, Try.ntmps57
  go_wp2_with fail
  refine (toStringS_any _ _ _ _ (by exact Cod.bel m2 (by repeat (first | with_reducible exact Below.refl _ _ | with_reducible assumption | with_reducible refine bel_alloc ?_ _ | with_reducible refine bel_drew ?_ | with_reducible refine bel_drewN ?_ _ | (with_reducible refine bel_set ?_ ?_ _; rotate_left; ((try simp); (try omega)))))) (by omega)).mono ?_
  rintro e w1 ⟨r1, G1, rfl, hb1, hr1, hf1⟩
  obtain ⟨A1, c1, rfl⟩ := cL_form hr1
  have hlt1 : ∀ b, b ∈ G1 → b < w1.heap.size := fun b hb => Cod.lt _ hr1 b hb
  have hz1 := hb1.size
  (try simp at hz1)
  have hs1_0 : w.heap.size < w1.heap.size := by omega
  have hs1_1 : w.heap.size + 1 < w1.heap.size := by omega
  have hs1_2 : w.heap.size + 2 < w1.heap.size := by omega
  have hB1 : Below w.heap.size w w1 := bel_then (by repeat (first | with_reducible exact Below.refl _ _ | with_reducible assumption | with_reducible refine bel_alloc ?_ _ | with_reducible refine bel_drew ?_ | with_reducible refine bel_drewN ?_ _ | (with_reducible refine bel_set ?_ ?_ _; rotate_left; ((try simp); (try omega))))) hb1
  have hA1 : Fresh w.heap.size G1 := hf1.mono (by simp; try omega)
  have hL1 := hlt1
  obtain ⟨hc1, hfz1, -⟩ := bcell hb1
  clear hb1
  go_wp2_with fail
  have hret : ∀ Wf : World, Below w.heap.size w Wf → Keep _ w1 Wf → GivesR cSite w x (.returned (.agg #[.string x.name, .int .i64 x.ver, .slice A1 x.files.length c1, .bool x.shared])) Wf := fun Wf hBf K => ⟨_, _, rfl, hBf, TSite.mk_ hok (Cod.keep2 hr1 hf1 (by first | exact K | exact K.mono (by (try simp); (try omega)))), hA1⟩
  refine bodyPost_ret (v := .agg #[.string x.name, .int .i64 x.ver, .slice A1 x.files.length c1, .bool x.shared]) ?_ rfl ?_
  · simp [results, Try.results57, go_sem, *]
  · exact hret _ (by repeat (first | with_reducible exact Below.refl _ _ | with_reducible assumption | with_reducible refine bel_alloc ?_ _ | with_reducible refine bel_drew ?_ | with_reducible refine bel_drewN ?_ _ | (with_reducible refine bel_set ?_ ?_ _; rotate_left; ((try simp); (try omega))))) (by repeat (first | with_reducible exact Keep.refl _ _ | with_reducible assumption | with_reducible refine Keep.alloc ?_ _ | with_reducible refine Keep.drew ?_ | with_reducible refine Keep.drewN ?_ _ | (with_reducible refine Keep.set_ ?_ ?_ _; rotate_left; ((try simp); (try omega)))))

end Go.Proofs.Ytlicnppfgfjkgaa
