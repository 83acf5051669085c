/-
  Cached: sz and to. No conditions but the budget of the laws.
-/
import Derived.Test.YtlicnppfgfjkgaaRows
import Derived.Test.YtlicnppfgfjkgaaZA
import Derived.LoopTactic
import Derived.Test.YtlicnppfgfjkgaaZToResp
namespace Go.Proofs.Ytlicnppfgfjkgaa
open Go.ChangeShapes Go.WideShapes Go.RowKit
set_option linter.unusedVariables false

set_option maxHeartbeats 1000000 in
theorem szCached_any (vs : Array Value) (x : TCached) (F : List Nat) (n : Int) (w : World) (h : cCached.rep w vs.toList x F) (h0 : 0 ≤ n) (h1 : n ≤ 1048576) :
    Calls Try.prog 172 #[.agg vs, .int .i64 n] w (Gives w (.int .i64 (leftOf n (cCached.sz x)))) := by
  obtain ⟨v5, F5, rfl, rfl, hok, m5⟩ := TCached.outA h
  have hsz : cCached.sz x = x.site.size + (x.path.size + (0 + (0 + (0 + (cUS.sz x.resp.body + (0)))))) := rfl
  have hszresp : cResp.sz x.resp = 0 + (0 + (0 + (cUS.sz x.resp.body + (0)))) := rfl
  have hm0 := hok.h0
  unfold maxLen at hm0
  have hm1 := hok.h1
  unfold maxLen at hm1
  have HZ := Lib.hid (And.intro hsz (And.intro hszresp trivial))
  clear hsz hszresp
  by_cases l0 : n - (x.site.size : Int) < 0
  · go_enter Try.func172, Try.ntmps172
    go_wp2_with fail
    go_ret
    exact ⟨ret_int (leftOf_neg (by have hh := HZ.out; omega)).symm, (by repeat (first | with_reducible exact Below.refl _ _ | with_reducible assumption | with_reducible refine bel_alloc ?_ _ | with_reducible refine bel_drew ?_ | with_reducible refine bel_drewN ?_ _ | (with_reducible refine bel_set ?_ ?_ _; rotate_left; ((try simp); (try omega)))))⟩
  · have p0 : 0 ≤ n - (x.site.size : Int) := by omega
    by_cases l1 : n - (x.site.size : Int) - (x.path.size : Int) < 0
    · go_enter Try.func172, Try.ntmps172
      go_wp2_with fail
      go_ret
      exact ⟨ret_int (leftOf_neg (by have hh := HZ.out; omega)).symm, (by repeat (first | with_reducible exact Below.refl _ _ | with_reducible assumption | with_reducible refine bel_alloc ?_ _ | with_reducible refine bel_drew ?_ | with_reducible refine bel_drewN ?_ _ | (with_reducible refine bel_set ?_ ?_ _; rotate_left; ((try simp); (try omega)))))⟩
    · have p1 : 0 ≤ n - (x.site.size : Int) - (x.path.size : Int) := by omega
      go_enter Try.func172, Try.ntmps172
      go_wp2_with fail
      by_cases l2 : n - (x.site.size : Int) - (x.path.size : Int) - (cResp.sz x.resp : Nat) < 0
      · have HV := Lib.hid (leftOf_neg l2)
        refine (szResponse_any _ x.resp _ _ _ (by exact TResp.mk_ ⟨hok.h2, hok.h3, hok.h4⟩ (Cod.bel m5 (by repeat (first | with_reducible exact Below.refl _ _ | with_reducible assumption | with_reducible refine bel_alloc ?_ _ | with_reducible refine bel_drew ?_ | with_reducible refine bel_drewN ?_ _ | (with_reducible refine bel_set ?_ ?_ _; rotate_left; ((try simp); (try omega))))))) (by omega) (by omega)).mono ?_
        rintro e w3 ⟨rfl, hb2⟩
        rw [HV.out]
        have hB2 : Below w.heap.size w w3 := bel_then (by repeat (first | with_reducible exact Below.refl _ _ | with_reducible assumption | with_reducible refine bel_alloc ?_ _ | with_reducible refine bel_drew ?_ | with_reducible refine bel_drewN ?_ _ | (with_reducible refine bel_set ?_ ?_ _; rotate_left; ((try simp); (try omega))))) hb2
        go_wp2_with fail
        go_ret
        exact ⟨ret_int (leftOf_neg (by have hh := HZ.out; omega)).symm, hB2⟩
      · have HV := Lib.hid (leftOf_pos l2)
        have p2 : 0 ≤ n - (x.site.size : Int) - (x.path.size : Int) - (cResp.sz x.resp : Nat) := by omega
        refine (szResponse_any _ x.resp _ _ _ (by exact TResp.mk_ ⟨hok.h2, hok.h3, hok.h4⟩ (Cod.bel m5 (by repeat (first | with_reducible exact Below.refl _ _ | with_reducible assumption | with_reducible refine bel_alloc ?_ _ | with_reducible refine bel_drew ?_ | with_reducible refine bel_drewN ?_ _ | (with_reducible refine bel_set ?_ ?_ _; rotate_left; ((try simp); (try omega))))))) (by omega) (by omega)).mono ?_
        rintro e w3 ⟨rfl, hb2⟩
        rw [HV.out]
        obtain ⟨hc2, hfz2, hz2⟩ := bcell hb2
        have hs2 : w.heap.size < w3.heap.size := (by (try simp only [World.size_alloc] at hz2); omega)
        have hB2 : Below w.heap.size w w3 := bel_then (by repeat (first | with_reducible exact Below.refl _ _ | with_reducible assumption | with_reducible refine bel_alloc ?_ _ | with_reducible refine bel_drew ?_ | with_reducible refine bel_drewN ?_ _ | (with_reducible refine bel_set ?_ ?_ _; rotate_left; ((try simp); (try omega))))) hb2
        clear hb2
        go_wp2_with fail
        go_ret
        exact ⟨ret_int (by have hh := HZ.out; rw [leftOf_pos (by omega)]; omega), (by repeat (first | with_reducible exact Below.refl _ _ | with_reducible assumption | with_reducible refine bel_alloc ?_ _ | with_reducible refine bel_drew ?_ | with_reducible refine bel_drewN ?_ _ | (with_reducible refine bel_set ?_ ?_ _; rotate_left; ((try simp); (try omega)))))⟩

set_option maxHeartbeats 1000000 in
theorem toCached_any (vs : Array Value) (x : TCached) (F : List Nat) (w : World) (h : cCached.rep w vs.toList x F) (hn : cCached.sz x ≤ 1048576) :
    Calls Try.prog 173 #[.agg vs] w (GivesR cCached w x) := by
  obtain ⟨v5, F5, rfl, rfl, hok, m5⟩ := TCached.outA h
  have hsz : cCached.sz x = x.site.size + (x.path.size + (0 + (0 + (0 + (cUS.sz x.resp.body + (0)))))) := rfl
  have hszresp : cResp.sz x.resp = 0 + (0 + (0 + (cUS.sz x.resp.body + (0)))) := rfl
  go_enter Try.func173, Try.ntmps173
  go_wp2_with fail
  refine (toResponse_any _ x.resp _ _ (by exact TResp.mk_ ⟨hok.h2, hok.h3, hok.h4⟩ (Cod.bel m5 (by repeat (first | with_reducible exact Below.refl _ _ | with_reducible assumption | with_reducible refine bel_alloc ?_ _ | with_reducible refine bel_drew ?_ | with_reducible refine bel_drewN ?_ _ | (with_reducible refine bel_set ?_ ?_ _; rotate_left; ((try simp); (try omega))))))) (by omega)).mono ?_
  rintro e w1 ⟨r1, G1, rfl, hb1, hr1, hf1⟩
  have hq1 := hr1
  obtain ⟨y1_3, Z1_3, rfl, rfl, hokq1, n1_3⟩ := TResp.outA hq1
  obtain ⟨A1_3, c1_3, rfl⟩ := cL_form n1_3
  have hlt1 : ∀ b, b ∈ G1 → b < w1.heap.size := fun b hb => Cod.lt _ hr1 b hb
  have hz1 := hb1.size
  (try simp at hz1)
  have hs1_0 : w.heap.size < w1.heap.size := by omega
  have hs1_1 : w.heap.size + 1 < w1.heap.size := by omega
  have hs1_2 : w.heap.size + 2 < w1.heap.size := by omega
  have hB1 : Below w.heap.size w w1 := bel_then (by repeat (first | with_reducible exact Below.refl _ _ | with_reducible assumption | with_reducible refine bel_alloc ?_ _ | with_reducible refine bel_drew ?_ | with_reducible refine bel_drewN ?_ _ | (with_reducible refine bel_set ?_ ?_ _; rotate_left; ((try simp); (try omega))))) hb1
  have hA1 : Fresh w.heap.size G1 := hf1.mono (by simp; try omega)
  have hL1 := hlt1
  obtain ⟨hc1, hfz1, -⟩ := bcell hb1
  clear hb1
  go_wp2_with fail
  have hret : ∀ Wf : World, Below w.heap.size w Wf → Keep _ w1 Wf → GivesR cCached w x (.returned (.agg #[.string x.site, .string x.path, .int .i64 x.resp.type, .int .i64 x.resp.status, .int .i64 x.resp.ver, .slice A1_3 x.resp.body.length c1_3, .bool x.resp.shares])) Wf := fun Wf hBf K => ⟨_, _, rfl, hBf, TCached.mk_ hok (Cod.keep2 n1_3 hf1 (by first | exact K | exact K.mono (by (try simp); (try omega)))), hA1⟩
  refine bodyPost_ret (v := .agg #[.string x.site, .string x.path, .int .i64 x.resp.type, .int .i64 x.resp.status, .int .i64 x.resp.ver, .slice A1_3 x.resp.body.length c1_3, .bool x.resp.shares]) ?_ rfl ?_
  · simp [results, Try.results173, go_sem, *]
  · exact hret _ (by repeat (first | with_reducible exact Below.refl _ _ | with_reducible assumption | with_reducible refine bel_alloc ?_ _ | with_reducible refine bel_drew ?_ | with_reducible refine bel_drewN ?_ _ | (with_reducible refine bel_set ?_ ?_ _; rotate_left; ((try simp); (try omega))))) (by repeat (first | with_reducible exact Keep.refl _ _ | with_reducible assumption | with_reducible refine Keep.alloc ?_ _ | with_reducible refine Keep.drew ?_ | with_reducible refine Keep.drewN ?_ _ | (with_reducible refine Keep.set_ ?_ ?_ _; rotate_left; ((try simp); (try omega)))))

end Go.Proofs.Ytlicnppfgfjkgaa
