/-
  Page: sz and to. No conditions but the budget of the laws.
-/
import Derived.Test.YthmlgflnefellaaRows
import Derived.Test.YthmlgflnefellaaMem
import Derived.LoopTactic
import Derived.Test.YthmlgflnefellaaTPage
import Derived.Test.YthmlgflnefellaaToMach
import Derived.Test.YthmlgflnefellaaToSLoaded
namespace Go.Proofs.Ythmlgflnefellaa
open Go.ChangeShapes Go.WideShapes Go.RowKit
set_option linter.unusedVariables false

set_option maxHeartbeats 1000000 in
theorem szPage_any (vs : Array Value) (x : TPage) (F : List Nat) (n : Int) (w : World) (h : cPage.rep w vs.toList x F) (h0 : 0 ≤ n) (h1 : n ≤ 1048576) :
    Calls Try.prog 46 #[.agg vs, .int .i64 n] w (Gives w (.int .i64 (leftOf n (cPage.sz x)))) := by
  obtain ⟨v4, v5, v7, F4, F5, F7, rfl, rfl, hok, m4, m5, m7⟩ := TPage.outA h
  have hsz : cPage.sz x = 0 + (x.site.size + (x.top.size + (0 + (cLoadedS.sz x.loaded + (cInsS.sz x.mach.script + (0 + (cIS.sz x.mach.regs + (0 + (0 + (0)))))))))) := rfl
  have hszmach : cMach.sz x.mach = cInsS.sz x.mach.script + (0 + (cIS.sz x.mach.regs + (0 + (0 + (0))))) := rfl
  have hm1 := hok.h1
  unfold maxLen at hm1
  have hm2 := hok.h2
  unfold maxLen at hm2
  have HZ := Lib.hid (And.intro hsz (And.intro hszmach trivial))
  clear hsz hszmach
  by_cases l0 : n - (x.site.size : Int) < 0
  · go_enter Try.func46, Try.ntmps46
    go_wp2_with fail
    go_ret
    exact ⟨ret_int (leftOf_neg (by have hh := HZ.out; omega)).symm, (by repeat (first | with_reducible exact Below.refl _ _ | with_reducible assumption | with_reducible refine bel_alloc ?_ _ | with_reducible refine bel_drew ?_ | with_reducible refine bel_drewN ?_ _ | (with_reducible refine bel_set ?_ ?_ _; rotate_left; ((try simp); (try omega)))))⟩
  · have p0 : 0 ≤ n - (x.site.size : Int) := by omega
    by_cases l1 : n - (x.site.size : Int) - (x.top.size : Int) < 0
    · go_enter Try.func46, Try.ntmps46
      go_wp2_with fail
      go_ret
      exact ⟨ret_int (leftOf_neg (by have hh := HZ.out; omega)).symm, (by repeat (first | with_reducible exact Below.refl _ _ | with_reducible assumption | with_reducible refine bel_alloc ?_ _ | with_reducible refine bel_drew ?_ | with_reducible refine bel_drewN ?_ _ | (with_reducible refine bel_set ?_ ?_ _; rotate_left; ((try simp); (try omega)))))⟩
    · have p1 : 0 ≤ n - (x.site.size : Int) - (x.top.size : Int) := by omega
      go_enter Try.func46, Try.ntmps46
      go_wp2_with fail
      by_cases l2 : n - (x.site.size : Int) - (x.top.size : Int) - (cLoadedS.sz x.loaded : Nat) < 0
      · have HV := Lib.hid (leftOf_neg l2)
        refine (szLoadedS_any _ _ _ _ _ (by exact Cod.bel m4 (by repeat (first | with_reducible exact Below.refl _ _ | with_reducible assumption | with_reducible refine bel_alloc ?_ _ | with_reducible refine bel_drew ?_ | with_reducible refine bel_drewN ?_ _ | (with_reducible refine bel_set ?_ ?_ _; rotate_left; ((try simp); (try omega)))))) (by omega) (by omega)).mono ?_
        rintro e w3 ⟨rfl, hb2⟩
        rw [HV.out]
        have hB2 : Below w.heap.size w w3 := bel_then (by repeat (first | with_reducible exact Below.refl _ _ | with_reducible assumption | with_reducible refine bel_alloc ?_ _ | with_reducible refine bel_drew ?_ | with_reducible refine bel_drewN ?_ _ | (with_reducible refine bel_set ?_ ?_ _; rotate_left; ((try simp); (try omega))))) hb2
        go_wp2_with fail
        go_ret
        exact ⟨ret_int (leftOf_neg (by have hh := HZ.out; omega)).symm, hB2⟩
      · have HV := Lib.hid (leftOf_pos l2)
        have p2 : 0 ≤ n - (x.site.size : Int) - (x.top.size : Int) - (cLoadedS.sz x.loaded : Nat) := by omega
        refine (szLoadedS_any _ _ _ _ _ (by exact Cod.bel m4 (by repeat (first | with_reducible exact Below.refl _ _ | with_reducible assumption | with_reducible refine bel_alloc ?_ _ | with_reducible refine bel_drew ?_ | with_reducible refine bel_drewN ?_ _ | (with_reducible refine bel_set ?_ ?_ _; rotate_left; ((try simp); (try omega)))))) (by omega) (by omega)).mono ?_
        rintro e w3 ⟨rfl, hb2⟩
        rw [HV.out]
        obtain ⟨hc2, hfz2, hz2⟩ := bcell hb2
        have hs2 : w.heap.size < w3.heap.size := (by (try simp only [World.size_alloc] at hz2); omega)
        have hB2 : Below w.heap.size w w3 := bel_then (by repeat (first | with_reducible exact Below.refl _ _ | with_reducible assumption | with_reducible refine bel_alloc ?_ _ | with_reducible refine bel_drew ?_ | with_reducible refine bel_drewN ?_ _ | (with_reducible refine bel_set ?_ ?_ _; rotate_left; ((try simp); (try omega))))) hb2
        clear hb2
        go_wp2_with fail
        by_cases l3 : n - (x.site.size : Int) - (x.top.size : Int) - (cLoadedS.sz x.loaded : Nat) - (cMach.sz x.mach : Nat) < 0
        · have HV := Lib.hid (leftOf_neg l3)
          refine (szMachine_any _ x.mach _ _ _ (by exact TMach.mk_ ⟨hok.h6, hok.h8⟩ (Cod.bel m5 (by repeat (first | with_reducible exact Below.refl _ _ | with_reducible assumption | with_reducible refine bel_alloc ?_ _ | with_reducible refine bel_drew ?_ | with_reducible refine bel_drewN ?_ _ | (with_reducible refine bel_set ?_ ?_ _; rotate_left; ((try simp); (try omega)))))) (Cod.bel m7 (by repeat (first | with_reducible exact Below.refl _ _ | with_reducible assumption | with_reducible refine bel_alloc ?_ _ | with_reducible refine bel_drew ?_ | with_reducible refine bel_drewN ?_ _ | (with_reducible refine bel_set ?_ ?_ _; rotate_left; ((try simp); (try omega))))))) (by omega) (by omega)).mono ?_
          rintro e w4 ⟨rfl, hb3⟩
          rw [HV.out]
          have hB3 : Below w.heap.size w w4 := bel_then (by repeat (first | with_reducible exact Below.refl _ _ | with_reducible assumption | with_reducible refine bel_alloc ?_ _ | with_reducible refine bel_drew ?_ | with_reducible refine bel_drewN ?_ _ | (with_reducible refine bel_set ?_ ?_ _; rotate_left; ((try simp); (try omega))))) hb3
          go_wp2_with fail
          go_ret
          exact ⟨ret_int (leftOf_neg (by have hh := HZ.out; omega)).symm, hB3⟩
        · have HV := Lib.hid (leftOf_pos l3)
          have p3 : 0 ≤ n - (x.site.size : Int) - (x.top.size : Int) - (cLoadedS.sz x.loaded : Nat) - (cMach.sz x.mach : Nat) := by omega
          refine (szMachine_any _ x.mach _ _ _ (by exact TMach.mk_ ⟨hok.h6, hok.h8⟩ (Cod.bel m5 (by repeat (first | with_reducible exact Below.refl _ _ | with_reducible assumption | with_reducible refine bel_alloc ?_ _ | with_reducible refine bel_drew ?_ | with_reducible refine bel_drewN ?_ _ | (with_reducible refine bel_set ?_ ?_ _; rotate_left; ((try simp); (try omega)))))) (Cod.bel m7 (by repeat (first | with_reducible exact Below.refl _ _ | with_reducible assumption | with_reducible refine bel_alloc ?_ _ | with_reducible refine bel_drew ?_ | with_reducible refine bel_drewN ?_ _ | (with_reducible refine bel_set ?_ ?_ _; rotate_left; ((try simp); (try omega))))))) (by omega) (by omega)).mono ?_
          rintro e w4 ⟨rfl, hb3⟩
          rw [HV.out]
          obtain ⟨hc3, hfz3, hz3⟩ := bcell hb3
          have hs3 : w.heap.size < w4.heap.size := (by (try simp only [World.size_alloc] at hz3); omega)
          have hB3 : Below w.heap.size w w4 := bel_then (by repeat (first | with_reducible exact Below.refl _ _ | with_reducible assumption | with_reducible refine bel_alloc ?_ _ | with_reducible refine bel_drew ?_ | with_reducible refine bel_drewN ?_ _ | (with_reducible refine bel_set ?_ ?_ _; rotate_left; ((try simp); (try omega))))) hb3
          clear hb3
          go_wp2_with fail
          go_ret
          exact ⟨ret_int (by have hh := HZ.out; rw [leftOf_pos (by omega)]; omega), (by repeat (first | with_reducible exact Below.refl _ _ | with_reducible assumption | with_reducible refine bel_alloc ?_ _ | with_reducible refine bel_drew ?_ | with_reducible refine bel_drewN ?_ _ | (with_reducible refine bel_set ?_ ?_ _; rotate_left; ((try simp); (try omega)))))⟩

set_option maxHeartbeats 1000000 in
theorem toPage_any (vs : Array Value) (x : TPage) (F : List Nat) (w : World) (h : cPage.rep w vs.toList x F) (hn : cPage.sz x ≤ 1048576) :
    Calls Try.prog 48 #[.agg vs] w (GivesR cPage w x) := by
  obtain ⟨v4, v5, v7, F4, F5, F7, rfl, rfl, hok, m4, m5, m7⟩ := TPage.outA h
  have hsz : cPage.sz x = 0 + (x.site.size + (x.top.size + (0 + (cLoadedS.sz x.loaded + (cInsS.sz x.mach.script + (0 + (cIS.sz x.mach.regs + (0 + (0 + (0)))))))))) := rfl
  have hszmach : cMach.sz x.mach = cInsS.sz x.mach.script + (0 + (cIS.sz x.mach.regs + (0 + (0 + (0))))) := rfl
  go_enter Try.func48, Try.ntmps48
  go_wp2_with fail
  refine (toLoadedS_any _ _ _ _ (by exact Cod.bel m4 (by repeat (first | with_reducible exact Below.refl _ _ | with_reducible assumption | with_reducible refine bel_alloc ?_ _ | with_reducible refine bel_drew ?_ | with_reducible refine bel_drewN ?_ _ | (with_reducible refine bel_set ?_ ?_ _; rotate_left; ((try simp); (try omega)))))) (by omega)).mono ?_
  rintro e w1 ⟨r1, G1, rfl, hb1, hr1, hf1⟩
  obtain ⟨A1, c1, rfl⟩ := cL_form hr1
  have hlt1 : ∀ b, b ∈ G1 → b < w1.heap.size := fun b hb => Cod.lt _ hr1 b hb
  have hz1 := hb1.size
  (try simp at hz1)
  have hs1_0 : w.heap.size < w1.heap.size := by omega
  have hs1_1 : w.heap.size + 1 < w1.heap.size := by omega
  have hs1_2 : w.heap.size + 2 < w1.heap.size := by omega
  have hB1 : Below w.heap.size w w1 := bel_then (by repeat (first | with_reducible exact Below.refl _ _ | with_reducible assumption | with_reducible refine bel_alloc ?_ _ | with_reducible refine bel_drew ?_ | with_reducible refine bel_drewN ?_ _ | (with_reducible refine bel_set ?_ ?_ _; rotate_left; ((try simp); (try omega))))) hb1
  have hA1 : Fresh w.heap.size G1 := hf1.mono (by simp; try omega)
  have hL1 := hlt1
  obtain ⟨hc1, hfz1, -⟩ := bcell hb1
  clear hb1
  go_wp2_with fail
  refine (toMachine_any _ x.mach _ _ (by exact TMach.mk_ ⟨hok.h6, hok.h8⟩ (Cod.bel m5 (by repeat (first | with_reducible exact Below.refl _ _ | with_reducible assumption | with_reducible refine bel_alloc ?_ _ | with_reducible refine bel_drew ?_ | with_reducible refine bel_drewN ?_ _ | (with_reducible refine bel_set ?_ ?_ _; rotate_left; ((try simp); (try omega)))))) (Cod.bel m7 (by repeat (first | with_reducible exact Below.refl _ _ | with_reducible assumption | with_reducible refine bel_alloc ?_ _ | with_reducible refine bel_drew ?_ | with_reducible refine bel_drewN ?_ _ | (with_reducible refine bel_set ?_ ?_ _; rotate_left; ((try simp); (try omega))))))) (by omega)).mono ?_
  rintro e w2 ⟨r2, G2, rfl, hb2, hr2, hf2⟩
  replace hr1 := Cod.keep2 hr1 hf1 (show Keep _ w1 w2 from Keep.bel (by repeat (first | with_reducible exact Keep.refl _ _ | with_reducible assumption | with_reducible refine Keep.alloc ?_ _ | with_reducible refine Keep.drew ?_ | with_reducible refine Keep.drewN ?_ _ | (with_reducible refine Keep.set_ ?_ ?_ _; rotate_left; ((try simp); (try omega))))) hb2)
  have hq2 := hr2
  obtain ⟨y2_0, y2_2, Z2_0, Z2_2, rfl, hG2, hokq2, n2_0, n2_2⟩ := TMach.outA hq2
  obtain ⟨A2_0, c2_0, rfl⟩ := cL_form n2_0
  obtain ⟨A2_2, c2_2, rfl⟩ := cL_form n2_2
  have hf2_0 : Fresh _ Z2_0 := ⟨fun b hb => hf2.1 b (by rw [hG2]; simp [hb]), hf2.2.sublist (by rw [hG2]; exact List.sublist_append_left _ _)⟩
  have hf2_2 : Fresh _ Z2_2 := ⟨fun b hb => hf2.1 b (by rw [hG2]; simp [hb]), hf2.2.sublist (by rw [hG2]; exact List.sublist_append_right _ _)⟩
  have hlt2 : ∀ b, b ∈ G2 → b < w2.heap.size := fun b hb => Cod.lt _ hr2 b hb
  have hz2 := hb2.size
  (try simp at hz2)
  have hs2_0 : w.heap.size < w2.heap.size := by omega
  have hs2_1 : w.heap.size + 1 < w2.heap.size := by omega
  have hs2_2 : w.heap.size + 2 < w2.heap.size := by omega
  have hB2 : Below w.heap.size w w2 := bel_then (by repeat (first | with_reducible exact Below.refl _ _ | with_reducible assumption | with_reducible refine bel_alloc ?_ _ | with_reducible refine bel_drew ?_ | with_reducible refine bel_drewN ?_ _ | (with_reducible refine bel_set ?_ ?_ _; rotate_left; ((try simp); (try omega))))) hb2
  have hA2 : Fresh w.heap.size (G1 ++ G2) := hA1.then_ hL1 (by simp) hf2 (by simp; omega)
  have hL2 := mem_lt hL1 hlt2 (by omega)
  obtain ⟨hc2, hfz2, -⟩ := bcell hb2
  clear hb2
  go_wp2_with fail
  have hret : ∀ Wf : World, Below w.heap.size w Wf → Keep _ w2 Wf → GivesR cPage w x (.returned (.agg #[.int .i64 x.id, .string x.site, .string x.top, .int .i64 x.ver, .slice A1 x.loaded.length c1, .slice A2_0 x.mach.script.length c2_0, .int .i64 x.mach.pc, .slice A2_2 x.mach.regs.length c2_2, .int .i64 x.mach.steps, .bool x.mach.done, .bool x.mach.wait])) Wf := fun Wf hBf K => ⟨_, _, rfl, hBf, TPage.mk_ hok (Cod.keep2 hr1 hf1 (by first | exact K | exact K.mono (by (try simp); (try omega)))) (Cod.keep2 n2_0 hf2_0 (by first | exact K | exact K.mono (by (try simp); (try omega)))) (Cod.keep2 n2_2 hf2_2 (by first | exact K | exact K.mono (by (try simp); (try omega)))), (by have hh := hA2; (try simp only [hG2] at hh); (try simp only [List.append_assoc] at hh); (try simp only [List.append_assoc]); exact hh)⟩
  refine bodyPost_ret (v := .agg #[.int .i64 x.id, .string x.site, .string x.top, .int .i64 x.ver, .slice A1 x.loaded.length c1, .slice A2_0 x.mach.script.length c2_0, .int .i64 x.mach.pc, .slice A2_2 x.mach.regs.length c2_2, .int .i64 x.mach.steps, .bool x.mach.done, .bool x.mach.wait]) ?_ rfl ?_
  · simp [results, Try.results48, go_sem, *]
  · exact hret _ (by repeat (first | with_reducible exact Below.refl _ _ | with_reducible assumption | with_reducible refine bel_alloc ?_ _ | with_reducible refine bel_drew ?_ | with_reducible refine bel_drewN ?_ _ | (with_reducible refine bel_set ?_ ?_ _; rotate_left; ((try simp); (try omega))))) (by repeat (first | with_reducible exact Keep.refl _ _ | with_reducible assumption | with_reducible refine Keep.alloc ?_ _ | with_reducible refine Keep.drew ?_ | with_reducible refine Keep.drewN ?_ _ | (with_reducible refine Keep.set_ ?_ ?_ _; rotate_left; ((try simp); (try omega)))))

end Go.Proofs.Ythmlgflnefellaa
