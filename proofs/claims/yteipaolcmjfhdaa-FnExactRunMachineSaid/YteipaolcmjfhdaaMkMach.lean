/-
  Machine: mark and held. No conditions but the budget of the laws.
-/
import Derived.Test.YteipaolcmjfhdaaRows
import Derived.Test.YteipaolcmjfhdaaMem
import Derived.LoopTactic
import Derived.Test.YteipaolcmjfhdaaTMach
import Derived.Test.YteipaolcmjfhdaaUpd
import Derived.Test.YteipaolcmjfhdaaMk0Mach
import Derived.Test.YteipaolcmjfhdaaHdSI
import Derived.Test.YteipaolcmjfhdaaHdSIns
import Derived.Test.YteipaolcmjfhdaaMkSI
import Derived.Test.YteipaolcmjfhdaaMkSIns
namespace Go.Proofs.Yteipaolcmjfhdaa
open Go.ChangeShapes Go.WideShapes Go.RowKit
set_option linter.unusedVariables false

def MarkedMachine (w : World) (vs : Array Value) (F : List Nat) (n : Int) (x : TMach) (e : Ending) (w' : World) : Prop := e = .returned (.int .i64 n) ∧ Only F w w' ∧ cMach.rep w' vs.toList x F
set_option maxHeartbeats 1000000 in
theorem markMachine_any (vs : Array Value) (x : TMach) (F : List Nat) (k0 : Int) (w : World) (h : cMach.rep w vs.toList x F) (hnd : F.Nodup) (h0 : 0 ≤ k0) (h1 : k0 + ((TMach.tcn x : Nat) : Int) ≤ 900000000) :
    Calls Try.prog 65 #[.agg vs, .int .i64 k0] w (MarkedMachine w vs F (k0 + ((TMach.tcn x : Nat) : Int)) (TMach.top k0 x)) := by
  obtain ⟨v0, v2, F0, F2, rfl, rfl, hok, m0, m2⟩ := TMach.outA h
  have htc : TMach.tcn x = cInsS.cn x.script + cIS.cn x.regs := rfl
  simp only [List.nodup_append] at hnd
  have hdis : F0.Nodup ∧ F2.Nodup ∧ (∀ b, b ∈ F0 → b ∉ F2) ∧ (∀ b, b ∈ F2 → b ∉ F0) := by
    refine ⟨?_, ?_, ?_, ?_⟩
    · exact hnd.1
    · exact hnd.2.1
    · intro b hb hb2; exact hnd.2.2 b hb b (by simp [hb2]) rfl
    · intro b hb hb2; exact hnd.2.2 b hb2 b (by simp [hb]) rfl
  obtain ⟨hnd0, hnd2, hd0_2, hd2_0⟩ := hdis
  go_enter Try.func65, Try.ntmps65
  go_wp2_with fail
  have hO0 : Only (F0 ++ F2) w w := Only.refl _ _
  refine (markInstrS_any _ x.script _ _ _ (by exact Cod.bel m0 (by repeat (first | with_reducible exact Below.refl _ _ | with_reducible assumption | with_reducible refine bel_alloc ?_ _ | with_reducible refine bel_drew ?_ | with_reducible refine bel_drewN ?_ _ | (with_reducible refine bel_set ?_ ?_ _; rotate_left; ((try simp); (try omega)))))) hnd0 (by omega) (by omega)).mono ?_
  rintro e w1 ⟨rfl, ho1, hr1⟩
  have m2_1 := Cod.only (Cod.bel m2 (by repeat (first | with_reducible exact Below.refl _ _ | with_reducible assumption | with_reducible refine bel_alloc ?_ _ | with_reducible refine bel_drew ?_ | with_reducible refine bel_drewN ?_ _ | (with_reducible refine bel_set ?_ ?_ _; rotate_left; ((try simp); (try omega)))))) ho1 hd2_0
  have hz1 := ho1.size
  (try simp at hz1)
  have hs1 : w.heap.size < w1.heap.size := by omega
  have hbox1 : w1.heap[w.heap.size]? = _ := ho1.block w.heap.size (by (try simp); (try omega)) (fun hm => Nat.lt_irrefl _ (Cod.lt _ m0 _ hm))
  have hcb1 : ∀ o : Nat, w1.cell? ⟨w.heap.size, o, none⟩ = _ := fun o => World.cell?_of_block (a := ⟨w.heap.size, o, none⟩) hbox1
  clear hbox1
  have hO1 : Only (F0 ++ F2) w w1 := (Only.trans hO0 (by exact Only.trans (Only.of_below (by repeat (first | with_reducible exact Below.refl _ _ | with_reducible assumption | with_reducible refine bel_alloc ?_ _ | with_reducible refine bel_drew ?_ | with_reducible refine bel_drewN ?_ _ | (with_reducible refine bel_set ?_ ?_ _; rotate_left; ((try simp); (try omega)))))) (ho1.mono (fun x hx => by simp [hx]))))
  go_wp2_with fail
  refine (markIntS_any _ x.regs _ _ _ (by exact Cod.bel m2_1 (by repeat (first | with_reducible exact Below.refl _ _ | with_reducible assumption | with_reducible refine bel_alloc ?_ _ | with_reducible refine bel_drew ?_ | with_reducible refine bel_drewN ?_ _ | (with_reducible refine bel_set ?_ ?_ _; rotate_left; ((try simp); (try omega)))))) hnd2 (by omega) (by omega)).mono ?_
  rintro e w2 ⟨rfl, ho2, hr2⟩
  have m0_2 := Cod.only (Cod.bel hr1 (by repeat (first | with_reducible exact Below.refl _ _ | with_reducible assumption | with_reducible refine bel_alloc ?_ _ | with_reducible refine bel_drew ?_ | with_reducible refine bel_drewN ?_ _ | (with_reducible refine bel_set ?_ ?_ _; rotate_left; ((try simp); (try omega)))))) ho2 hd0_2
  have hz2 := ho2.size
  (try simp at hz2)
  have hs2 : w.heap.size < w2.heap.size := by omega
  have hbox2 : w2.heap[w.heap.size]? = _ := ho2.block w.heap.size (by (try simp); (try omega)) (fun hm => Nat.lt_irrefl _ (Cod.lt _ m2 _ hm))
  have hcb2 : ∀ o : Nat, w2.cell? ⟨w.heap.size, o, none⟩ = _ := fun o => World.cell?_of_block (a := ⟨w.heap.size, o, none⟩) hbox2
  clear hbox2
  have hO2 : Only (F0 ++ F2) w w2 := (Only.trans hO1 (by exact Only.trans (Only.of_below (Below.refl _ _)) (ho2.mono (fun x hx => by simp [hx]))))
  go_wp2_with fail
  go_ret
  exact ⟨ret_int (by (try simp only [htc]); (try omega)), hO2, TMach.mk_ (x := TMach.top k0 x) ⟨hok.h1, hok.h3⟩ m0_2 hr2⟩
set_option maxHeartbeats 1000000 in
theorem heldMachine_any (vs : Array Value) (x : TMach) (F : List Nat) (k0 : Int) (w : World) (h : cMach.rep w vs.toList (TMach.top k0 x) F) (h0 : 0 ≤ k0) (h1 : k0 + ((TMach.tcn x : Nat) : Int) ≤ 900000000) :
    Calls Try.prog 66 #[.agg vs, .int .i64 k0] w (Gives w (.int .i64 (k0 + ((TMach.tcn x : Nat) : Int)))) := by
  obtain ⟨v0, v2, F0, F2, rfl, rfl, hok, m0, m2⟩ := TMach.outA h
  clear hok h
  have htc : TMach.tcn x = cInsS.cn x.script + cIS.cn x.regs := rfl
  go_enter Try.func66, Try.ntmps66
  go_wp2_with fail
  refine (heldInstrS_any _ x.script _ _ _ (by exact Cod.bel m0 (by repeat (first | with_reducible exact Below.refl _ _ | with_reducible assumption | with_reducible refine bel_alloc ?_ _ | with_reducible refine bel_drew ?_ | with_reducible refine bel_drewN ?_ _ | (with_reducible refine bel_set ?_ ?_ _; rotate_left; ((try simp); (try omega)))))) (by omega) (by omega)).mono ?_
  rintro e w1 ⟨rfl, hb1⟩
  obtain ⟨hc1, hfz1, hz1⟩ := bcell hb1
  (try simp at hz1)
  have hs1 : w.heap.size < w1.heap.size := by omega
  have hB1 : Below w.heap.size w w1 := bel_then (by repeat (first | with_reducible exact Below.refl _ _ | with_reducible assumption | with_reducible refine bel_alloc ?_ _ | with_reducible refine bel_drew ?_ | with_reducible refine bel_drewN ?_ _ | (with_reducible refine bel_set ?_ ?_ _; rotate_left; ((try simp); (try omega))))) hb1
  clear hb1
  go_wp2_with fail
  refine (heldIntS_any _ x.regs _ _ _ (by exact Cod.bel m2 (by repeat (first | with_reducible exact Below.refl _ _ | with_reducible assumption | with_reducible refine bel_alloc ?_ _ | with_reducible refine bel_drew ?_ | with_reducible refine bel_drewN ?_ _ | (with_reducible refine bel_set ?_ ?_ _; rotate_left; ((try simp); (try omega)))))) (by omega) (by omega)).mono ?_
  rintro e w2 ⟨rfl, hb2⟩
  obtain ⟨hc2, hfz2, hz2⟩ := bcell hb2
  (try simp at hz2)
  have hs2 : w.heap.size < w2.heap.size := by omega
  have hB2 : Below w.heap.size w w2 := bel_then (by repeat (first | with_reducible exact Below.refl _ _ | with_reducible assumption | with_reducible refine bel_alloc ?_ _ | with_reducible refine bel_drew ?_ | with_reducible refine bel_drewN ?_ _ | (with_reducible refine bel_set ?_ ?_ _; rotate_left; ((try simp); (try omega))))) hb2
  clear hb2
  go_wp2_with fail
  go_ret
  exact ⟨ret_int (by (try simp only [htc]); (try omega)), (by repeat (first | with_reducible exact Below.refl _ _ | with_reducible assumption | with_reducible refine bel_alloc ?_ _ | with_reducible refine bel_drew ?_ | with_reducible refine bel_drewN ?_ _ | (with_reducible refine bel_set ?_ ?_ _; rotate_left; ((try simp); (try omega)))))⟩

end Go.Proofs.Yteipaolcmjfhdaa
