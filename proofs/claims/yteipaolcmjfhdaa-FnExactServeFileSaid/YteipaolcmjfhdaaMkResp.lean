/-
  Response: mark and held. No conditions but the budget of the laws.
-/
import Derived.Test.YteipaolcmjfhdaaRows
import Derived.Test.YteipaolcmjfhdaaMem
import Derived.LoopTactic
import Derived.Test.YteipaolcmjfhdaaTResp
import Derived.Test.YteipaolcmjfhdaaUpd
import Derived.Test.YteipaolcmjfhdaaMk0Resp
import Derived.Test.YteipaolcmjfhdaaHdSU
import Derived.Test.YteipaolcmjfhdaaMkSU
namespace Go.Proofs.Yteipaolcmjfhdaa
open Go.ChangeShapes Go.WideShapes Go.RowKit
set_option linter.unusedVariables false

def MarkedResponse (w : World) (vs : Array Value) (F : List Nat) (n : Int) (x : TResp) (e : Ending) (w' : World) : Prop := e = .returned (.int .i64 n) ∧ Only F w w' ∧ cResp.rep w' vs.toList x F
set_option maxHeartbeats 1000000 in
theorem markResponse_any (vs : Array Value) (x : TResp) (F : List Nat) (k0 : Int) (w : World) (h : cResp.rep w vs.toList x F) (hnd : F.Nodup) (h0 : 0 ≤ k0) (h1 : k0 + ((TResp.tcn x : Nat) : Int) ≤ 900000000) :
    Calls Try.prog 58 #[.agg vs, .int .i64 k0] w (MarkedResponse w vs F (k0 + ((TResp.tcn x : Nat) : Int)) (TResp.top k0 x)) := by
  obtain ⟨v3, F3, rfl, rfl, hok, m3⟩ := TResp.outA h
  have htc : TResp.tcn x = cUS.cn x.body := rfl
  have hnd3 := hnd
  go_enter Try.func58, Try.ntmps58
  go_wp2_with fail
  have hO0 : Only (F) w w := Only.refl _ _
  refine (markByteS_any _ x.body _ _ _ (by exact Cod.bel m3 (by repeat (first | with_reducible exact Below.refl _ _ | with_reducible assumption | with_reducible refine bel_alloc ?_ _ | with_reducible refine bel_drew ?_ | with_reducible refine bel_drewN ?_ _ | (with_reducible refine bel_set ?_ ?_ _; rotate_left; ((try simp); (try omega)))))) hnd3 (by omega) (by omega)).mono ?_
  rintro e w1 ⟨rfl, ho1, hr1⟩
  have hz1 := ho1.size
  (try simp at hz1)
  have hs1 : w.heap.size < w1.heap.size := by omega
  have hbox1 : w1.heap[w.heap.size]? = _ := ho1.block w.heap.size (by (try simp); (try omega)) (fun hm => Nat.lt_irrefl _ (Cod.lt _ m3 _ hm))
  have hcb1 : ∀ o : Nat, w1.cell? ⟨w.heap.size, o, none⟩ = _ := fun o => World.cell?_of_block (a := ⟨w.heap.size, o, none⟩) hbox1
  clear hbox1
  have hO1 : Only (F) w w1 := (Only.trans hO0 (by exact Only.trans (Only.of_below (by repeat (first | with_reducible exact Below.refl _ _ | with_reducible assumption | with_reducible refine bel_alloc ?_ _ | with_reducible refine bel_drew ?_ | with_reducible refine bel_drewN ?_ _ | (with_reducible refine bel_set ?_ ?_ _; rotate_left; ((try simp); (try omega)))))) (ho1.mono (fun x hx => by simp [hx]))))
  go_wp2_with fail
  go_ret
  exact ⟨ret_int (by (try simp only [htc]); (try omega)), hO1, TResp.mk_ (x := TResp.top k0 x) ⟨hok.h0, hok.h1, hok.h2⟩ hr1⟩
set_option maxHeartbeats 1000000 in
theorem heldResponse_any (vs : Array Value) (x : TResp) (F : List Nat) (k0 : Int) (w : World) (h : cResp.rep w vs.toList (TResp.top k0 x) F) (h0 : 0 ≤ k0) (h1 : k0 + ((TResp.tcn x : Nat) : Int) ≤ 900000000) :
    Calls Try.prog 59 #[.agg vs, .int .i64 k0] w (Gives w (.int .i64 (k0 + ((TResp.tcn x : Nat) : Int)))) := by
  obtain ⟨v3, F3, rfl, rfl, hok, m3⟩ := TResp.outA h
  clear hok h
  have htc : TResp.tcn x = cUS.cn x.body := rfl
  go_enter Try.func59, Try.ntmps59
  go_wp2_with fail
  refine (heldByteS_any _ x.body _ _ _ (by exact Cod.bel m3 (by repeat (first | with_reducible exact Below.refl _ _ | with_reducible assumption | with_reducible refine bel_alloc ?_ _ | with_reducible refine bel_drew ?_ | with_reducible refine bel_drewN ?_ _ | (with_reducible refine bel_set ?_ ?_ _; rotate_left; ((try simp); (try omega)))))) (by omega) (by omega)).mono ?_
  rintro e w1 ⟨rfl, hb1⟩
  obtain ⟨hc1, hfz1, hz1⟩ := bcell hb1
  (try simp at hz1)
  have hs1 : w.heap.size < w1.heap.size := by omega
  have hB1 : Below w.heap.size w w1 := bel_then (by repeat (first | with_reducible exact Below.refl _ _ | with_reducible assumption | with_reducible refine bel_alloc ?_ _ | with_reducible refine bel_drew ?_ | with_reducible refine bel_drewN ?_ _ | (with_reducible refine bel_set ?_ ?_ _; rotate_left; ((try simp); (try omega))))) hb1
  clear hb1
  go_wp2_with fail
  go_ret
  exact ⟨ret_int (by (try simp only [htc]); (try omega)), (by repeat (first | with_reducible exact Below.refl _ _ | with_reducible assumption | with_reducible refine bel_alloc ?_ _ | with_reducible refine bel_drew ?_ | with_reducible refine bel_drewN ?_ _ | (with_reducible refine bel_set ?_ ?_ _; rotate_left; ((try simp); (try omega)))))⟩

end Go.Proofs.Yteipaolcmjfhdaa
