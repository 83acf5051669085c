/-
  Site: mark and held. No conditions but the budget of the laws.
-/
import Derived.Test.YtlicnppfgfjkgaaRows
import Derived.Test.YtlicnppfgfjkgaaZA
import Derived.LoopTactic
import Derived.Test.YtlicnppfgfjkgaaZMk0Site
import Derived.Test.YtlicnppfgfjkgaaZHdSSt
import Derived.Test.YtlicnppfgfjkgaaZMkSSt
namespace Go.Proofs.Ytlicnppfgfjkgaa
open Go.ChangeShapes Go.WideShapes Go.RowKit
set_option linter.unusedVariables false

def MarkedSite (w : World) (vs : Array Value) (F : List Nat) (n : Int) (x : TSite) (e : Ending) (w' : World) : Prop := e = .returned (.int .i64 n) ∧ Only F w w' ∧ cSite.rep w' vs.toList x F
set_option maxHeartbeats 1000000 in
theorem markSite_any (vs : Array Value) (x : TSite) (F : List Nat) (k0 : Int) (w : World) (h : cSite.rep w vs.toList x F) (hnd : F.Nodup) (h0 : 0 ≤ k0) (h1 : k0 + ((TSite.tcn x : Nat) : Int) ≤ 900000000) :
    Calls Try.prog 59 #[.agg vs, .int .i64 k0] w (MarkedSite w vs F (k0 + ((TSite.tcn x : Nat) : Int)) (TSite.top k0 x)) := by
  obtain ⟨v2, F2, rfl, rfl, hok, m2⟩ := TSite.outA h
  have htc : TSite.tcn x = cStS.cn x.files := rfl
  have hnd2 := hnd
  go_enter Try.func59, Try.ntmps59
  go_wp2_with fail
  have hO0 : Only (F) w w := Only.refl _ _
  refine (markStringS_any _ x.files _ _ _ (by exact Cod.bel m2 (by repeat (first | with_reducible exact Below.refl _ _ | with_reducible assumption | with_reducible refine bel_alloc ?_ _ | with_reducible refine bel_drew ?_ | with_reducible refine bel_drewN ?_ _ | (with_reducible refine bel_set ?_ ?_ _; rotate_left; ((try simp); (try omega)))))) hnd2 (by omega) (by omega)).mono ?_
  rintro e w1 ⟨rfl, ho1, hr1⟩
  have hz1 := ho1.size
  (try simp at hz1)
  have hs1 : w.heap.size < w1.heap.size := by omega
  have hbox1 : w1.heap[w.heap.size]? = _ := ho1.block w.heap.size (by (try simp); (try omega)) (fun hm => Nat.lt_irrefl _ (Cod.lt _ m2 _ hm))
  have hcb1 : ∀ o : Nat, w1.cell? ⟨w.heap.size, o, none⟩ = _ := fun o => World.cell?_of_block (a := ⟨w.heap.size, o, none⟩) hbox1
  clear hbox1
  have hO1 : Only (F) w w1 := (Only.trans hO0 (by exact Only.trans (Only.of_below (by repeat (first | with_reducible exact Below.refl _ _ | with_reducible assumption | with_reducible refine bel_alloc ?_ _ | with_reducible refine bel_drew ?_ | with_reducible refine bel_drewN ?_ _ | (with_reducible refine bel_set ?_ ?_ _; rotate_left; ((try simp); (try omega)))))) (ho1.mono (fun x hx => by simp [hx]))))
  go_wp2_with fail
  go_ret
  exact ⟨ret_int (by (try simp only [htc]); (try omega)), hO1, TSite.mk_ (x := TSite.top k0 x) ⟨hok.h0, hok.h1⟩ hr1⟩

end Go.Proofs.Ytlicnppfgfjkgaa
