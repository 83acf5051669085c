/-
  CanRead of the program and of the reference. No conditions.
-/
import Derived.Test.YteipaolcmjfhdaaFilter
namespace Go.Proofs.Yteipaolcmjfhdaa
open Go.ChangeShapes Go.WideShapes Go.RowKit
set_option linter.unusedVariables false

def canRead (r : TReq) (x : TResp) : Bool := (filterResponse r x).type == 1 || (filterResponse r x).type == 2
set_option maxRecDepth 100000 in
set_option maxHeartbeats 4000000 in
theorem implCanRead_any (vs : Array Value) (r : TReq) (F : List Nat) (vs2 : Array Value) (x : TResp) (F2 : List Nat) (w : World) (h : cReq.rep w vs.toList r F) (hn : cReq.sz r ≤ 1048576) (h2 : cResp.rep w vs2.toList x F2) (hn2 : cResp.sz x ≤ 1048576) :
    Calls Try.prog 20 #[.agg vs, .agg vs2] w (Gives w (.bool (canRead r x))) := by
  have hr := h
  have hr2 := h2
  obtain ⟨u3, F3, rfl, -, -, m3⟩ := TResp.outA h2
  obtain ⟨A3, c3, rfl⟩ := cL_form m3
  obtain ⟨e0, -, -⟩ := TReq.out h
  obtain rfl := Array.toList_inj.1 (show vs.toList = (#[Value.string r.frm, .string r.dst, .string r.path, .int .i64 r.mode] : Array Value).toList from e0)
  clear h h2 m3 e0
  obtain ⟨R, hR⟩ : ∃ R, filterResponse r x = R := ⟨_, rfl⟩
  have HE := Lib.hid (show canRead r x = (R.type == 1 || R.type == 2) by unfold canRead; rw [hR])
  go_enter Try.func20, Try.ntmps20
  go_wp2_with fail
  refine (implFilterResponse_any _ r _ _ x _ _ (by exact Cod.bel hr (by repeat (first | with_reducible exact Below.refl _ _ | with_reducible assumption | with_reducible refine bel_alloc ?_ _ | with_reducible refine bel_drew ?_ | with_reducible refine bel_drewN ?_ _ | (with_reducible refine bel_set ?_ ?_ _; rotate_left; ((try simp); (try omega)))))) hn (by exact Cod.bel hr2 (by repeat (first | with_reducible exact Below.refl _ _ | with_reducible assumption | with_reducible refine bel_alloc ?_ _ | with_reducible refine bel_drew ?_ | with_reducible refine bel_drewN ?_ _ | (with_reducible refine bel_set ?_ ?_ _; rotate_left; ((try simp); (try omega)))))) hn2).mono ?_
  rw [hR]
  rintro e w1 ⟨vs1, G1, rfl, hb1, hrep, hf1⟩
  obtain ⟨v3, G3, rfl, rfl, -, n3⟩ := TResp.outA hrep
  obtain ⟨B3, d3, rfl⟩ := cL_form n3
  have hB : Below w.heap.size w w1 := bel_then (by repeat (first | with_reducible exact Below.refl _ _ | with_reducible assumption | with_reducible refine bel_alloc ?_ _ | with_reducible refine bel_drew ?_ | with_reducible refine bel_drewN ?_ _ | (with_reducible refine bel_set ?_ ?_ _; rotate_left; ((try simp); (try omega))))) hb1
  clear hb1 hf1 hrep n3
  have hfd : ∀ w : World, (Instr.field 35 (.agg #[.int .i64 R.type, .int .i64 R.status, .int .i64 R.ver, .slice B3 R.body.length d3, .bool R.shares]) 0).run Try.prog w = .ok (.int .i64 R.type) w := fun _ => by kernel_rfl
  cases e1 : (R.type == 1)
  all_goals cases e2 : (R.type == 2)
  all_goals
    go_wp2_with fail
    go_ret
    exact ⟨ret_bool (by rw [HE.out]; simp [*]), (by repeat (first | with_reducible exact Below.refl _ _ | with_reducible assumption | with_reducible refine bel_alloc ?_ _ | with_reducible refine bel_drew ?_ | with_reducible refine bel_drewN ?_ _ | (with_reducible refine bel_set ?_ ?_ _; rotate_left; ((try simp); (try omega)))))⟩
end Go.Proofs.Yteipaolcmjfhdaa
