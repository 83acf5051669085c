/-
  DrawFilterResponse: what it hands out. No conditions.
-/
import Derived.Test.YteipaolcmjfhdaaDrawReq
import Derived.Test.YteipaolcmjfhdaaDrawResp
import Derived.Test.YteipaolcmjfhdaaRegT
namespace Go.Proofs.Yteipaolcmjfhdaa
open Go.ChangeShapes Go.WideShapes Go.RowKit
set_option linter.unusedVariables false

set_option maxRecDepth 100000 in
set_option maxHeartbeats 8000000 in
theorem drawFilter_any (v : Value) (xs : List UInt8) (F : List Nat) (w : World) (h : cUS.rep w [v] xs F) (hn : xs.length ≤ 1048576) :
    Calls Try.prog 16 #[v] w (fun e w' => ∃ (x : TReq) (vs : Array Value) (y : TResp) (G : List Nat), e = .returned (.tuple #[x.val, .agg vs]) ∧ SmallReq x ∧ cResp.rep w' vs.toList y G ∧ SmallResp y ∧ Below w.heap.size w w' ∧ Fresh w.heap.size G) := by
  go_enter Try.func16, Try.ntmps16
  go_wp2_with fail
  refine (l1New_any v xs _ _ (by exact Cod.bel h (by repeat (first | with_reducible exact Below.refl _ _ | with_reducible assumption | with_reducible refine bel_alloc ?_ _ | with_reducible refine bel_drew ?_ | with_reducible refine bel_drewN ?_ _ | (with_reducible refine bel_set ?_ ?_ _; rotate_left; ((try simp); (try omega)))))) hn).mono ?_
  rintro e w1 ⟨rfl, hb1, hc1⟩
  (try simp at hc1)
  have hz1 := hb1.size
  (try simp at hz1)
  have hB1 : Below w.heap.size w w1 := bel_then (by repeat (first | with_reducible exact Below.refl _ _ | with_reducible assumption | with_reducible refine bel_alloc ?_ _ | with_reducible refine bel_drew ?_ | with_reducible refine bel_drewN ?_ _ | (with_reducible refine bel_set ?_ ?_ _; rotate_left; ((try simp); (try omega))))) hb1
  have hpl := hc1.lt
  obtain ⟨hcc1, hff1, -⟩ := bcell hb1
  have r0 : w1.cell? ⟨w.heap.size, 0, none⟩ = some (.string ⟨#[]⟩) := by go_simp
  have z0 : w1.frozen? ⟨w.heap.size, 0, none⟩ = false := by go_simp
  have r1 : w1.cell? ⟨w.heap.size, 1, none⟩ = some (.string ⟨#[]⟩) := by go_simp
  have z1 : w1.frozen? ⟨w.heap.size, 1, none⟩ = false := by go_simp
  have r2 : w1.cell? ⟨w.heap.size, 2, none⟩ = some (.string ⟨#[]⟩) := by go_simp
  have z2 : w1.frozen? ⟨w.heap.size, 2, none⟩ = false := by go_simp
  have r3 : w1.cell? ⟨w.heap.size, 3, none⟩ = some (.int .i64 0) := by go_simp
  have z3 : w1.frozen? ⟨w.heap.size, 3, none⟩ = false := by go_simp
  have r4 : w1.cell? ⟨w.heap.size + 1, 0, none⟩ = some (.int .i64 0) := by go_simp
  have z4 : w1.frozen? ⟨w.heap.size + 1, 0, none⟩ = false := by go_simp
  have r5 : w1.cell? ⟨w.heap.size + 1, 1, none⟩ = some (.int .i64 0) := by go_simp
  have z5 : w1.frozen? ⟨w.heap.size + 1, 1, none⟩ = false := by go_simp
  have r6 : w1.cell? ⟨w.heap.size + 1, 2, none⟩ = some (.int .i64 0) := by go_simp
  have z6 : w1.frozen? ⟨w.heap.size + 1, 2, none⟩ = false := by go_simp
  have r7 : w1.cell? ⟨w.heap.size + 1, 3, none⟩ = some (.slice none 0 0) := by go_simp
  have z7 : w1.frozen? ⟨w.heap.size + 1, 3, none⟩ = false := by go_simp
  have r8 : w1.cell? ⟨w.heap.size + 1, 4, none⟩ = some (.bool false) := by go_simp
  have z8 : w1.frozen? ⟨w.heap.size + 1, 4, none⟩ = false := by go_simp
  clear hb1 hcc1 hff1
  go_wp2_with fail
  refine (l15Request_any (w.heap.size + 1 + 1) _ (by exact hc1)).mono ?_
  rintro e w2 ⟨v2, rfl, ⟨x, rfl, hok⟩, ho2, hc2⟩
  obtain ⟨hcc2, hff2, hzz2⟩ := ocell ho2
  have hB2 : Below w.heap.size w w2 := hB1.trans (ho2.bel w.heap.size hB1.size (fun y hy => by simp at hy; omega))
  have hz2 : w.heap.size + 1 + 1 < w2.heap.size := by omega
  unfold TReq.val
  go_wp2_with fail
  generalize hW : World.alloc w2 _ = W
  have hWs : W.heap.size = w2.heap.size + 1 := by rw [← hW]; clear hW; simp
  have hcW : Cur W (w.heap.size + 1 + 1) := by rw [← hW]; exact hc2.alloc _
  have hBW : Below w.heap.size w W := by rw [← hW]; exact bel_alloc hB2 _
  have q0 : W.cell? ⟨w2.heap.size, 0, none⟩ = some (.string x.frm) := by rw [← hW]; clear hW; go_simp
  have q1 : W.cell? ⟨w2.heap.size, 1, none⟩ = some (.string x.dst) := by rw [← hW]; clear hW; go_simp
  have q2 : W.cell? ⟨w2.heap.size, 2, none⟩ = some (.string x.path) := by rw [← hW]; clear hW; go_simp
  have q3 : W.cell? ⟨w2.heap.size, 3, none⟩ = some (.int .i64 x.mode) := by rw [← hW]; clear hW; go_simp
  have hn1 : ¬ w.heap.size = w.heap.size + 1 + 1 := by omega
  have hn2 : ¬ w.heap.size + 1 = w.heap.size + 1 + 1 := by omega
  have hrow : W.heap[w.heap.size]? = w1.heap[w.heap.size]? := by
    rw [← hW]
    exact ((bel_alloc (Below.refl w2.heap.size w2) _).block w.heap.size (by omega)).trans (ho2.block w.heap.size (by omega) (by simp; omega))
  have hrow2 : W.heap[w.heap.size + 1]? = w1.heap[w.heap.size + 1]? := by
    rw [← hW]
    exact ((bel_alloc (Below.refl w2.heap.size w2) _).block (w.heap.size + 1) (by omega)).trans (ho2.block (w.heap.size + 1) (by omega) (by simp))
  clear hW
  have hS : ∀ w9, Only [w.heap.size + 1 + 1] W w9 → w9.cell? ⟨w2.heap.size, 0, none⟩ = some (.string x.frm) ∧ w9.cell? ⟨w2.heap.size, 1, none⟩ = some (.string x.dst) ∧ w9.cell? ⟨w2.heap.size, 2, none⟩ = some (.string x.path) ∧ w9.cell? ⟨w2.heap.size, 3, none⟩ = some (.int .i64 x.mode) :=
    fun w9 hb => by
      have hk := hb.block w2.heap.size (by omega) (by simp; omega)
      exact ⟨(World.cell?_of_block hk).trans q0, (World.cell?_of_block hk).trans q1, (World.cell?_of_block hk).trans q2, (World.cell?_of_block hk).trans q3⟩
  refine wp_regionT (S := (fun w9 => w9.cell? ⟨w2.heap.size, 0, none⟩ = some (.string x.frm) ∧ w9.cell? ⟨w2.heap.size, 1, none⟩ = some (.string x.dst) ∧ w9.cell? ⟨w2.heap.size, 2, none⟩ = some (.string x.path) ∧ w9.cell? ⟨w2.heap.size, 3, none⟩ = some (.int .i64 x.mode))) [3, 4] (by kernel_rfl) (by (try dsimp only); exact hS _ (by repeat (first | with_reducible exact Only.refl _ _ | with_reducible assumption | with_reducible refine Only.alloc ?_ _ | with_reducible refine Only.drew ?_ | with_reducible refine Only.drewN ?_ _ | (with_reducible refine Only.setNew ?_ ?_ _; rotate_left; ((try simp); (try omega)))))) (fun hHeld => ?_)
  refine takeT_read (i := 0) 5 10 (v := ?v0) rfl rfl (by kernel_rfl) (by kernel_rfl) (by kernel_rfl) (by kernel_rfl) (by kernel_rfl) (by kernel_rfl) (fun _ _ _ h => h) (by rfl) ?hy0 (by assumption) ?rest0
  case hy0 => (intro w hSw; (try dsimp only at hSw); go_simp; (try with_reducible rfl))
  try simp only [Act.put, List.setIfInBounds_toArray, List.set_cons_zero, List.set_cons_succ]
  refine takeT_read (i := 1) 5 11 (v := ?v1) rfl rfl (by kernel_rfl) (by kernel_rfl) (by kernel_rfl) (by kernel_rfl) (by kernel_rfl) (by kernel_rfl) (fun _ _ _ h => h) (by rfl) ?hy1 (by assumption) ?rest1
  case hy1 => (intro w hSw; (try dsimp only at hSw); go_simp; (try with_reducible rfl))
  try simp only [Act.put, List.setIfInBounds_toArray, List.set_cons_zero, List.set_cons_succ]
  refine stepT 2 (by kernel_rfl) rfl (fun K hK => ?_)
  go_simp
  (go_at_call 70; refine (l15Response_any (w.heap.size + 1 + 1) _ (by repeat (first | with_reducible assumption | with_reducible refine Cur.alloc ?_ _ | with_reducible refine Cur.drew ?_ | with_reducible refine Cur.drewN ?_ _ | (with_reducible refine Cur.set ?_ ?_ _; rotate_left; ((try simp); (try omega)))))).mono ?_; rintro e w3 ⟨u, rfl, ⟨vs, y, G, rfl, hu, hul, hfu⟩, ho3, hc3⟩; obtain ⟨u3, F3, rfl, rfl, huok, m3⟩ := TResp.outA hu; obtain ⟨U, cu, hue⟩ := cL_form m3; subst hue; have hoW3 : Only [w.heap.size + 1 + 1] W w3 := (show Only [w.heap.size + 1 + 1] W _ from (by repeat (first | with_reducible exact Only.refl _ _ | with_reducible assumption | with_reducible refine Only.alloc ?_ _ | with_reducible refine Only.drew ?_ | with_reducible refine Only.drewN ?_ _ | (with_reducible refine Only.setNew ?_ ?_ _; rotate_left; ((try simp); (try omega)))))).trans ho3; have hk3 := (hoW3.block w.heap.size (by omega) (by simp; omega)).trans hrow; have hk4 := (hoW3.block (w.heap.size + 1) (by omega) (by simp)).trans hrow2; have y0 : w3.cell? ⟨w.heap.size, 0, none⟩ = _ := (World.cell?_of_block hk3).trans r0; have x0 : w3.frozen? ⟨w.heap.size, 0, none⟩ = false := (World.frozen?_of_block hk3).trans z0; have y1 : w3.cell? ⟨w.heap.size, 1, none⟩ = _ := (World.cell?_of_block hk3).trans r1; have x1 : w3.frozen? ⟨w.heap.size, 1, none⟩ = false := (World.frozen?_of_block hk3).trans z1; have y2 : w3.cell? ⟨w.heap.size, 2, none⟩ = _ := (World.cell?_of_block hk3).trans r2; have x2 : w3.frozen? ⟨w.heap.size, 2, none⟩ = false := (World.frozen?_of_block hk3).trans z2; have y3 : w3.cell? ⟨w.heap.size, 3, none⟩ = _ := (World.cell?_of_block hk3).trans r3; have x3 : w3.frozen? ⟨w.heap.size, 3, none⟩ = false := (World.frozen?_of_block hk3).trans z3; have y4 : w3.cell? ⟨w.heap.size + 1, 0, none⟩ = _ := (World.cell?_of_block hk4).trans r4; have x4 : w3.frozen? ⟨w.heap.size + 1, 0, none⟩ = false := (World.frozen?_of_block hk4).trans z4; have y5 : w3.cell? ⟨w.heap.size + 1, 1, none⟩ = _ := (World.cell?_of_block hk4).trans r5; have x5 : w3.frozen? ⟨w.heap.size + 1, 1, none⟩ = false := (World.frozen?_of_block hk4).trans z5; have y6 : w3.cell? ⟨w.heap.size + 1, 2, none⟩ = _ := (World.cell?_of_block hk4).trans r6; have x6 : w3.frozen? ⟨w.heap.size + 1, 2, none⟩ = false := (World.frozen?_of_block hk4).trans z6; have y7 : w3.cell? ⟨w.heap.size + 1, 3, none⟩ = _ := (World.cell?_of_block hk4).trans r7; have x7 : w3.frozen? ⟨w.heap.size + 1, 3, none⟩ = false := (World.frozen?_of_block hk4).trans z7; have y8 : w3.cell? ⟨w.heap.size + 1, 4, none⟩ = _ := (World.cell?_of_block hk4).trans r8; have x8 : w3.frozen? ⟨w.heap.size + 1, 4, none⟩ = false := (World.frozen?_of_block hk4).trans z8; have hB3 : Below w.heap.size w w3 := hBW.trans (hoW3.bel w.heap.size hBW.size (fun y hy => by simp at hy; omega)); have hfu' : Fresh (w.heap.size + 1 + 1) G := hfu.mono (by (try simp); (try omega)); clear hk3 hk4 hu)
  try go_wp2_with fail
  refine hK.out _ _ ?_ (fun hHeld => ?_)
  · (try dsimp only)
    exact hS _ (by repeat (first | with_reducible exact Only.refl _ _ | with_reducible assumption | with_reducible refine Only.alloc ?_ _ | with_reducible refine Only.drew ?_ | with_reducible refine Only.drewN ?_ _ | (with_reducible refine Only.setNew ?_ ?_ _; rotate_left; ((try simp); (try omega)))))
  clear hK K
  refine stepT_end 3 (by kernel_rfl) rfl (by kernel_rfl) (fun K hK => ?_)
  go_simp
  refine hK.out _ _ ?_
  clear hK K
  refine stepT_end 4 (by kernel_rfl) rfl (by kernel_rfl) (fun K hK => ?_)
  go_simp
  refine hK.out _ _ ?_
  clear hK K
  refine doneT (by kernel_rfl) ?_ _
  go_wp2_with fail
  refine bodyPost_ret (v := .tuple #[.agg #[.string x.frm, .string x.dst, .string x.path, .int .i64 x.mode], .agg #[.int .i64 y.type, .int .i64 y.status, .int .i64 y.ver, .slice U y.body.length cu, .bool y.shares]]) (by simp [results, Try.results16, go_sem, *]) rfl ?_
  have hlow := hfu'.1
  exact ⟨x, _, y, G, rfl, hok, TResp.mk_ huok (by repeat (first | with_reducible exact m3 | with_reducible refine Cod.allocA ?_ _ | with_reducible refine Cod.drewA ?_ | with_reducible refine Cod.drewNA ?_ _ | ((with_reducible refine Cod.setA ?_ ?_ _); rotate_left; ((intro hm9; have hm8 := hlow _ hm9; (try simp at hm8); (try omega)))))), hul, (by repeat (first | with_reducible exact Below.refl _ _ | with_reducible assumption | with_reducible refine bel_alloc ?_ _ | with_reducible refine bel_drew ?_ | with_reducible refine bel_drewN ?_ _ | (with_reducible refine bel_set ?_ ?_ _; rotate_left; ((try simp); (try omega))))), hfu'.mono (Nat.le_succ_of_le (Nat.le_succ _))⟩
end Go.Proofs.Yteipaolcmjfhdaa
