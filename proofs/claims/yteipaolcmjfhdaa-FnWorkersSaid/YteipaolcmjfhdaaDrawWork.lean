/-
  DrawActivate, DrawBeginInstall: what they hand out. No conditions.
-/
import Derived.Test.YteipaolcmjfhdaaDrawReg
import Derived.Test.YteipaolcmjfhdaaDrawUsed
import Derived.Test.YteipaolcmjfhdaaRegT
namespace Go.Proofs.Yteipaolcmjfhdaa
open Go.ChangeShapes Go.WideShapes Go.RowKit
set_option linter.unusedVariables false

set_option maxRecDepth 100000 in
set_option maxHeartbeats 4000000 in
theorem drawCanActivate_any (v : Value) (xs : List UInt8) (F : List Nat) (w : World) (h : cUS.rep w [v] xs F) (hn : xs.length ≤ 1048576) :
    Calls Try.prog 86 #[v] w (fun e w' => ∃ (x : TReg) (u : Value) (us : List Int) (G : List Nat), e = .returned (.tuple #[x.val, u]) ∧ (x.Ok ∧ x.site.size ≤ 100) ∧ cIS.rep w' [u] us G ∧ us.length ≤ 2 ∧ Below w.heap.size w w' ∧ Fresh w.heap.size G) := by
  go_enter Try.func86, Try.ntmps86
  go_wp2_with fail
  refine (l1New_any v xs _ _ (by exact Cod.bel h (by repeat (first | with_reducible exact Below.refl _ _ | with_reducible assumption | with_reducible refine bel_alloc ?_ _ | with_reducible refine bel_drew ?_ | with_reducible refine bel_drewN ?_ _ | (with_reducible refine bel_set ?_ ?_ _; rotate_left; ((try simp); (try omega)))))) hn).mono ?_
  rintro e w1 ⟨rfl, hb1, hc1⟩
  (try simp at hc1)
  have hz1 := hb1.size
  (try simp at hz1)
  have hB1 : Below w.heap.size w w1 := bel_then (by repeat (first | with_reducible exact Below.refl _ _ | with_reducible assumption | with_reducible refine bel_alloc ?_ _ | with_reducible refine bel_drew ?_ | with_reducible refine bel_drewN ?_ _ | (with_reducible refine bel_set ?_ ?_ _; rotate_left; ((try simp); (try omega))))) hb1
  have hpl := hc1.lt
  obtain ⟨hcc1, hff1, -⟩ := bcell hb1
  have r0 : w1.cell? ⟨w.heap.size, 0, none⟩ = some (.string ⟨#[]⟩) := by go_simp
  have r1 : w1.cell? ⟨w.heap.size, 1, none⟩ = some (.int .i64 0) := by go_simp
  have r2 : w1.cell? ⟨w.heap.size, 2, none⟩ = some (.int .i64 0) := by go_simp
  have r3 : w1.cell? ⟨w.heap.size, 3, none⟩ = some (.int .i64 0) := by go_simp
  have z0 : w1.frozen? ⟨w.heap.size, 0, none⟩ = false := by go_simp
  have z1 : w1.frozen? ⟨w.heap.size, 1, none⟩ = false := by go_simp
  have z2 : w1.frozen? ⟨w.heap.size, 2, none⟩ = false := by go_simp
  have z3 : w1.frozen? ⟨w.heap.size, 3, none⟩ = false := by go_simp
  clear hb1 hcc1 hff1
  go_wp2_with fail
  refine (l18Reg_any (w.heap.size + 1) _ (by exact hc1)).mono ?_
  rintro e w2 ⟨v2, rfl, ⟨x, rfl, hok⟩, ho2, hc2⟩
  obtain ⟨hcc2, hff2, hzz2⟩ := ocell ho2
  have hB2 : Below w.heap.size w w2 := hB1.trans (ho2.bel w.heap.size hB1.size (fun y hy => by simp at hy; omega))
  have hz2 : w.heap.size + 1 < w2.heap.size := by omega
  unfold TReg.val
  go_wp2_with fail
  generalize hW : World.alloc w2 _ = W
  have hWs : W.heap.size = w2.heap.size + 1 := by rw [← hW]; clear hW; simp
  have hcW : Cur W (w.heap.size + 1) := by rw [← hW]; exact hc2.alloc _
  have hBW : Below w.heap.size w W := by rw [← hW]; exact bel_alloc hB2 _
  have q0 : W.cell? ⟨w2.heap.size, 0, none⟩ = some (.string x.site) := by rw [← hW]; clear hW; go_simp
  have q1 : W.cell? ⟨w2.heap.size, 1, none⟩ = some (.int .i64 x.ins) := by rw [← hW]; clear hW; go_simp
  have q2 : W.cell? ⟨w2.heap.size, 2, none⟩ = some (.int .i64 x.wai) := by rw [← hW]; clear hW; go_simp
  have q3 : W.cell? ⟨w2.heap.size, 3, none⟩ = some (.int .i64 x.act) := by rw [← hW]; clear hW; go_simp
  have hn1 : ¬ w.heap.size = w.heap.size + 1 := by omega
  have hrow : W.heap[w.heap.size]? = w1.heap[w.heap.size]? := by
    rw [← hW]
    exact ((bel_alloc (Below.refl w2.heap.size w2) _).block w.heap.size (by omega)).trans (ho2.block w.heap.size (by omega) (by simp))
  clear hW
  have hS : ∀ w9, Only [w.heap.size + 1] W w9 → w9.cell? ⟨w2.heap.size, 0, none⟩ = some (.string x.site) ∧ w9.cell? ⟨w2.heap.size, 1, none⟩ = some (.int .i64 x.ins) ∧ w9.cell? ⟨w2.heap.size, 2, none⟩ = some (.int .i64 x.wai) ∧ w9.cell? ⟨w2.heap.size, 3, none⟩ = some (.int .i64 x.act) :=
    fun w9 hb => by
      have hk := hb.block w2.heap.size (by omega) (by simp; omega)
      exact ⟨(World.cell?_of_block hk).trans q0, (World.cell?_of_block hk).trans q1, (World.cell?_of_block hk).trans q2, (World.cell?_of_block hk).trans q3⟩
  refine wp_regionT (S := (fun w9 => w9.cell? ⟨w2.heap.size, 0, none⟩ = some (.string x.site) ∧ w9.cell? ⟨w2.heap.size, 1, none⟩ = some (.int .i64 x.ins) ∧ w9.cell? ⟨w2.heap.size, 2, none⟩ = some (.int .i64 x.wai) ∧ w9.cell? ⟨w2.heap.size, 3, none⟩ = some (.int .i64 x.act))) [3, 4] (by kernel_rfl) (by (try dsimp only); exact hS _ (by repeat (first | with_reducible exact Only.refl _ _ | with_reducible assumption | with_reducible refine Only.alloc ?_ _ | with_reducible refine Only.drew ?_ | with_reducible refine Only.drewN ?_ _ | (with_reducible refine Only.setNew ?_ ?_ _; rotate_left; ((try simp); (try omega)))))) (fun hHeld => ?_)
  refine takeT_read (i := 0) 5 10 (v := ?v0) rfl rfl (by kernel_rfl) (by kernel_rfl) (by kernel_rfl) (by kernel_rfl) (by kernel_rfl) (by kernel_rfl) (fun _ _ _ h => h) (by rfl) ?hy0 (by assumption) ?rest0
  case hy0 => (intro w hSw; (try dsimp only at hSw); go_simp; (try with_reducible rfl))
  try simp only [Act.put, List.setIfInBounds_toArray, List.set_cons_zero, List.set_cons_succ]
  refine takeT_read (i := 1) 5 11 (v := ?v1) rfl rfl (by kernel_rfl) (by kernel_rfl) (by kernel_rfl) (by kernel_rfl) (by kernel_rfl) (by kernel_rfl) (fun _ _ _ h => h) (by rfl) ?hy1 (by assumption) ?rest1
  case hy1 => (intro w hSw; (try dsimp only at hSw); go_simp; (try with_reducible rfl))
  try simp only [Act.put, List.setIfInBounds_toArray, List.set_cons_zero, List.set_cons_succ]
  refine stepT 2 (by kernel_rfl) rfl (fun K hK => ?_)
  go_simp
  (go_at_call 130; refine (l18Used_any (w.heap.size + 1) _ (by repeat (first | with_reducible assumption | with_reducible refine Cur.alloc ?_ _ | with_reducible refine Cur.drew ?_ | with_reducible refine Cur.drewN ?_ _ | (with_reducible refine Cur.set ?_ ?_ _; rotate_left; ((try simp); (try omega)))))).mono ?_; rintro e w3 ⟨u, rfl, ⟨us, G, hu, hul, hfu⟩, ho3, hc3⟩; have hoW3 : Only [w.heap.size + 1] W w3 := (show Only [w.heap.size + 1] W _ from (by repeat (first | with_reducible exact Only.refl _ _ | with_reducible assumption | with_reducible refine Only.alloc ?_ _ | with_reducible refine Only.drew ?_ | with_reducible refine Only.drewN ?_ _ | (with_reducible refine Only.setNew ?_ ?_ _; rotate_left; ((try simp); (try omega)))))).trans ho3; have hk3 := (hoW3.block w.heap.size (by omega) (by simp)).trans hrow; have y0 : w3.cell? ⟨w.heap.size, 0, none⟩ = _ := (World.cell?_of_block hk3).trans r0; have y1 : w3.cell? ⟨w.heap.size, 1, none⟩ = _ := (World.cell?_of_block hk3).trans r1; have y2 : w3.cell? ⟨w.heap.size, 2, none⟩ = _ := (World.cell?_of_block hk3).trans r2; have y3 : w3.cell? ⟨w.heap.size, 3, none⟩ = _ := (World.cell?_of_block hk3).trans r3; have x0 : w3.frozen? ⟨w.heap.size, 0, none⟩ = false := (World.frozen?_of_block hk3).trans z0; have x1 : w3.frozen? ⟨w.heap.size, 1, none⟩ = false := (World.frozen?_of_block hk3).trans z1; have x2 : w3.frozen? ⟨w.heap.size, 2, none⟩ = false := (World.frozen?_of_block hk3).trans z2; have x3 : w3.frozen? ⟨w.heap.size, 3, none⟩ = false := (World.frozen?_of_block hk3).trans z3; have hB3 : Below w.heap.size w w3 := hBW.trans (hoW3.bel w.heap.size hBW.size (fun y hy => by simp at hy; omega)); obtain ⟨U, cu, hue⟩ := cL_form hu; subst hue; have hfu' : Fresh (w.heap.size + 1) G := hfu.mono (by (try simp); (try omega)); clear hk3)
  try go_wp2_with fail
  refine hK.out _ _ ?_ (fun hHeld => ?_)
  · (try dsimp only)
    exact hS _ (by repeat (first | with_reducible exact Only.refl _ _ | with_reducible assumption | with_reducible refine Only.alloc ?_ _ | with_reducible refine Only.drew ?_ | with_reducible refine Only.drewN ?_ _ | (with_reducible refine Only.setNew ?_ ?_ _; rotate_left; ((try simp); (try omega)))))
  clear hK K
  refine stepT_end 3 (by kernel_rfl) rfl (by kernel_rfl) (fun K hK => ?_)
  go_simp
  refine hK.out _ _ ?_
  clear hK K
  refine stepT_end 4 (by kernel_rfl) rfl (by kernel_rfl) (fun K hK => ?_)
  go_simp
  refine hK.out _ _ ?_
  clear hK K
  refine doneT (by kernel_rfl) ?_ _
  go_wp2_with fail
  refine bodyPost_ret (v := .tuple #[.agg #[.string x.site, .int .i64 x.ins, .int .i64 x.wai, .int .i64 x.act], .slice U us.length cu]) (by simp [results, Try.results86, go_sem, *]) rfl ?_
  have hlow := hfu'.1
  exact ⟨x, _, us, G, rfl, hok, by exact (by repeat (first | with_reducible exact hu | with_reducible refine Cod.allocA ?_ _ | with_reducible refine Cod.drewA ?_ | with_reducible refine Cod.drewNA ?_ _ | ((with_reducible refine Cod.setA ?_ ?_ _); rotate_left; ((intro hm9; have hm8 := hlow _ hm9; (try simp at hm8); (try omega)))))), hul, (by repeat (first | with_reducible exact Below.refl _ _ | with_reducible assumption | with_reducible refine bel_alloc ?_ _ | with_reducible refine bel_drew ?_ | with_reducible refine bel_drewN ?_ _ | (with_reducible refine bel_set ?_ ?_ _; rotate_left; ((try simp); (try omega))))), hfu'.mono (Nat.le_succ _)⟩
set_option maxRecDepth 100000 in
set_option maxHeartbeats 4000000 in
theorem drawBeginInstall_any (v : Value) (xs : List UInt8) (F : List Nat) (w : World) (h : cUS.rep w [v] xs F) (hn : xs.length ≤ 1048576) :
    Calls Try.prog 34 #[v] w (fun e w' => ∃ (x : TReg) (u : Int), e = .returned (.tuple #[x.val, .int .i64 u]) ∧ (x.Ok ∧ x.site.size ≤ 100) ∧ 0 ≤ u ∧ u ≤ 1000000000001 ∧ Below w.heap.size w w') := by
  go_enter Try.func34, Try.ntmps34
  go_wp2_with fail
  refine (l1New_any v xs _ _ (by exact Cod.bel h (by repeat (first | with_reducible exact Below.refl _ _ | with_reducible assumption | with_reducible refine bel_alloc ?_ _ | with_reducible refine bel_drew ?_ | with_reducible refine bel_drewN ?_ _ | (with_reducible refine bel_set ?_ ?_ _; rotate_left; ((try simp); (try omega)))))) hn).mono ?_
  rintro e w1 ⟨rfl, hb1, hc1⟩
  (try simp at hc1)
  have hz1 := hb1.size
  (try simp at hz1)
  have hB1 : Below w.heap.size w w1 := bel_then (by repeat (first | with_reducible exact Below.refl _ _ | with_reducible assumption | with_reducible refine bel_alloc ?_ _ | with_reducible refine bel_drew ?_ | with_reducible refine bel_drewN ?_ _ | (with_reducible refine bel_set ?_ ?_ _; rotate_left; ((try simp); (try omega))))) hb1
  have hpl := hc1.lt
  obtain ⟨hcc1, hff1, -⟩ := bcell hb1
  have r0 : w1.cell? ⟨w.heap.size, 0, none⟩ = some (.string ⟨#[]⟩) := by go_simp
  have r1 : w1.cell? ⟨w.heap.size, 1, none⟩ = some (.int .i64 0) := by go_simp
  have r2 : w1.cell? ⟨w.heap.size, 2, none⟩ = some (.int .i64 0) := by go_simp
  have r3 : w1.cell? ⟨w.heap.size, 3, none⟩ = some (.int .i64 0) := by go_simp
  have z0 : w1.frozen? ⟨w.heap.size, 0, none⟩ = false := by go_simp
  have z1 : w1.frozen? ⟨w.heap.size, 1, none⟩ = false := by go_simp
  have z2 : w1.frozen? ⟨w.heap.size, 2, none⟩ = false := by go_simp
  have z3 : w1.frozen? ⟨w.heap.size, 3, none⟩ = false := by go_simp
  clear hb1 hcc1 hff1
  go_wp2_with fail
  refine (l18Reg_any (w.heap.size + 1) _ (by exact hc1)).mono ?_
  rintro e w2 ⟨v2, rfl, ⟨x, rfl, hok⟩, ho2, hc2⟩
  obtain ⟨hcc2, hff2, hzz2⟩ := ocell ho2
  have hB2 : Below w.heap.size w w2 := hB1.trans (ho2.bel w.heap.size hB1.size (fun y hy => by simp at hy; omega))
  have hz2 : w.heap.size + 1 < w2.heap.size := by omega
  unfold TReg.val
  go_wp2_with fail
  generalize hW : World.alloc w2 _ = W
  have hWs : W.heap.size = w2.heap.size + 1 := by rw [← hW]; clear hW; simp
  have hcW : Cur W (w.heap.size + 1) := by rw [← hW]; exact hc2.alloc _
  have hBW : Below w.heap.size w W := by rw [← hW]; exact bel_alloc hB2 _
  have q0 : W.cell? ⟨w2.heap.size, 0, none⟩ = some (.string x.site) := by rw [← hW]; clear hW; go_simp
  have q1 : W.cell? ⟨w2.heap.size, 1, none⟩ = some (.int .i64 x.ins) := by rw [← hW]; clear hW; go_simp
  have q2 : W.cell? ⟨w2.heap.size, 2, none⟩ = some (.int .i64 x.wai) := by rw [← hW]; clear hW; go_simp
  have q3 : W.cell? ⟨w2.heap.size, 3, none⟩ = some (.int .i64 x.act) := by rw [← hW]; clear hW; go_simp
  have hn1 : ¬ w.heap.size = w.heap.size + 1 := by omega
  have hrow : W.heap[w.heap.size]? = w1.heap[w.heap.size]? := by
    rw [← hW]
    exact ((bel_alloc (Below.refl w2.heap.size w2) _).block w.heap.size (by omega)).trans (ho2.block w.heap.size (by omega) (by simp))
  clear hW
  have hS : ∀ w9, Only [w.heap.size + 1] W w9 → w9.cell? ⟨w2.heap.size, 0, none⟩ = some (.string x.site) ∧ w9.cell? ⟨w2.heap.size, 1, none⟩ = some (.int .i64 x.ins) ∧ w9.cell? ⟨w2.heap.size, 2, none⟩ = some (.int .i64 x.wai) ∧ w9.cell? ⟨w2.heap.size, 3, none⟩ = some (.int .i64 x.act) :=
    fun w9 hb => by
      have hk := hb.block w2.heap.size (by omega) (by simp; omega)
      exact ⟨(World.cell?_of_block hk).trans q0, (World.cell?_of_block hk).trans q1, (World.cell?_of_block hk).trans q2, (World.cell?_of_block hk).trans q3⟩
  have hrow7 : cIS.rep (W.alloc (.cells #[.int .i64 0, .int .i64 1, .int .i64 2, .int .i64 5, .int .i64 9, .int .i64 1000000000000, .int .i64 1000000000001] 3)) [.slice (some ⟨w2.heap.size + 1, 0, none⟩) 7 7] [0, 1, 2, 5, 9, 1000000000000, 1000000000001] [w2.heap.size + 1] := by
    have h9 := rowInt W 3 [0, 1, 2, 5, 9, 1000000000000, 1000000000001] 7 rfl (by simp) (by decide) (by decide)
    rw [hWs] at h9
    exact h9
  refine wp_regionT (S := (fun w9 => w9.cell? ⟨w2.heap.size, 0, none⟩ = some (.string x.site) ∧ w9.cell? ⟨w2.heap.size, 1, none⟩ = some (.int .i64 x.ins) ∧ w9.cell? ⟨w2.heap.size, 2, none⟩ = some (.int .i64 x.wai) ∧ w9.cell? ⟨w2.heap.size, 3, none⟩ = some (.int .i64 x.act))) [4, 5] (by kernel_rfl) (by (try dsimp only); exact hS _ (by repeat (first | with_reducible exact Only.refl _ _ | with_reducible assumption | with_reducible refine Only.alloc ?_ _ | with_reducible refine Only.drew ?_ | with_reducible refine Only.drewN ?_ _ | (with_reducible refine Only.setNew ?_ ?_ _; rotate_left; ((try simp); (try omega)))))) (fun hHeld => ?_)
  refine takeT_read (i := 0) 6 10 (v := ?x2_v0) rfl rfl (by kernel_rfl) (by kernel_rfl) (by kernel_rfl) (by kernel_rfl) (by kernel_rfl) (by kernel_rfl) (fun _ _ _ h => h) (by rfl) ?x2_hy0 (by assumption) ?x2_rest0
  case x2_hy0 => (intro w hSw; (try dsimp only at hSw); go_simp; (try with_reducible rfl))
  try simp only [Act.put, List.setIfInBounds_toArray, List.set_cons_zero, List.set_cons_succ]
  refine takeT_read (i := 1) 6 11 (v := ?x2_v1) rfl rfl (by kernel_rfl) (by kernel_rfl) (by kernel_rfl) (by kernel_rfl) (by kernel_rfl) (by kernel_rfl) (fun _ _ _ h => h) (by rfl) ?x2_hy1 (by assumption) ?x2_rest1
  case x2_hy1 => (intro w hSw; (try dsimp only at hSw); go_simp; (try with_reducible rfl))
  try simp only [Act.put, List.setIfInBounds_toArray, List.set_cons_zero, List.set_cons_succ]
  refine stepT 2 (by kernel_rfl) rfl (fun K hK => ?_)
  first | (go_at_call 91; refine (l1Int_any (w.heap.size + 1) _ [0, 1, 2, 5, 9, 1000000000000, 1000000000001] _ _ (by repeat (first | with_reducible assumption | with_reducible refine Cur.alloc ?_ _ | with_reducible refine Cur.drew ?_ | with_reducible refine Cur.drewN ?_ _ | (with_reducible refine Cur.set ?_ ?_ _; rotate_left; ((try simp); (try omega))))) (by exact Cod.bel hrow7 (by repeat (first | with_reducible exact Below.refl _ _ | with_reducible assumption | with_reducible refine bel_alloc ?_ _ | with_reducible refine bel_drew ?_ | with_reducible refine bel_drewN ?_ _ | (with_reducible refine bel_set ?_ ?_ _; rotate_left; ((try simp); (try omega)))))) (by simp) (by (try simp); omega)).mono ?_; rintro e w3 ⟨v3, rfl, ⟨u, rfl, hu⟩, ho3, hc3⟩; have hub : 0 ≤ u ∧ u ≤ 1000000000001 := (by simp at hu; omega); have hoW3 : Only [w.heap.size + 1] W w3 := (show Only [w.heap.size + 1] W _ from (by repeat (first | with_reducible exact Only.refl _ _ | with_reducible assumption | with_reducible refine Only.alloc ?_ _ | with_reducible refine Only.drew ?_ | with_reducible refine Only.drewN ?_ _ | (with_reducible refine Only.setNew ?_ ?_ _; rotate_left; ((try simp); (try omega)))))).trans ho3; have hk3 := (hoW3.block w.heap.size (by omega) (by simp)).trans hrow; have y0 : w3.cell? ⟨w.heap.size, 0, none⟩ = _ := (World.cell?_of_block hk3).trans r0; have y1 : w3.cell? ⟨w.heap.size, 1, none⟩ = _ := (World.cell?_of_block hk3).trans r1; have y2 : w3.cell? ⟨w.heap.size, 2, none⟩ = _ := (World.cell?_of_block hk3).trans r2; have y3 : w3.cell? ⟨w.heap.size, 3, none⟩ = _ := (World.cell?_of_block hk3).trans r3; have x0 : w3.frozen? ⟨w.heap.size, 0, none⟩ = false := (World.frozen?_of_block hk3).trans z0; have x1 : w3.frozen? ⟨w.heap.size, 1, none⟩ = false := (World.frozen?_of_block hk3).trans z1; have x2 : w3.frozen? ⟨w.heap.size, 2, none⟩ = false := (World.frozen?_of_block hk3).trans z2; have x3 : w3.frozen? ⟨w.heap.size, 3, none⟩ = false := (World.frozen?_of_block hk3).trans z3; have hB3 : Below w.heap.size w w3 := hBW.trans (hoW3.bel w.heap.size hBW.size (fun y hy => by simp at hy; omega)); clear hk3 hu) | go_simp
  refine hK.out _ _ ?_ (fun hHeld => ?_)
  · (try dsimp only)
    exact hS _ (by repeat (first | with_reducible exact Only.refl _ _ | with_reducible assumption | with_reducible refine Only.alloc ?_ _ | with_reducible refine Only.drew ?_ | with_reducible refine Only.drewN ?_ _ | (with_reducible refine Only.setNew ?_ ?_ _; rotate_left; ((try simp); (try omega)))))
  clear hK K
  refine stepT 3 (by kernel_rfl) rfl (fun K hK => ?_)
  go_simp
  (go_at_call 91; refine (l1Int_any (w.heap.size + 1) _ [0, 1, 2, 5, 9, 1000000000000, 1000000000001] _ _ (by repeat (first | with_reducible assumption | with_reducible refine Cur.alloc ?_ _ | with_reducible refine Cur.drew ?_ | with_reducible refine Cur.drewN ?_ _ | (with_reducible refine Cur.set ?_ ?_ _; rotate_left; ((try simp); (try omega))))) (by exact Cod.bel hrow7 (by repeat (first | with_reducible exact Below.refl _ _ | with_reducible assumption | with_reducible refine bel_alloc ?_ _ | with_reducible refine bel_drew ?_ | with_reducible refine bel_drewN ?_ _ | (with_reducible refine bel_set ?_ ?_ _; rotate_left; ((try simp); (try omega)))))) (by simp) (by (try simp); omega)).mono ?_; rintro e w3 ⟨v3, rfl, ⟨u, rfl, hu⟩, ho3, hc3⟩; have hub : 0 ≤ u ∧ u ≤ 1000000000001 := (by simp at hu; omega); have hoW3 : Only [w.heap.size + 1] W w3 := (show Only [w.heap.size + 1] W _ from (by repeat (first | with_reducible exact Only.refl _ _ | with_reducible assumption | with_reducible refine Only.alloc ?_ _ | with_reducible refine Only.drew ?_ | with_reducible refine Only.drewN ?_ _ | (with_reducible refine Only.setNew ?_ ?_ _; rotate_left; ((try simp); (try omega)))))).trans ho3; have hk3 := (hoW3.block w.heap.size (by omega) (by simp)).trans hrow; have y0 : w3.cell? ⟨w.heap.size, 0, none⟩ = _ := (World.cell?_of_block hk3).trans r0; have y1 : w3.cell? ⟨w.heap.size, 1, none⟩ = _ := (World.cell?_of_block hk3).trans r1; have y2 : w3.cell? ⟨w.heap.size, 2, none⟩ = _ := (World.cell?_of_block hk3).trans r2; have y3 : w3.cell? ⟨w.heap.size, 3, none⟩ = _ := (World.cell?_of_block hk3).trans r3; have x0 : w3.frozen? ⟨w.heap.size, 0, none⟩ = false := (World.frozen?_of_block hk3).trans z0; have x1 : w3.frozen? ⟨w.heap.size, 1, none⟩ = false := (World.frozen?_of_block hk3).trans z1; have x2 : w3.frozen? ⟨w.heap.size, 2, none⟩ = false := (World.frozen?_of_block hk3).trans z2; have x3 : w3.frozen? ⟨w.heap.size, 3, none⟩ = false := (World.frozen?_of_block hk3).trans z3; have hB3 : Below w.heap.size w w3 := hBW.trans (hoW3.bel w.heap.size hBW.size (fun y hy => by simp at hy; omega)); clear hk3 hu)
  try go_wp2_with fail
  refine hK.out _ _ ?_ (fun hHeld => ?_)
  · (try dsimp only)
    exact hS _ (by repeat (first | with_reducible exact Only.refl _ _ | with_reducible assumption | with_reducible refine Only.alloc ?_ _ | with_reducible refine Only.drew ?_ | with_reducible refine Only.drewN ?_ _ | (with_reducible refine Only.setNew ?_ ?_ _; rotate_left; ((try simp); (try omega)))))
  clear hK K
  refine stepT_end 4 (by kernel_rfl) rfl (by kernel_rfl) (fun K hK => ?_)
  go_simp
  refine hK.out _ _ ?_
  clear hK K
  refine stepT_end 5 (by kernel_rfl) rfl (by kernel_rfl) (fun K hK => ?_)
  go_simp
  refine hK.out _ _ ?_
  clear hK K
  refine doneT (by kernel_rfl) ?_ _
  go_wp2_with fail
  refine bodyPost_ret (v := .tuple #[.agg #[.string x.site, .int .i64 x.ins, .int .i64 x.wai, .int .i64 x.act], .int .i64 u]) (by simp [results, Try.results34, go_sem, *]) rfl ?_
  exact ⟨x, u, rfl, hok, hub.1, hub.2, (by repeat (first | with_reducible exact Below.refl _ _ | with_reducible assumption | with_reducible refine bel_alloc ?_ _ | with_reducible refine bel_drew ?_ | with_reducible refine bel_drewN ?_ _ | (with_reducible refine bel_set ?_ ?_ _; rotate_left; ((try simp); (try omega)))))⟩
set_option maxHeartbeats 2000000 in
theorem drawActivate_any (v : Value) (xs : List UInt8) (F : List Nat) (w : World) (h : cUS.rep w [v] xs F) (hn : xs.length ≤ 1048576) :
    Calls Try.prog 28 #[v] w (fun e w' => ∃ (x : TReg) (u : Value) (us : List Int) (G : List Nat), e = .returned (.tuple #[x.val, u]) ∧ (x.Ok ∧ x.site.size ≤ 100) ∧ cIS.rep w' [u] us G ∧ us.length ≤ 2 ∧ Below w.heap.size w w') := by
  go_enter Try.func28, Try.ntmps28
  go_wp2_with fail
  refine (drawCanActivate_any v xs _ _ (by exact Cod.bel h (by repeat (first | with_reducible exact Below.refl _ _ | with_reducible assumption | with_reducible refine bel_alloc ?_ _ | with_reducible refine bel_drew ?_ | with_reducible refine bel_drewN ?_ _ | (with_reducible refine bel_set ?_ ?_ _; rotate_left; ((try simp); (try omega)))))) hn).mono ?_
  rintro e w1 ⟨x, u, us, G, rfl, hok, hu, hul, hb1, hfG⟩
  obtain ⟨U, cu, rfl⟩ := cL_form hu
  have hz1 := hb1.size
  (try simp at hz1)
  have hs0 : w.heap.size < w1.heap.size := by omega
  have hB1 : Below w.heap.size w w1 := bel_then (by repeat (first | with_reducible exact Below.refl _ _ | with_reducible assumption | with_reducible refine bel_alloc ?_ _ | with_reducible refine bel_drew ?_ | with_reducible refine bel_drewN ?_ _ | (with_reducible refine bel_set ?_ ?_ _; rotate_left; ((try simp); (try omega))))) hb1
  obtain ⟨hcc1, hff1, -⟩ := bcell hb1
  have r0 : w1.cell? ⟨w.heap.size, 0, none⟩ = some (.string ⟨#[]⟩) := by go_simp
  have r1 : w1.cell? ⟨w.heap.size, 1, none⟩ = some (.int .i64 0) := by go_simp
  have r2 : w1.cell? ⟨w.heap.size, 2, none⟩ = some (.int .i64 0) := by go_simp
  have r3 : w1.cell? ⟨w.heap.size, 3, none⟩ = some (.int .i64 0) := by go_simp
  have z0 : w1.frozen? ⟨w.heap.size, 0, none⟩ = false := by go_simp
  have z1 : w1.frozen? ⟨w.heap.size, 1, none⟩ = false := by go_simp
  have z2 : w1.frozen? ⟨w.heap.size, 2, none⟩ = false := by go_simp
  have z3 : w1.frozen? ⟨w.heap.size, 3, none⟩ = false := by go_simp
  have hGn : w.heap.size ∉ G := fun hm => by have := hfG.1 _ hm; (try simp at this); omega
  clear hb1 hcc1 hff1
  unfold TReg.val
  go_wp2_with fail
  refine bodyPost_ret (v := .tuple #[.agg #[.string x.site, .int .i64 x.ins, .int .i64 x.wai, .int .i64 x.act], .slice U us.length cu]) (by simp [results, Try.results28, go_sem, *]) rfl ?_
  exact ⟨x, _, us, G, rfl, hok, Cod.set_ (Cod.set_ (Cod.set_ (Cod.set_ hu hGn 0 _) hGn 1 _) hGn 2 _) hGn 3 _, hul, (by repeat (first | with_reducible exact Below.refl _ _ | with_reducible assumption | with_reducible refine bel_alloc ?_ _ | with_reducible refine bel_drew ?_ | with_reducible refine bel_drewN ?_ _ | (with_reducible refine bel_set ?_ ?_ _; rotate_left; ((try simp); (try omega)))))⟩
end Go.Proofs.Yteipaolcmjfhdaa
