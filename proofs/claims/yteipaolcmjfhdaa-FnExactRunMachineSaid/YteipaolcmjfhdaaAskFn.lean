/-
  l14Ask of the reference: what a machine asks for. No conditions.
-/
import Derived.Test.YteipaolcmjfhdaaRunPlain
import Derived.Test.YteipaolcmjfhdaaRegT
namespace Go.Proofs.Yteipaolcmjfhdaa
open Go.ChangeShapes Go.WideShapes Go.RowKit
set_option linter.unusedVariables false

theorem ask5_any (v0 v2 : Value) (pc st r n : Int) (dn wt : Bool) (tx : ByteArray) (w : World) :
    Calls Try.prog 113 #[.agg #[v0, .int .i64 pc, v2, .int .i64 st, .bool dn, .bool wt], .agg #[.int .i64 5, .int .i64 r, .int .i64 n, .string tx]] w (Gives w (.agg #[.int .i64 1, .int .i64 r, .int .i64 0, .string tx, .int .i64 0])) := by
  go_enter Try.func113, Try.ntmps113
  go_wp2_with fail
  refine bodyPost_ret (v := .agg #[.int .i64 1, .int .i64 r, .int .i64 0, .string tx, .int .i64 0]) (by simp [results, Try.results113, go_sem, *]) rfl ?_
  exact ⟨rfl, (by repeat (first | with_reducible exact Below.refl _ _ | with_reducible assumption | with_reducible refine bel_alloc ?_ _ | with_reducible refine bel_drew ?_ | with_reducible refine bel_drewN ?_ _ | (with_reducible refine bel_set ?_ ?_ _; rotate_left; ((try simp); (try omega)))))⟩
theorem ask6_any (v0 v2 : Value) (pc st r n : Int) (dn wt : Bool) (tx : ByteArray) (w : World) :
    Calls Try.prog 113 #[.agg #[v0, .int .i64 pc, v2, .int .i64 st, .bool dn, .bool wt], .agg #[.int .i64 6, .int .i64 r, .int .i64 n, .string tx]] w (Gives w (.agg #[.int .i64 2, .int .i64 r, .int .i64 n, .string tx, .int .i64 0])) := by
  go_enter Try.func113, Try.ntmps113
  go_wp2_with fail
  refine bodyPost_ret (v := .agg #[.int .i64 2, .int .i64 r, .int .i64 n, .string tx, .int .i64 0]) (by simp [results, Try.results113, go_sem, *]) rfl ?_
  exact ⟨rfl, (by repeat (first | with_reducible exact Below.refl _ _ | with_reducible assumption | with_reducible refine bel_alloc ?_ _ | with_reducible refine bel_drew ?_ | with_reducible refine bel_drewN ?_ _ | (with_reducible refine bel_set ?_ ?_ _; rotate_left; ((try simp); (try omega)))))⟩
set_option maxRecDepth 100000 in
set_option maxHeartbeats 2000000 in
theorem ask7_any (v0 : Value) (pc st n x : Int) (g o d2 i : Nat) (dn wt : Bool) (tx : ByteArray) (w : World) (hi : (i : Int) < 4) (hx : w.cell? ⟨g, o + i, none⟩ = some (.int .i64 x)) (hg : g < w.heap.size) :
    Calls Try.prog 113 #[.agg #[v0, .int .i64 pc, .slice (some ⟨g, o, none⟩) 4 d2, .int .i64 st, .bool dn, .bool wt], .agg #[.int .i64 7, .int .i64 (i : Int), .int .i64 n, .string tx]] w (Gives w (.agg #[.int .i64 3, .int .i64 0, .int .i64 n, .string tx, .int .i64 x])) := by
  go_enter Try.func113, Try.ntmps113
  go_wp2_with fail
  generalize hW : World.alloc _ _ = W
  have hWs : w.heap.size + 1 + 1 < W.heap.size := by rw [← hW]; clear hW; simp
  have hbW : Below w.heap.size w W := by rw [← hW]; exact (by repeat (first | with_reducible exact Below.refl _ _ | with_reducible assumption | with_reducible refine bel_alloc ?_ _ | with_reducible refine bel_drew ?_ | with_reducible refine bel_drewN ?_ _ | (with_reducible refine bel_set ?_ ?_ _; rotate_left; ((try simp); (try omega)))))
  have m2 : W.cell? ⟨w.heap.size, 2, none⟩ = some (.slice (some ⟨g, o, none⟩) 4 d2) := by rw [← hW]; clear hW; go_simp
  have c1 : W.cell? ⟨w.heap.size + 1, 1, none⟩ = some (.int .i64 (i : Int)) := by rw [← hW]; clear hW; go_simp
  have c2 : W.cell? ⟨w.heap.size + 1, 2, none⟩ = some (.int .i64 n) := by rw [← hW]; clear hW; go_simp
  have c3 : W.cell? ⟨w.heap.size + 1, 3, none⟩ = some (.string tx) := by rw [← hW]; clear hW; go_simp
  have y0 : W.cell? ⟨w.heap.size + 1 + 1, 0, none⟩ = some (.int .i64 0) := by rw [← hW]; clear hW; go_simp
  have y1 : W.cell? ⟨w.heap.size + 1 + 1, 1, none⟩ = some (.int .i64 0) := by rw [← hW]; clear hW; go_simp
  have y2 : W.cell? ⟨w.heap.size + 1 + 1, 2, none⟩ = some (.int .i64 0) := by rw [← hW]; clear hW; go_simp
  have y3 : W.cell? ⟨w.heap.size + 1 + 1, 3, none⟩ = some (.string ⟨#[]⟩) := by rw [← hW]; clear hW; go_simp
  have y4 : W.cell? ⟨w.heap.size + 1 + 1, 4, none⟩ = some (.int .i64 0) := by rw [← hW]; clear hW; go_simp
  have z0 : W.frozen? ⟨w.heap.size + 1 + 1, 0, none⟩ = false := by rw [← hW]; clear hW; go_simp
  have z1 : W.frozen? ⟨w.heap.size + 1 + 1, 1, none⟩ = false := by rw [← hW]; clear hW; go_simp
  have z2 : W.frozen? ⟨w.heap.size + 1 + 1, 2, none⟩ = false := by rw [← hW]; clear hW; go_simp
  have z3 : W.frozen? ⟨w.heap.size + 1 + 1, 3, none⟩ = false := by rw [← hW]; clear hW; go_simp
  have z4 : W.frozen? ⟨w.heap.size + 1 + 1, 4, none⟩ = false := by rw [← hW]; clear hW; go_simp
  have hxW : W.cell? ⟨g, o + i, none⟩ = some (.int .i64 x) := (hbW.cell (p := ⟨g, o + i, none⟩) hg).trans hx
  have hgW : g < W.heap.size := Nat.lt_of_lt_of_le hg hbW.size
  clear hW
  have hS : ∀ w9, Below W.heap.size W w9 → w9.cell? ⟨w.heap.size, 2, none⟩ = some (.slice (some ⟨g, o, none⟩) 4 d2) ∧ w9.cell? ⟨w.heap.size + 1, 1, none⟩ = some (.int .i64 (i : Int)) ∧ w9.cell? ⟨w.heap.size + 1, 2, none⟩ = some (.int .i64 n) ∧ w9.cell? ⟨w.heap.size + 1, 3, none⟩ = some (.string tx) ∧ w9.cell? ⟨g, o + i, none⟩ = some (.int .i64 x) :=
    fun w9 hb => ⟨(hb.cell (p := ⟨w.heap.size, 2, none⟩) (by (try simp); omega)).trans m2, (hb.cell (p := ⟨w.heap.size + 1, 1, none⟩) (by (try simp); omega)).trans c1, (hb.cell (p := ⟨w.heap.size + 1, 2, none⟩) (by (try simp); omega)).trans c2, (hb.cell (p := ⟨w.heap.size + 1, 3, none⟩) (by (try simp); omega)).trans c3, (hb.cell (p := ⟨g, o + i, none⟩) hgW).trans hxW⟩
  refine wp_regionT (S := (fun w9 => w9.cell? ⟨w.heap.size, 2, none⟩ = some (.slice (some ⟨g, o, none⟩) 4 d2) ∧ w9.cell? ⟨w.heap.size + 1, 1, none⟩ = some (.int .i64 (i : Int)) ∧ w9.cell? ⟨w.heap.size + 1, 2, none⟩ = some (.int .i64 n) ∧ w9.cell? ⟨w.heap.size + 1, 3, none⟩ = some (.string tx) ∧ w9.cell? ⟨g, o + i, none⟩ = some (.int .i64 x))) [11] (by kernel_rfl) (by (try dsimp only); exact hS _ (by repeat (first | with_reducible exact Below.refl _ _ | with_reducible assumption | with_reducible refine bel_alloc ?_ _ | with_reducible refine bel_drew ?_ | with_reducible refine bel_drewN ?_ _ | (with_reducible refine bel_set ?_ ?_ _; rotate_left; ((try simp); (try omega)))))) (fun hHeld => ?_)
  refine takeT_read (i := 0) 12 25 (v := ?v0) rfl rfl (by kernel_rfl) (by kernel_rfl) (by kernel_rfl) (by kernel_rfl) (by kernel_rfl) (by kernel_rfl) (fun _ _ _ h => h) (by rfl) ?hy0 (by assumption) ?rest0
  case hy0 => (intro w hSw; (try dsimp only at hSw); go_simp; (try with_reducible rfl))
  try simp only [Act.put, List.setIfInBounds_toArray, List.set_cons_zero, List.set_cons_succ]
  refine takeT_read (i := 1) 12 26 (v := ?v1) rfl rfl (by kernel_rfl) (by kernel_rfl) (by kernel_rfl) (by kernel_rfl) (by kernel_rfl) (by kernel_rfl) (fun _ _ _ h => h) (by rfl) ?hy1 (by assumption) ?rest1
  case hy1 => (intro w hSw; (try dsimp only at hSw); go_simp; (try with_reducible rfl))
  try simp only [Act.put, List.setIfInBounds_toArray, List.set_cons_zero, List.set_cons_succ]
  refine takeT_read (i := 2) 12 27 (v := ?v2) rfl rfl (by kernel_rfl) (by kernel_rfl) (by kernel_rfl) (by kernel_rfl) (by kernel_rfl) (by kernel_rfl) (fun _ _ _ h => h) (by rfl) ?hy2 (by assumption) ?rest2
  case hy2 => (intro w hSw; (try dsimp only at hSw); go_simp; (try with_reducible rfl))
  try simp only [Act.put, List.setIfInBounds_toArray, List.set_cons_zero, List.set_cons_succ]
  refine takeT_read (i := 3) 12 28 (v := ?v3) rfl rfl (by kernel_rfl) (by kernel_rfl) (by kernel_rfl) (by kernel_rfl) (by kernel_rfl) (by kernel_rfl) (fun _ _ _ h => h) (by rfl) ?hy3 (by assumption) ?rest3
  case hy3 => (intro w hSw; (try dsimp only at hSw); go_simp; (try with_reducible rfl))
  try simp only [Act.put, List.setIfInBounds_toArray, List.set_cons_zero, List.set_cons_succ]
  refine takeT_read (i := 4) 12 29 (v := ?v4) rfl rfl (by kernel_rfl) (by kernel_rfl) (by kernel_rfl) (by kernel_rfl) (by kernel_rfl) (by kernel_rfl) (fun _ _ _ h => h) (by rfl) ?hy4 (by assumption) ?rest4
  case hy4 => (intro w hSw; (try dsimp only at hSw); go_simp; (try with_reducible rfl))
  try simp only [Act.put, List.setIfInBounds_toArray, List.set_cons_zero, List.set_cons_succ]
  refine takeT_read (i := 5) 12 30 (v := ?v5) rfl rfl (by kernel_rfl) (by kernel_rfl) (by kernel_rfl) (by kernel_rfl) (by kernel_rfl) (by kernel_rfl) (fun _ _ _ h => h) (by rfl) ?hy5 (by assumption) ?rest5
  case hy5 => (intro w hSw; (try dsimp only at hSw); go_simp; (try with_reducible rfl))
  try simp only [Act.put, List.setIfInBounds_toArray, List.set_cons_zero, List.set_cons_succ]
  refine takeT_read (i := 6) 12 31 (v := ?v6) rfl rfl (by kernel_rfl) (by kernel_rfl) (by kernel_rfl) (by kernel_rfl) (by kernel_rfl) (by kernel_rfl) (fun _ _ _ h => h) (by rfl) ?hy6 (by assumption) ?rest6
  case hy6 => (intro w hSw; (try dsimp only at hSw); go_simp; (try with_reducible rfl))
  try simp only [Act.put, List.setIfInBounds_toArray, List.set_cons_zero, List.set_cons_succ]
  refine takeT_read (i := 7) 12 32 (v := ?v7) rfl rfl (by kernel_rfl) (by kernel_rfl) (by kernel_rfl) (by kernel_rfl) (by kernel_rfl) (by kernel_rfl) (fun _ _ _ h => h) (by rfl) ?hy7 (by assumption) ?rest7
  case hy7 => (intro w hSw; (try dsimp only at hSw); go_simp; (try with_reducible rfl))
  try simp only [Act.put, List.setIfInBounds_toArray, List.set_cons_zero, List.set_cons_succ]
  refine takeT_read (i := 8) 12 33 (v := ?v8) rfl rfl (by kernel_rfl) (by kernel_rfl) (by kernel_rfl) (by kernel_rfl) (by kernel_rfl) (by kernel_rfl) (fun _ _ _ h => h) (by rfl) ?hy8 (by assumption) ?rest8
  case hy8 => (intro w hSw; (try dsimp only at hSw); go_simp; (try with_reducible rfl))
  try simp only [Act.put, List.setIfInBounds_toArray, List.set_cons_zero, List.set_cons_succ]
  refine takeT_read (i := 9) 12 34 (v := ?v9) rfl rfl (by kernel_rfl) (by kernel_rfl) (by kernel_rfl) (by kernel_rfl) (by kernel_rfl) (by kernel_rfl) (fun _ _ _ h => h) (by rfl) ?hy9 (by assumption) ?rest9
  case hy9 => (intro w hSw; (try dsimp only at hSw); go_simp; (try with_reducible rfl))
  try simp only [Act.put, List.setIfInBounds_toArray, List.set_cons_zero, List.set_cons_succ]
  refine takeT_read (i := 10) 12 35 (v := ?v10) rfl rfl (by kernel_rfl) (by kernel_rfl) (by kernel_rfl) (by kernel_rfl) (by kernel_rfl) (by kernel_rfl) (fun _ _ _ h => h) (by rfl) ?hy10 (by assumption) ?rest10
  case hy10 => (intro w hSw; (try dsimp only at hSw); go_simp; (try with_reducible rfl))
  try simp only [Act.put, List.setIfInBounds_toArray, List.set_cons_zero, List.set_cons_succ]
  refine stepT_end 11 (by kernel_rfl) rfl (by kernel_rfl) (fun K hK => ?_)
  go_simp
  refine hK.out _ _ ?_
  clear hK K
  refine doneT (by kernel_rfl) ?_ _
  go_wp2_with fail
  refine bodyPost_ret (v := .agg #[.int .i64 3, .int .i64 0, .int .i64 n, .string tx, .int .i64 x]) (by simp [results, Try.results113, go_sem, *]) rfl ?_
  exact ⟨rfl, (by repeat (first | with_reducible exact Below.refl _ _ | with_reducible assumption | with_reducible refine bel_alloc ?_ _ | with_reducible refine bel_drew ?_ | with_reducible refine bel_drewN ?_ _ | (with_reducible refine bel_set ?_ ?_ _; rotate_left; ((try simp); (try omega)))))⟩
set_option maxRecDepth 100000 in
set_option maxHeartbeats 2000000 in
theorem ask8_any (v0 : Value) (pc st n x : Int) (g o d2 i : Nat) (dn wt : Bool) (tx : ByteArray) (w : World) (hi : (i : Int) < 4) (hx : w.cell? ⟨g, o + i, none⟩ = some (.int .i64 x)) (hg : g < w.heap.size) :
    Calls Try.prog 113 #[.agg #[v0, .int .i64 pc, .slice (some ⟨g, o, none⟩) 4 d2, .int .i64 st, .bool dn, .bool wt], .agg #[.int .i64 8, .int .i64 (i : Int), .int .i64 n, .string tx]] w (Gives w (.agg #[.int .i64 4, .int .i64 0, .int .i64 n, .string tx, .int .i64 x])) := by
  go_enter Try.func113, Try.ntmps113
  go_wp2_with fail
  generalize hW : World.alloc _ _ = W
  have hWs : w.heap.size + 1 + 1 < W.heap.size := by rw [← hW]; clear hW; simp
  have hbW : Below w.heap.size w W := by rw [← hW]; exact (by repeat (first | with_reducible exact Below.refl _ _ | with_reducible assumption | with_reducible refine bel_alloc ?_ _ | with_reducible refine bel_drew ?_ | with_reducible refine bel_drewN ?_ _ | (with_reducible refine bel_set ?_ ?_ _; rotate_left; ((try simp); (try omega)))))
  have m2 : W.cell? ⟨w.heap.size, 2, none⟩ = some (.slice (some ⟨g, o, none⟩) 4 d2) := by rw [← hW]; clear hW; go_simp
  have c1 : W.cell? ⟨w.heap.size + 1, 1, none⟩ = some (.int .i64 (i : Int)) := by rw [← hW]; clear hW; go_simp
  have c2 : W.cell? ⟨w.heap.size + 1, 2, none⟩ = some (.int .i64 n) := by rw [← hW]; clear hW; go_simp
  have c3 : W.cell? ⟨w.heap.size + 1, 3, none⟩ = some (.string tx) := by rw [← hW]; clear hW; go_simp
  have y0 : W.cell? ⟨w.heap.size + 1 + 1, 0, none⟩ = some (.int .i64 0) := by rw [← hW]; clear hW; go_simp
  have y1 : W.cell? ⟨w.heap.size + 1 + 1, 1, none⟩ = some (.int .i64 0) := by rw [← hW]; clear hW; go_simp
  have y2 : W.cell? ⟨w.heap.size + 1 + 1, 2, none⟩ = some (.int .i64 0) := by rw [← hW]; clear hW; go_simp
  have y3 : W.cell? ⟨w.heap.size + 1 + 1, 3, none⟩ = some (.string ⟨#[]⟩) := by rw [← hW]; clear hW; go_simp
  have y4 : W.cell? ⟨w.heap.size + 1 + 1, 4, none⟩ = some (.int .i64 0) := by rw [← hW]; clear hW; go_simp
  have z0 : W.frozen? ⟨w.heap.size + 1 + 1, 0, none⟩ = false := by rw [← hW]; clear hW; go_simp
  have z1 : W.frozen? ⟨w.heap.size + 1 + 1, 1, none⟩ = false := by rw [← hW]; clear hW; go_simp
  have z2 : W.frozen? ⟨w.heap.size + 1 + 1, 2, none⟩ = false := by rw [← hW]; clear hW; go_simp
  have z3 : W.frozen? ⟨w.heap.size + 1 + 1, 3, none⟩ = false := by rw [← hW]; clear hW; go_simp
  have z4 : W.frozen? ⟨w.heap.size + 1 + 1, 4, none⟩ = false := by rw [← hW]; clear hW; go_simp
  have hxW : W.cell? ⟨g, o + i, none⟩ = some (.int .i64 x) := (hbW.cell (p := ⟨g, o + i, none⟩) hg).trans hx
  have hgW : g < W.heap.size := Nat.lt_of_lt_of_le hg hbW.size
  clear hW
  have hS : ∀ w9, Below W.heap.size W w9 → w9.cell? ⟨w.heap.size, 2, none⟩ = some (.slice (some ⟨g, o, none⟩) 4 d2) ∧ w9.cell? ⟨w.heap.size + 1, 1, none⟩ = some (.int .i64 (i : Int)) ∧ w9.cell? ⟨w.heap.size + 1, 2, none⟩ = some (.int .i64 n) ∧ w9.cell? ⟨w.heap.size + 1, 3, none⟩ = some (.string tx) ∧ w9.cell? ⟨g, o + i, none⟩ = some (.int .i64 x) :=
    fun w9 hb => ⟨(hb.cell (p := ⟨w.heap.size, 2, none⟩) (by (try simp); omega)).trans m2, (hb.cell (p := ⟨w.heap.size + 1, 1, none⟩) (by (try simp); omega)).trans c1, (hb.cell (p := ⟨w.heap.size + 1, 2, none⟩) (by (try simp); omega)).trans c2, (hb.cell (p := ⟨w.heap.size + 1, 3, none⟩) (by (try simp); omega)).trans c3, (hb.cell (p := ⟨g, o + i, none⟩) hgW).trans hxW⟩
  refine wp_regionT (S := (fun w9 => w9.cell? ⟨w.heap.size, 2, none⟩ = some (.slice (some ⟨g, o, none⟩) 4 d2) ∧ w9.cell? ⟨w.heap.size + 1, 1, none⟩ = some (.int .i64 (i : Int)) ∧ w9.cell? ⟨w.heap.size + 1, 2, none⟩ = some (.int .i64 n) ∧ w9.cell? ⟨w.heap.size + 1, 3, none⟩ = some (.string tx) ∧ w9.cell? ⟨g, o + i, none⟩ = some (.int .i64 x))) [11] (by kernel_rfl) (by (try dsimp only); exact hS _ (by repeat (first | with_reducible exact Below.refl _ _ | with_reducible assumption | with_reducible refine bel_alloc ?_ _ | with_reducible refine bel_drew ?_ | with_reducible refine bel_drewN ?_ _ | (with_reducible refine bel_set ?_ ?_ _; rotate_left; ((try simp); (try omega)))))) (fun hHeld => ?_)
  refine takeT_read (i := 0) 12 38 (v := ?x2_v0) rfl rfl (by kernel_rfl) (by kernel_rfl) (by kernel_rfl) (by kernel_rfl) (by kernel_rfl) (by kernel_rfl) (fun _ _ _ h => h) (by rfl) ?x2_hy0 (by assumption) ?x2_rest0
  case x2_hy0 => (intro w hSw; (try dsimp only at hSw); go_simp; (try with_reducible rfl))
  try simp only [Act.put, List.setIfInBounds_toArray, List.set_cons_zero, List.set_cons_succ]
  refine takeT_read (i := 1) 12 39 (v := ?x2_v1) rfl rfl (by kernel_rfl) (by kernel_rfl) (by kernel_rfl) (by kernel_rfl) (by kernel_rfl) (by kernel_rfl) (fun _ _ _ h => h) (by rfl) ?x2_hy1 (by assumption) ?x2_rest1
  case x2_hy1 => (intro w hSw; (try dsimp only at hSw); go_simp; (try with_reducible rfl))
  try simp only [Act.put, List.setIfInBounds_toArray, List.set_cons_zero, List.set_cons_succ]
  refine takeT_read (i := 2) 12 40 (v := ?x2_v2) rfl rfl (by kernel_rfl) (by kernel_rfl) (by kernel_rfl) (by kernel_rfl) (by kernel_rfl) (by kernel_rfl) (fun _ _ _ h => h) (by rfl) ?x2_hy2 (by assumption) ?x2_rest2
  case x2_hy2 => (intro w hSw; (try dsimp only at hSw); go_simp; (try with_reducible rfl))
  try simp only [Act.put, List.setIfInBounds_toArray, List.set_cons_zero, List.set_cons_succ]
  refine takeT_read (i := 3) 12 41 (v := ?x2_v3) rfl rfl (by kernel_rfl) (by kernel_rfl) (by kernel_rfl) (by kernel_rfl) (by kernel_rfl) (by kernel_rfl) (fun _ _ _ h => h) (by rfl) ?x2_hy3 (by assumption) ?x2_rest3
  case x2_hy3 => (intro w hSw; (try dsimp only at hSw); go_simp; (try with_reducible rfl))
  try simp only [Act.put, List.setIfInBounds_toArray, List.set_cons_zero, List.set_cons_succ]
  refine takeT_read (i := 4) 12 42 (v := ?x2_v4) rfl rfl (by kernel_rfl) (by kernel_rfl) (by kernel_rfl) (by kernel_rfl) (by kernel_rfl) (by kernel_rfl) (fun _ _ _ h => h) (by rfl) ?x2_hy4 (by assumption) ?x2_rest4
  case x2_hy4 => (intro w hSw; (try dsimp only at hSw); go_simp; (try with_reducible rfl))
  try simp only [Act.put, List.setIfInBounds_toArray, List.set_cons_zero, List.set_cons_succ]
  refine takeT_read (i := 5) 12 43 (v := ?x2_v5) rfl rfl (by kernel_rfl) (by kernel_rfl) (by kernel_rfl) (by kernel_rfl) (by kernel_rfl) (by kernel_rfl) (fun _ _ _ h => h) (by rfl) ?x2_hy5 (by assumption) ?x2_rest5
  case x2_hy5 => (intro w hSw; (try dsimp only at hSw); go_simp; (try with_reducible rfl))
  try simp only [Act.put, List.setIfInBounds_toArray, List.set_cons_zero, List.set_cons_succ]
  refine takeT_read (i := 6) 12 44 (v := ?x2_v6) rfl rfl (by kernel_rfl) (by kernel_rfl) (by kernel_rfl) (by kernel_rfl) (by kernel_rfl) (by kernel_rfl) (fun _ _ _ h => h) (by rfl) ?x2_hy6 (by assumption) ?x2_rest6
  case x2_hy6 => (intro w hSw; (try dsimp only at hSw); go_simp; (try with_reducible rfl))
  try simp only [Act.put, List.setIfInBounds_toArray, List.set_cons_zero, List.set_cons_succ]
  refine takeT_read (i := 7) 12 45 (v := ?x2_v7) rfl rfl (by kernel_rfl) (by kernel_rfl) (by kernel_rfl) (by kernel_rfl) (by kernel_rfl) (by kernel_rfl) (fun _ _ _ h => h) (by rfl) ?x2_hy7 (by assumption) ?x2_rest7
  case x2_hy7 => (intro w hSw; (try dsimp only at hSw); go_simp; (try with_reducible rfl))
  try simp only [Act.put, List.setIfInBounds_toArray, List.set_cons_zero, List.set_cons_succ]
  refine takeT_read (i := 8) 12 46 (v := ?x2_v8) rfl rfl (by kernel_rfl) (by kernel_rfl) (by kernel_rfl) (by kernel_rfl) (by kernel_rfl) (by kernel_rfl) (fun _ _ _ h => h) (by rfl) ?x2_hy8 (by assumption) ?x2_rest8
  case x2_hy8 => (intro w hSw; (try dsimp only at hSw); go_simp; (try with_reducible rfl))
  try simp only [Act.put, List.setIfInBounds_toArray, List.set_cons_zero, List.set_cons_succ]
  refine takeT_read (i := 9) 12 47 (v := ?x2_v9) rfl rfl (by kernel_rfl) (by kernel_rfl) (by kernel_rfl) (by kernel_rfl) (by kernel_rfl) (by kernel_rfl) (fun _ _ _ h => h) (by rfl) ?x2_hy9 (by assumption) ?x2_rest9
  case x2_hy9 => (intro w hSw; (try dsimp only at hSw); go_simp; (try with_reducible rfl))
  try simp only [Act.put, List.setIfInBounds_toArray, List.set_cons_zero, List.set_cons_succ]
  refine takeT_read (i := 10) 12 48 (v := ?x2_v10) rfl rfl (by kernel_rfl) (by kernel_rfl) (by kernel_rfl) (by kernel_rfl) (by kernel_rfl) (by kernel_rfl) (fun _ _ _ h => h) (by rfl) ?x2_hy10 (by assumption) ?x2_rest10
  case x2_hy10 => (intro w hSw; (try dsimp only at hSw); go_simp; (try with_reducible rfl))
  try simp only [Act.put, List.setIfInBounds_toArray, List.set_cons_zero, List.set_cons_succ]
  refine stepT_end 11 (by kernel_rfl) rfl (by kernel_rfl) (fun K hK => ?_)
  go_simp
  refine hK.out _ _ ?_
  clear hK K
  refine doneT (by kernel_rfl) ?_ _
  go_wp2_with fail
  refine bodyPost_ret (v := .agg #[.int .i64 4, .int .i64 0, .int .i64 n, .string tx, .int .i64 x]) (by simp [results, Try.results113, go_sem, *]) rfl ?_
  exact ⟨rfl, (by repeat (first | with_reducible exact Below.refl _ _ | with_reducible assumption | with_reducible refine bel_alloc ?_ _ | with_reducible refine bel_drew ?_ | with_reducible refine bel_drewN ?_ _ | (with_reducible refine bel_set ?_ ?_ _; rotate_left; ((try simp); (try omega)))))⟩
end Go.Proofs.Yteipaolcmjfhdaa
