/-
  Copies of bytes and of a response. No conditions.
-/
import Derived.Test.YtlicnppfgfjkgaaZA
namespace Go.Proofs.Ytlicnppfgfjkgaa
open Go.ChangeShapes Go.WideShapes Go.RowKit
set_option linter.unusedVariables false

theorem infoU8 : (Try.prog.info? 5).map (fun i => (i.zero, i.size, i.bytes)) = some (some (Value.int .u8 0), 1, 1) := by kernel_rfl
theorem TResp.len {x : TResp} (hn : cResp.sz x ≤ 1048576) : x.body.length ≤ 1048576 := by
  have h1 := Cod.len_le cU x.body
  have : cResp.sz x = 0 + (0 + (0 + (cU.szs x.body + 0))) := rfl
  omega
set_option maxRecDepth 100000 in
set_option maxHeartbeats 2000000 in
theorem implCopyBytes_any (v : Value) (xs : List UInt8) (F : List Nat) (w : World) (h : cUS.rep w [v] xs F) (hn : xs.length ≤ 1048576) :
    Calls Try.prog 140 #[v] w (GivesS cUS w xs) := by
  obtain ⟨i0, hi0, hz0, hz1, hz2⟩ := info_parts infoU8
  obtain ⟨A, c, rfl⟩ := cL_form h
  have HS := Lib.hid hn
  clear hn
  go_enter Try.func140, Try.ntmps140
  go_wp2_with (at_builtin; refine wpList_app (c := cU) (xs := []) (ys := xs) (Fi := []) (Fy := []) _ rfl _ _ _ rfl i0 _ _ Try.underlying22 hi0 hz0 hz1 hz2 rfl (by decide) (v := .slice (some _) 0 0) rfl (Own.empty _) (.slice A xs.length c) rfl (AppSrc.flat (hw := by decide) (hw2 := by decide) flat_U (Cod.bel h (by repeat (first | with_reducible exact Below.refl _ _ | with_reducible assumption | with_reducible refine bel_alloc ?_ _ | with_reducible refine bel_drew ?_ | with_reducible refine bel_drewN ?_ _ | (with_reducible refine bel_set ?_ ?_ _; rotate_left; ((try simp); (try omega))))))) (by have := HS.out; unfold maxLen; simp; omega) (by have := HS.out; simp; omega) (Nat.le_refl _) (by simp [ownB]) ?_)
  intro v1 w1 ho hg hat
  replace ho : Own cU 5 _ w1 v1 xs [] := ho
  have hb : Below _ _ w1 := (Below.refl _ _).grown hg (Nat.le_refl _) (by simp [ownB])
  have hb1 : Below w.heap.size w w1 := bel_then (by repeat (first | with_reducible exact Below.refl _ _ | with_reducible assumption | with_reducible refine bel_alloc ?_ _ | with_reducible refine bel_drew ?_ | with_reducible refine bel_drewN ?_ _ | (with_reducible refine bel_set ?_ ?_ _; rotate_left; ((try simp); (try omega))))) hb
  obtain ⟨G, k2, f2, g2⟩ := ho.fresh (hw := by decide) (hw2 := by decide)
  go_wp2_with fail
  go_ret
  exact ⟨_, G, rfl, hb1, k2, f2.mono (by simp)⟩
set_option maxRecDepth 100000 in
set_option maxHeartbeats 4000000 in
theorem implCopyResp_any (vs : Array Value) (x : TResp) (F : List Nat) (w : World) (h : cResp.rep w vs.toList x F) (hn : cResp.sz x ≤ 1048576) :
    Calls Try.prog 94 #[.agg vs] w (GivesR cResp w x) := by
  have hlen := TResp.len hn
  obtain ⟨u3, F3, rfl, -, hok, m3⟩ := TResp.outA h
  obtain ⟨A3, c3, rfl⟩ := cL_form m3
  clear h hn
  go_enter Try.func94, Try.ntmps94
  go_wp2_with fail
  refine (implCopyBytes_any _ x.body _ _ (by exact Cod.bel m3 (by repeat (first | with_reducible exact Below.refl _ _ | with_reducible assumption | with_reducible refine bel_alloc ?_ _ | with_reducible refine bel_drew ?_ | with_reducible refine bel_drewN ?_ _ | (with_reducible refine bel_set ?_ ?_ _; rotate_left; ((try simp); (try omega)))))) hlen).mono ?_
  rintro e w1 ⟨v1, G1, rfl, hb1, n1, f1⟩
  obtain ⟨B1, d1, e1⟩ := cL_form n1
  subst e1
  have hz_w1 := hb1.size
  (try simp at hz_w1)
  have ha0_w1 : w.heap.size < w1.heap.size := by omega
  have ha1_w1 : w.heap.size + 1 < w1.heap.size := by omega
  obtain ⟨hc_w1, hf_w1, -⟩ := bcell hb1
  have hb_w1 : Below w.heap.size w w1 := bel_then (by repeat (first | with_reducible exact Below.refl _ _ | with_reducible assumption | with_reducible refine bel_alloc ?_ _ | with_reducible refine bel_drew ?_ | with_reducible refine bel_drewN ?_ _ | (with_reducible refine bel_set ?_ ?_ _; rotate_left; ((try simp); (try omega))))) hb1
  have k0 : w1.cell? ⟨w.heap.size, 0, none⟩ = some (.int .i64 x.type) := by go_simp
  have k1 : w1.cell? ⟨w.heap.size, 1, none⟩ = some (.int .i64 x.status) := by go_simp
  have k2 : w1.cell? ⟨w.heap.size, 2, none⟩ = some (.int .i64 x.ver) := by go_simp
  have k3 : w1.cell? ⟨w.heap.size, 3, none⟩ = some (.slice A3 x.body.length c3) := by go_simp
  have k4 : w1.cell? ⟨w.heap.size, 4, none⟩ = some (.bool x.shares) := by go_simp
  have j0 : w1.cell? ⟨w.heap.size + 1, 0, none⟩ = some (.int .i64 0) := by go_simp
  have j1 : w1.cell? ⟨w.heap.size + 1, 1, none⟩ = some (.int .i64 0) := by go_simp
  have j2 : w1.cell? ⟨w.heap.size + 1, 2, none⟩ = some (.int .i64 0) := by go_simp
  have j3 : w1.cell? ⟨w.heap.size + 1, 3, none⟩ = some (.slice none 0 0) := by go_simp
  have j4 : w1.cell? ⟨w.heap.size + 1, 4, none⟩ = some (.bool false) := by go_simp
  have f1' : Fresh (w.heap.size + 1 + 1) G1 := f1.mono (by simp)
  clear hb1 f1
  go_wp2_with fail
  refine bodyPost_ret (v := .agg #[.int .i64 x.type, .int .i64 x.status, .int .i64 x.ver, .slice B1 x.body.length d1, .bool x.shares]) (by simp [results, Try.results94, go_sem, *]) rfl ?_
  exact ⟨_, G1, rfl, (by repeat (first | with_reducible exact Below.refl _ _ | with_reducible assumption | with_reducible refine bel_alloc ?_ _ | with_reducible refine bel_drew ?_ | with_reducible refine bel_drewN ?_ _ | (with_reducible refine bel_set ?_ ?_ _; rotate_left; ((try simp); (try omega))))), TResp.mk_ hok (Cod.keep2 n1 f1' (by repeat (first | with_reducible exact Keep.refl _ _ | with_reducible assumption | with_reducible refine Keep.alloc ?_ _ | with_reducible refine Keep.drew ?_ | with_reducible refine Keep.drewN ?_ _ | (with_reducible refine Keep.set_ ?_ ?_ _; rotate_left; ((try simp); (try omega)))))), f1'.mono (by (try simp); (try omega))⟩
set_option maxRecDepth 100000 in
set_option maxHeartbeats 4000000 in
theorem specCopyResp_any (vs : Array Value) (x : TResp) (F : List Nat) (w : World) (h : cResp.rep w vs.toList x F) (hn : cResp.sz x ≤ 1048576) :
    Calls Try.prog 97 #[.agg vs] w (GivesR cResp w x) := by
  obtain ⟨i0, hi0, hz0, hz1, hz2⟩ := info_parts infoU8
  have HS := Lib.hid (TResp.len hn)
  obtain ⟨u3, F3, rfl, -, hok, m3⟩ := TResp.outA h
  obtain ⟨A3, c3, rfl⟩ := cL_form m3
  clear h hn
  go_enter Try.func97, Try.ntmps97
  go_wp2_with (at_builtin; refine wpList_app (c := cU) (xs := []) (ys := x.body) (Fi := []) (Fy := []) _ rfl _ _ _ rfl i0 _ _ Try.underlying22 hi0 hz0 hz1 hz2 rfl (by decide) (v := .slice (some _) 0 0) rfl (Own.empty _) (.slice A3 x.body.length c3) rfl (AppSrc.flat (hw := by decide) (hw2 := by decide) flat_U (Cod.bel m3 (by repeat (first | with_reducible exact Below.refl _ _ | with_reducible assumption | with_reducible refine bel_alloc ?_ _ | with_reducible refine bel_drew ?_ | with_reducible refine bel_drewN ?_ _ | (with_reducible refine bel_set ?_ ?_ _; rotate_left; ((try simp); (try omega))))))) (by have := HS.out; unfold maxLen; simp; omega) (by have := HS.out; simp; omega) (Nat.le_refl _) (by simp [ownB]) ?_)
  intro v1 w1 ho hg hat
  replace ho : Own cU 5 _ w1 v1 x.body [] := ho
  obtain ⟨B1, d1, e1⟩ := ho.slice
  subst e1
  have hb1 : Below _ _ w1 := (Below.refl _ _).grown hg (Nat.le_refl _) (by simp [ownB])
  have hz_w1 := hb1.size
  (try simp at hz_w1)
  have ha0_w1 : w.heap.size < w1.heap.size := by omega
  have ha1_w1 : w.heap.size + 1 < w1.heap.size := by omega
  have ha2_w1 : w.heap.size + 1 + 1 < w1.heap.size := by omega
  obtain ⟨hc_w1, hf_w1, -⟩ := bcell hb1
  have hb_w1 : Below w.heap.size w w1 := bel_then (by repeat (first | with_reducible exact Below.refl _ _ | with_reducible assumption | with_reducible refine bel_alloc ?_ _ | with_reducible refine bel_drew ?_ | with_reducible refine bel_drewN ?_ _ | (with_reducible refine bel_set ?_ ?_ _; rotate_left; ((try simp); (try omega))))) hb1
  have k0 : w1.cell? ⟨w.heap.size, 0, none⟩ = some (.int .i64 x.type) := by go_simp
  have k1 : w1.cell? ⟨w.heap.size, 1, none⟩ = some (.int .i64 x.status) := by go_simp
  have k2 : w1.cell? ⟨w.heap.size, 2, none⟩ = some (.int .i64 x.ver) := by go_simp
  have k3 : w1.cell? ⟨w.heap.size, 3, none⟩ = some (.slice A3 x.body.length c3) := by go_simp
  have k4 : w1.cell? ⟨w.heap.size, 4, none⟩ = some (.bool x.shares) := by go_simp
  have j0 : w1.cell? ⟨w.heap.size + 1, 0, none⟩ = some (.int .i64 0) := by go_simp
  have j1 : w1.cell? ⟨w.heap.size + 1, 1, none⟩ = some (.int .i64 0) := by go_simp
  have j2 : w1.cell? ⟨w.heap.size + 1, 2, none⟩ = some (.int .i64 0) := by go_simp
  have j3 : w1.cell? ⟨w.heap.size + 1, 3, none⟩ = some (.slice none 0 0) := by go_simp
  have j4 : w1.cell? ⟨w.heap.size + 1, 4, none⟩ = some (.bool false) := by go_simp
  have l0 : w1.cell? ⟨w.heap.size + 1 + 1, 0, none⟩ = some (.int .i64 x.type) := by go_simp
  have l1 : w1.cell? ⟨w.heap.size + 1 + 1, 1, none⟩ = some (.int .i64 x.status) := by go_simp
  have l2 : w1.cell? ⟨w.heap.size + 1 + 1, 2, none⟩ = some (.int .i64 x.ver) := by go_simp
  have l3 : w1.cell? ⟨w.heap.size + 1 + 1, 3, none⟩ = some (.slice A3 x.body.length c3) := by go_simp
  have l4 : w1.cell? ⟨w.heap.size + 1 + 1, 4, none⟩ = some (.bool x.shares) := by go_simp
  obtain ⟨G1, n1, f1, g1⟩ := ho.fresh (hw := by decide) (hw2 := by decide)
  have f1' : Fresh (w.heap.size + 1 + 1 + 1) G1 := f1.mono (by simp)
  clear hb1 hg hat ho g1 f1
  go_wp2_with fail
  refine bodyPost_ret (v := .agg #[.int .i64 x.type, .int .i64 x.status, .int .i64 x.ver, .slice B1 x.body.length d1, .bool x.shares]) (by simp [results, Try.results97, go_sem, *]) rfl ?_
  exact ⟨_, G1, rfl, (by repeat (first | with_reducible exact Below.refl _ _ | with_reducible assumption | with_reducible refine bel_alloc ?_ _ | with_reducible refine bel_drew ?_ | with_reducible refine bel_drewN ?_ _ | (with_reducible refine bel_set ?_ ?_ _; rotate_left; ((try simp); (try omega))))), TResp.mk_ hok (Cod.keep2 n1 f1' (by repeat (first | with_reducible exact Keep.refl _ _ | with_reducible assumption | with_reducible refine Keep.alloc ?_ _ | with_reducible refine Keep.drew ?_ | with_reducible refine Keep.drewN ?_ _ | (with_reducible refine Keep.set_ ?_ ?_ _; rotate_left; ((try simp); (try omega)))))), f1'.mono (by (try simp); (try omega))⟩
end Go.Proofs.Ytlicnppfgfjkgaa
