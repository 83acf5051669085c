/-
  The draw of a response. No conditions.
-/
import Derived.Test.YteipaolcmjfhdaaDrawW
import Derived.Test.YteipaolcmjfhdaaTResp
import Derived.Test.YteipaolcmjfhdaaSetRet
namespace Go.Proofs.Yteipaolcmjfhdaa
open Go.ChangeShapes Go.WideShapes Go.RowKit
set_option linter.unusedVariables false

def SmallResp (x : TResp) : Prop := x.body.length ≤ 256
theorem resp_ok {a b c : Int} {l : List UInt8} {s : Bool} (h0 : -1000000 ≤ a ∧ a ≤ 1000000) (h1 : -1000000 ≤ b ∧ b ≤ 1000000) (h2 : -1000000 ≤ c ∧ c ≤ 1000000) : TResp.Ok ⟨a, b, c, l, s⟩ := ⟨by simp; omega, by simp; omega, by simp; omega⟩
set_option maxRecDepth 100000 in
set_option maxHeartbeats 8000000 in
theorem l15Response_any (p : Nat) (w : World) (h : Cur w p) :
    Calls Try.prog 70 #[.pointer (some ⟨p, 0, none⟩)] w (Draws p w fun v w' => ∃ vs x F, v = .agg vs ∧ cResp.rep w' vs.toList x F ∧ SmallResp x ∧ Fresh w.heap.size F) := by
  have hpl := h.lt
  go_enter Try.func70, Try.ntmps70
  go_wp2_with fail
  refine (l1Below_any p _ _ (h.alloc _) (by omega)).mono ?_
  rintro e w1 ⟨v, rfl, ⟨ty, rfl, hty0, hty1⟩, ho1, hc1⟩
  obtain ⟨hcc1, hff1, hzz1⟩ := ocell ho1
  (try simp at hzz1)
  have hT1 := Turn.mk ho1
  have hs1 : w.heap.size < w1.heap.size := by omega
  have hn0 : ¬ w.heap.size = p := by omega
  clear ho1
  go_wp2_with fail
  refine (l1Below_any p _ _ hc1 (by omega)).mono ?_
  rintro e w2 ⟨v, rfl, ⟨ve, rfl, hve0, hve1⟩, ho2, hc2⟩
  obtain ⟨hcc2, hff2, hzz2⟩ := ocell ho2
  have hT2 := Turn.mk ho2
  have hs2 : w.heap.size < w2.heap.size := by omega
  clear ho2
  go_wp2_with fail
  refine (l1Below_any p _ _ hc2 (by omega)).mono ?_
  rintro e w3 ⟨v, rfl, ⟨nb, rfl, hnb0, hnb1⟩, ho3, hc3⟩
  obtain ⟨hcc3, hff3, hzz3⟩ := ocell ho3
  have hT3 := Turn.mk ho3
  have hs3 : w.heap.size < w3.heap.size := by omega
  clear ho3
  go_wp2_with fail
  refine (l1Bytes_any p _ _ hc3 (by omega)).mono ?_
  rintro e w4 ⟨v, rfl, ⟨xs, F, hr4, hxl, hf4⟩, ho4, hc4⟩
  obtain ⟨A, cp, rfl⟩ := cL_form hr4
  obtain ⟨hcc4, hff4, hzz4⟩ := ocell ho4
  have hT4 := Turn.mk ho4
  have hs4 : w.heap.size < w4.heap.size := by omega
  have hlt4 := Cod.lt _ hr4
  have HR4 := Lib.hid hr4
  clear ho4 hr4
  go_wp2_with fail
  refine (l1Once_any p _ _ hc4 (by omega)).mono ?_
  rintro e w5 ⟨v, rfl, ⟨sh, rfl⟩, ho5, hc5⟩
  obtain ⟨hcc5, hff5, hzz5⟩ := ocell ho5
  have hT5 := Turn.mk ho5
  have hs5 : w.heap.size < w5.heap.size := by omega
  have hn1 : ¬ w5.heap.size = p := by omega
  have hn2 : ¬ w5.heap.size = w.heap.size := by omega
  have hn3 : ¬ w.heap.size = w5.heap.size := by omega
  have HN4 := Lib.hid (show ∀ y, y ∈ F → p < y ∧ w.heap.size < y ∧ y < w5.heap.size from fun y hy => by have h1 := hf4.1 y hy; have h2 := hlt4 y hy; omega)
  have HF4 := Lib.hid (show Fresh w.heap.size F from hf4.mono (by omega))
  clear ho5 hlt4 hf4
  go_wp2_with (first
    | (go_at_call 124; refine (l1Below_any p _ _ (by repeat (first | with_reducible assumption | with_reducible refine Cur.alloc ?_ _ | with_reducible refine Cur.drew ?_ | with_reducible refine Cur.drewN ?_ _ | (with_reducible refine Cur.set ?_ ?_ _; rotate_left; ((try simp); (try omega))))) (by omega)).mono ?_; rintro e wk ⟨v, rfl, ⟨r, rfl, hr0, hr1⟩, ho, hc⟩; obtain ⟨hcc, hff, hzz⟩ := ocell ho; (try simp at hzz); have hsz0 : w.heap.size < wk.heap.size := (by omega); have hsz1 : w5.heap.size < wk.heap.size := (by omega); have hT := Turn.mk ho; clear ho)
    | (go_at_call 91; refine (l1Int_any p _ [0, 4, 5] _ _ (by repeat (first | with_reducible assumption | with_reducible refine Cur.alloc ?_ _ | with_reducible refine Cur.drew ?_ | with_reducible refine Cur.drewN ?_ _ | (with_reducible refine Cur.set ?_ ?_ _; rotate_left; ((try simp); (try omega))))) (by exact rowInt _ _ [0, 4, 5] 3 rfl (by simp) (by decide) (by decide)) (by simp) (by simp; omega)).mono ?_; rintro e wk ⟨v, rfl, ⟨r2, rfl, hr2⟩, ho, hc⟩; obtain ⟨hcc, hff, hzz⟩ := ocellA ho; (try simp at hzz); have hsz0 : w.heap.size < wk.heap.size := (by omega); have hsz1 : w5.heap.size < wk.heap.size := (by omega); have hT := Turn.mk ho; clear ho)
    | (go_at_call 91; refine (l1Int_any p _ [-1, 0, 404, 999, 1000] _ _ (by repeat (first | with_reducible assumption | with_reducible refine Cur.alloc ?_ _ | with_reducible refine Cur.drew ?_ | with_reducible refine Cur.drewN ?_ _ | (with_reducible refine Cur.set ?_ ?_ _; rotate_left; ((try simp); (try omega))))) (by exact rowInt _ _ [-1, 0, 404, 999, 1000] 5 rfl (by simp) (by decide) (by decide)) (by simp) (by simp; omega)).mono ?_; rintro e wk ⟨v, rfl, ⟨r2, rfl, hr2⟩, ho, hc⟩; obtain ⟨hcc, hff, hzz⟩ := ocellA ho; (try simp at hzz); have hsz0 : w.heap.size < wk.heap.size := (by omega); have hsz1 : w5.heap.size < wk.heap.size := (by omega); have hT := Turn.mk ho; clear ho)
    | (go_at_call 91; refine (l1Int_any p _ [60, 61] _ _ (by repeat (first | with_reducible assumption | with_reducible refine Cur.alloc ?_ _ | with_reducible refine Cur.drew ?_ | with_reducible refine Cur.drewN ?_ _ | (with_reducible refine Cur.set ?_ ?_ _; rotate_left; ((try simp); (try omega))))) (by exact rowInt _ _ [60, 61] 2 rfl (by simp) (by decide) (by decide)) (by simp) (by simp; omega)).mono ?_; rintro e wk ⟨v, rfl, ⟨r2, rfl, hr2⟩, ho, hc⟩; obtain ⟨hcc, hff, hzz⟩ := ocellA ho; (try simp at hzz); have hsz0 : w.heap.size < wk.heap.size := (by omega); have hsz1 : w5.heap.size < wk.heap.size := (by omega); have hT := Turn.mk ho; clear ho)
    | (go_at_call 125; refine (l1Bytes_any p _ _ (by repeat (first | with_reducible assumption | with_reducible refine Cur.alloc ?_ _ | with_reducible refine Cur.drew ?_ | with_reducible refine Cur.drewN ?_ _ | (with_reducible refine Cur.set ?_ ?_ _; rotate_left; ((try simp); (try omega))))) (by simp at hr2; omega)).mono ?_; rintro e wk ⟨v, rfl, ⟨ys, G, hrk, hyl, hfk⟩, ho, hc⟩; obtain ⟨B, cq, e9⟩ := cL_form hrk; subst e9; obtain ⟨hcc, hff, hzz⟩ := ocell ho; have hltk := Cod.lt _ hrk; have HRK := Lib.hid hrk; have HFK := Lib.hid hfk; have HLK := Lib.hid hltk; clear hrk hfk hltk; have hsz0 : w.heap.size < wk.heap.size := (by omega); have hsz1 : w5.heap.size < wk.heap.size := (by omega); have hT := Turn.mk ho; clear ho))
  all_goals refine sets_ret5 (a' := .int .i64 0) (b' := .int .i64 0) (c' := .int .i64 0) (d' := .slice none 0 0) (e' := .bool false) w.heap.size (by go_simp) (by go_simp) (by go_simp) (by go_simp) (by go_simp) (fun W9 e9 c0 c1 c2 c3 c4 => ?_)
  · have hr3 : 0 ≤ r2 ∧ r2 ≤ 5 := by simp at hr2; omega
    have hn4 := HN4.out
    refine bodyPost_ret (v := .agg #[.int .i64 (r2), .int .i64 (200), .int .i64 (1 + ve), .slice A xs.length cp, .bool sh]) (by simp [results, Try.results70, go_sem, c0, c1, c2, c3, c4]) rfl ?_
    clear c0 c1 c2 c3 c4
    subst e9
    exact ⟨_, rfl, ⟨_, ⟨r2, 200, 1 + ve, xs, sh⟩, F, rfl, TResp.mk_ (resp_ok (by omega) (by omega) (by omega)) (by repeat (first | with_reducible exact HR4.out | with_reducible refine Cod.allocA ?_ _ | with_reducible refine Cod.drewA ?_ | with_reducible refine Cod.drewNA ?_ _ | ((with_reducible refine Cod.setA ?_ ?_ _); rotate_left; ((intro hm9; have hm8 := hn4 _ hm9; (try simp at hm8); (try omega)))) | ((with_reducible refine Turn.rep (by with_reducible assumption) ?_ ?_); focus ((intro hm9; have hm8 := hn4 _ hm9; (try simp at hm8); (try omega)))))), by unfold SmallResp; simp; omega, HF4.out⟩, (by repeat (first | with_reducible exact Only.refl _ _ | with_reducible refine Only.alloc ?_ _ | with_reducible refine Only.drew ?_ | with_reducible refine Only.drewN ?_ _ | (with_reducible refine Only.setNew ?_ ?_ _; rotate_left; ((try simp); (try omega))) | (with_reducible refine Turn.only (by with_reducible assumption) ?_))), (by repeat (first | with_reducible assumption | with_reducible refine Cur.alloc ?_ _ | with_reducible refine Cur.drew ?_ | with_reducible refine Cur.drewN ?_ _ | (with_reducible refine Cur.set ?_ ?_ _; rotate_left; ((try simp); (try omega)))))⟩
  · have hr3 : -1 ≤ r2 ∧ r2 ≤ 1000 := by simp at hr2; omega
    have hn4 := HN4.out
    refine bodyPost_ret (v := .agg #[.int .i64 (1 + ty), .int .i64 (r2), .int .i64 (1 + ve), .slice A xs.length cp, .bool sh]) (by simp [results, Try.results70, go_sem, c0, c1, c2, c3, c4]) rfl ?_
    clear c0 c1 c2 c3 c4
    subst e9
    exact ⟨_, rfl, ⟨_, ⟨1 + ty, r2, 1 + ve, xs, sh⟩, F, rfl, TResp.mk_ (resp_ok (by omega) (by omega) (by omega)) (by repeat (first | with_reducible exact HR4.out | with_reducible refine Cod.allocA ?_ _ | with_reducible refine Cod.drewA ?_ | with_reducible refine Cod.drewNA ?_ _ | ((with_reducible refine Cod.setA ?_ ?_ _); rotate_left; ((intro hm9; have hm8 := hn4 _ hm9; (try simp at hm8); (try omega)))) | ((with_reducible refine Turn.rep (by with_reducible assumption) ?_ ?_); focus ((intro hm9; have hm8 := hn4 _ hm9; (try simp at hm8); (try omega)))))), by unfold SmallResp; simp; omega, HF4.out⟩, (by repeat (first | with_reducible exact Only.refl _ _ | with_reducible refine Only.alloc ?_ _ | with_reducible refine Only.drew ?_ | with_reducible refine Only.drewN ?_ _ | (with_reducible refine Only.setNew ?_ ?_ _; rotate_left; ((try simp); (try omega))) | (with_reducible refine Turn.only (by with_reducible assumption) ?_))), (by repeat (first | with_reducible assumption | with_reducible refine Cur.alloc ?_ _ | with_reducible refine Cur.drew ?_ | with_reducible refine Cur.drewN ?_ _ | (with_reducible refine Cur.set ?_ ?_ _; rotate_left; ((try simp); (try omega)))))⟩
  · have hn4 : ∀ y, y ∈ G → p < y ∧ w.heap.size < y ∧ w5.heap.size < y := fun y hy => by have h1 := HFK.out.1 y hy; (try simp at h1); omega
    refine bodyPost_ret (v := .agg #[.int .i64 (1 + ty), .int .i64 (200), .int .i64 (1 + ve), .slice B ys.length cq, .bool sh]) (by simp [results, Try.results70, go_sem, c0, c1, c2, c3, c4]) rfl ?_
    clear c0 c1 c2 c3 c4
    subst e9
    exact ⟨_, rfl, ⟨_, ⟨1 + ty, 200, 1 + ve, ys, sh⟩, G, rfl, TResp.mk_ (resp_ok (by omega) (by omega) (by omega)) (by repeat (first | with_reducible exact HRK.out | with_reducible refine Cod.allocA ?_ _ | with_reducible refine Cod.drewA ?_ | with_reducible refine Cod.drewNA ?_ _ | ((with_reducible refine Cod.setA ?_ ?_ _); rotate_left; ((intro hm9; have hm8 := hn4 _ hm9; (try simp at hm8); (try omega)))) | ((with_reducible refine Turn.rep (by with_reducible assumption) ?_ ?_); focus ((intro hm9; have hm8 := hn4 _ hm9; (try simp at hm8); (try omega)))))), by unfold SmallResp; simp; omega, HFK.out.mono (by (try simp); (try omega))⟩, (by repeat (first | with_reducible exact Only.refl _ _ | with_reducible refine Only.alloc ?_ _ | with_reducible refine Only.drew ?_ | with_reducible refine Only.drewN ?_ _ | (with_reducible refine Only.setNew ?_ ?_ _; rotate_left; ((try simp); (try omega))) | (with_reducible refine Turn.only (by with_reducible assumption) ?_))), (by repeat (first | with_reducible assumption | with_reducible refine Cur.alloc ?_ _ | with_reducible refine Cur.drew ?_ | with_reducible refine Cur.drewN ?_ _ | (with_reducible refine Cur.set ?_ ?_ _; rotate_left; ((try simp); (try omega)))))⟩
  · have hn4 := HN4.out
    refine bodyPost_ret (v := .agg #[.int .i64 (1 + ty), .int .i64 (200), .int .i64 (1 + ve), .slice A xs.length cp, .bool sh]) (by simp [results, Try.results70, go_sem, c0, c1, c2, c3, c4]) rfl ?_
    clear c0 c1 c2 c3 c4
    subst e9
    exact ⟨_, rfl, ⟨_, ⟨1 + ty, 200, 1 + ve, xs, sh⟩, F, rfl, TResp.mk_ (resp_ok (by omega) (by omega) (by omega)) (by repeat (first | with_reducible exact HR4.out | with_reducible refine Cod.allocA ?_ _ | with_reducible refine Cod.drewA ?_ | with_reducible refine Cod.drewNA ?_ _ | ((with_reducible refine Cod.setA ?_ ?_ _); rotate_left; ((intro hm9; have hm8 := hn4 _ hm9; (try simp at hm8); (try omega)))) | ((with_reducible refine Turn.rep (by with_reducible assumption) ?_ ?_); focus ((intro hm9; have hm8 := hn4 _ hm9; (try simp at hm8); (try omega)))))), by unfold SmallResp; simp; omega, HF4.out⟩, (by repeat (first | with_reducible exact Only.refl _ _ | with_reducible refine Only.alloc ?_ _ | with_reducible refine Only.drew ?_ | with_reducible refine Only.drewN ?_ _ | (with_reducible refine Only.setNew ?_ ?_ _; rotate_left; ((try simp); (try omega))) | (with_reducible refine Turn.only (by with_reducible assumption) ?_))), (by repeat (first | with_reducible assumption | with_reducible refine Cur.alloc ?_ _ | with_reducible refine Cur.drew ?_ | with_reducible refine Cur.drewN ?_ _ | (with_reducible refine Cur.set ?_ ?_ _; rotate_left; ((try simp); (try omega)))))⟩
end Go.Proofs.Yteipaolcmjfhdaa
