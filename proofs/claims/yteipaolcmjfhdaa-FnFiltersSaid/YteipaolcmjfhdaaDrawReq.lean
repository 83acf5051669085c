/-
  The draw of a request. No conditions.
-/
import Derived.Test.YteipaolcmjfhdaaDrawW
import Derived.Test.YteipaolcmjfhdaaTReq
import Derived.Test.YteipaolcmjfhdaaSetRet
namespace Go.Proofs.Yteipaolcmjfhdaa
open Go.ChangeShapes Go.WideShapes Go.RowKit
set_option linter.unusedVariables false

theorem req_ok {a b c : ByteArray} {m : Int} (h0 : a.size ≤ 100) (h1 : b.size ≤ 100) (h2 : c.size ≤ 100) (h3 : -9223372036854775808 ≤ m ∧ m ≤ 9223372036854775807) : TReq.Ok ⟨a, b, c, m⟩ := ⟨by unfold maxLen; simp; omega, by unfold maxLen; simp; omega, by unfold maxLen; simp; omega, h3⟩
def SmallReq (x : TReq) : Prop := x.Ok ∧ x.frm.size ≤ 100 ∧ x.dst.size ≤ 100 ∧ x.path.size ≤ 100
set_option maxRecDepth 100000 in
set_option maxHeartbeats 8000000 in
theorem l15Request_any (p : Nat) (w : World) (h : Cur w p) :
    Calls Try.prog 69 #[.pointer (some ⟨p, 0, none⟩)] w (Draws p w fun v _ => ∃ x : TReq, v = x.val ∧ SmallReq x) := by
  have hpl := h.lt
  go_enter Try.func69, Try.ntmps69
  go_wp2_with fail
  refine (l15Site_any p _ (h.alloc _)).mono ?_
  rintro e w1 ⟨v, rfl, ⟨a, rfl, ha⟩, ho1, hc1⟩
  obtain ⟨hcc1, hff1, hzz1⟩ := ocell ho1
  (try simp at hzz1)
  have hT1 := Turn.mk ho1
  have hs1 : w.heap.size < w1.heap.size := by omega
  have hn0 : ¬ w.heap.size = p := by omega
  clear ho1
  go_wp2_with fail
  refine (l15Site_any p _ hc1).mono ?_
  rintro e w2 ⟨v, rfl, ⟨b, rfl, hb⟩, ho2, hc2⟩
  obtain ⟨hcc2, hff2, hzz2⟩ := ocell ho2
  have hT2 := Turn.mk ho2
  have hs2 : w.heap.size < w2.heap.size := by omega
  clear ho2
  go_wp2_with fail
  refine (l15Path_any p _ hc2).mono ?_
  rintro e w3 ⟨v, rfl, ⟨c, rfl, hc⟩, ho3, hc3⟩
  obtain ⟨hcc3, hff3, hzz3⟩ := ocell ho3
  have hT3 := Turn.mk ho3
  have hs3 : w.heap.size < w3.heap.size := by omega
  clear ho3
  go_wp2_with fail
  refine (l1Below_any p _ _ hc3 (by omega)).mono ?_
  rintro e w4 ⟨v, rfl, ⟨m, rfl, hm0, hm1⟩, ho4, hc4⟩
  obtain ⟨hcc4, hff4, hzz4⟩ := ocell ho4
  have hT4 := Turn.mk ho4
  have hs4 : w.heap.size < w4.heap.size := by omega
  have hn1 : ¬ w4.heap.size = p := by omega
  have hn2 : ¬ w4.heap.size = w.heap.size := by omega
  have hn3 : ¬ w.heap.size = w4.heap.size := by omega
  clear ho4
  go_wp2_with (first
    | (go_at_call 124; refine (l1Below_any p _ _ (by repeat (first | with_reducible assumption | with_reducible refine Cur.alloc ?_ _ | with_reducible refine Cur.drew ?_ | with_reducible refine Cur.drewN ?_ _ | (with_reducible refine Cur.set ?_ ?_ _; rotate_left; ((try simp); (try omega))))) (by omega)).mono ?_; rintro e wk ⟨v, rfl, ⟨r, rfl, hr0, hr1⟩, ho, hc⟩; obtain ⟨hcc, hff, hzz⟩ := ocell ho; (try simp at hzz); have hsz0 : w.heap.size < wk.heap.size := (by omega); have hsz1 : w4.heap.size < wk.heap.size := (by omega); have hT := Turn.mk ho; clear ho)
    | (go_at_call 91; refine (l1Int_any p _ [0, 4] _ _ (by repeat (first | with_reducible assumption | with_reducible refine Cur.alloc ?_ _ | with_reducible refine Cur.drew ?_ | with_reducible refine Cur.drewN ?_ _ | (with_reducible refine Cur.set ?_ ?_ _; rotate_left; ((try simp); (try omega))))) (by exact rowInt _ _ [0, 4] 2 rfl (by simp) (by decide) (by decide)) (by simp) (by simp; omega)).mono ?_; rintro e wk ⟨v, rfl, ⟨r2, rfl, hr2⟩, ho, hc⟩; obtain ⟨hcc, hff, hzz⟩ := ocellA ho; (try simp at hzz); have hsz0 : w.heap.size < wk.heap.size := (by omega); have hsz1 : w4.heap.size < wk.heap.size := (by omega); have hT := Turn.mk ho; clear ho))
  · have hr3 : 0 ≤ r2 ∧ r2 ≤ 4 := by simp at hr2; omega
    refine sets_ret4 (a' := .string ⟨#[]⟩) (b' := .string ⟨#[]⟩) (c' := .string ⟨#[]⟩) (d' := .int .i64 0) w.heap.size (by go_simp) (by go_simp) (by go_simp) (by go_simp) (fun W9 e9 c0 c1 c2 c3 => ?_)
    refine bodyPost_ret (v := .agg #[.string a, .string b, .string c, .int .i64 (r2)]) (by simp [results, Try.results69, go_sem, c0, c1, c2, c3]) rfl ?_
    clear c0 c1 c2 c3
    subst e9
    exact ⟨_, rfl, ⟨⟨a, b, c, r2⟩, rfl, req_ok ha hb (by assumption) (by omega), ha, hb, (by assumption)⟩, (by repeat (first | with_reducible exact Only.refl _ _ | with_reducible refine Only.alloc ?_ _ | with_reducible refine Only.drew ?_ | with_reducible refine Only.drewN ?_ _ | (with_reducible refine Only.setNew ?_ ?_ _; rotate_left; ((try simp); (try omega))) | (with_reducible refine Turn.only (by with_reducible assumption) ?_))), (by repeat (first | with_reducible assumption | with_reducible refine Cur.alloc ?_ _ | with_reducible refine Cur.drew ?_ | with_reducible refine Cur.drewN ?_ _ | (with_reducible refine Cur.set ?_ ?_ _; rotate_left; ((try simp); (try omega)))))⟩
  · refine sets_ret4 (a' := .string ⟨#[]⟩) (b' := .string ⟨#[]⟩) (c' := .string ⟨#[]⟩) (d' := .int .i64 0) w.heap.size (by go_simp) (by go_simp) (by go_simp) (by go_simp) (fun W9 e9 c0 c1 c2 c3 => ?_)
    refine bodyPost_ret (v := .agg #[.string a, .string b, .string ⟨#[]⟩, .int .i64 (1 + m)]) (by simp [results, Try.results69, go_sem, c0, c1, c2, c3]) rfl ?_
    clear c0 c1 c2 c3
    subst e9
    exact ⟨_, rfl, ⟨⟨a, b, ⟨#[]⟩, 1 + m⟩, rfl, req_ok ha hb (show (⟨#[]⟩ : ByteArray).size ≤ 100 by decide) (by omega), ha, hb, (show (⟨#[]⟩ : ByteArray).size ≤ 100 by decide)⟩, (by repeat (first | with_reducible exact Only.refl _ _ | with_reducible refine Only.alloc ?_ _ | with_reducible refine Only.drew ?_ | with_reducible refine Only.drewN ?_ _ | (with_reducible refine Only.setNew ?_ ?_ _; rotate_left; ((try simp); (try omega))) | (with_reducible refine Turn.only (by with_reducible assumption) ?_))), (by repeat (first | with_reducible assumption | with_reducible refine Cur.alloc ?_ _ | with_reducible refine Cur.drew ?_ | with_reducible refine Cur.drewN ?_ _ | (with_reducible refine Cur.set ?_ ?_ _; rotate_left; ((try simp); (try omega)))))⟩
  · refine sets_ret4 (a' := .string ⟨#[]⟩) (b' := .string ⟨#[]⟩) (c' := .string ⟨#[]⟩) (d' := .int .i64 0) w.heap.size (by go_simp) (by go_simp) (by go_simp) (by go_simp) (fun W9 e9 c0 c1 c2 c3 => ?_)
    refine bodyPost_ret (v := .agg #[.string a, .string b, .string c, .int .i64 (1 + m)]) (by simp [results, Try.results69, go_sem, c0, c1, c2, c3]) rfl ?_
    clear c0 c1 c2 c3
    subst e9
    exact ⟨_, rfl, ⟨⟨a, b, c, 1 + m⟩, rfl, req_ok ha hb (by assumption) (by omega), ha, hb, (by assumption)⟩, (by repeat (first | with_reducible exact Only.refl _ _ | with_reducible refine Only.alloc ?_ _ | with_reducible refine Only.drew ?_ | with_reducible refine Only.drewN ?_ _ | (with_reducible refine Only.setNew ?_ ?_ _; rotate_left; ((try simp); (try omega))) | (with_reducible refine Turn.only (by with_reducible assumption) ?_))), (by repeat (first | with_reducible assumption | with_reducible refine Cur.alloc ?_ _ | with_reducible refine Cur.drew ?_ | with_reducible refine Cur.drewN ?_ _ | (with_reducible refine Cur.set ?_ ?_ _; rotate_left; ((try simp); (try omega)))))⟩
end Go.Proofs.Yteipaolcmjfhdaa
