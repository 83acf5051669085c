/-
  The law FnFilters: a response of another site is read only where the server shares it, and a hidden one shows nothing. No conditions.
-/
import Derived.Test.YteipaolcmjfhdaaRows
import Derived.Test.YteipaolcmjfhdaaAtFn
import Derived.Test.YteipaolcmjfhdaaDrawFilter
import Derived.Test.YteipaolcmjfhdaaFiltPlain
import Derived.Deep.CutRange
namespace Go.Proofs.Yteipaolcmjfhdaa
open Go.ChangeShapes Go.WideShapes Go.RowKit
set_option linter.unusedVariables false

/-- a row of bytes written out -/
theorem rowU (w : World) (T : TypeId) (xs : List UInt8) (n : Nat) (hn : n = xs.length) (h0 : xs ≠ []) (hm : n ≤ maxLen) : cUS.rep (w.alloc (.cells (xs.map fun b => Value.int .u8 (b.toNat : Int)).toArray T)) [.slice (some ⟨w.heap.size, 0, none⟩) n n] xs [w.heap.size] := by
  subst hn
  exact ⟨_, _, rfl, Nat.le_refl _, hm, .inr ⟨h0, w.heap.size, 0, [], _, rfl, rfl, fun j u hu => by rw [Nat.zero_add]; exact ⟨by rw [(Blk.new w T _).cell]; simpa using hu, (Blk.new w T _).frozen _⟩, repsU _ xs⟩⟩
set_option maxRecDepth 100000 in
set_option maxHeartbeats 8000000 in
theorem hiddenB_eq {r : TReq} {s : TResp} {q : Bool} (h : isRequest r = q) : hiddenB r s = (q && isResponse s && isResponse (otherOf s) && (s.type != 4) && r.mode == 3 && !(r.frm.toList == r.dst.toList)) := by rw [← h]; rfl
set_option maxRecDepth 100000 in
set_option maxHeartbeats 8000000 in
theorem lawFilters_any (v : Value) (xs : List UInt8) (F0 : List Nat) (w : World) (h : cUS.rep w [v] xs F0) :
    Calls Try.prog 4 #[v] w (Gives w (.bool true)) := by
  obtain ⟨A, cp, rfl⟩ := cL_form h
  obtain ⟨-, hcp, hm⟩ := cL_len h
  unfold maxLen at hm
  cases hbig : decide ((1048576 : Int) < xs.length) with
  | true =>
    go_enter Try.func4, Try.ntmps4
    go_wp2_with (go_at_call 11; refine (big_any _ _ _ _).mono ?_; rw [hbig]; rintro e w1 ⟨rfl, rfl⟩)
    go_ret
    exact ⟨rfl, (by repeat (first | with_reducible exact Below.refl _ _ | with_reducible assumption | with_reducible refine bel_alloc ?_ _ | with_reducible refine bel_drew ?_ | with_reducible refine bel_drewN ?_ _ | (with_reducible refine bel_set ?_ ?_ _; rotate_left; ((try simp); (try omega)))))⟩
  | false =>
    have hnl : xs.length ≤ 1048576 := by simp at hbig; omega
    obtain ⟨i0, hi0, hz0, hz1, hz2⟩ := info_parts infoU8
    go_enter Try.func4, Try.ntmps4
    go_wp2_with (go_at_call 11; refine (big_any _ _ _ _).mono ?_; rw [hbig]; rintro e w1 ⟨rfl, rfl⟩)
    refine (drawFilter_any _ xs _ _ (by exact Cod.bel h (by repeat (first | with_reducible exact Below.refl _ _ | with_reducible assumption | with_reducible refine bel_alloc ?_ _ | with_reducible refine bel_drew ?_ | with_reducible refine bel_drewN ?_ _ | (with_reducible refine bel_set ?_ ?_ _; rotate_left; ((try simp); (try omega)))))) hnl).mono ?_
    rintro e w1 ⟨⟨a, b, c, m⟩, vs, s, G, rfl, ⟨hok, ha, hb, hc⟩, hu, hul, hb1, hfG⟩
    obtain ⟨u3, F3, rfl, rfl, hsok, hm3⟩ := TResp.outA hu
    obtain ⟨U, cu, hue⟩ := cL_form hm3
    subst hue
    have hB1 : Below w.heap.size w w1 := bel_then (by repeat (first | with_reducible exact Below.refl _ _ | with_reducible assumption | with_reducible refine bel_alloc ?_ _ | with_reducible refine bel_drew ?_ | with_reducible refine bel_drewN ?_ _ | (with_reducible refine bel_set ?_ ?_ _; rotate_left; ((try simp); (try omega))))) hb1
    have HU := Lib.hid hu
    have hz1' := hB1.size
    have HQ := Lib.hid (show cReq.sz ⟨a, b, c, m⟩ ≤ 1048576 from cReq_small ha hb hc)
    have HP := Lib.hid (show cResp.sz s ≤ 1048576 from cResp_small (by unfold SmallResp at hul; omega))
    clear hb1 hu hm3 hfG
    simp only [TReq.val]
    obtain ⟨z, hz⟩ : ∃ z, filterResponse ⟨a, b, c, m⟩ s = z := ⟨_, rfl⟩
    have HZ := Lib.hid hz
    have HZS := Lib.hid (show cResp.sz z ≤ 1048576 from by rw [← hz]; exact Nat.le_trans (filterResponse_sz _ _) HP.out)
    clear hz
    have HOK := Lib.hid hok
    have HSOK := Lib.hid hsok
    clear hok hsok
    go_wp2_with fail
    refine (implFilterResponse_any _ ⟨a, b, c, m⟩ [] _ s _ _ (by exact TReq.mk_ HOK.out) HQ.out (by exact Cod.bel HU.out (by repeat (first | with_reducible exact Below.refl _ _ | with_reducible assumption | with_reducible refine bel_alloc ?_ _ | with_reducible refine bel_drew ?_ | with_reducible refine bel_drewN ?_ _ | (with_reducible refine bel_set ?_ ?_ _; rotate_left; ((try simp); (try omega)))))) HP.out).mono ?_
    rw [HZ.out]
    rintro e w2 ⟨vs2, G2, rfl, hb2, hrep2, hf2⟩
    obtain ⟨u4, F4, rfl, rfl, -, hm4⟩ := TResp.outA hrep2
    obtain ⟨Z, cz, hze⟩ := cL_form hm4
    subst hze
    have HR2 := Lib.hid hrep2
    clear hrep2 hm4 hf2
    have hz_w2 := hb2.size
    (try simp at hz_w2)
    have ha0_w2 : w1.heap.size < w2.heap.size := by omega
    have ha1_w2 : w1.heap.size + 1 < w2.heap.size := by omega
    obtain ⟨hc_w2, hf_w2, -⟩ := bcell hb2
    have hb_w2 : Below w.heap.size w w2 := bel_then (by repeat (first | with_reducible exact Below.refl _ _ | with_reducible assumption | with_reducible refine bel_alloc ?_ _ | with_reducible refine bel_drew ?_ | with_reducible refine bel_drewN ?_ _ | (with_reducible refine bel_set ?_ ?_ _; rotate_left; ((try simp); (try omega))))) hb2
    have hb1w2 : Below w1.heap.size w1 w2 := bel_then (by repeat (first | with_reducible exact Below.refl _ _ | with_reducible assumption | with_reducible refine bel_alloc ?_ _ | with_reducible refine bel_drew ?_ | with_reducible refine bel_drewN ?_ _ | (with_reducible refine bel_set ?_ ?_ _; rotate_left; ((try simp); (try omega))))) hb2
    clear hb2
    go_wp2_with fail
    generalize hW : World.alloc w2 _ = W
    have hWs : W.heap.size = w2.heap.size + 1 := by rw [← hW]; clear hW; simp
    have hbW : Below w.heap.size w W := by rw [← hW]; exact bel_alloc hb_w2 _
    have hb1W : Below w1.heap.size w1 W := by rw [← hW]; exact bel_alloc hb1w2 _
    have hb2W : Below w2.heap.size w2 W := by rw [← hW]; exact bel_alloc (Below.refl _ _) _
    have q0 : W.cell? ⟨w1.heap.size, 0, none⟩ = some (.string a) := by rw [← hW]; clear hW; go_simp
    have q1 : W.cell? ⟨w1.heap.size, 1, none⟩ = some (.string b) := by rw [← hW]; clear hW; go_simp
    have q2 : W.cell? ⟨w1.heap.size, 2, none⟩ = some (.string c) := by rw [← hW]; clear hW; go_simp
    have q3 : W.cell? ⟨w1.heap.size, 3, none⟩ = some (.int .i64 m) := by rw [← hW]; clear hW; go_simp
    have q4 : W.cell? ⟨w1.heap.size + 1, 0, none⟩ = some (.int .i64 s.type) := by rw [← hW]; clear hW; go_simp
    have q5 : W.cell? ⟨w1.heap.size + 1, 1, none⟩ = some (.int .i64 s.status) := by rw [← hW]; clear hW; go_simp
    have q6 : W.cell? ⟨w1.heap.size + 1, 2, none⟩ = some (.int .i64 s.ver) := by rw [← hW]; clear hW; go_simp
    have q7 : W.cell? ⟨w1.heap.size + 1, 3, none⟩ = some (.slice U s.body.length cu) := by rw [← hW]; clear hW; go_simp
    have q8 : W.cell? ⟨w1.heap.size + 1, 4, none⟩ = some (.bool s.shares) := by rw [← hW]; clear hW; go_simp
    have q9 : W.cell? ⟨w2.heap.size, 0, none⟩ = some (.int .i64 z.type) := by rw [← hW]; clear hW; go_simp
    have q10 : W.cell? ⟨w2.heap.size, 1, none⟩ = some (.int .i64 z.status) := by rw [← hW]; clear hW; go_simp
    have q11 : W.cell? ⟨w2.heap.size, 2, none⟩ = some (.int .i64 z.ver) := by rw [← hW]; clear hW; go_simp
    have q12 : W.cell? ⟨w2.heap.size, 3, none⟩ = some (.slice Z z.body.length cz) := by rw [← hW]; clear hW; go_simp
    have q13 : W.cell? ⟨w2.heap.size, 4, none⟩ = some (.bool z.shares) := by rw [← hW]; clear hW; go_simp
    clear hW hc_w2 hf_w2
    have hS : ∀ w9, Below W.heap.size W w9 → w9.cell? ⟨w1.heap.size, 0, none⟩ = some (.string a) ∧ w9.cell? ⟨w1.heap.size, 1, none⟩ = some (.string b) ∧ w9.cell? ⟨w1.heap.size, 2, none⟩ = some (.string c) ∧ w9.cell? ⟨w1.heap.size, 3, none⟩ = some (.int .i64 m) ∧ w9.cell? ⟨w1.heap.size + 1, 0, none⟩ = some (.int .i64 s.type) ∧ w9.cell? ⟨w1.heap.size + 1, 1, none⟩ = some (.int .i64 s.status) ∧ w9.cell? ⟨w1.heap.size + 1, 2, none⟩ = some (.int .i64 s.ver) ∧ w9.cell? ⟨w1.heap.size + 1, 3, none⟩ = some (.slice U s.body.length cu) ∧ w9.cell? ⟨w1.heap.size + 1, 4, none⟩ = some (.bool s.shares) ∧ w9.cell? ⟨w2.heap.size, 0, none⟩ = some (.int .i64 z.type) ∧ w9.cell? ⟨w2.heap.size, 1, none⟩ = some (.int .i64 z.status) ∧ w9.cell? ⟨w2.heap.size, 2, none⟩ = some (.int .i64 z.ver) ∧ w9.cell? ⟨w2.heap.size, 3, none⟩ = some (.slice Z z.body.length cz) ∧ w9.cell? ⟨w2.heap.size, 4, none⟩ = some (.bool z.shares) := fun w9 hb => ⟨(hb.cell (p := ⟨w1.heap.size, 0, none⟩) (by (try simp); omega)).trans q0, (hb.cell (p := ⟨w1.heap.size, 1, none⟩) (by (try simp); omega)).trans q1, (hb.cell (p := ⟨w1.heap.size, 2, none⟩) (by (try simp); omega)).trans q2, (hb.cell (p := ⟨w1.heap.size, 3, none⟩) (by (try simp); omega)).trans q3, (hb.cell (p := ⟨w1.heap.size + 1, 0, none⟩) (by (try simp); omega)).trans q4, (hb.cell (p := ⟨w1.heap.size + 1, 1, none⟩) (by (try simp); omega)).trans q5, (hb.cell (p := ⟨w1.heap.size + 1, 2, none⟩) (by (try simp); omega)).trans q6, (hb.cell (p := ⟨w1.heap.size + 1, 3, none⟩) (by (try simp); omega)).trans q7, (hb.cell (p := ⟨w1.heap.size + 1, 4, none⟩) (by (try simp); omega)).trans q8, (hb.cell (p := ⟨w2.heap.size, 0, none⟩) (by (try simp); omega)).trans q9, (hb.cell (p := ⟨w2.heap.size, 1, none⟩) (by (try simp); omega)).trans q10, (hb.cell (p := ⟨w2.heap.size, 2, none⟩) (by (try simp); omega)).trans q11, (hb.cell (p := ⟨w2.heap.size, 3, none⟩) (by (try simp); omega)).trans q12, (hb.cell (p := ⟨w2.heap.size, 4, none⟩) (by (try simp); omega)).trans q13⟩
    have hwz : w1.heap.size + 1 < W.heap.size ∧ w2.heap.size < W.heap.size := by omega
    refine wp_region_held_drew (S := (fun w9 => w9.cell? ⟨w1.heap.size, 0, none⟩ = some (.string a) ∧ w9.cell? ⟨w1.heap.size, 1, none⟩ = some (.string b) ∧ w9.cell? ⟨w1.heap.size, 2, none⟩ = some (.string c) ∧ w9.cell? ⟨w1.heap.size, 3, none⟩ = some (.int .i64 m) ∧ w9.cell? ⟨w1.heap.size + 1, 0, none⟩ = some (.int .i64 s.type) ∧ w9.cell? ⟨w1.heap.size + 1, 1, none⟩ = some (.int .i64 s.status) ∧ w9.cell? ⟨w1.heap.size + 1, 2, none⟩ = some (.int .i64 s.ver) ∧ w9.cell? ⟨w1.heap.size + 1, 3, none⟩ = some (.slice U s.body.length cu) ∧ w9.cell? ⟨w1.heap.size + 1, 4, none⟩ = some (.bool s.shares) ∧ w9.cell? ⟨w2.heap.size, 0, none⟩ = some (.int .i64 z.type) ∧ w9.cell? ⟨w2.heap.size, 1, none⟩ = some (.int .i64 z.status) ∧ w9.cell? ⟨w2.heap.size, 2, none⟩ = some (.int .i64 z.ver) ∧ w9.cell? ⟨w2.heap.size, 3, none⟩ = some (.slice Z z.body.length cz) ∧ w9.cell? ⟨w2.heap.size, 4, none⟩ = some (.bool z.shares))) (by kernel_rfl) (by (try dsimp only); exact hS _ (by repeat (first | with_reducible exact Below.refl _ _ | with_reducible assumption | with_reducible refine bel_alloc ?_ _ | with_reducible refine bel_drew ?_ | with_reducible refine bel_drewN ?_ _ | (with_reducible refine bel_set ?_ ?_ _; rotate_left; ((try simp); (try omega)))))) (fun hHeld => ?_)
    refine take_read (i := 0) 18 (v := ?v0) rfl rfl (by kernel_rfl) (by kernel_rfl) (by kernel_rfl) (fun _ _ _ h => h) (by rfl) ?hy0 (by assumption) ?rest0
    case hy0 => (intro w hSw; (try dsimp only at hSw); go_simp; (try with_reducible rfl))
    try simp only [Act.put, List.setIfInBounds_toArray, List.set_cons_zero, List.set_cons_succ]
    refine take_read (i := 1) 19 (v := ?v1) rfl rfl (by kernel_rfl) (by kernel_rfl) (by kernel_rfl) (fun _ _ _ h => h) (by rfl) ?hy1 (by assumption) ?rest1
    case hy1 => (intro w hSw; (try dsimp only at hSw); go_simp; (try with_reducible rfl))
    try simp only [Act.put, List.setIfInBounds_toArray, List.set_cons_zero, List.set_cons_succ]
    refine take_read (i := 2) 20 (v := ?v2) rfl rfl (by kernel_rfl) (by kernel_rfl) (by kernel_rfl) (fun _ _ _ h => h) (by rfl) ?hy2 (by assumption) ?rest2
    case hy2 => (intro w hSw; (try dsimp only at hSw); go_simp; (try with_reducible rfl))
    try simp only [Act.put, List.setIfInBounds_toArray, List.set_cons_zero, List.set_cons_succ]
    refine wpAnyH_ready (rs := [3]) (by kernel_rfl) (by simp) ?_
    refine AllReadyH.cons rfl (fun K hK => ?_) AllReadyH.nil
    go_simp
    (first | (go_at_call 19; refine (specFilterResponse_any _ ⟨a, b, c, m⟩ [] _ s _ _ (by exact TReq.mk_ HOK.out) HQ.out (by exact Cod.bel HU.out (bel_then hb1W (by repeat (first | with_reducible exact Below.refl _ _ | with_reducible assumption | with_reducible refine bel_alloc ?_ _ | with_reducible refine bel_drew ?_ | with_reducible refine bel_drewN ?_ _ | (with_reducible refine bel_set ?_ ?_ _; rotate_left; ((try simp); (try omega))))))) HP.out).mono ?_; rw [HZ.out]; rintro e w3 ⟨vs3, G3, rfl, hb3, hrep3, hf3⟩; obtain ⟨u5, F5, rfl, rfl, -, hm5⟩ := TResp.outA hrep3; obtain ⟨Y, cy, hye⟩ := cL_form hm5; subst hye; have hW3 : Below W.heap.size W w3 := bel_then (by repeat (first | with_reducible exact Below.refl _ _ | with_reducible assumption | with_reducible refine bel_alloc ?_ _ | with_reducible refine bel_drew ?_ | with_reducible refine bel_drewN ?_ _ | (with_reducible refine bel_set ?_ ?_ _; rotate_left; ((try simp); (try omega))))) hb3; clear hm5 hf3 hb3) | (go_at_call 18; refine (implEqualResponses_any _ z _ _ z _ _ (by exact Cod.bel HR2.out (bel_then hb2W (by repeat (first | with_reducible exact Below.refl _ _ | with_reducible assumption | with_reducible refine bel_alloc ?_ _ | with_reducible refine bel_drew ?_ | with_reducible refine bel_drewN ?_ _ | (with_reducible refine bel_set ?_ ?_ _; rotate_left; ((try simp); (try omega))))))) HZS.out (by exact Cod.bel hrep3 (by repeat (first | with_reducible exact Below.refl _ _ | with_reducible assumption | with_reducible refine bel_alloc ?_ _ | with_reducible refine bel_drew ?_ | with_reducible refine bel_drewN ?_ _ | (with_reducible refine bel_set ?_ ?_ _; rotate_left; ((try simp); (try omega)))))) HZS.out).mono ?_; rw [respEq_self]; rintro e w4 ⟨rfl, hb4⟩; have hW4 : Below W.heap.size W w4 := bel_then (by repeat (first | with_reducible exact Below.refl _ _ | with_reducible assumption | with_reducible refine bel_alloc ?_ _ | with_reducible refine bel_drew ?_ | with_reducible refine bel_drewN ?_ _ | (with_reducible refine bel_set ?_ ?_ _; rotate_left; ((try simp); (try omega))))) hb4; clear hb4 hrep3))
    try go_wp2_with fail
    refine hK.out _ _ ?_ (fun hHeld => ?_)
    · (try dsimp only)
      exact hS _ (by repeat (first | with_reducible exact Below.refl _ _ | with_reducible assumption | with_reducible refine bel_alloc ?_ _ | with_reducible refine bel_drew ?_ | with_reducible refine bel_drewN ?_ _ | (with_reducible refine bel_set ?_ ?_ _; rotate_left; ((try simp); (try omega)))))
    clear hK K
    try simp only [Act.put, List.setIfInBounds_toArray, List.set_cons_zero, List.set_cons_succ]
    refine wpAnyH_ready (rs := [4]) (by kernel_rfl) (by simp) ?_
    refine AllReadyH.cons rfl (fun K hK => ?_) AllReadyH.nil
    go_simp
    (first | (go_at_call 19; refine (specFilterResponse_any _ ⟨a, b, c, m⟩ [] _ s _ _ (by exact TReq.mk_ HOK.out) HQ.out (by exact Cod.bel HU.out (bel_then hb1W (by repeat (first | with_reducible exact Below.refl _ _ | with_reducible assumption | with_reducible refine bel_alloc ?_ _ | with_reducible refine bel_drew ?_ | with_reducible refine bel_drewN ?_ _ | (with_reducible refine bel_set ?_ ?_ _; rotate_left; ((try simp); (try omega))))))) HP.out).mono ?_; rw [HZ.out]; rintro e w3 ⟨vs3, G3, rfl, hb3, hrep3, hf3⟩; obtain ⟨u5, F5, rfl, rfl, -, hm5⟩ := TResp.outA hrep3; obtain ⟨Y, cy, hye⟩ := cL_form hm5; subst hye; have hW3 : Below W.heap.size W w3 := bel_then (by repeat (first | with_reducible exact Below.refl _ _ | with_reducible assumption | with_reducible refine bel_alloc ?_ _ | with_reducible refine bel_drew ?_ | with_reducible refine bel_drewN ?_ _ | (with_reducible refine bel_set ?_ ?_ _; rotate_left; ((try simp); (try omega))))) hb3; clear hm5 hf3 hb3) | (go_at_call 18; refine (implEqualResponses_any _ z _ _ z _ _ (by exact Cod.bel HR2.out (bel_then hb2W (by repeat (first | with_reducible exact Below.refl _ _ | with_reducible assumption | with_reducible refine bel_alloc ?_ _ | with_reducible refine bel_drew ?_ | with_reducible refine bel_drewN ?_ _ | (with_reducible refine bel_set ?_ ?_ _; rotate_left; ((try simp); (try omega))))))) HZS.out (by exact Cod.bel hrep3 (by repeat (first | with_reducible exact Below.refl _ _ | with_reducible assumption | with_reducible refine bel_alloc ?_ _ | with_reducible refine bel_drew ?_ | with_reducible refine bel_drewN ?_ _ | (with_reducible refine bel_set ?_ ?_ _; rotate_left; ((try simp); (try omega)))))) HZS.out).mono ?_; rw [respEq_self]; rintro e w4 ⟨rfl, hb4⟩; have hW4 : Below W.heap.size W w4 := bel_then (by repeat (first | with_reducible exact Below.refl _ _ | with_reducible assumption | with_reducible refine bel_alloc ?_ _ | with_reducible refine bel_drew ?_ | with_reducible refine bel_drewN ?_ _ | (with_reducible refine bel_set ?_ ?_ _; rotate_left; ((try simp); (try omega))))) hb4; clear hb4 hrep3))
    try go_wp2_with fail
    refine hK.out _ _ ?_ (fun hHeld => ?_)
    · (try dsimp only)
      exact hS _ (by repeat (first | with_reducible exact Below.refl _ _ | with_reducible assumption | with_reducible refine bel_alloc ?_ _ | with_reducible refine bel_drew ?_ | with_reducible refine bel_drewN ?_ _ | (with_reducible refine bel_set ?_ ?_ _; rotate_left; ((try simp); (try omega)))))
    clear hK K
    try simp only [Act.put, List.setIfInBounds_toArray, List.set_cons_zero, List.set_cons_succ]
    refine take_read (i := 5) 23 (v := ?v5) rfl rfl (by kernel_rfl) (by kernel_rfl) (by kernel_rfl) (fun _ _ _ h => h) (by rfl) ?hy5 (by assumption) ?rest5
    case hy5 => (intro w hSw; (try dsimp only at hSw); go_simp; (try with_reducible rfl))
    try simp only [Act.put, List.setIfInBounds_toArray, List.set_cons_zero, List.set_cons_succ]
    refine wpAnyH_done (by kernel_rfl) ?_ _
    obtain ⟨k0, k1, k2, k3, k4, k5, k6, k7, k8, k9, k10, k11, k12, k13⟩ := hS w4 hW4
    have hz4 := hW4.size
    have hwz4 : w1.heap.size + 1 < w4.heap.size ∧ w2.heap.size < w4.heap.size ∧ w1.heap.size < w4.heap.size := by omega
    have hb4w : Below w.heap.size w w4 := bel_then hbW hW4
    have hb1w4 : Below w1.heap.size w1 w4 := bel_then hb1W hW4
    have hb2w4 : Below w2.heap.size w2 w4 := bel_then hb2W hW4
    clear hS hW4 hbW hb1W hb2W
    go_upto_region 7 with (fail)
    go_cut [59] from 24 to 58 (fun v59 wq => v59 = .bool false ∧ Below w4.heap.size w4 wq)
    case first =>
      rcases filter_cases ⟨a, b, c, m⟩ s with ⟨hf1, hf2⟩ | ⟨hf0, hf1, hf2⟩ | ⟨hf0, hf1, hf2⟩ | ⟨hf1, hf2⟩
      all_goals rw [HZ.out] at hf1
      all_goals obtain ⟨sty, sst, sve, sbo, ssh⟩ := s
      all_goals simp only at k4 k5 k6 k7 k8 hf1 hf2
      · obtain rfl : z = ⟨4, 0, 0, [], false⟩ := hf1
        simp only at k9 k10 k11 k12 k13
        cases ssh
        · go_wp2_with (go_at_call 20; refine (implCanRead_any _ ⟨a, b, c, m⟩ [] _ ⟨sty, sst, sve, sbo, false⟩ _ _ (by exact TReq.mk_ HOK.out) HQ.out (by exact Cod.bel HU.out (bel_then hb1w4 (by repeat (first | with_reducible exact Below.refl _ _ | with_reducible assumption | with_reducible refine bel_alloc ?_ _ | with_reducible refine bel_drew ?_ | with_reducible refine bel_drewN ?_ _ | (with_reducible refine bel_set ?_ ?_ _; rotate_left; ((try simp); (try omega))))))) HP.out).mono ?_; rw [hf2]; rintro e w5 ⟨rfl, hb5⟩; have hW5 : Below w4.heap.size w4 w5 := (bel_then (by repeat (first | with_reducible exact Below.refl _ _ | with_reducible assumption | with_reducible refine bel_alloc ?_ _ | with_reducible refine bel_drew ?_ | with_reducible refine bel_drewN ?_ _ | (with_reducible refine bel_set ?_ ?_ _; rotate_left; ((try simp); (try omega))))) hb5); clear hb5)
          all_goals (go_meet; case rel => exact ⟨rfl, (by repeat (first | with_reducible exact Below.refl _ _ | with_reducible assumption | with_reducible refine bel_alloc ?_ _ | with_reducible refine bel_drew ?_ | with_reducible refine bel_drewN ?_ _ | (with_reducible refine bel_set ?_ ?_ _; rotate_left; ((try simp); (try omega)))))⟩)
        · go_wp2_with (go_at_call 20; refine (implCanRead_any _ ⟨a, b, c, m⟩ [] _ ⟨sty, sst, sve, sbo, true⟩ _ _ (by exact TReq.mk_ HOK.out) HQ.out (by exact Cod.bel HU.out (bel_then hb1w4 (by repeat (first | with_reducible exact Below.refl _ _ | with_reducible assumption | with_reducible refine bel_alloc ?_ _ | with_reducible refine bel_drew ?_ | with_reducible refine bel_drewN ?_ _ | (with_reducible refine bel_set ?_ ?_ _; rotate_left; ((try simp); (try omega))))))) HP.out).mono ?_; rw [hf2]; rintro e w5 ⟨rfl, hb5⟩; have hW5 : Below w4.heap.size w4 w5 := (bel_then (by repeat (first | with_reducible exact Below.refl _ _ | with_reducible assumption | with_reducible refine bel_alloc ?_ _ | with_reducible refine bel_drew ?_ | with_reducible refine bel_drewN ?_ _ | (with_reducible refine bel_set ?_ ?_ _; rotate_left; ((try simp); (try omega))))) hb5); clear hb5)
          all_goals (go_meet; case rel => exact ⟨rfl, (by repeat (first | with_reducible exact Below.refl _ _ | with_reducible assumption | with_reducible refine bel_alloc ?_ _ | with_reducible refine bel_drew ?_ | with_reducible refine bel_drewN ?_ _ | (with_reducible refine bel_set ?_ ?_ _; rotate_left; ((try simp); (try omega)))))⟩)
      · obtain rfl : z = ⟨1, sst, sve, sbo, ssh⟩ := hf1
        have e1 : (a.toList == b.toList) = true := hf0
        have e2 : (a.toList != b.toList) = false := by simp [bne, e1]
        clear hf0
        simp only at k9 k10 k11 k12 k13
        go_wp2_with (go_at_call 20; refine (implCanRead_any _ ⟨a, b, c, m⟩ [] _ ⟨sty, sst, sve, sbo, ssh⟩ _ _ (by exact TReq.mk_ HOK.out) HQ.out (by exact Cod.bel HU.out (bel_then hb1w4 (by repeat (first | with_reducible exact Below.refl _ _ | with_reducible assumption | with_reducible refine bel_alloc ?_ _ | with_reducible refine bel_drew ?_ | with_reducible refine bel_drewN ?_ _ | (with_reducible refine bel_set ?_ ?_ _; rotate_left; ((try simp); (try omega))))))) HP.out).mono ?_; rw [hf2]; rintro e w5 ⟨rfl, hb5⟩; have hW5 : Below w4.heap.size w4 w5 := (bel_then (by repeat (first | with_reducible exact Below.refl _ _ | with_reducible assumption | with_reducible refine bel_alloc ?_ _ | with_reducible refine bel_drew ?_ | with_reducible refine bel_drewN ?_ _ | (with_reducible refine bel_set ?_ ?_ _; rotate_left; ((try simp); (try omega))))) hb5); clear hb5)
        all_goals (go_meet; case rel => exact ⟨rfl, (by repeat (first | with_reducible exact Below.refl _ _ | with_reducible assumption | with_reducible refine bel_alloc ?_ _ | with_reducible refine bel_drew ?_ | with_reducible refine bel_drewN ?_ _ | (with_reducible refine bel_set ?_ ?_ _; rotate_left; ((try simp); (try omega)))))⟩)
      · obtain rfl : z = ⟨2, sst, sve, sbo, true⟩ := hf1
        simp only at k9 k10 k11 k12 k13 hf0
        subst hf0
        go_wp2_with (go_at_call 20; refine (implCanRead_any _ ⟨a, b, c, m⟩ [] _ ⟨sty, sst, sve, sbo, true⟩ _ _ (by exact TReq.mk_ HOK.out) HQ.out (by exact Cod.bel HU.out (bel_then hb1w4 (by repeat (first | with_reducible exact Below.refl _ _ | with_reducible assumption | with_reducible refine bel_alloc ?_ _ | with_reducible refine bel_drew ?_ | with_reducible refine bel_drewN ?_ _ | (with_reducible refine bel_set ?_ ?_ _; rotate_left; ((try simp); (try omega))))))) HP.out).mono ?_; rw [hf2]; rintro e w5 ⟨rfl, hb5⟩; have hW5 : Below w4.heap.size w4 w5 := (bel_then (by repeat (first | with_reducible exact Below.refl _ _ | with_reducible assumption | with_reducible refine bel_alloc ?_ _ | with_reducible refine bel_drew ?_ | with_reducible refine bel_drewN ?_ _ | (with_reducible refine bel_set ?_ ?_ _; rotate_left; ((try simp); (try omega))))) hb5); clear hb5)
        all_goals (go_meet; case rel => exact ⟨rfl, (by repeat (first | with_reducible exact Below.refl _ _ | with_reducible assumption | with_reducible refine bel_alloc ?_ _ | with_reducible refine bel_drew ?_ | with_reducible refine bel_drewN ?_ _ | (with_reducible refine bel_set ?_ ?_ _; rotate_left; ((try simp); (try omega)))))⟩)
      · obtain rfl : z = ⟨3, 0, 0, [], false⟩ := hf1
        simp only at k9 k10 k11 k12 k13
        cases ssh
        · go_wp2_with (go_at_call 20; refine (implCanRead_any _ ⟨a, b, c, m⟩ [] _ ⟨sty, sst, sve, sbo, false⟩ _ _ (by exact TReq.mk_ HOK.out) HQ.out (by exact Cod.bel HU.out (bel_then hb1w4 (by repeat (first | with_reducible exact Below.refl _ _ | with_reducible assumption | with_reducible refine bel_alloc ?_ _ | with_reducible refine bel_drew ?_ | with_reducible refine bel_drewN ?_ _ | (with_reducible refine bel_set ?_ ?_ _; rotate_left; ((try simp); (try omega))))))) HP.out).mono ?_; rw [hf2]; rintro e w5 ⟨rfl, hb5⟩; have hW5 : Below w4.heap.size w4 w5 := (bel_then (by repeat (first | with_reducible exact Below.refl _ _ | with_reducible assumption | with_reducible refine bel_alloc ?_ _ | with_reducible refine bel_drew ?_ | with_reducible refine bel_drewN ?_ _ | (with_reducible refine bel_set ?_ ?_ _; rotate_left; ((try simp); (try omega))))) hb5); clear hb5)
          all_goals (go_meet; case rel => exact ⟨rfl, (by repeat (first | with_reducible exact Below.refl _ _ | with_reducible assumption | with_reducible refine bel_alloc ?_ _ | with_reducible refine bel_drew ?_ | with_reducible refine bel_drewN ?_ _ | (with_reducible refine bel_set ?_ ?_ _; rotate_left; ((try simp); (try omega)))))⟩)
        · go_wp2_with (go_at_call 20; refine (implCanRead_any _ ⟨a, b, c, m⟩ [] _ ⟨sty, sst, sve, sbo, true⟩ _ _ (by exact TReq.mk_ HOK.out) HQ.out (by exact Cod.bel HU.out (bel_then hb1w4 (by repeat (first | with_reducible exact Below.refl _ _ | with_reducible assumption | with_reducible refine bel_alloc ?_ _ | with_reducible refine bel_drew ?_ | with_reducible refine bel_drewN ?_ _ | (with_reducible refine bel_set ?_ ?_ _; rotate_left; ((try simp); (try omega))))))) HP.out).mono ?_; rw [hf2]; rintro e w5 ⟨rfl, hb5⟩; have hW5 : Below w4.heap.size w4 w5 := (bel_then (by repeat (first | with_reducible exact Below.refl _ _ | with_reducible assumption | with_reducible refine bel_alloc ?_ _ | with_reducible refine bel_drew ?_ | with_reducible refine bel_drewN ?_ _ | (with_reducible refine bel_set ?_ ?_ _; rotate_left; ((try simp); (try omega))))) hb5); clear hb5)
          all_goals (go_meet; case rel => exact ⟨rfl, (by repeat (first | with_reducible exact Below.refl _ _ | with_reducible assumption | with_reducible refine bel_alloc ?_ _ | with_reducible refine bel_drew ?_ | with_reducible refine bel_drewN ?_ _ | (with_reducible refine bel_set ?_ ?_ _; rotate_left; ((try simp); (try omega)))))⟩)
    case rest =>
      obtain ⟨rfl, hbc⟩ := hcut
      generalize wc = wd at *
      obtain ⟨hcc, hff, hzc⟩ := bcell hbc
      have hwzc : w1.heap.size + 1 < wd.heap.size ∧ w2.heap.size < wd.heap.size ∧ w1.heap.size < wd.heap.size := by omega
      have hbwc : Below w.heap.size w wd := bel_then hb4w hbc
      have hb1c : Below w1.heap.size w1 wd := bel_then hb1w4 hbc
      have hb2c : Below w2.heap.size w2 wd := bel_then hb2w4 hbc
      clear hbc hb4w hb1w4 hb2w4
      go_upto_region 10 with (fail)
      generalize hX : World.alloc wd _ = X
      have hXs : wd.heap.size < X.heap.size := by rw [← hX]; clear hX; simp
      have hbwX : Below w.heap.size w X := by rw [← hX]; exact bel_alloc hbwc _
      have hb1X : Below w1.heap.size w1 X := by rw [← hX]; exact bel_alloc hb1c _
      have hb2X : Below w2.heap.size w2 X := by rw [← hX]; exact bel_alloc hb2c _
      have x0 : X.cell? ⟨w1.heap.size, 0, none⟩ = some (.string a) := by rw [← hX]; clear hX; go_simp
      have x1 : X.cell? ⟨w1.heap.size, 1, none⟩ = some (.string b) := by rw [← hX]; clear hX; go_simp
      have x2 : X.cell? ⟨w1.heap.size, 2, none⟩ = some (.string c) := by rw [← hX]; clear hX; go_simp
      have x3 : X.cell? ⟨w1.heap.size, 3, none⟩ = some (.int .i64 m) := by rw [← hX]; clear hX; go_simp
      have x4 : X.cell? ⟨w1.heap.size + 1, 0, none⟩ = some (.int .i64 s.type) := by rw [← hX]; clear hX; go_simp
      have x5 : X.cell? ⟨w1.heap.size + 1, 1, none⟩ = some (.int .i64 s.status) := by rw [← hX]; clear hX; go_simp
      have x6 : X.cell? ⟨w1.heap.size + 1, 2, none⟩ = some (.int .i64 s.ver) := by rw [← hX]; clear hX; go_simp
      have x7 : X.cell? ⟨w1.heap.size + 1, 3, none⟩ = some (.slice U s.body.length cu) := by rw [← hX]; clear hX; go_simp
      have x8 : X.cell? ⟨w1.heap.size + 1, 4, none⟩ = some (.bool s.shares) := by rw [← hX]; clear hX; go_simp
      have x9 : X.cell? ⟨w2.heap.size, 0, none⟩ = some (.int .i64 z.type) := by rw [← hX]; clear hX; go_simp
      have x10 : X.cell? ⟨w2.heap.size, 1, none⟩ = some (.int .i64 z.status) := by rw [← hX]; clear hX; go_simp
      have x11 : X.cell? ⟨w2.heap.size, 2, none⟩ = some (.int .i64 z.ver) := by rw [← hX]; clear hX; go_simp
      have x12 : X.cell? ⟨w2.heap.size, 3, none⟩ = some (.slice Z z.body.length cz) := by rw [← hX]; clear hX; go_simp
      have x13 : X.cell? ⟨w2.heap.size, 4, none⟩ = some (.bool z.shares) := by rw [← hX]; clear hX; go_simp
      have x14 : X.cell? ⟨wd.heap.size, 0, none⟩ = some (.int .i64 s.type) := by rw [← hX]; clear hX; go_simp
      have x15 : X.cell? ⟨wd.heap.size, 1, none⟩ = some (.int .i64 s.status) := by rw [← hX]; clear hX; go_simp
      have x16 : X.cell? ⟨wd.heap.size, 2, none⟩ = some (.int .i64 s.ver) := by rw [← hX]; clear hX; go_simp
      have x17 : X.cell? ⟨wd.heap.size, 3, none⟩ = some (.slice U s.body.length cu) := by rw [← hX]; clear hX; go_simp
      have x18 : X.cell? ⟨wd.heap.size, 4, none⟩ = some (.bool s.shares) := by rw [← hX]; clear hX; go_simp
      have xz1 : X.frozen? ⟨wd.heap.size, 1, none⟩ = false := by rw [← hX]; clear hX; go_simp
      have xz3 : X.frozen? ⟨wd.heap.size, 3, none⟩ = false := by rw [← hX]; clear hX; go_simp
      clear hX hcc hff k0 k1 k2 k3 k4 k5 k6 k7 k8 k9 k10 k11 k12 k13 q0 q1 q2 q3 q4 q5 q6 q7 q8 q9 q10 q11 q12 q13
      have hrow : cUS.rep ((X.alloc (.cells #[] 5)).alloc (.cells #[.int .u8 1, .int .u8 2, .int .u8 3] 5)) [.slice (some ⟨X.heap.size + 1, 0, none⟩) 3 3] [1, 2, 3] [X.heap.size + 1] := by
        have h9 := rowU (X.alloc (.cells #[] 5)) 5 [1, 2, 3] 3 rfl (by simp) (by decide)
        rw [World.size_alloc] at h9
        exact h9
      have HROW := Lib.hid hrow
      clear hrow
      go_wp2_with (at_builtin; refine wpList_app (c := cU) (xs := []) (ys := [1, 2, 3]) (Fi := []) (Fy := []) _ rfl _ _ _ rfl i0 _ _ Try.underlying22 hi0 hz0 hz1 hz2 rfl (by decide) (v := .slice (some _) 0 0) rfl (Own.empty _) (.slice (some ⟨X.heap.size + 1, 0, none⟩) 3 3) rfl (AppSrc.flat (hw := by decide) (hw2 := by decide) flat_U HROW.out) (by unfold maxLen; simp) (by simp) (Nat.le_refl _) (by simp [ownB]) ?_)
      intro v5 w5 ho5 hg5 hat5
      replace ho5 : Own cU 5 _ w5 v5 [1, 2, 3] [] := ho5
      obtain ⟨V, cv, e5⟩ := ho5.slice
      subst e5
      have hb5 : Below _ _ w5 := (Below.refl _ _).grown hg5 (Nat.le_refl _) (by simp [ownB])
      have hbX5 : Below X.heap.size X w5 := bel_then (by repeat (first | with_reducible exact Below.refl _ _ | with_reducible assumption | with_reducible refine bel_alloc ?_ _ | with_reducible refine bel_drew ?_ | with_reducible refine bel_drewN ?_ _ | (with_reducible refine bel_set ?_ ?_ _; rotate_left; ((try simp); (try omega))))) hb5
      obtain ⟨G5, n5, f5, g5⟩ := ho5.fresh (hw := by decide) (hw2 := by decide)
      have f5' : Fresh X.heap.size G5 := f5.mono (by (try simp); (try omega))
      have HN5 := Lib.hid n5
      have HF5 := Lib.hid f5'
      obtain ⟨hc5, hf5, hzz5⟩ := bcell hbX5
      have hw5s : w1.heap.size < w5.heap.size ∧ w1.heap.size + 1 < w5.heap.size ∧ w2.heap.size < w5.heap.size ∧ wd.heap.size < w5.heap.size := by omega
      have hwXs : w1.heap.size < X.heap.size ∧ w1.heap.size + 1 < X.heap.size ∧ w2.heap.size < X.heap.size := by omega
      have hbw5 : Below w.heap.size w w5 := bel_then hbwX hbX5
      have hb15 : Below w1.heap.size w1 w5 := bel_then hb1X hbX5
      have hb25 : Below w2.heap.size w2 w5 := bel_then hb2X hbX5
      clear hb5 hbX5 hg5 hat5 ho5 n5 f5 g5 f5' hbwX hb1X hb2X
      go_upto_region 12 with (fail)
      generalize hY : World.setCell _ _ _ = Y9
      have hYs : w1.heap.size < Y9.heap.size ∧ w1.heap.size + 1 < Y9.heap.size ∧ w2.heap.size < Y9.heap.size ∧ wd.heap.size < Y9.heap.size := by rw [← hY]; clear hY; simp; omega
      have hbwY : Below w.heap.size w Y9 := by rw [← hY]; clear hY; exact (by repeat (first | with_reducible exact Below.refl _ _ | with_reducible assumption | with_reducible refine bel_alloc ?_ _ | with_reducible refine bel_drew ?_ | with_reducible refine bel_drewN ?_ _ | (with_reducible refine bel_set ?_ ?_ _; rotate_left; ((try simp); (try omega)))))
      have hb1Y : Below w1.heap.size w1 Y9 := by rw [← hY]; clear hY; repeat (first | with_reducible assumption | (with_reducible refine bel_set ?_ ?_ _; rotate_left; ((try simp); (try omega))))
      have hb2Y : Below w2.heap.size w2 Y9 := by rw [← hY]; clear hY; repeat (first | with_reducible assumption | (with_reducible refine bel_set ?_ ?_ _; rotate_left; ((try simp); (try omega))))
      have y0 : Y9.cell? ⟨w1.heap.size, 0, none⟩ = some (.string a) := by rw [← hY]; clear hY; go_simp
      have y1 : Y9.cell? ⟨w1.heap.size, 1, none⟩ = some (.string b) := by rw [← hY]; clear hY; go_simp
      have y2 : Y9.cell? ⟨w1.heap.size, 2, none⟩ = some (.string c) := by rw [← hY]; clear hY; go_simp
      have y3 : Y9.cell? ⟨w1.heap.size, 3, none⟩ = some (.int .i64 m) := by rw [← hY]; clear hY; go_simp
      have y4 : Y9.cell? ⟨w1.heap.size + 1, 0, none⟩ = some (.int .i64 s.type) := by rw [← hY]; clear hY; go_simp
      have y5 : Y9.cell? ⟨w1.heap.size + 1, 1, none⟩ = some (.int .i64 s.status) := by rw [← hY]; clear hY; go_simp
      have y6 : Y9.cell? ⟨w1.heap.size + 1, 2, none⟩ = some (.int .i64 s.ver) := by rw [← hY]; clear hY; go_simp
      have y7 : Y9.cell? ⟨w1.heap.size + 1, 3, none⟩ = some (.slice U s.body.length cu) := by rw [← hY]; clear hY; go_simp
      have y8 : Y9.cell? ⟨w1.heap.size + 1, 4, none⟩ = some (.bool s.shares) := by rw [← hY]; clear hY; go_simp
      have y9 : Y9.cell? ⟨w2.heap.size, 0, none⟩ = some (.int .i64 z.type) := by rw [← hY]; clear hY; go_simp
      have y10 : Y9.cell? ⟨w2.heap.size, 1, none⟩ = some (.int .i64 z.status) := by rw [← hY]; clear hY; go_simp
      have y11 : Y9.cell? ⟨w2.heap.size, 2, none⟩ = some (.int .i64 z.ver) := by rw [← hY]; clear hY; go_simp
      have y12 : Y9.cell? ⟨w2.heap.size, 3, none⟩ = some (.slice Z z.body.length cz) := by rw [← hY]; clear hY; go_simp
      have y13 : Y9.cell? ⟨w2.heap.size, 4, none⟩ = some (.bool z.shares) := by rw [← hY]; clear hY; go_simp
      have y14 : Y9.cell? ⟨wd.heap.size, 0, none⟩ = some (.int .i64 s.type) := by rw [← hY]; clear hY; go_simp
      have y15 : Y9.cell? ⟨wd.heap.size, 1, none⟩ = some (.int .i64 404) := by rw [← hY]; clear hY; go_simp
      have y16 : Y9.cell? ⟨wd.heap.size, 2, none⟩ = some (.int .i64 s.ver) := by rw [← hY]; clear hY; go_simp
      have y17 : Y9.cell? ⟨wd.heap.size, 3, none⟩ = some (.slice V 3 cv) := by rw [← hY]; clear hY; go_simp
      have y18 : Y9.cell? ⟨wd.heap.size, 4, none⟩ = some (.bool s.shares) := by rw [← hY]; clear hY; go_simp
      have hnG : ∀ b, b ∈ G5 → X.heap.size ≤ b := HF5.out.1
      have hO5 : cUS.rep Y9 [.slice V 3 cv] [1, 2, 3] G5 := by rw [← hY]; clear hY; have hn5 : cUS.rep w5 [.slice V 3 cv] [1, 2, 3] G5 := HN5.out; exact (by repeat (first | with_reducible exact hn5 | with_reducible refine Cod.allocA ?_ _ | with_reducible refine Cod.drewA ?_ | with_reducible refine Cod.drewNA ?_ _ | ((with_reducible refine Cod.setA ?_ ?_ _); rotate_left; ((intro hm9; have hm8 := hnG _ hm9; (try simp at hm8); (try omega))))))
      clear hY hnG hc5 hf5 hbw5 hb15 hb25 x0 x1 x2 x3 x4 x5 x6 x7 x8 x9 x10 x11 x12 x13 x14 x15 x16 x17 x18 xz1 xz3
      have HO := Lib.hid (show cResp.rep Y9 (#[.int .i64 s.type, .int .i64 404, .int .i64 s.ver, .slice V 3 cv, .bool s.shares] : Array Value).toList (otherOf s) G5 from TResp.mk_ (x := otherOf s) ⟨HSOK.out.h0, show -9223372036854775808 ≤ (404 : Int) ∧ (404 : Int) ≤ 9223372036854775807 by decide, HSOK.out.h2⟩ hO5)
      have HOP := Lib.hid (show cResp.sz (otherOf s) ≤ 1048576 from cResp_small (show 3 ≤ 1000 by decide))
      have HSY := Lib.hid (show cResp.rep Y9 (#[.int .i64 s.type, .int .i64 s.status, .int .i64 s.ver, .slice U s.body.length cu, .bool s.shares] : Array Value).toList s G from Cod.bel HU.out hb1Y)
      have HZY := Lib.hid (Cod.bel HR2.out hb2Y)
      clear hO5 hb1Y hb2Y
      go_cut [7] from 8 to 92 (fun v7 wq => v7 = .bool (hiddenB ⟨a, b, c, m⟩ s) ∧ Below Y9.heap.size Y9 wq)
      case first =>
        obtain ⟨rq, hrq⟩ : ∃ rq, isRequest ⟨a, b, c, m⟩ = rq := ⟨_, rfl⟩
        have HRQ := Lib.hid hrq
        clear hrq
        go_wp2_with (first
          | (go_at_call 21; refine (specRequestCells a b c m _ HOK.out.h0 HOK.out.h1 HOK.out.h2 HOK.out.h3).mono ?_; rw [HRQ.out]; rintro e wk ⟨rfl, hb⟩; obtain ⟨hcc, hff, hzz⟩ := bcell hb; have hB : Below Y9.heap.size Y9 wk := (bel_then (by repeat (first | with_reducible exact Below.refl _ _ | with_reducible assumption | with_reducible refine bel_alloc ?_ _ | with_reducible refine bel_drew ?_ | with_reducible refine bel_drewN ?_ _ | (with_reducible refine bel_set ?_ ?_ _; rotate_left; ((try simp); (try omega))))) hb); have hs1 : w1.heap.size < wk.heap.size ∧ w1.heap.size + 1 < wk.heap.size ∧ wd.heap.size < wk.heap.size := (by omega); clear hb)
          | (go_at_call_of 22 (Value.agg #[.int .i64 s.type, .int .i64 s.status, .int .i64 s.ver, .slice U s.body.length cu, .bool s.shares]); refine (specIsResponse_any _ s _ _ (by exact Cod.bel HSY.out (by repeat (first | with_reducible exact Below.refl _ _ | with_reducible assumption | with_reducible refine bel_alloc ?_ _ | with_reducible refine bel_drew ?_ | with_reducible refine bel_drewN ?_ _ | (with_reducible refine bel_set ?_ ?_ _; rotate_left; ((try simp); (try omega)))))) HP.out).mono ?_; rintro e wk ⟨rfl, hb⟩; obtain ⟨hcc, hff, hzz⟩ := bcell hb; have hB : Below Y9.heap.size Y9 wk := (bel_then (by repeat (first | with_reducible exact Below.refl _ _ | with_reducible assumption | with_reducible refine bel_alloc ?_ _ | with_reducible refine bel_drew ?_ | with_reducible refine bel_drewN ?_ _ | (with_reducible refine bel_set ?_ ?_ _; rotate_left; ((try simp); (try omega))))) hb); have hs1 : w1.heap.size < wk.heap.size ∧ w1.heap.size + 1 < wk.heap.size ∧ wd.heap.size < wk.heap.size := (by omega); clear hb)
          | (go_at_call_of 22 (Value.agg #[.int .i64 s.type, .int .i64 404, .int .i64 s.ver, .slice V 3 cv, .bool s.shares]); refine (specIsResponse_any _ (otherOf s) _ _ (by exact Cod.bel HO.out (by repeat (first | with_reducible exact Below.refl _ _ | with_reducible assumption | with_reducible refine bel_alloc ?_ _ | with_reducible refine bel_drew ?_ | with_reducible refine bel_drewN ?_ _ | (with_reducible refine bel_set ?_ ?_ _; rotate_left; ((try simp); (try omega)))))) HOP.out).mono ?_; rintro e wk ⟨rfl, hb⟩; obtain ⟨hcc, hff, hzz⟩ := bcell hb; have hB : Below Y9.heap.size Y9 wk := (bel_then (by repeat (first | with_reducible exact Below.refl _ _ | with_reducible assumption | with_reducible refine bel_alloc ?_ _ | with_reducible refine bel_drew ?_ | with_reducible refine bel_drewN ?_ _ | (with_reducible refine bel_set ?_ ?_ _; rotate_left; ((try simp); (try omega))))) hb); have hs1 : w1.heap.size < wk.heap.size ∧ w1.heap.size + 1 < wk.heap.size ∧ wd.heap.size < wk.heap.size := (by omega); clear hb))
        all_goals (go_meet; case rel => exact ⟨congrArg Value.bool (by rw [hiddenB_eq HRQ.out]; simp [*]), (by repeat (first | with_reducible exact Below.refl _ _ | with_reducible assumption | with_reducible refine bel_alloc ?_ _ | with_reducible refine bel_drew ?_ | with_reducible refine bel_drewN ?_ _ | (with_reducible refine bel_set ?_ ?_ _; rotate_left; ((try simp); (try omega)))))⟩)
      case rest =>
        obtain ⟨rfl, hbD⟩ := hcut
        have hzD := hbD.size
        have hS2 : ∀ w9, Below Y9.heap.size Y9 w9 → w9.cell? ⟨w1.heap.size, 0, none⟩ = some (.string a) ∧ w9.cell? ⟨w1.heap.size, 1, none⟩ = some (.string b) ∧ w9.cell? ⟨w1.heap.size, 2, none⟩ = some (.string c) ∧ w9.cell? ⟨w1.heap.size, 3, none⟩ = some (.int .i64 m) ∧ w9.cell? ⟨w1.heap.size + 1, 0, none⟩ = some (.int .i64 s.type) ∧ w9.cell? ⟨w1.heap.size + 1, 1, none⟩ = some (.int .i64 s.status) ∧ w9.cell? ⟨w1.heap.size + 1, 2, none⟩ = some (.int .i64 s.ver) ∧ w9.cell? ⟨w1.heap.size + 1, 3, none⟩ = some (.slice U s.body.length cu) ∧ w9.cell? ⟨w1.heap.size + 1, 4, none⟩ = some (.bool s.shares) ∧ w9.cell? ⟨w2.heap.size, 0, none⟩ = some (.int .i64 z.type) ∧ w9.cell? ⟨w2.heap.size, 1, none⟩ = some (.int .i64 z.status) ∧ w9.cell? ⟨w2.heap.size, 2, none⟩ = some (.int .i64 z.ver) ∧ w9.cell? ⟨w2.heap.size, 3, none⟩ = some (.slice Z z.body.length cz) ∧ w9.cell? ⟨w2.heap.size, 4, none⟩ = some (.bool z.shares) ∧ w9.cell? ⟨wd.heap.size, 0, none⟩ = some (.int .i64 s.type) ∧ w9.cell? ⟨wd.heap.size, 1, none⟩ = some (.int .i64 404) ∧ w9.cell? ⟨wd.heap.size, 2, none⟩ = some (.int .i64 s.ver) ∧ w9.cell? ⟨wd.heap.size, 3, none⟩ = some (.slice V 3 cv) ∧ w9.cell? ⟨wd.heap.size, 4, none⟩ = some (.bool s.shares) := fun w9 hb => ⟨(hb.cell (p := ⟨w1.heap.size, 0, none⟩) (by (try simp); omega)).trans y0, (hb.cell (p := ⟨w1.heap.size, 1, none⟩) (by (try simp); omega)).trans y1, (hb.cell (p := ⟨w1.heap.size, 2, none⟩) (by (try simp); omega)).trans y2, (hb.cell (p := ⟨w1.heap.size, 3, none⟩) (by (try simp); omega)).trans y3, (hb.cell (p := ⟨w1.heap.size + 1, 0, none⟩) (by (try simp); omega)).trans y4, (hb.cell (p := ⟨w1.heap.size + 1, 1, none⟩) (by (try simp); omega)).trans y5, (hb.cell (p := ⟨w1.heap.size + 1, 2, none⟩) (by (try simp); omega)).trans y6, (hb.cell (p := ⟨w1.heap.size + 1, 3, none⟩) (by (try simp); omega)).trans y7, (hb.cell (p := ⟨w1.heap.size + 1, 4, none⟩) (by (try simp); omega)).trans y8, (hb.cell (p := ⟨w2.heap.size, 0, none⟩) (by (try simp); omega)).trans y9, (hb.cell (p := ⟨w2.heap.size, 1, none⟩) (by (try simp); omega)).trans y10, (hb.cell (p := ⟨w2.heap.size, 2, none⟩) (by (try simp); omega)).trans y11, (hb.cell (p := ⟨w2.heap.size, 3, none⟩) (by (try simp); omega)).trans y12, (hb.cell (p := ⟨w2.heap.size, 4, none⟩) (by (try simp); omega)).trans y13, (hb.cell (p := ⟨wd.heap.size, 0, none⟩) (by (try simp); omega)).trans y14, (hb.cell (p := ⟨wd.heap.size, 1, none⟩) (by (try simp); omega)).trans y15, (hb.cell (p := ⟨wd.heap.size, 2, none⟩) (by (try simp); omega)).trans y16, (hb.cell (p := ⟨wd.heap.size, 3, none⟩) (by (try simp); omega)).trans y17, (hb.cell (p := ⟨wd.heap.size, 4, none⟩) (by (try simp); omega)).trans y18⟩
        have h76 : ∀ x : TResp, storedSize x true = 76 := fun x => rfl
        have hsl : s.body.length ≤ 256 := hul
        have h16 : storedSize s false = 16 + (s.body.length : Int) := rfl
        have hS3 : ∀ w9, Below wc.heap.size wc w9 → w9.cell? ⟨w1.heap.size, 0, none⟩ = some (.string a) ∧ w9.cell? ⟨w1.heap.size, 1, none⟩ = some (.string b) ∧ w9.cell? ⟨w1.heap.size, 2, none⟩ = some (.string c) ∧ w9.cell? ⟨w1.heap.size, 3, none⟩ = some (.int .i64 m) ∧ w9.cell? ⟨w1.heap.size + 1, 0, none⟩ = some (.int .i64 s.type) ∧ w9.cell? ⟨w1.heap.size + 1, 1, none⟩ = some (.int .i64 s.status) ∧ w9.cell? ⟨w1.heap.size + 1, 2, none⟩ = some (.int .i64 s.ver) ∧ w9.cell? ⟨w1.heap.size + 1, 3, none⟩ = some (.slice U s.body.length cu) ∧ w9.cell? ⟨w1.heap.size + 1, 4, none⟩ = some (.bool s.shares) ∧ w9.cell? ⟨w2.heap.size, 0, none⟩ = some (.int .i64 z.type) ∧ w9.cell? ⟨w2.heap.size, 1, none⟩ = some (.int .i64 z.status) ∧ w9.cell? ⟨w2.heap.size, 2, none⟩ = some (.int .i64 z.ver) ∧ w9.cell? ⟨w2.heap.size, 3, none⟩ = some (.slice Z z.body.length cz) ∧ w9.cell? ⟨w2.heap.size, 4, none⟩ = some (.bool z.shares) ∧ w9.cell? ⟨wd.heap.size, 0, none⟩ = some (.int .i64 s.type) ∧ w9.cell? ⟨wd.heap.size, 1, none⟩ = some (.int .i64 404) ∧ w9.cell? ⟨wd.heap.size, 2, none⟩ = some (.int .i64 s.ver) ∧ w9.cell? ⟨wd.heap.size, 3, none⟩ = some (.slice V 3 cv) ∧ w9.cell? ⟨wd.heap.size, 4, none⟩ = some (.bool s.shares) := fun w9 hb => hS2 w9 (bel_then hbD hb)
        have hwrp : IntKind.i64.wrap (16 + (s.body.length : Int)) = 16 + (s.body.length : Int) := by rw [IntKind.wrap_i64]; omega
        cases hh : hiddenB ⟨a, b, c, m⟩ s
        case false =>
          go_wp2_with fail
          refine wp_region_held_drew (S := (fun w9 => w9.cell? ⟨w1.heap.size, 0, none⟩ = some (.string a) ∧ w9.cell? ⟨w1.heap.size, 1, none⟩ = some (.string b) ∧ w9.cell? ⟨w1.heap.size, 2, none⟩ = some (.string c) ∧ w9.cell? ⟨w1.heap.size, 3, none⟩ = some (.int .i64 m) ∧ w9.cell? ⟨w1.heap.size + 1, 0, none⟩ = some (.int .i64 s.type) ∧ w9.cell? ⟨w1.heap.size + 1, 1, none⟩ = some (.int .i64 s.status) ∧ w9.cell? ⟨w1.heap.size + 1, 2, none⟩ = some (.int .i64 s.ver) ∧ w9.cell? ⟨w1.heap.size + 1, 3, none⟩ = some (.slice U s.body.length cu) ∧ w9.cell? ⟨w1.heap.size + 1, 4, none⟩ = some (.bool s.shares) ∧ w9.cell? ⟨w2.heap.size, 0, none⟩ = some (.int .i64 z.type) ∧ w9.cell? ⟨w2.heap.size, 1, none⟩ = some (.int .i64 z.status) ∧ w9.cell? ⟨w2.heap.size, 2, none⟩ = some (.int .i64 z.ver) ∧ w9.cell? ⟨w2.heap.size, 3, none⟩ = some (.slice Z z.body.length cz) ∧ w9.cell? ⟨w2.heap.size, 4, none⟩ = some (.bool z.shares) ∧ w9.cell? ⟨wd.heap.size, 0, none⟩ = some (.int .i64 s.type) ∧ w9.cell? ⟨wd.heap.size, 1, none⟩ = some (.int .i64 404) ∧ w9.cell? ⟨wd.heap.size, 2, none⟩ = some (.int .i64 s.ver) ∧ w9.cell? ⟨wd.heap.size, 3, none⟩ = some (.slice V 3 cv) ∧ w9.cell? ⟨wd.heap.size, 4, none⟩ = some (.bool s.shares))) (by kernel_rfl) (by (try dsimp only); exact hS3 _ (by repeat (first | with_reducible exact Below.refl _ _ | with_reducible assumption | with_reducible refine bel_alloc ?_ _ | with_reducible refine bel_drew ?_ | with_reducible refine bel_drewN ?_ _ | (with_reducible refine bel_set ?_ ?_ _; rotate_left; ((try simp); (try omega)))))) (fun hHeld => ?_)
          refine take_read (i := 0) 93 (v := ?x2_v0) rfl rfl (by kernel_rfl) (by kernel_rfl) (by kernel_rfl) (fun _ _ _ h => h) (by rfl) ?x2_hy0 (by assumption) ?x2_rest0
          case x2_hy0 => (intro w hSw; (try dsimp only at hSw); go_simp; (try with_reducible rfl))
          try simp only [Act.put, List.setIfInBounds_toArray, List.set_cons_zero, List.set_cons_succ]
          refine take_read (i := 1) 94 (v := ?x2_v1) rfl rfl (by kernel_rfl) (by kernel_rfl) (by kernel_rfl) (fun _ _ _ h => h) (by rfl) ?x2_hy1 (by assumption) ?x2_rest1
          case x2_hy1 => (intro w hSw; (try dsimp only at hSw); go_simp; (try with_reducible rfl))
          try simp only [Act.put, List.setIfInBounds_toArray, List.set_cons_zero, List.set_cons_succ]
          refine take_read (i := 2) 95 (v := ?x2_v2) rfl rfl (by kernel_rfl) (by kernel_rfl) (by kernel_rfl) (fun _ _ _ h => h) (by rfl) ?x2_hy2 (by assumption) ?x2_rest2
          case x2_hy2 => (intro w hSw; (try dsimp only at hSw); go_simp; (try with_reducible rfl))
          try simp only [Act.put, List.setIfInBounds_toArray, List.set_cons_zero, List.set_cons_succ]
          refine take_skip (i := 3) 96 rfl rfl (by kernel_rfl) (by kernel_rfl) (by kernel_rfl) (fun _ _ _ h => h) (by rfl) (by assumption) ?_
          try simp only [Act.put, List.setIfInBounds_toArray, List.set_cons_zero, List.set_cons_succ]
          refine take_skip (i := 4) 97 rfl rfl (by kernel_rfl) (by kernel_rfl) (by kernel_rfl) (fun _ _ _ h => h) (by rfl) (by assumption) ?_
          try simp only [Act.put, List.setIfInBounds_toArray, List.set_cons_zero, List.set_cons_succ]
          refine take_skip (i := 5) 98 rfl rfl (by kernel_rfl) (by kernel_rfl) (by kernel_rfl) (fun _ _ _ h => h) (by rfl) (by assumption) ?_
          try simp only [Act.put, List.setIfInBounds_toArray, List.set_cons_zero, List.set_cons_succ]
          refine take_skip (i := 6) 99 rfl rfl (by kernel_rfl) (by kernel_rfl) (by kernel_rfl) (fun _ _ _ h => h) (by rfl) (by assumption) ?_
          try simp only [Act.put, List.setIfInBounds_toArray, List.set_cons_zero, List.set_cons_succ]
          refine take_skip (i := 7) 100 rfl rfl (by kernel_rfl) (by kernel_rfl) (by kernel_rfl) (fun _ _ _ h => h) (by rfl) (by assumption) ?_
          try simp only [Act.put, List.setIfInBounds_toArray, List.set_cons_zero, List.set_cons_succ]
          refine take_read (i := 8) 101 (v := ?x2_v8) rfl rfl (by kernel_rfl) (by kernel_rfl) (by kernel_rfl) (fun _ _ _ h => h) (by rfl) ?x2_hy8 (by assumption) ?x2_rest8
          case x2_hy8 => (intro w hSw; (try dsimp only at hSw); go_simp; (try with_reducible rfl))
          try simp only [Act.put, List.setIfInBounds_toArray, List.set_cons_zero, List.set_cons_succ]
          refine take_read (i := 9) 102 (v := ?x2_v9) rfl rfl (by kernel_rfl) (by kernel_rfl) (by kernel_rfl) (fun _ _ _ h => h) (by rfl) ?x2_hy9 (by assumption) ?x2_rest9
          case x2_hy9 => (intro w hSw; (try dsimp only at hSw); go_simp; (try with_reducible rfl))
          try simp only [Act.put, List.setIfInBounds_toArray, List.set_cons_zero, List.set_cons_succ]
          refine take_read (i := 10) 103 (v := ?x2_v10) rfl rfl (by kernel_rfl) (by kernel_rfl) (by kernel_rfl) (fun _ _ _ h => h) (by rfl) ?x2_hy10 (by assumption) ?x2_rest10
          case x2_hy10 => (intro w hSw; (try dsimp only at hSw); go_simp; (try with_reducible rfl))
          try simp only [Act.put, List.setIfInBounds_toArray, List.set_cons_zero, List.set_cons_succ]
          refine take_read (i := 12) 105 (v := ?x2_v12) rfl rfl (by kernel_rfl) (by kernel_rfl) (by kernel_rfl) (fun _ _ _ h => h) (by rfl) ?x2_hy12 (by assumption) ?x2_rest12
          case x2_hy12 => (intro w hSw; (try dsimp only at hSw); go_simp; (try with_reducible rfl))
          try simp only [Act.put, List.setIfInBounds_toArray, List.set_cons_zero, List.set_cons_succ]
          refine wpAnyH_ready (rs := [11]) (by kernel_rfl) (by simp) ?_
          refine AllReadyH.cons rfl (fun K hK => ?_) AllReadyH.nil
          go_simp
          (first | (go_at_call_of 23 (Value.bool false); refine (implStoredSize_any _ s _ false _ (by exact Cod.bel HSY.out (bel_then hbD (by repeat (first | with_reducible exact Below.refl _ _ | with_reducible assumption | with_reducible refine bel_alloc ?_ _ | with_reducible refine bel_drew ?_ | with_reducible refine bel_drewN ?_ _ | (with_reducible refine bel_set ?_ ?_ _; rotate_left; ((try simp); (try omega))))))) HP.out).mono ?_; rw [h16]; rintro e wk ⟨rfl, hb⟩; have hBk : Below wc.heap.size wc wk := (bel_then (by repeat (first | with_reducible exact Below.refl _ _ | with_reducible assumption | with_reducible refine bel_alloc ?_ _ | with_reducible refine bel_drew ?_ | with_reducible refine bel_drewN ?_ _ | (with_reducible refine bel_set ?_ ?_ _; rotate_left; ((try simp); (try omega))))) hb); clear hb) | (go_at_call_of 23 (Value.agg #[.int .i64 s.type, .int .i64 404, .int .i64 s.ver, .slice V 3 cv, .bool s.shares]); refine (implStoredSize_any _ (otherOf s) _ true _ (by exact Cod.bel HO.out (bel_then hbD (by repeat (first | with_reducible exact Below.refl _ _ | with_reducible assumption | with_reducible refine bel_alloc ?_ _ | with_reducible refine bel_drew ?_ | with_reducible refine bel_drewN ?_ _ | (with_reducible refine bel_set ?_ ?_ _; rotate_left; ((try simp); (try omega))))))) HOP.out).mono ?_; rw [h76]; rintro e wk ⟨rfl, hb⟩; have hBk : Below wc.heap.size wc wk := (bel_then (by repeat (first | with_reducible exact Below.refl _ _ | with_reducible assumption | with_reducible refine bel_alloc ?_ _ | with_reducible refine bel_drew ?_ | with_reducible refine bel_drewN ?_ _ | (with_reducible refine bel_set ?_ ?_ _; rotate_left; ((try simp); (try omega))))) hb); clear hb) | (go_at_call_of 23 (Value.bool true); refine (implStoredSize_any _ s _ true _ (by exact Cod.bel HSY.out (bel_then hbD (by repeat (first | with_reducible exact Below.refl _ _ | with_reducible assumption | with_reducible refine bel_alloc ?_ _ | with_reducible refine bel_drew ?_ | with_reducible refine bel_drewN ?_ _ | (with_reducible refine bel_set ?_ ?_ _; rotate_left; ((try simp); (try omega))))))) HP.out).mono ?_; rw [h76]; rintro e wk ⟨rfl, hb⟩; have hBk : Below wc.heap.size wc wk := (bel_then (by repeat (first | with_reducible exact Below.refl _ _ | with_reducible assumption | with_reducible refine bel_alloc ?_ _ | with_reducible refine bel_drew ?_ | with_reducible refine bel_drewN ?_ _ | (with_reducible refine bel_set ?_ ?_ _; rotate_left; ((try simp); (try omega))))) hb); clear hb))
          try go_wp2_with fail
          refine hK.out _ _ ?_ (fun hHeld => ?_)
          · (try dsimp only)
            exact hS3 _ (by repeat (first | with_reducible exact Below.refl _ _ | with_reducible assumption | with_reducible refine bel_alloc ?_ _ | with_reducible refine bel_drew ?_ | with_reducible refine bel_drewN ?_ _ | (with_reducible refine bel_set ?_ ?_ _; rotate_left; ((try simp); (try omega)))))
          clear hK K
          try simp only [Act.put, List.setIfInBounds_toArray, List.set_cons_zero, List.set_cons_succ]
          refine wpAnyH_ready (rs := [13]) (by kernel_rfl) (by simp) ?_
          refine AllReadyH.cons rfl (fun K hK => ?_) AllReadyH.nil
          go_simp
          (first | (go_at_call_of 23 (Value.bool false); refine (implStoredSize_any _ s _ false _ (by exact Cod.bel HSY.out (bel_then hbD (by repeat (first | with_reducible exact Below.refl _ _ | with_reducible assumption | with_reducible refine bel_alloc ?_ _ | with_reducible refine bel_drew ?_ | with_reducible refine bel_drewN ?_ _ | (with_reducible refine bel_set ?_ ?_ _; rotate_left; ((try simp); (try omega))))))) HP.out).mono ?_; rw [h16]; rintro e wk ⟨rfl, hb⟩; have hBk : Below wc.heap.size wc wk := (bel_then (by repeat (first | with_reducible exact Below.refl _ _ | with_reducible assumption | with_reducible refine bel_alloc ?_ _ | with_reducible refine bel_drew ?_ | with_reducible refine bel_drewN ?_ _ | (with_reducible refine bel_set ?_ ?_ _; rotate_left; ((try simp); (try omega))))) hb); clear hb) | (go_at_call_of 23 (Value.agg #[.int .i64 s.type, .int .i64 404, .int .i64 s.ver, .slice V 3 cv, .bool s.shares]); refine (implStoredSize_any _ (otherOf s) _ true _ (by exact Cod.bel HO.out (bel_then hbD (by repeat (first | with_reducible exact Below.refl _ _ | with_reducible assumption | with_reducible refine bel_alloc ?_ _ | with_reducible refine bel_drew ?_ | with_reducible refine bel_drewN ?_ _ | (with_reducible refine bel_set ?_ ?_ _; rotate_left; ((try simp); (try omega))))))) HOP.out).mono ?_; rw [h76]; rintro e wk ⟨rfl, hb⟩; have hBk : Below wc.heap.size wc wk := (bel_then (by repeat (first | with_reducible exact Below.refl _ _ | with_reducible assumption | with_reducible refine bel_alloc ?_ _ | with_reducible refine bel_drew ?_ | with_reducible refine bel_drewN ?_ _ | (with_reducible refine bel_set ?_ ?_ _; rotate_left; ((try simp); (try omega))))) hb); clear hb) | (go_at_call_of 23 (Value.bool true); refine (implStoredSize_any _ s _ true _ (by exact Cod.bel HSY.out (bel_then hbD (by repeat (first | with_reducible exact Below.refl _ _ | with_reducible assumption | with_reducible refine bel_alloc ?_ _ | with_reducible refine bel_drew ?_ | with_reducible refine bel_drewN ?_ _ | (with_reducible refine bel_set ?_ ?_ _; rotate_left; ((try simp); (try omega))))))) HP.out).mono ?_; rw [h76]; rintro e wk ⟨rfl, hb⟩; have hBk : Below wc.heap.size wc wk := (bel_then (by repeat (first | with_reducible exact Below.refl _ _ | with_reducible assumption | with_reducible refine bel_alloc ?_ _ | with_reducible refine bel_drew ?_ | with_reducible refine bel_drewN ?_ _ | (with_reducible refine bel_set ?_ ?_ _; rotate_left; ((try simp); (try omega))))) hb); clear hb))
          try go_wp2_with fail
          refine hK.out _ _ ?_ (fun hHeld => ?_)
          · (try dsimp only)
            exact hS3 _ (by repeat (first | with_reducible exact Below.refl _ _ | with_reducible assumption | with_reducible refine bel_alloc ?_ _ | with_reducible refine bel_drew ?_ | with_reducible refine bel_drewN ?_ _ | (with_reducible refine bel_set ?_ ?_ _; rotate_left; ((try simp); (try omega)))))
          clear hK K
          try simp only [Act.put, List.setIfInBounds_toArray, List.set_cons_zero, List.set_cons_succ]
          refine take_read (i := 14) 107 (v := ?x2_v14) rfl rfl (by kernel_rfl) (by kernel_rfl) (by kernel_rfl) (fun _ _ _ h => h) (by rfl) ?x2_hy14 (by assumption) ?x2_rest14
          case x2_hy14 => (intro w hSw; (try dsimp only at hSw); go_simp; (try with_reducible rfl))
          try simp only [Act.put, List.setIfInBounds_toArray, List.set_cons_zero, List.set_cons_succ]
          refine take_read (i := 15) 108 (v := ?x2_v15) rfl rfl (by kernel_rfl) (by kernel_rfl) (by kernel_rfl) (fun _ _ _ h => h) (by rfl) ?x2_hy15 (by assumption) ?x2_rest15
          case x2_hy15 => (intro w hSw; (try dsimp only at hSw); go_simp; (try with_reducible rfl))
          try simp only [Act.put, List.setIfInBounds_toArray, List.set_cons_zero, List.set_cons_succ]
          refine take_read (i := 16) 109 (v := ?x2_v16) rfl rfl (by kernel_rfl) (by kernel_rfl) (by kernel_rfl) (fun _ _ _ h => h) (by rfl) ?x2_hy16 (by assumption) ?x2_rest16
          case x2_hy16 => (intro w hSw; (try dsimp only at hSw); go_simp; (try with_reducible rfl))
          try simp only [Act.put, List.setIfInBounds_toArray, List.set_cons_zero, List.set_cons_succ]
          refine take_read (i := 17) 110 (v := ?x2_v17) rfl rfl (by kernel_rfl) (by kernel_rfl) (by kernel_rfl) (fun _ _ _ h => h) (by rfl) ?x2_hy17 (by assumption) ?x2_rest17
          case x2_hy17 => (intro w hSw; (try dsimp only at hSw); go_simp; (try with_reducible rfl))
          try simp only [Act.put, List.setIfInBounds_toArray, List.set_cons_zero, List.set_cons_succ]
          refine take_read (i := 19) 112 (v := ?x2_v19) rfl rfl (by kernel_rfl) (by kernel_rfl) (by kernel_rfl) (fun _ _ _ h => h) (by rfl) ?x2_hy19 (by assumption) ?x2_rest19
          case x2_hy19 => (intro w hSw; (try dsimp only at hSw); go_simp; (try with_reducible rfl))
          try simp only [Act.put, List.setIfInBounds_toArray, List.set_cons_zero, List.set_cons_succ]
          refine take_read (i := 20) 113 (v := ?x2_v20) rfl rfl (by kernel_rfl) (by kernel_rfl) (by kernel_rfl) (fun _ _ _ h => h) (by rfl) ?x2_hy20 (by assumption) ?x2_rest20
          case x2_hy20 => (intro w hSw; (try dsimp only at hSw); go_simp; (try with_reducible rfl))
          try simp only [Act.put, List.setIfInBounds_toArray, List.set_cons_zero, List.set_cons_succ]
          refine take_read (i := 21) 114 (v := ?x2_v21) rfl rfl (by kernel_rfl) (by kernel_rfl) (by kernel_rfl) (fun _ _ _ h => h) (by rfl) ?x2_hy21 (by assumption) ?x2_rest21
          case x2_hy21 => (intro w hSw; (try dsimp only at hSw); go_simp; (try with_reducible rfl))
          try simp only [Act.put, List.setIfInBounds_toArray, List.set_cons_zero, List.set_cons_succ]
          refine take_read (i := 22) 115 (v := ?x2_v22) rfl rfl (by kernel_rfl) (by kernel_rfl) (by kernel_rfl) (fun _ _ _ h => h) (by rfl) ?x2_hy22 (by assumption) ?x2_rest22
          case x2_hy22 => (intro w hSw; (try dsimp only at hSw); go_simp; (try with_reducible rfl))
          try simp only [Act.put, List.setIfInBounds_toArray, List.set_cons_zero, List.set_cons_succ]
          refine wpAnyH_ready (rs := [18]) (by kernel_rfl) (by simp) ?_
          refine AllReadyH.cons rfl (fun K hK => ?_) AllReadyH.nil
          go_simp
          (first | (go_at_call_of 23 (Value.bool false); refine (implStoredSize_any _ s _ false _ (by exact Cod.bel HSY.out (bel_then hbD (by repeat (first | with_reducible exact Below.refl _ _ | with_reducible assumption | with_reducible refine bel_alloc ?_ _ | with_reducible refine bel_drew ?_ | with_reducible refine bel_drewN ?_ _ | (with_reducible refine bel_set ?_ ?_ _; rotate_left; ((try simp); (try omega))))))) HP.out).mono ?_; rw [h16]; rintro e wk ⟨rfl, hb⟩; have hBk : Below wc.heap.size wc wk := (bel_then (by repeat (first | with_reducible exact Below.refl _ _ | with_reducible assumption | with_reducible refine bel_alloc ?_ _ | with_reducible refine bel_drew ?_ | with_reducible refine bel_drewN ?_ _ | (with_reducible refine bel_set ?_ ?_ _; rotate_left; ((try simp); (try omega))))) hb); clear hb) | (go_at_call_of 23 (Value.agg #[.int .i64 s.type, .int .i64 404, .int .i64 s.ver, .slice V 3 cv, .bool s.shares]); refine (implStoredSize_any _ (otherOf s) _ true _ (by exact Cod.bel HO.out (bel_then hbD (by repeat (first | with_reducible exact Below.refl _ _ | with_reducible assumption | with_reducible refine bel_alloc ?_ _ | with_reducible refine bel_drew ?_ | with_reducible refine bel_drewN ?_ _ | (with_reducible refine bel_set ?_ ?_ _; rotate_left; ((try simp); (try omega))))))) HOP.out).mono ?_; rw [h76]; rintro e wk ⟨rfl, hb⟩; have hBk : Below wc.heap.size wc wk := (bel_then (by repeat (first | with_reducible exact Below.refl _ _ | with_reducible assumption | with_reducible refine bel_alloc ?_ _ | with_reducible refine bel_drew ?_ | with_reducible refine bel_drewN ?_ _ | (with_reducible refine bel_set ?_ ?_ _; rotate_left; ((try simp); (try omega))))) hb); clear hb) | (go_at_call_of 23 (Value.bool true); refine (implStoredSize_any _ s _ true _ (by exact Cod.bel HSY.out (bel_then hbD (by repeat (first | with_reducible exact Below.refl _ _ | with_reducible assumption | with_reducible refine bel_alloc ?_ _ | with_reducible refine bel_drew ?_ | with_reducible refine bel_drewN ?_ _ | (with_reducible refine bel_set ?_ ?_ _; rotate_left; ((try simp); (try omega))))))) HP.out).mono ?_; rw [h76]; rintro e wk ⟨rfl, hb⟩; have hBk : Below wc.heap.size wc wk := (bel_then (by repeat (first | with_reducible exact Below.refl _ _ | with_reducible assumption | with_reducible refine bel_alloc ?_ _ | with_reducible refine bel_drew ?_ | with_reducible refine bel_drewN ?_ _ | (with_reducible refine bel_set ?_ ?_ _; rotate_left; ((try simp); (try omega))))) hb); clear hb))
          try go_wp2_with fail
          refine hK.out _ _ ?_ (fun hHeld => ?_)
          · (try dsimp only)
            exact hS3 _ (by repeat (first | with_reducible exact Below.refl _ _ | with_reducible assumption | with_reducible refine bel_alloc ?_ _ | with_reducible refine bel_drew ?_ | with_reducible refine bel_drewN ?_ _ | (with_reducible refine bel_set ?_ ?_ _; rotate_left; ((try simp); (try omega)))))
          clear hK K
          try simp only [Act.put, List.setIfInBounds_toArray, List.set_cons_zero, List.set_cons_succ]
          refine take_read (i := 23) 116 (v := ?x2_v23) rfl rfl (by kernel_rfl) (by kernel_rfl) (by kernel_rfl) (fun _ _ _ h => h) (by rfl) ?x2_hy23 (by assumption) ?x2_rest23
          case x2_hy23 => (intro w hSw; (try dsimp only at hSw); go_simp; (try with_reducible rfl))
          try simp only [Act.put, List.setIfInBounds_toArray, List.set_cons_zero, List.set_cons_succ]
          refine take_read (i := 24) 117 (v := ?x2_v24) rfl rfl (by kernel_rfl) (by kernel_rfl) (by kernel_rfl) (fun _ _ _ h => h) (by rfl) ?x2_hy24 (by assumption) ?x2_rest24
          case x2_hy24 => (intro w hSw; (try dsimp only at hSw); go_simp; (try with_reducible rfl))
          try simp only [Act.put, List.setIfInBounds_toArray, List.set_cons_zero, List.set_cons_succ]
          refine take_read (i := 25) 2 (v := ?x2_v25) rfl rfl (by kernel_rfl) (by kernel_rfl) (by kernel_rfl) (fun _ _ _ h => h) (by rfl) ?x2_hy25 (by assumption) ?x2_rest25
          case x2_hy25 => (intro w hSw; (try dsimp only at hSw); go_simp; (try with_reducible rfl))
          try simp only [Act.put, List.setIfInBounds_toArray, List.set_cons_zero, List.set_cons_succ]
          refine wpAnyH_done (by kernel_rfl) ?_ _
          go_wp2_with fail
          go_ret
          exact ⟨ret_bool (by simp), bel_then hbwY (bel_then hbD (by assumption))⟩
        case true =>
          obtain ⟨g1, g2⟩ := filter_other hh
          rw [HZ.out] at g2
          have g3 : filterResponse ⟨a, b, c, m⟩ (otherOf s) = z := g1.trans g2.symm
          clear g1 g2
          go_wp2_with fail
          refine wp_region_held_drew (S := (fun w9 => w9.cell? ⟨w1.heap.size, 0, none⟩ = some (.string a) ∧ w9.cell? ⟨w1.heap.size, 1, none⟩ = some (.string b) ∧ w9.cell? ⟨w1.heap.size, 2, none⟩ = some (.string c) ∧ w9.cell? ⟨w1.heap.size, 3, none⟩ = some (.int .i64 m) ∧ w9.cell? ⟨w1.heap.size + 1, 0, none⟩ = some (.int .i64 s.type) ∧ w9.cell? ⟨w1.heap.size + 1, 1, none⟩ = some (.int .i64 s.status) ∧ w9.cell? ⟨w1.heap.size + 1, 2, none⟩ = some (.int .i64 s.ver) ∧ w9.cell? ⟨w1.heap.size + 1, 3, none⟩ = some (.slice U s.body.length cu) ∧ w9.cell? ⟨w1.heap.size + 1, 4, none⟩ = some (.bool s.shares) ∧ w9.cell? ⟨w2.heap.size, 0, none⟩ = some (.int .i64 z.type) ∧ w9.cell? ⟨w2.heap.size, 1, none⟩ = some (.int .i64 z.status) ∧ w9.cell? ⟨w2.heap.size, 2, none⟩ = some (.int .i64 z.ver) ∧ w9.cell? ⟨w2.heap.size, 3, none⟩ = some (.slice Z z.body.length cz) ∧ w9.cell? ⟨w2.heap.size, 4, none⟩ = some (.bool z.shares) ∧ w9.cell? ⟨wd.heap.size, 0, none⟩ = some (.int .i64 s.type) ∧ w9.cell? ⟨wd.heap.size, 1, none⟩ = some (.int .i64 404) ∧ w9.cell? ⟨wd.heap.size, 2, none⟩ = some (.int .i64 s.ver) ∧ w9.cell? ⟨wd.heap.size, 3, none⟩ = some (.slice V 3 cv) ∧ w9.cell? ⟨wd.heap.size, 4, none⟩ = some (.bool s.shares))) (by kernel_rfl) (by (try dsimp only); exact hS3 _ (by repeat (first | with_reducible exact Below.refl _ _ | with_reducible assumption | with_reducible refine bel_alloc ?_ _ | with_reducible refine bel_drew ?_ | with_reducible refine bel_drewN ?_ _ | (with_reducible refine bel_set ?_ ?_ _; rotate_left; ((try simp); (try omega)))))) (fun hHeld => ?_)
          refine take_read (i := 0) 93 (v := ?x3_v0) rfl rfl (by kernel_rfl) (by kernel_rfl) (by kernel_rfl) (fun _ _ _ h => h) (by rfl) ?x3_hy0 (by assumption) ?x3_rest0
          case x3_hy0 => (intro w hSw; (try dsimp only at hSw); go_simp; (try with_reducible rfl))
          try simp only [Act.put, List.setIfInBounds_toArray, List.set_cons_zero, List.set_cons_succ]
          refine take_read (i := 1) 94 (v := ?x3_v1) rfl rfl (by kernel_rfl) (by kernel_rfl) (by kernel_rfl) (fun _ _ _ h => h) (by rfl) ?x3_hy1 (by assumption) ?x3_rest1
          case x3_hy1 => (intro w hSw; (try dsimp only at hSw); go_simp; (try with_reducible rfl))
          try simp only [Act.put, List.setIfInBounds_toArray, List.set_cons_zero, List.set_cons_succ]
          refine take_read (i := 2) 95 (v := ?x3_v2) rfl rfl (by kernel_rfl) (by kernel_rfl) (by kernel_rfl) (fun _ _ _ h => h) (by rfl) ?x3_hy2 (by assumption) ?x3_rest2
          case x3_hy2 => (intro w hSw; (try dsimp only at hSw); go_simp; (try with_reducible rfl))
          try simp only [Act.put, List.setIfInBounds_toArray, List.set_cons_zero, List.set_cons_succ]
          refine take_read (i := 3) 96 (v := ?x3_v3) rfl rfl (by kernel_rfl) (by kernel_rfl) (by kernel_rfl) (fun _ _ _ h => h) (by rfl) ?x3_hy3 (by assumption) ?x3_rest3
          case x3_hy3 => (intro w hSw; (try dsimp only at hSw); go_simp; (try with_reducible rfl))
          try simp only [Act.put, List.setIfInBounds_toArray, List.set_cons_zero, List.set_cons_succ]
          refine take_read (i := 4) 97 (v := ?x3_v4) rfl rfl (by kernel_rfl) (by kernel_rfl) (by kernel_rfl) (fun _ _ _ h => h) (by rfl) ?x3_hy4 (by assumption) ?x3_rest4
          case x3_hy4 => (intro w hSw; (try dsimp only at hSw); go_simp; (try with_reducible rfl))
          try simp only [Act.put, List.setIfInBounds_toArray, List.set_cons_zero, List.set_cons_succ]
          refine take_read (i := 6) 99 (v := ?x3_v6) rfl rfl (by kernel_rfl) (by kernel_rfl) (by kernel_rfl) (fun _ _ _ h => h) (by rfl) ?x3_hy6 (by assumption) ?x3_rest6
          case x3_hy6 => (intro w hSw; (try dsimp only at hSw); go_simp; (try with_reducible rfl))
          try simp only [Act.put, List.setIfInBounds_toArray, List.set_cons_zero, List.set_cons_succ]
          refine wpAnyH_ready (rs := [5]) (by kernel_rfl) (by simp) ?_
          refine AllReadyH.cons rfl (fun K hK => ?_) AllReadyH.nil
          go_simp
          (first | (go_at_call 17; refine (implFilterResponse_any _ ⟨a, b, c, m⟩ [] _ (otherOf s) _ _ (by exact TReq.mk_ HOK.out) HQ.out (by exact Cod.bel HO.out (bel_then hbD (by repeat (first | with_reducible exact Below.refl _ _ | with_reducible assumption | with_reducible refine bel_alloc ?_ _ | with_reducible refine bel_drew ?_ | with_reducible refine bel_drewN ?_ _ | (with_reducible refine bel_set ?_ ?_ _; rotate_left; ((try simp); (try omega))))))) HOP.out).mono ?_; rw [g3]; rintro e wf ⟨vsf, Gf, rfl, hbf, hrepf, hff⟩; obtain ⟨uf, Ff, rfl, rfl, -, hmf⟩ := TResp.outA hrepf; obtain ⟨Yf, cyf, hyf⟩ := cL_form hmf; subst hyf; have hBf : Below wc.heap.size wc wf := bel_then (by repeat (first | with_reducible exact Below.refl _ _ | with_reducible assumption | with_reducible refine bel_alloc ?_ _ | with_reducible refine bel_drew ?_ | with_reducible refine bel_drewN ?_ _ | (with_reducible refine bel_set ?_ ?_ _; rotate_left; ((try simp); (try omega))))) hbf; clear hmf hff hbf) | (go_at_call 18; refine (implEqualResponses_any _ z _ _ z _ _ (by exact Cod.bel hrepf (by repeat (first | with_reducible exact Below.refl _ _ | with_reducible assumption | with_reducible refine bel_alloc ?_ _ | with_reducible refine bel_drew ?_ | with_reducible refine bel_drewN ?_ _ | (with_reducible refine bel_set ?_ ?_ _; rotate_left; ((try simp); (try omega)))))) HZS.out (by exact Cod.bel HZY.out (bel_then hbD (by repeat (first | with_reducible exact Below.refl _ _ | with_reducible assumption | with_reducible refine bel_alloc ?_ _ | with_reducible refine bel_drew ?_ | with_reducible refine bel_drewN ?_ _ | (with_reducible refine bel_set ?_ ?_ _; rotate_left; ((try simp); (try omega))))))) HZS.out).mono ?_; rw [respEq_self]; rintro e we ⟨rfl, hbe⟩; have hBe : Below wc.heap.size wc we := bel_then (by repeat (first | with_reducible exact Below.refl _ _ | with_reducible assumption | with_reducible refine bel_alloc ?_ _ | with_reducible refine bel_drew ?_ | with_reducible refine bel_drewN ?_ _ | (with_reducible refine bel_set ?_ ?_ _; rotate_left; ((try simp); (try omega))))) hbe; clear hbe hrepf) | (go_at_call_of 23 (Value.bool false); refine (implStoredSize_any _ s _ false _ (by exact Cod.bel HSY.out (bel_then hbD (by repeat (first | with_reducible exact Below.refl _ _ | with_reducible assumption | with_reducible refine bel_alloc ?_ _ | with_reducible refine bel_drew ?_ | with_reducible refine bel_drewN ?_ _ | (with_reducible refine bel_set ?_ ?_ _; rotate_left; ((try simp); (try omega))))))) HP.out).mono ?_; rw [h16]; rintro e wk ⟨rfl, hb⟩; have hBk : Below wc.heap.size wc wk := (bel_then (by repeat (first | with_reducible exact Below.refl _ _ | with_reducible assumption | with_reducible refine bel_alloc ?_ _ | with_reducible refine bel_drew ?_ | with_reducible refine bel_drewN ?_ _ | (with_reducible refine bel_set ?_ ?_ _; rotate_left; ((try simp); (try omega))))) hb); clear hb) | (go_at_call_of 23 (Value.agg #[.int .i64 s.type, .int .i64 404, .int .i64 s.ver, .slice V 3 cv, .bool s.shares]); refine (implStoredSize_any _ (otherOf s) _ true _ (by exact Cod.bel HO.out (bel_then hbD (by repeat (first | with_reducible exact Below.refl _ _ | with_reducible assumption | with_reducible refine bel_alloc ?_ _ | with_reducible refine bel_drew ?_ | with_reducible refine bel_drewN ?_ _ | (with_reducible refine bel_set ?_ ?_ _; rotate_left; ((try simp); (try omega))))))) HOP.out).mono ?_; rw [h76]; rintro e wk ⟨rfl, hb⟩; have hBk : Below wc.heap.size wc wk := (bel_then (by repeat (first | with_reducible exact Below.refl _ _ | with_reducible assumption | with_reducible refine bel_alloc ?_ _ | with_reducible refine bel_drew ?_ | with_reducible refine bel_drewN ?_ _ | (with_reducible refine bel_set ?_ ?_ _; rotate_left; ((try simp); (try omega))))) hb); clear hb) | (go_at_call_of 23 (Value.bool true); refine (implStoredSize_any _ s _ true _ (by exact Cod.bel HSY.out (bel_then hbD (by repeat (first | with_reducible exact Below.refl _ _ | with_reducible assumption | with_reducible refine bel_alloc ?_ _ | with_reducible refine bel_drew ?_ | with_reducible refine bel_drewN ?_ _ | (with_reducible refine bel_set ?_ ?_ _; rotate_left; ((try simp); (try omega))))))) HP.out).mono ?_; rw [h76]; rintro e wk ⟨rfl, hb⟩; have hBk : Below wc.heap.size wc wk := (bel_then (by repeat (first | with_reducible exact Below.refl _ _ | with_reducible assumption | with_reducible refine bel_alloc ?_ _ | with_reducible refine bel_drew ?_ | with_reducible refine bel_drewN ?_ _ | (with_reducible refine bel_set ?_ ?_ _; rotate_left; ((try simp); (try omega))))) hb); clear hb))
          try go_wp2_with fail
          refine hK.out _ _ ?_ (fun hHeld => ?_)
          · (try dsimp only)
            exact hS3 _ (by repeat (first | with_reducible exact Below.refl _ _ | with_reducible assumption | with_reducible refine bel_alloc ?_ _ | with_reducible refine bel_drew ?_ | with_reducible refine bel_drewN ?_ _ | (with_reducible refine bel_set ?_ ?_ _; rotate_left; ((try simp); (try omega)))))
          clear hK K
          try simp only [Act.put, List.setIfInBounds_toArray, List.set_cons_zero, List.set_cons_succ]
          refine wpAnyH_ready (rs := [7]) (by kernel_rfl) (by simp) ?_
          refine AllReadyH.cons rfl (fun K hK => ?_) AllReadyH.nil
          go_simp
          (first | (go_at_call 17; refine (implFilterResponse_any _ ⟨a, b, c, m⟩ [] _ (otherOf s) _ _ (by exact TReq.mk_ HOK.out) HQ.out (by exact Cod.bel HO.out (bel_then hbD (by repeat (first | with_reducible exact Below.refl _ _ | with_reducible assumption | with_reducible refine bel_alloc ?_ _ | with_reducible refine bel_drew ?_ | with_reducible refine bel_drewN ?_ _ | (with_reducible refine bel_set ?_ ?_ _; rotate_left; ((try simp); (try omega))))))) HOP.out).mono ?_; rw [g3]; rintro e wf ⟨vsf, Gf, rfl, hbf, hrepf, hff⟩; obtain ⟨uf, Ff, rfl, rfl, -, hmf⟩ := TResp.outA hrepf; obtain ⟨Yf, cyf, hyf⟩ := cL_form hmf; subst hyf; have hBf : Below wc.heap.size wc wf := bel_then (by repeat (first | with_reducible exact Below.refl _ _ | with_reducible assumption | with_reducible refine bel_alloc ?_ _ | with_reducible refine bel_drew ?_ | with_reducible refine bel_drewN ?_ _ | (with_reducible refine bel_set ?_ ?_ _; rotate_left; ((try simp); (try omega))))) hbf; clear hmf hff hbf) | (go_at_call 18; refine (implEqualResponses_any _ z _ _ z _ _ (by exact Cod.bel hrepf (by repeat (first | with_reducible exact Below.refl _ _ | with_reducible assumption | with_reducible refine bel_alloc ?_ _ | with_reducible refine bel_drew ?_ | with_reducible refine bel_drewN ?_ _ | (with_reducible refine bel_set ?_ ?_ _; rotate_left; ((try simp); (try omega)))))) HZS.out (by exact Cod.bel HZY.out (bel_then hbD (by repeat (first | with_reducible exact Below.refl _ _ | with_reducible assumption | with_reducible refine bel_alloc ?_ _ | with_reducible refine bel_drew ?_ | with_reducible refine bel_drewN ?_ _ | (with_reducible refine bel_set ?_ ?_ _; rotate_left; ((try simp); (try omega))))))) HZS.out).mono ?_; rw [respEq_self]; rintro e we ⟨rfl, hbe⟩; have hBe : Below wc.heap.size wc we := bel_then (by repeat (first | with_reducible exact Below.refl _ _ | with_reducible assumption | with_reducible refine bel_alloc ?_ _ | with_reducible refine bel_drew ?_ | with_reducible refine bel_drewN ?_ _ | (with_reducible refine bel_set ?_ ?_ _; rotate_left; ((try simp); (try omega))))) hbe; clear hbe hrepf) | (go_at_call_of 23 (Value.bool false); refine (implStoredSize_any _ s _ false _ (by exact Cod.bel HSY.out (bel_then hbD (by repeat (first | with_reducible exact Below.refl _ _ | with_reducible assumption | with_reducible refine bel_alloc ?_ _ | with_reducible refine bel_drew ?_ | with_reducible refine bel_drewN ?_ _ | (with_reducible refine bel_set ?_ ?_ _; rotate_left; ((try simp); (try omega))))))) HP.out).mono ?_; rw [h16]; rintro e wk ⟨rfl, hb⟩; have hBk : Below wc.heap.size wc wk := (bel_then (by repeat (first | with_reducible exact Below.refl _ _ | with_reducible assumption | with_reducible refine bel_alloc ?_ _ | with_reducible refine bel_drew ?_ | with_reducible refine bel_drewN ?_ _ | (with_reducible refine bel_set ?_ ?_ _; rotate_left; ((try simp); (try omega))))) hb); clear hb) | (go_at_call_of 23 (Value.agg #[.int .i64 s.type, .int .i64 404, .int .i64 s.ver, .slice V 3 cv, .bool s.shares]); refine (implStoredSize_any _ (otherOf s) _ true _ (by exact Cod.bel HO.out (bel_then hbD (by repeat (first | with_reducible exact Below.refl _ _ | with_reducible assumption | with_reducible refine bel_alloc ?_ _ | with_reducible refine bel_drew ?_ | with_reducible refine bel_drewN ?_ _ | (with_reducible refine bel_set ?_ ?_ _; rotate_left; ((try simp); (try omega))))))) HOP.out).mono ?_; rw [h76]; rintro e wk ⟨rfl, hb⟩; have hBk : Below wc.heap.size wc wk := (bel_then (by repeat (first | with_reducible exact Below.refl _ _ | with_reducible assumption | with_reducible refine bel_alloc ?_ _ | with_reducible refine bel_drew ?_ | with_reducible refine bel_drewN ?_ _ | (with_reducible refine bel_set ?_ ?_ _; rotate_left; ((try simp); (try omega))))) hb); clear hb) | (go_at_call_of 23 (Value.bool true); refine (implStoredSize_any _ s _ true _ (by exact Cod.bel HSY.out (bel_then hbD (by repeat (first | with_reducible exact Below.refl _ _ | with_reducible assumption | with_reducible refine bel_alloc ?_ _ | with_reducible refine bel_drew ?_ | with_reducible refine bel_drewN ?_ _ | (with_reducible refine bel_set ?_ ?_ _; rotate_left; ((try simp); (try omega))))))) HP.out).mono ?_; rw [h76]; rintro e wk ⟨rfl, hb⟩; have hBk : Below wc.heap.size wc wk := (bel_then (by repeat (first | with_reducible exact Below.refl _ _ | with_reducible assumption | with_reducible refine bel_alloc ?_ _ | with_reducible refine bel_drew ?_ | with_reducible refine bel_drewN ?_ _ | (with_reducible refine bel_set ?_ ?_ _; rotate_left; ((try simp); (try omega))))) hb); clear hb))
          try go_wp2_with fail
          refine hK.out _ _ ?_ (fun hHeld => ?_)
          · (try dsimp only)
            exact hS3 _ (by repeat (first | with_reducible exact Below.refl _ _ | with_reducible assumption | with_reducible refine bel_alloc ?_ _ | with_reducible refine bel_drew ?_ | with_reducible refine bel_drewN ?_ _ | (with_reducible refine bel_set ?_ ?_ _; rotate_left; ((try simp); (try omega)))))
          clear hK K
          try simp only [Act.put, List.setIfInBounds_toArray, List.set_cons_zero, List.set_cons_succ]
          refine take_read (i := 8) 101 (v := ?x3_v8) rfl rfl (by kernel_rfl) (by kernel_rfl) (by kernel_rfl) (fun _ _ _ h => h) (by rfl) ?x3_hy8 (by assumption) ?x3_rest8
          case x3_hy8 => (intro w hSw; (try dsimp only at hSw); go_simp; (try with_reducible rfl))
          try simp only [Act.put, List.setIfInBounds_toArray, List.set_cons_zero, List.set_cons_succ]
          refine take_read (i := 9) 102 (v := ?x3_v9) rfl rfl (by kernel_rfl) (by kernel_rfl) (by kernel_rfl) (fun _ _ _ h => h) (by rfl) ?x3_hy9 (by assumption) ?x3_rest9
          case x3_hy9 => (intro w hSw; (try dsimp only at hSw); go_simp; (try with_reducible rfl))
          try simp only [Act.put, List.setIfInBounds_toArray, List.set_cons_zero, List.set_cons_succ]
          refine take_read (i := 10) 103 (v := ?x3_v10) rfl rfl (by kernel_rfl) (by kernel_rfl) (by kernel_rfl) (fun _ _ _ h => h) (by rfl) ?x3_hy10 (by assumption) ?x3_rest10
          case x3_hy10 => (intro w hSw; (try dsimp only at hSw); go_simp; (try with_reducible rfl))
          try simp only [Act.put, List.setIfInBounds_toArray, List.set_cons_zero, List.set_cons_succ]
          refine take_read (i := 12) 105 (v := ?x3_v12) rfl rfl (by kernel_rfl) (by kernel_rfl) (by kernel_rfl) (fun _ _ _ h => h) (by rfl) ?x3_hy12 (by assumption) ?x3_rest12
          case x3_hy12 => (intro w hSw; (try dsimp only at hSw); go_simp; (try with_reducible rfl))
          try simp only [Act.put, List.setIfInBounds_toArray, List.set_cons_zero, List.set_cons_succ]
          refine wpAnyH_ready (rs := [11]) (by kernel_rfl) (by simp) ?_
          refine AllReadyH.cons rfl (fun K hK => ?_) AllReadyH.nil
          go_simp
          (first | (go_at_call 17; refine (implFilterResponse_any _ ⟨a, b, c, m⟩ [] _ (otherOf s) _ _ (by exact TReq.mk_ HOK.out) HQ.out (by exact Cod.bel HO.out (bel_then hbD (by repeat (first | with_reducible exact Below.refl _ _ | with_reducible assumption | with_reducible refine bel_alloc ?_ _ | with_reducible refine bel_drew ?_ | with_reducible refine bel_drewN ?_ _ | (with_reducible refine bel_set ?_ ?_ _; rotate_left; ((try simp); (try omega))))))) HOP.out).mono ?_; rw [g3]; rintro e wf ⟨vsf, Gf, rfl, hbf, hrepf, hff⟩; obtain ⟨uf, Ff, rfl, rfl, -, hmf⟩ := TResp.outA hrepf; obtain ⟨Yf, cyf, hyf⟩ := cL_form hmf; subst hyf; have hBf : Below wc.heap.size wc wf := bel_then (by repeat (first | with_reducible exact Below.refl _ _ | with_reducible assumption | with_reducible refine bel_alloc ?_ _ | with_reducible refine bel_drew ?_ | with_reducible refine bel_drewN ?_ _ | (with_reducible refine bel_set ?_ ?_ _; rotate_left; ((try simp); (try omega))))) hbf; clear hmf hff hbf) | (go_at_call 18; refine (implEqualResponses_any _ z _ _ z _ _ (by exact Cod.bel hrepf (by repeat (first | with_reducible exact Below.refl _ _ | with_reducible assumption | with_reducible refine bel_alloc ?_ _ | with_reducible refine bel_drew ?_ | with_reducible refine bel_drewN ?_ _ | (with_reducible refine bel_set ?_ ?_ _; rotate_left; ((try simp); (try omega)))))) HZS.out (by exact Cod.bel HZY.out (bel_then hbD (by repeat (first | with_reducible exact Below.refl _ _ | with_reducible assumption | with_reducible refine bel_alloc ?_ _ | with_reducible refine bel_drew ?_ | with_reducible refine bel_drewN ?_ _ | (with_reducible refine bel_set ?_ ?_ _; rotate_left; ((try simp); (try omega))))))) HZS.out).mono ?_; rw [respEq_self]; rintro e we ⟨rfl, hbe⟩; have hBe : Below wc.heap.size wc we := bel_then (by repeat (first | with_reducible exact Below.refl _ _ | with_reducible assumption | with_reducible refine bel_alloc ?_ _ | with_reducible refine bel_drew ?_ | with_reducible refine bel_drewN ?_ _ | (with_reducible refine bel_set ?_ ?_ _; rotate_left; ((try simp); (try omega))))) hbe; clear hbe hrepf) | (go_at_call_of 23 (Value.bool false); refine (implStoredSize_any _ s _ false _ (by exact Cod.bel HSY.out (bel_then hbD (by repeat (first | with_reducible exact Below.refl _ _ | with_reducible assumption | with_reducible refine bel_alloc ?_ _ | with_reducible refine bel_drew ?_ | with_reducible refine bel_drewN ?_ _ | (with_reducible refine bel_set ?_ ?_ _; rotate_left; ((try simp); (try omega))))))) HP.out).mono ?_; rw [h16]; rintro e wk ⟨rfl, hb⟩; have hBk : Below wc.heap.size wc wk := (bel_then (by repeat (first | with_reducible exact Below.refl _ _ | with_reducible assumption | with_reducible refine bel_alloc ?_ _ | with_reducible refine bel_drew ?_ | with_reducible refine bel_drewN ?_ _ | (with_reducible refine bel_set ?_ ?_ _; rotate_left; ((try simp); (try omega))))) hb); clear hb) | (go_at_call_of 23 (Value.agg #[.int .i64 s.type, .int .i64 404, .int .i64 s.ver, .slice V 3 cv, .bool s.shares]); refine (implStoredSize_any _ (otherOf s) _ true _ (by exact Cod.bel HO.out (bel_then hbD (by repeat (first | with_reducible exact Below.refl _ _ | with_reducible assumption | with_reducible refine bel_alloc ?_ _ | with_reducible refine bel_drew ?_ | with_reducible refine bel_drewN ?_ _ | (with_reducible refine bel_set ?_ ?_ _; rotate_left; ((try simp); (try omega))))))) HOP.out).mono ?_; rw [h76]; rintro e wk ⟨rfl, hb⟩; have hBk : Below wc.heap.size wc wk := (bel_then (by repeat (first | with_reducible exact Below.refl _ _ | with_reducible assumption | with_reducible refine bel_alloc ?_ _ | with_reducible refine bel_drew ?_ | with_reducible refine bel_drewN ?_ _ | (with_reducible refine bel_set ?_ ?_ _; rotate_left; ((try simp); (try omega))))) hb); clear hb) | (go_at_call_of 23 (Value.bool true); refine (implStoredSize_any _ s _ true _ (by exact Cod.bel HSY.out (bel_then hbD (by repeat (first | with_reducible exact Below.refl _ _ | with_reducible assumption | with_reducible refine bel_alloc ?_ _ | with_reducible refine bel_drew ?_ | with_reducible refine bel_drewN ?_ _ | (with_reducible refine bel_set ?_ ?_ _; rotate_left; ((try simp); (try omega))))))) HP.out).mono ?_; rw [h76]; rintro e wk ⟨rfl, hb⟩; have hBk : Below wc.heap.size wc wk := (bel_then (by repeat (first | with_reducible exact Below.refl _ _ | with_reducible assumption | with_reducible refine bel_alloc ?_ _ | with_reducible refine bel_drew ?_ | with_reducible refine bel_drewN ?_ _ | (with_reducible refine bel_set ?_ ?_ _; rotate_left; ((try simp); (try omega))))) hb); clear hb))
          try go_wp2_with fail
          refine hK.out _ _ ?_ (fun hHeld => ?_)
          · (try dsimp only)
            exact hS3 _ (by repeat (first | with_reducible exact Below.refl _ _ | with_reducible assumption | with_reducible refine bel_alloc ?_ _ | with_reducible refine bel_drew ?_ | with_reducible refine bel_drewN ?_ _ | (with_reducible refine bel_set ?_ ?_ _; rotate_left; ((try simp); (try omega)))))
          clear hK K
          try simp only [Act.put, List.setIfInBounds_toArray, List.set_cons_zero, List.set_cons_succ]
          refine wpAnyH_ready (rs := [13]) (by kernel_rfl) (by simp) ?_
          refine AllReadyH.cons rfl (fun K hK => ?_) AllReadyH.nil
          go_simp
          (first | (go_at_call 17; refine (implFilterResponse_any _ ⟨a, b, c, m⟩ [] _ (otherOf s) _ _ (by exact TReq.mk_ HOK.out) HQ.out (by exact Cod.bel HO.out (bel_then hbD (by repeat (first | with_reducible exact Below.refl _ _ | with_reducible assumption | with_reducible refine bel_alloc ?_ _ | with_reducible refine bel_drew ?_ | with_reducible refine bel_drewN ?_ _ | (with_reducible refine bel_set ?_ ?_ _; rotate_left; ((try simp); (try omega))))))) HOP.out).mono ?_; rw [g3]; rintro e wf ⟨vsf, Gf, rfl, hbf, hrepf, hff⟩; obtain ⟨uf, Ff, rfl, rfl, -, hmf⟩ := TResp.outA hrepf; obtain ⟨Yf, cyf, hyf⟩ := cL_form hmf; subst hyf; have hBf : Below wc.heap.size wc wf := bel_then (by repeat (first | with_reducible exact Below.refl _ _ | with_reducible assumption | with_reducible refine bel_alloc ?_ _ | with_reducible refine bel_drew ?_ | with_reducible refine bel_drewN ?_ _ | (with_reducible refine bel_set ?_ ?_ _; rotate_left; ((try simp); (try omega))))) hbf; clear hmf hff hbf) | (go_at_call 18; refine (implEqualResponses_any _ z _ _ z _ _ (by exact Cod.bel hrepf (by repeat (first | with_reducible exact Below.refl _ _ | with_reducible assumption | with_reducible refine bel_alloc ?_ _ | with_reducible refine bel_drew ?_ | with_reducible refine bel_drewN ?_ _ | (with_reducible refine bel_set ?_ ?_ _; rotate_left; ((try simp); (try omega)))))) HZS.out (by exact Cod.bel HZY.out (bel_then hbD (by repeat (first | with_reducible exact Below.refl _ _ | with_reducible assumption | with_reducible refine bel_alloc ?_ _ | with_reducible refine bel_drew ?_ | with_reducible refine bel_drewN ?_ _ | (with_reducible refine bel_set ?_ ?_ _; rotate_left; ((try simp); (try omega))))))) HZS.out).mono ?_; rw [respEq_self]; rintro e we ⟨rfl, hbe⟩; have hBe : Below wc.heap.size wc we := bel_then (by repeat (first | with_reducible exact Below.refl _ _ | with_reducible assumption | with_reducible refine bel_alloc ?_ _ | with_reducible refine bel_drew ?_ | with_reducible refine bel_drewN ?_ _ | (with_reducible refine bel_set ?_ ?_ _; rotate_left; ((try simp); (try omega))))) hbe; clear hbe hrepf) | (go_at_call_of 23 (Value.bool false); refine (implStoredSize_any _ s _ false _ (by exact Cod.bel HSY.out (bel_then hbD (by repeat (first | with_reducible exact Below.refl _ _ | with_reducible assumption | with_reducible refine bel_alloc ?_ _ | with_reducible refine bel_drew ?_ | with_reducible refine bel_drewN ?_ _ | (with_reducible refine bel_set ?_ ?_ _; rotate_left; ((try simp); (try omega))))))) HP.out).mono ?_; rw [h16]; rintro e wk ⟨rfl, hb⟩; have hBk : Below wc.heap.size wc wk := (bel_then (by repeat (first | with_reducible exact Below.refl _ _ | with_reducible assumption | with_reducible refine bel_alloc ?_ _ | with_reducible refine bel_drew ?_ | with_reducible refine bel_drewN ?_ _ | (with_reducible refine bel_set ?_ ?_ _; rotate_left; ((try simp); (try omega))))) hb); clear hb) | (go_at_call_of 23 (Value.agg #[.int .i64 s.type, .int .i64 404, .int .i64 s.ver, .slice V 3 cv, .bool s.shares]); refine (implStoredSize_any _ (otherOf s) _ true _ (by exact Cod.bel HO.out (bel_then hbD (by repeat (first | with_reducible exact Below.refl _ _ | with_reducible assumption | with_reducible refine bel_alloc ?_ _ | with_reducible refine bel_drew ?_ | with_reducible refine bel_drewN ?_ _ | (with_reducible refine bel_set ?_ ?_ _; rotate_left; ((try simp); (try omega))))))) HOP.out).mono ?_; rw [h76]; rintro e wk ⟨rfl, hb⟩; have hBk : Below wc.heap.size wc wk := (bel_then (by repeat (first | with_reducible exact Below.refl _ _ | with_reducible assumption | with_reducible refine bel_alloc ?_ _ | with_reducible refine bel_drew ?_ | with_reducible refine bel_drewN ?_ _ | (with_reducible refine bel_set ?_ ?_ _; rotate_left; ((try simp); (try omega))))) hb); clear hb) | (go_at_call_of 23 (Value.bool true); refine (implStoredSize_any _ s _ true _ (by exact Cod.bel HSY.out (bel_then hbD (by repeat (first | with_reducible exact Below.refl _ _ | with_reducible assumption | with_reducible refine bel_alloc ?_ _ | with_reducible refine bel_drew ?_ | with_reducible refine bel_drewN ?_ _ | (with_reducible refine bel_set ?_ ?_ _; rotate_left; ((try simp); (try omega))))))) HP.out).mono ?_; rw [h76]; rintro e wk ⟨rfl, hb⟩; have hBk : Below wc.heap.size wc wk := (bel_then (by repeat (first | with_reducible exact Below.refl _ _ | with_reducible assumption | with_reducible refine bel_alloc ?_ _ | with_reducible refine bel_drew ?_ | with_reducible refine bel_drewN ?_ _ | (with_reducible refine bel_set ?_ ?_ _; rotate_left; ((try simp); (try omega))))) hb); clear hb))
          try go_wp2_with fail
          refine hK.out _ _ ?_ (fun hHeld => ?_)
          · (try dsimp only)
            exact hS3 _ (by repeat (first | with_reducible exact Below.refl _ _ | with_reducible assumption | with_reducible refine bel_alloc ?_ _ | with_reducible refine bel_drew ?_ | with_reducible refine bel_drewN ?_ _ | (with_reducible refine bel_set ?_ ?_ _; rotate_left; ((try simp); (try omega)))))
          clear hK K
          try simp only [Act.put, List.setIfInBounds_toArray, List.set_cons_zero, List.set_cons_succ]
          refine take_read (i := 14) 107 (v := ?x3_v14) rfl rfl (by kernel_rfl) (by kernel_rfl) (by kernel_rfl) (fun _ _ _ h => h) (by rfl) ?x3_hy14 (by assumption) ?x3_rest14
          case x3_hy14 => (intro w hSw; (try dsimp only at hSw); go_simp; (try with_reducible rfl))
          try simp only [Act.put, List.setIfInBounds_toArray, List.set_cons_zero, List.set_cons_succ]
          refine take_read (i := 15) 108 (v := ?x3_v15) rfl rfl (by kernel_rfl) (by kernel_rfl) (by kernel_rfl) (fun _ _ _ h => h) (by rfl) ?x3_hy15 (by assumption) ?x3_rest15
          case x3_hy15 => (intro w hSw; (try dsimp only at hSw); go_simp; (try with_reducible rfl))
          try simp only [Act.put, List.setIfInBounds_toArray, List.set_cons_zero, List.set_cons_succ]
          refine take_read (i := 16) 109 (v := ?x3_v16) rfl rfl (by kernel_rfl) (by kernel_rfl) (by kernel_rfl) (fun _ _ _ h => h) (by rfl) ?x3_hy16 (by assumption) ?x3_rest16
          case x3_hy16 => (intro w hSw; (try dsimp only at hSw); go_simp; (try with_reducible rfl))
          try simp only [Act.put, List.setIfInBounds_toArray, List.set_cons_zero, List.set_cons_succ]
          refine take_read (i := 17) 110 (v := ?x3_v17) rfl rfl (by kernel_rfl) (by kernel_rfl) (by kernel_rfl) (fun _ _ _ h => h) (by rfl) ?x3_hy17 (by assumption) ?x3_rest17
          case x3_hy17 => (intro w hSw; (try dsimp only at hSw); go_simp; (try with_reducible rfl))
          try simp only [Act.put, List.setIfInBounds_toArray, List.set_cons_zero, List.set_cons_succ]
          refine take_read (i := 19) 112 (v := ?x3_v19) rfl rfl (by kernel_rfl) (by kernel_rfl) (by kernel_rfl) (fun _ _ _ h => h) (by rfl) ?x3_hy19 (by assumption) ?x3_rest19
          case x3_hy19 => (intro w hSw; (try dsimp only at hSw); go_simp; (try with_reducible rfl))
          try simp only [Act.put, List.setIfInBounds_toArray, List.set_cons_zero, List.set_cons_succ]
          refine take_read (i := 20) 113 (v := ?x3_v20) rfl rfl (by kernel_rfl) (by kernel_rfl) (by kernel_rfl) (fun _ _ _ h => h) (by rfl) ?x3_hy20 (by assumption) ?x3_rest20
          case x3_hy20 => (intro w hSw; (try dsimp only at hSw); go_simp; (try with_reducible rfl))
          try simp only [Act.put, List.setIfInBounds_toArray, List.set_cons_zero, List.set_cons_succ]
          refine take_read (i := 21) 114 (v := ?x3_v21) rfl rfl (by kernel_rfl) (by kernel_rfl) (by kernel_rfl) (fun _ _ _ h => h) (by rfl) ?x3_hy21 (by assumption) ?x3_rest21
          case x3_hy21 => (intro w hSw; (try dsimp only at hSw); go_simp; (try with_reducible rfl))
          try simp only [Act.put, List.setIfInBounds_toArray, List.set_cons_zero, List.set_cons_succ]
          refine take_read (i := 22) 115 (v := ?x3_v22) rfl rfl (by kernel_rfl) (by kernel_rfl) (by kernel_rfl) (fun _ _ _ h => h) (by rfl) ?x3_hy22 (by assumption) ?x3_rest22
          case x3_hy22 => (intro w hSw; (try dsimp only at hSw); go_simp; (try with_reducible rfl))
          try simp only [Act.put, List.setIfInBounds_toArray, List.set_cons_zero, List.set_cons_succ]
          refine wpAnyH_ready (rs := [18]) (by kernel_rfl) (by simp) ?_
          refine AllReadyH.cons rfl (fun K hK => ?_) AllReadyH.nil
          go_simp
          (first | (go_at_call 17; refine (implFilterResponse_any _ ⟨a, b, c, m⟩ [] _ (otherOf s) _ _ (by exact TReq.mk_ HOK.out) HQ.out (by exact Cod.bel HO.out (bel_then hbD (by repeat (first | with_reducible exact Below.refl _ _ | with_reducible assumption | with_reducible refine bel_alloc ?_ _ | with_reducible refine bel_drew ?_ | with_reducible refine bel_drewN ?_ _ | (with_reducible refine bel_set ?_ ?_ _; rotate_left; ((try simp); (try omega))))))) HOP.out).mono ?_; rw [g3]; rintro e wf ⟨vsf, Gf, rfl, hbf, hrepf, hff⟩; obtain ⟨uf, Ff, rfl, rfl, -, hmf⟩ := TResp.outA hrepf; obtain ⟨Yf, cyf, hyf⟩ := cL_form hmf; subst hyf; have hBf : Below wc.heap.size wc wf := bel_then (by repeat (first | with_reducible exact Below.refl _ _ | with_reducible assumption | with_reducible refine bel_alloc ?_ _ | with_reducible refine bel_drew ?_ | with_reducible refine bel_drewN ?_ _ | (with_reducible refine bel_set ?_ ?_ _; rotate_left; ((try simp); (try omega))))) hbf; clear hmf hff hbf) | (go_at_call 18; refine (implEqualResponses_any _ z _ _ z _ _ (by exact Cod.bel hrepf (by repeat (first | with_reducible exact Below.refl _ _ | with_reducible assumption | with_reducible refine bel_alloc ?_ _ | with_reducible refine bel_drew ?_ | with_reducible refine bel_drewN ?_ _ | (with_reducible refine bel_set ?_ ?_ _; rotate_left; ((try simp); (try omega)))))) HZS.out (by exact Cod.bel HZY.out (bel_then hbD (by repeat (first | with_reducible exact Below.refl _ _ | with_reducible assumption | with_reducible refine bel_alloc ?_ _ | with_reducible refine bel_drew ?_ | with_reducible refine bel_drewN ?_ _ | (with_reducible refine bel_set ?_ ?_ _; rotate_left; ((try simp); (try omega))))))) HZS.out).mono ?_; rw [respEq_self]; rintro e we ⟨rfl, hbe⟩; have hBe : Below wc.heap.size wc we := bel_then (by repeat (first | with_reducible exact Below.refl _ _ | with_reducible assumption | with_reducible refine bel_alloc ?_ _ | with_reducible refine bel_drew ?_ | with_reducible refine bel_drewN ?_ _ | (with_reducible refine bel_set ?_ ?_ _; rotate_left; ((try simp); (try omega))))) hbe; clear hbe hrepf) | (go_at_call_of 23 (Value.bool false); refine (implStoredSize_any _ s _ false _ (by exact Cod.bel HSY.out (bel_then hbD (by repeat (first | with_reducible exact Below.refl _ _ | with_reducible assumption | with_reducible refine bel_alloc ?_ _ | with_reducible refine bel_drew ?_ | with_reducible refine bel_drewN ?_ _ | (with_reducible refine bel_set ?_ ?_ _; rotate_left; ((try simp); (try omega))))))) HP.out).mono ?_; rw [h16]; rintro e wk ⟨rfl, hb⟩; have hBk : Below wc.heap.size wc wk := (bel_then (by repeat (first | with_reducible exact Below.refl _ _ | with_reducible assumption | with_reducible refine bel_alloc ?_ _ | with_reducible refine bel_drew ?_ | with_reducible refine bel_drewN ?_ _ | (with_reducible refine bel_set ?_ ?_ _; rotate_left; ((try simp); (try omega))))) hb); clear hb) | (go_at_call_of 23 (Value.agg #[.int .i64 s.type, .int .i64 404, .int .i64 s.ver, .slice V 3 cv, .bool s.shares]); refine (implStoredSize_any _ (otherOf s) _ true _ (by exact Cod.bel HO.out (bel_then hbD (by repeat (first | with_reducible exact Below.refl _ _ | with_reducible assumption | with_reducible refine bel_alloc ?_ _ | with_reducible refine bel_drew ?_ | with_reducible refine bel_drewN ?_ _ | (with_reducible refine bel_set ?_ ?_ _; rotate_left; ((try simp); (try omega))))))) HOP.out).mono ?_; rw [h76]; rintro e wk ⟨rfl, hb⟩; have hBk : Below wc.heap.size wc wk := (bel_then (by repeat (first | with_reducible exact Below.refl _ _ | with_reducible assumption | with_reducible refine bel_alloc ?_ _ | with_reducible refine bel_drew ?_ | with_reducible refine bel_drewN ?_ _ | (with_reducible refine bel_set ?_ ?_ _; rotate_left; ((try simp); (try omega))))) hb); clear hb) | (go_at_call_of 23 (Value.bool true); refine (implStoredSize_any _ s _ true _ (by exact Cod.bel HSY.out (bel_then hbD (by repeat (first | with_reducible exact Below.refl _ _ | with_reducible assumption | with_reducible refine bel_alloc ?_ _ | with_reducible refine bel_drew ?_ | with_reducible refine bel_drewN ?_ _ | (with_reducible refine bel_set ?_ ?_ _; rotate_left; ((try simp); (try omega))))))) HP.out).mono ?_; rw [h76]; rintro e wk ⟨rfl, hb⟩; have hBk : Below wc.heap.size wc wk := (bel_then (by repeat (first | with_reducible exact Below.refl _ _ | with_reducible assumption | with_reducible refine bel_alloc ?_ _ | with_reducible refine bel_drew ?_ | with_reducible refine bel_drewN ?_ _ | (with_reducible refine bel_set ?_ ?_ _; rotate_left; ((try simp); (try omega))))) hb); clear hb))
          try go_wp2_with fail
          refine hK.out _ _ ?_ (fun hHeld => ?_)
          · (try dsimp only)
            exact hS3 _ (by repeat (first | with_reducible exact Below.refl _ _ | with_reducible assumption | with_reducible refine bel_alloc ?_ _ | with_reducible refine bel_drew ?_ | with_reducible refine bel_drewN ?_ _ | (with_reducible refine bel_set ?_ ?_ _; rotate_left; ((try simp); (try omega)))))
          clear hK K
          try simp only [Act.put, List.setIfInBounds_toArray, List.set_cons_zero, List.set_cons_succ]
          refine take_read (i := 23) 116 (v := ?x3_v23) rfl rfl (by kernel_rfl) (by kernel_rfl) (by kernel_rfl) (fun _ _ _ h => h) (by rfl) ?x3_hy23 (by assumption) ?x3_rest23
          case x3_hy23 => (intro w hSw; (try dsimp only at hSw); go_simp; (try with_reducible rfl))
          try simp only [Act.put, List.setIfInBounds_toArray, List.set_cons_zero, List.set_cons_succ]
          refine take_read (i := 24) 117 (v := ?x3_v24) rfl rfl (by kernel_rfl) (by kernel_rfl) (by kernel_rfl) (fun _ _ _ h => h) (by rfl) ?x3_hy24 (by assumption) ?x3_rest24
          case x3_hy24 => (intro w hSw; (try dsimp only at hSw); go_simp; (try with_reducible rfl))
          try simp only [Act.put, List.setIfInBounds_toArray, List.set_cons_zero, List.set_cons_succ]
          refine take_read (i := 25) 2 (v := ?x3_v25) rfl rfl (by kernel_rfl) (by kernel_rfl) (by kernel_rfl) (fun _ _ _ h => h) (by rfl) ?x3_hy25 (by assumption) ?x3_rest25
          case x3_hy25 => (intro w hSw; (try dsimp only at hSw); go_simp; (try with_reducible rfl))
          try simp only [Act.put, List.setIfInBounds_toArray, List.set_cons_zero, List.set_cons_succ]
          refine wpAnyH_done (by kernel_rfl) ?_ _
          go_wp2_with fail
          go_ret
          exact ⟨ret_bool (by simp), bel_then hbwY (bel_then hbD (by assumption))⟩

set_option maxRecDepth 100000 in
theorem lawFilters_walk (H : Type) (enc : TypeId × Value → H) (W : World) (base : Nat) (args : Array Value) (ds : List (DataW H)) (p : List MemPlace)
    (hval : ∀ (j : Nat) t v, Try.f4.params[j]? = some t → args[j]? = some v → Value.okWide Try.prog W .any base t v)
    (hA : DataW.TrodAll enc Try.prog W 0 (fun _ => true) true Try.f4.params.toList args.toList ds p) (hf : W.noneFrozen p) :
    Calls Try.prog 4 args W (Gives W (.bool true)) := by
  rw [Try.params4] at hA hval
  obtain ⟨v0, vs0, d0, ds0, q0, s0, hargs, rfl, rfl, k0, t0⟩ := trodAll_cons hA
  obtain ⟨rfl, rfl, rfl⟩ := trodAll_nil t0
  obtain rfl : args = #[v0] := by cases args; simp_all
  obtain ⟨x0, F0, hx0⟩ := opens_US.slice_ Try.underlying22 (hval 0 _ _ rfl rfl) k0 (noneFrozen_mono hf fun y hy => by simp [hy])
  exact lawFilters_any v0 x0 F0 W hx0

set_option maxRecDepth 100000 in
theorem lawFilters_lifted (os : Os) (started : os.Started) (H : Type) (enc : TypeId × Value → H) :
    ReturnsInHanded {} Try.checked os 4 .any (Rows.fnFiltersSpec.pre6 enc Try.prog Try.f4 Rows.fnFiltersRow.domain false) (Rows.fnFiltersSpec.post enc Try.prog Try.f4 false true false false) := by
  refine returnsInHanded_of_change (C := Try.checked) (by kernel_rfl) started (by kernel_rfl) Try.func4
    (ChangeSpec.witness6 (enc := enc) (C := Try.checked) false ⟨#[], #[.slice none 0 0], []⟩ 16 (by kernel_rfl) (by kernel_rfl) (by kernel_rfl) (by kernel_rfl)) ?_
  intro W base args ds gs before hval hW _ _
  have hW' := hW
  obtain ⟨p, q, hA, hV, rfl, hfz, hnd⟩ := hW
  refine (lawFilters_walk H enc W base args ds p hval hA (noneFrozen_mono hfz fun y hy => by simp [hy])).mono fun e W' ⟨he, hb⟩ => ⟨_, he, ?_⟩
  exact law_post (by kernel_rfl) rfl (by kernel_rfl) Try.underlying4 (by kernel_rfl) (fun ds h => by
    match ds, h with
    | [d0], _ => exact ⟨rfl, rfl, rfl⟩) hW' hb
theorem lawFilters_over : Rows.fnFiltersRow.holds Try.pinned (OpenSpec.ofChange Rows.fnFiltersSpec) :=
  OpenClaim.holds_of_wide 4 Try.f4 rfl rfl rfl rfl rfl rfl rfl ⟨rfl, rfl, rfl, rfl, rfl⟩ rfl rfl rfl rfl rfl (by kernel_rfl) Try.func4 (by kernel_rfl)
    (of_decide_eq_true (by kernel_rfl)) (by unfold Func.isWrapper; rw [if_neg (of_decide_eq_false (by kernel_rfl))]; exact ⟨rfl, rfl⟩)
    (fun os started H enc _ => lawFilters_lifted os started H enc)
/-- THE STATEMENT -/
theorem lawFilters_holds : Rows.FnFiltersSaid := lawFilters_over

end Go.Proofs.Yteipaolcmjfhdaa
