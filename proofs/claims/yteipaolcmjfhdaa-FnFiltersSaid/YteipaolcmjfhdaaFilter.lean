/-
  FilterResponse and CanRead of the program and of the reference. No conditions.
-/
import Derived.Test.YteipaolcmjfhdaaCopyResp
import Derived.Test.YteipaolcmjfhdaaResp
import Derived.Test.YteipaolcmjfhdaaRespEq
import Derived.Test.YteipaolcmjfhdaaReq
import Derived.Test.YteipaolcmjfhdaaSearch
namespace Go.Proofs.Yteipaolcmjfhdaa
open Go.ChangeShapes Go.WideShapes Go.RowKit
set_option linter.unusedVariables false

def filterResponse (r : TReq) (x : TResp) : TResp :=
  bif !isRequest r || !isResponse x || x.type == 4 then errorResponse
  else bif strEq r.frm r.dst then ⟨1, x.status, x.ver, x.body, x.shares⟩
  else bif r.mode == 2 && x.shares then ⟨2, x.status, x.ver, x.body, x.shares⟩
  else bif r.mode == 3 then ⟨3, 0, 0, [], false⟩
  else errorResponse
theorem implRequestCells (a b c : ByteArray) (m : Int) (w : World) (h0 : a.size ≤ maxLen) (h1 : b.size ≤ maxLen) (h2 : c.size ≤ maxLen) (h3 : -9223372036854775808 ≤ m ∧ m ≤ 9223372036854775807) :
    Calls Try.prog 72 #[.agg #[.string a, .string b, .string c, .int .i64 m]] w (Gives w (.bool (isRequest ⟨a, b, c, m⟩))) := implRequest_any ⟨a, b, c, m⟩ w ⟨h0, h1, h2, h3⟩
set_option maxRecDepth 100000 in
set_option maxHeartbeats 8000000 in
theorem implFilterResponse_any (vs : Array Value) (r : TReq) (F : List Nat) (vs2 : Array Value) (x : TResp) (F2 : List Nat) (w : World) (h : cReq.rep w vs.toList r F) (hn : cReq.sz r ≤ 1048576) (h2 : cResp.rep w vs2.toList x F2) (hn2 : cResp.sz x ≤ 1048576) :
    Calls Try.prog 17 #[.agg vs, .agg vs2] w (GivesR cResp w (filterResponse r x)) := by
  have hr2 := h2
  obtain ⟨u3, F3, rfl, -, hok, m3⟩ := TResp.outA h2
  obtain ⟨A3, c3, rfl⟩ := cL_form m3
  clear h2 m3
  have hq := (TReq.out h).2.2
  rw [TReq.val_of h]
  clear h hn
  obtain ⟨hq0, hq1, hq2, hq3⟩ := hq
  have HE := Lib.hid (show filterResponse r x = (bif !isRequest r || !isResponse x || x.type == 4 then errorResponse else bif strEq r.frm r.dst then ⟨1, x.status, x.ver, x.body, x.shares⟩ else bif r.mode == 2 && x.shares then ⟨2, x.status, x.ver, x.body, x.shares⟩ else bif r.mode == 3 then ⟨3, 0, 0, [], false⟩ else errorResponse) from rfl)
  obtain ⟨a, b, c, m⟩ := r
  simp only [TReq.val]
  simp only at hq0 hq1 hq2 hq3 HE
  obtain ⟨R, hR⟩ : ∃ R, filterResponse ⟨a, b, c, m⟩ x = R := ⟨_, rfl⟩
  rw [hR]
  rw [hR] at HE
  clear hR
  cases e1 : isRequest ⟨a, b, c, m⟩
  · obtain rfl : R = errorResponse := by rw [HE.out, e1]; rfl
    clear HE
    go_enter Try.func17, Try.ntmps17
    go_wp2_with fail
    refine (implCopyResp_any _ x _ _ (by exact Cod.bel hr2 (by repeat (first | with_reducible exact Below.refl _ _ | with_reducible assumption | with_reducible refine bel_alloc ?_ _ | with_reducible refine bel_drew ?_ | with_reducible refine bel_drewN ?_ _ | (with_reducible refine bel_set ?_ ?_ _; rotate_left; ((try simp); (try omega)))))) hn2).mono ?_
    rintro e w1 ⟨vs1, G1, rfl, hb1, hrep, hf1⟩
    obtain ⟨v3, G3, rfl, rfl, -, n3⟩ := TResp.outA hrep
    obtain ⟨B3, d3, rfl⟩ := cL_form n3
    have hz_w1 := hb1.size
    (try simp at hz_w1)
    have ha0_w1 : w.heap.size < w1.heap.size := by omega
    have ha1_w1 : w.heap.size + 1 < w1.heap.size := by omega
    have ha2_w1 : w.heap.size + 2 < w1.heap.size := by omega
    obtain ⟨hc_w1, hf_w1, -⟩ := bcell hb1
    have hb_w1 : Below w.heap.size w w1 := bel_then (by repeat (first | with_reducible exact Below.refl _ _ | with_reducible assumption | with_reducible refine bel_alloc ?_ _ | with_reducible refine bel_drew ?_ | with_reducible refine bel_drewN ?_ _ | (with_reducible refine bel_set ?_ ?_ _; rotate_left; ((try simp); (try omega))))) hb1
    have hg1 : Fresh (w.heap.size + 1 + 1 + 1) G1 := hf1.mono (by simp)
    clear hb1 hf1 hrep
    go_wp2_with fail
    refine (implRequestCells _ _ _ _ _ hq0 hq1 hq2 hq3).mono ?_
    rintro e w2 ⟨rfl, hb2⟩
    have hz_w2 := hb2.size
    (try simp at hz_w2)
    have ha0_w2 : w.heap.size < w2.heap.size := by omega
    have ha1_w2 : w.heap.size + 1 < w2.heap.size := by omega
    have ha2_w2 : w.heap.size + 2 < w2.heap.size := by omega
    have ha3_w2 : w1.heap.size < w2.heap.size := by omega
    obtain ⟨hc_w2, hf_w2, -⟩ := bcell hb2
    have hb_w2 : Below w.heap.size w w2 := bel_then (by repeat (first | with_reducible exact Below.refl _ _ | with_reducible assumption | with_reducible refine bel_alloc ?_ _ | with_reducible refine bel_drew ?_ | with_reducible refine bel_drewN ?_ _ | (with_reducible refine bel_set ?_ ?_ _; rotate_left; ((try simp); (try omega))))) hb2
    have hk2 : Keep (w.heap.size + 1 + 1 + 1) w1 w2 := Keep.bel (by repeat (first | with_reducible exact Keep.refl _ _ | with_reducible assumption | with_reducible refine Keep.alloc ?_ _ | with_reducible refine Keep.drew ?_ | with_reducible refine Keep.drewN ?_ _ | (with_reducible refine Keep.set_ ?_ ?_ _; rotate_left; ((try simp); (try omega))))) hb2
    clear hb2
    go_wp2_with fail
    go_wp2_with fail
    refine (implErrorResponse_any _).mono ?_
    rintro e w4 ⟨vs4, G4, rfl, hb4, hrep4, hf4⟩
    obtain ⟨v4, _, rfl, rfl, hok4, n4⟩ := TResp.outA hrep4
    obtain ⟨B4, d4, rfl⟩ := cL_form n4
    have hz_w4 := hb4.size
    (try simp at hz_w4)
    have ha0_w4 : w.heap.size < w4.heap.size := by omega
    have ha1_w4 : w.heap.size + 1 < w4.heap.size := by omega
    have ha2_w4 : w.heap.size + 2 < w4.heap.size := by omega
    have ha3_w4 : w1.heap.size < w4.heap.size := by omega
    obtain ⟨hc_w4, hf_w4, -⟩ := bcell hb4
    have hb_w4 : Below w.heap.size w w4 := bel_then (by repeat (first | with_reducible exact Below.refl _ _ | with_reducible assumption | with_reducible refine bel_alloc ?_ _ | with_reducible refine bel_drew ?_ | with_reducible refine bel_drewN ?_ _ | (with_reducible refine bel_set ?_ ?_ _; rotate_left; ((try simp); (try omega))))) hb4
    have hg4 : Fresh (w.heap.size + 1 + 1 + 1) G4 := hf4.mono (by (try simp); (try omega))
    clear hb4 hf4 hrep4
    have j0 : w4.cell? ⟨w.heap.size + 1 + 1, 0, none⟩ = some (.int .i64 0) := by go_simp
    have j1 : w4.cell? ⟨w.heap.size + 1 + 1, 1, none⟩ = some (.int .i64 0) := by go_simp
    have j2 : w4.cell? ⟨w.heap.size + 1 + 1, 2, none⟩ = some (.int .i64 0) := by go_simp
    have j3 : w4.cell? ⟨w.heap.size + 1 + 1, 3, none⟩ = some (.slice none 0 0) := by go_simp
    have j4 : w4.cell? ⟨w.heap.size + 1 + 1, 4, none⟩ = some (.bool false) := by go_simp
    go_wp2_with fail
    refine bodyPost_ret (v := .agg #[.int .i64 errorResponse.type, .int .i64 errorResponse.status, .int .i64 errorResponse.ver, .slice B4 errorResponse.body.length d4, .bool errorResponse.shares]) (by simp [results, Try.results17, go_sem, *]) rfl ?_
    exact ⟨_, G4, rfl, (by repeat (first | with_reducible exact Below.refl _ _ | with_reducible assumption | with_reducible refine bel_alloc ?_ _ | with_reducible refine bel_drew ?_ | with_reducible refine bel_drewN ?_ _ | (with_reducible refine bel_set ?_ ?_ _; rotate_left; ((try simp); (try omega))))), TResp.mk_ hok4 (Cod.keep2 n4 hg4 (by repeat (first | with_reducible exact Keep.refl _ _ | with_reducible assumption | with_reducible refine Keep.alloc ?_ _ | with_reducible refine Keep.drew ?_ | with_reducible refine Keep.drewN ?_ _ | (with_reducible refine Keep.set_ ?_ ?_ _; rotate_left; ((try simp); (try omega)))))), hg4.mono (by (try simp); (try omega))⟩
  · cases e2 : isResponse x
    · obtain rfl : R = errorResponse := by rw [HE.out, e1, e2]; rfl
      clear HE
      go_enter Try.func17, Try.ntmps17
      go_wp2_with fail
      refine (implCopyResp_any _ x _ _ (by exact Cod.bel hr2 (by repeat (first | with_reducible exact Below.refl _ _ | with_reducible assumption | with_reducible refine bel_alloc ?_ _ | with_reducible refine bel_drew ?_ | with_reducible refine bel_drewN ?_ _ | (with_reducible refine bel_set ?_ ?_ _; rotate_left; ((try simp); (try omega)))))) hn2).mono ?_
      rintro e w1 ⟨vs1, G1, rfl, hb1, hrep, hf1⟩
      obtain ⟨v3, G3, rfl, rfl, -, n3⟩ := TResp.outA hrep
      obtain ⟨B3, d3, rfl⟩ := cL_form n3
      have hz_w1 := hb1.size
      (try simp at hz_w1)
      have ha0_w1 : w.heap.size < w1.heap.size := by omega
      have ha1_w1 : w.heap.size + 1 < w1.heap.size := by omega
      have ha2_w1 : w.heap.size + 2 < w1.heap.size := by omega
      obtain ⟨hc_w1, hf_w1, -⟩ := bcell hb1
      have hb_w1 : Below w.heap.size w w1 := bel_then (by repeat (first | with_reducible exact Below.refl _ _ | with_reducible assumption | with_reducible refine bel_alloc ?_ _ | with_reducible refine bel_drew ?_ | with_reducible refine bel_drewN ?_ _ | (with_reducible refine bel_set ?_ ?_ _; rotate_left; ((try simp); (try omega))))) hb1
      have hg1 : Fresh (w.heap.size + 1 + 1 + 1) G1 := hf1.mono (by simp)
      clear hb1 hf1 hrep
      go_wp2_with fail
      refine (implRequestCells _ _ _ _ _ hq0 hq1 hq2 hq3).mono ?_
      rintro e w2 ⟨rfl, hb2⟩
      have hz_w2 := hb2.size
      (try simp at hz_w2)
      have ha0_w2 : w.heap.size < w2.heap.size := by omega
      have ha1_w2 : w.heap.size + 1 < w2.heap.size := by omega
      have ha2_w2 : w.heap.size + 2 < w2.heap.size := by omega
      have ha3_w2 : w1.heap.size < w2.heap.size := by omega
      obtain ⟨hc_w2, hf_w2, -⟩ := bcell hb2
      have hb_w2 : Below w.heap.size w w2 := bel_then (by repeat (first | with_reducible exact Below.refl _ _ | with_reducible assumption | with_reducible refine bel_alloc ?_ _ | with_reducible refine bel_drew ?_ | with_reducible refine bel_drewN ?_ _ | (with_reducible refine bel_set ?_ ?_ _; rotate_left; ((try simp); (try omega))))) hb2
      have hk2 : Keep (w.heap.size + 1 + 1 + 1) w1 w2 := Keep.bel (by repeat (first | with_reducible exact Keep.refl _ _ | with_reducible assumption | with_reducible refine Keep.alloc ?_ _ | with_reducible refine Keep.drew ?_ | with_reducible refine Keep.drewN ?_ _ | (with_reducible refine Keep.set_ ?_ ?_ _; rotate_left; ((try simp); (try omega))))) hb2
      clear hb2
      go_wp2_with fail
      refine (implIsResponse_any _ x _ _ (by exact Cod.bel hr2 (by repeat (first | with_reducible exact Below.refl _ _ | with_reducible assumption | with_reducible refine bel_alloc ?_ _ | with_reducible refine bel_drew ?_ | with_reducible refine bel_drewN ?_ _ | (with_reducible refine bel_set ?_ ?_ _; rotate_left; ((try simp); (try omega)))))) hn2).mono ?_
      rintro e w3 ⟨rfl, hb3⟩
      have hz_w3 := hb3.size
      (try simp at hz_w3)
      have ha0_w3 : w.heap.size < w3.heap.size := by omega
      have ha1_w3 : w.heap.size + 1 < w3.heap.size := by omega
      have ha2_w3 : w.heap.size + 2 < w3.heap.size := by omega
      have ha3_w3 : w1.heap.size < w3.heap.size := by omega
      obtain ⟨hc_w3, hf_w3, -⟩ := bcell hb3
      have hb_w3 : Below w.heap.size w w3 := bel_then (by repeat (first | with_reducible exact Below.refl _ _ | with_reducible assumption | with_reducible refine bel_alloc ?_ _ | with_reducible refine bel_drew ?_ | with_reducible refine bel_drewN ?_ _ | (with_reducible refine bel_set ?_ ?_ _; rotate_left; ((try simp); (try omega))))) hb3
      have hk3 : Keep (w.heap.size + 1 + 1 + 1) w1 w3 := Keep.bel (show Keep (w.heap.size + 1 + 1 + 1) w1 _ from (by repeat (first | with_reducible exact Keep.refl _ _ | with_reducible assumption | with_reducible refine Keep.alloc ?_ _ | with_reducible refine Keep.drew ?_ | with_reducible refine Keep.drewN ?_ _ | (with_reducible refine Keep.set_ ?_ ?_ _; rotate_left; ((try simp); (try omega)))))) hb3
      clear hb3
      go_wp2_with fail
      refine (implErrorResponse_any _).mono ?_
      rintro e w4 ⟨vs4, G4, rfl, hb4, hrep4, hf4⟩
      obtain ⟨v4, _, rfl, rfl, hok4, n4⟩ := TResp.outA hrep4
      obtain ⟨B4, d4, rfl⟩ := cL_form n4
      have hz_w4 := hb4.size
      (try simp at hz_w4)
      have ha0_w4 : w.heap.size < w4.heap.size := by omega
      have ha1_w4 : w.heap.size + 1 < w4.heap.size := by omega
      have ha2_w4 : w.heap.size + 2 < w4.heap.size := by omega
      have ha3_w4 : w1.heap.size < w4.heap.size := by omega
      obtain ⟨hc_w4, hf_w4, -⟩ := bcell hb4
      have hb_w4 : Below w.heap.size w w4 := bel_then (by repeat (first | with_reducible exact Below.refl _ _ | with_reducible assumption | with_reducible refine bel_alloc ?_ _ | with_reducible refine bel_drew ?_ | with_reducible refine bel_drewN ?_ _ | (with_reducible refine bel_set ?_ ?_ _; rotate_left; ((try simp); (try omega))))) hb4
      have hg4 : Fresh (w.heap.size + 1 + 1 + 1) G4 := hf4.mono (by (try simp); (try omega))
      clear hb4 hf4 hrep4
      have j0 : w4.cell? ⟨w.heap.size + 1 + 1, 0, none⟩ = some (.int .i64 0) := by go_simp
      have j1 : w4.cell? ⟨w.heap.size + 1 + 1, 1, none⟩ = some (.int .i64 0) := by go_simp
      have j2 : w4.cell? ⟨w.heap.size + 1 + 1, 2, none⟩ = some (.int .i64 0) := by go_simp
      have j3 : w4.cell? ⟨w.heap.size + 1 + 1, 3, none⟩ = some (.slice none 0 0) := by go_simp
      have j4 : w4.cell? ⟨w.heap.size + 1 + 1, 4, none⟩ = some (.bool false) := by go_simp
      go_wp2_with fail
      refine bodyPost_ret (v := .agg #[.int .i64 errorResponse.type, .int .i64 errorResponse.status, .int .i64 errorResponse.ver, .slice B4 errorResponse.body.length d4, .bool errorResponse.shares]) (by simp [results, Try.results17, go_sem, *]) rfl ?_
      exact ⟨_, G4, rfl, (by repeat (first | with_reducible exact Below.refl _ _ | with_reducible assumption | with_reducible refine bel_alloc ?_ _ | with_reducible refine bel_drew ?_ | with_reducible refine bel_drewN ?_ _ | (with_reducible refine bel_set ?_ ?_ _; rotate_left; ((try simp); (try omega))))), TResp.mk_ hok4 (Cod.keep2 n4 hg4 (by repeat (first | with_reducible exact Keep.refl _ _ | with_reducible assumption | with_reducible refine Keep.alloc ?_ _ | with_reducible refine Keep.drew ?_ | with_reducible refine Keep.drewN ?_ _ | (with_reducible refine Keep.set_ ?_ ?_ _; rotate_left; ((try simp); (try omega)))))), hg4.mono (by (try simp); (try omega))⟩
    · cases e3 : (x.type == 4)
      case true =>
        obtain rfl : R = errorResponse := by rw [HE.out, e1, e2, e3]; rfl
        clear HE
        go_enter Try.func17, Try.ntmps17
        go_wp2_with fail
        refine (implCopyResp_any _ x _ _ (by exact Cod.bel hr2 (by repeat (first | with_reducible exact Below.refl _ _ | with_reducible assumption | with_reducible refine bel_alloc ?_ _ | with_reducible refine bel_drew ?_ | with_reducible refine bel_drewN ?_ _ | (with_reducible refine bel_set ?_ ?_ _; rotate_left; ((try simp); (try omega)))))) hn2).mono ?_
        rintro e w1 ⟨vs1, G1, rfl, hb1, hrep, hf1⟩
        obtain ⟨v3, G3, rfl, rfl, -, n3⟩ := TResp.outA hrep
        obtain ⟨B3, d3, rfl⟩ := cL_form n3
        have hz_w1 := hb1.size
        (try simp at hz_w1)
        have ha0_w1 : w.heap.size < w1.heap.size := by omega
        have ha1_w1 : w.heap.size + 1 < w1.heap.size := by omega
        have ha2_w1 : w.heap.size + 2 < w1.heap.size := by omega
        obtain ⟨hc_w1, hf_w1, -⟩ := bcell hb1
        have hb_w1 : Below w.heap.size w w1 := bel_then (by repeat (first | with_reducible exact Below.refl _ _ | with_reducible assumption | with_reducible refine bel_alloc ?_ _ | with_reducible refine bel_drew ?_ | with_reducible refine bel_drewN ?_ _ | (with_reducible refine bel_set ?_ ?_ _; rotate_left; ((try simp); (try omega))))) hb1
        have hg1 : Fresh (w.heap.size + 1 + 1 + 1) G1 := hf1.mono (by simp)
        clear hb1 hf1 hrep
        go_wp2_with fail
        refine (implRequestCells _ _ _ _ _ hq0 hq1 hq2 hq3).mono ?_
        rintro e w2 ⟨rfl, hb2⟩
        have hz_w2 := hb2.size
        (try simp at hz_w2)
        have ha0_w2 : w.heap.size < w2.heap.size := by omega
        have ha1_w2 : w.heap.size + 1 < w2.heap.size := by omega
        have ha2_w2 : w.heap.size + 2 < w2.heap.size := by omega
        have ha3_w2 : w1.heap.size < w2.heap.size := by omega
        obtain ⟨hc_w2, hf_w2, -⟩ := bcell hb2
        have hb_w2 : Below w.heap.size w w2 := bel_then (by repeat (first | with_reducible exact Below.refl _ _ | with_reducible assumption | with_reducible refine bel_alloc ?_ _ | with_reducible refine bel_drew ?_ | with_reducible refine bel_drewN ?_ _ | (with_reducible refine bel_set ?_ ?_ _; rotate_left; ((try simp); (try omega))))) hb2
        have hk2 : Keep (w.heap.size + 1 + 1 + 1) w1 w2 := Keep.bel (by repeat (first | with_reducible exact Keep.refl _ _ | with_reducible assumption | with_reducible refine Keep.alloc ?_ _ | with_reducible refine Keep.drew ?_ | with_reducible refine Keep.drewN ?_ _ | (with_reducible refine Keep.set_ ?_ ?_ _; rotate_left; ((try simp); (try omega))))) hb2
        clear hb2
        go_wp2_with fail
        refine (implIsResponse_any _ x _ _ (by exact Cod.bel hr2 (by repeat (first | with_reducible exact Below.refl _ _ | with_reducible assumption | with_reducible refine bel_alloc ?_ _ | with_reducible refine bel_drew ?_ | with_reducible refine bel_drewN ?_ _ | (with_reducible refine bel_set ?_ ?_ _; rotate_left; ((try simp); (try omega)))))) hn2).mono ?_
        rintro e w3 ⟨rfl, hb3⟩
        have hz_w3 := hb3.size
        (try simp at hz_w3)
        have ha0_w3 : w.heap.size < w3.heap.size := by omega
        have ha1_w3 : w.heap.size + 1 < w3.heap.size := by omega
        have ha2_w3 : w.heap.size + 2 < w3.heap.size := by omega
        have ha3_w3 : w1.heap.size < w3.heap.size := by omega
        obtain ⟨hc_w3, hf_w3, -⟩ := bcell hb3
        have hb_w3 : Below w.heap.size w w3 := bel_then (by repeat (first | with_reducible exact Below.refl _ _ | with_reducible assumption | with_reducible refine bel_alloc ?_ _ | with_reducible refine bel_drew ?_ | with_reducible refine bel_drewN ?_ _ | (with_reducible refine bel_set ?_ ?_ _; rotate_left; ((try simp); (try omega))))) hb3
        have hk3 : Keep (w.heap.size + 1 + 1 + 1) w1 w3 := Keep.bel (show Keep (w.heap.size + 1 + 1 + 1) w1 _ from (by repeat (first | with_reducible exact Keep.refl _ _ | with_reducible assumption | with_reducible refine Keep.alloc ?_ _ | with_reducible refine Keep.drew ?_ | with_reducible refine Keep.drewN ?_ _ | (with_reducible refine Keep.set_ ?_ ?_ _; rotate_left; ((try simp); (try omega)))))) hb3
        clear hb3
        go_wp2_with fail
        refine (implErrorResponse_any _).mono ?_
        rintro e w4 ⟨vs4, G4, rfl, hb4, hrep4, hf4⟩
        obtain ⟨v4, _, rfl, rfl, hok4, n4⟩ := TResp.outA hrep4
        obtain ⟨B4, d4, rfl⟩ := cL_form n4
        have hz_w4 := hb4.size
        (try simp at hz_w4)
        have ha0_w4 : w.heap.size < w4.heap.size := by omega
        have ha1_w4 : w.heap.size + 1 < w4.heap.size := by omega
        have ha2_w4 : w.heap.size + 2 < w4.heap.size := by omega
        have ha3_w4 : w1.heap.size < w4.heap.size := by omega
        obtain ⟨hc_w4, hf_w4, -⟩ := bcell hb4
        have hb_w4 : Below w.heap.size w w4 := bel_then (by repeat (first | with_reducible exact Below.refl _ _ | with_reducible assumption | with_reducible refine bel_alloc ?_ _ | with_reducible refine bel_drew ?_ | with_reducible refine bel_drewN ?_ _ | (with_reducible refine bel_set ?_ ?_ _; rotate_left; ((try simp); (try omega))))) hb4
        have hg4 : Fresh (w.heap.size + 1 + 1 + 1) G4 := hf4.mono (by (try simp); (try omega))
        clear hb4 hf4 hrep4
        have j0 : w4.cell? ⟨w.heap.size + 1 + 1, 0, none⟩ = some (.int .i64 0) := by go_simp
        have j1 : w4.cell? ⟨w.heap.size + 1 + 1, 1, none⟩ = some (.int .i64 0) := by go_simp
        have j2 : w4.cell? ⟨w.heap.size + 1 + 1, 2, none⟩ = some (.int .i64 0) := by go_simp
        have j3 : w4.cell? ⟨w.heap.size + 1 + 1, 3, none⟩ = some (.slice none 0 0) := by go_simp
        have j4 : w4.cell? ⟨w.heap.size + 1 + 1, 4, none⟩ = some (.bool false) := by go_simp
        go_wp2_with fail
        refine bodyPost_ret (v := .agg #[.int .i64 errorResponse.type, .int .i64 errorResponse.status, .int .i64 errorResponse.ver, .slice B4 errorResponse.body.length d4, .bool errorResponse.shares]) (by simp [results, Try.results17, go_sem, *]) rfl ?_
        exact ⟨_, G4, rfl, (by repeat (first | with_reducible exact Below.refl _ _ | with_reducible assumption | with_reducible refine bel_alloc ?_ _ | with_reducible refine bel_drew ?_ | with_reducible refine bel_drewN ?_ _ | (with_reducible refine bel_set ?_ ?_ _; rotate_left; ((try simp); (try omega))))), TResp.mk_ hok4 (Cod.keep2 n4 hg4 (by repeat (first | with_reducible exact Keep.refl _ _ | with_reducible assumption | with_reducible refine Keep.alloc ?_ _ | with_reducible refine Keep.drew ?_ | with_reducible refine Keep.drewN ?_ _ | (with_reducible refine Keep.set_ ?_ ?_ _; rotate_left; ((try simp); (try omega)))))), hg4.mono (by (try simp); (try omega))⟩
      case false =>
        cases e4 : (a.toList == b.toList)
        case true =>
          obtain rfl : R = ⟨1, x.status, x.ver, x.body, x.shares⟩ := by rw [HE.out, e1, e2, e3, show strEq a b = true from e4]; rfl
          clear HE
          go_enter Try.func17, Try.ntmps17
          go_wp2_with fail
          refine (implCopyResp_any _ x _ _ (by exact Cod.bel hr2 (by repeat (first | with_reducible exact Below.refl _ _ | with_reducible assumption | with_reducible refine bel_alloc ?_ _ | with_reducible refine bel_drew ?_ | with_reducible refine bel_drewN ?_ _ | (with_reducible refine bel_set ?_ ?_ _; rotate_left; ((try simp); (try omega)))))) hn2).mono ?_
          rintro e w1 ⟨vs1, G1, rfl, hb1, hrep, hf1⟩
          obtain ⟨v3, G3, rfl, rfl, -, n3⟩ := TResp.outA hrep
          obtain ⟨B3, d3, rfl⟩ := cL_form n3
          have hz_w1 := hb1.size
          (try simp at hz_w1)
          have ha0_w1 : w.heap.size < w1.heap.size := by omega
          have ha1_w1 : w.heap.size + 1 < w1.heap.size := by omega
          have ha2_w1 : w.heap.size + 2 < w1.heap.size := by omega
          obtain ⟨hc_w1, hf_w1, -⟩ := bcell hb1
          have hb_w1 : Below w.heap.size w w1 := bel_then (by repeat (first | with_reducible exact Below.refl _ _ | with_reducible assumption | with_reducible refine bel_alloc ?_ _ | with_reducible refine bel_drew ?_ | with_reducible refine bel_drewN ?_ _ | (with_reducible refine bel_set ?_ ?_ _; rotate_left; ((try simp); (try omega))))) hb1
          have hg1 : Fresh (w.heap.size + 1 + 1 + 1) G1 := hf1.mono (by simp)
          clear hb1 hf1 hrep
          go_wp2_with fail
          refine (implRequestCells _ _ _ _ _ hq0 hq1 hq2 hq3).mono ?_
          rintro e w2 ⟨rfl, hb2⟩
          have hz_w2 := hb2.size
          (try simp at hz_w2)
          have ha0_w2 : w.heap.size < w2.heap.size := by omega
          have ha1_w2 : w.heap.size + 1 < w2.heap.size := by omega
          have ha2_w2 : w.heap.size + 2 < w2.heap.size := by omega
          have ha3_w2 : w1.heap.size < w2.heap.size := by omega
          obtain ⟨hc_w2, hf_w2, -⟩ := bcell hb2
          have hb_w2 : Below w.heap.size w w2 := bel_then (by repeat (first | with_reducible exact Below.refl _ _ | with_reducible assumption | with_reducible refine bel_alloc ?_ _ | with_reducible refine bel_drew ?_ | with_reducible refine bel_drewN ?_ _ | (with_reducible refine bel_set ?_ ?_ _; rotate_left; ((try simp); (try omega))))) hb2
          have hk2 : Keep (w.heap.size + 1 + 1 + 1) w1 w2 := Keep.bel (by repeat (first | with_reducible exact Keep.refl _ _ | with_reducible assumption | with_reducible refine Keep.alloc ?_ _ | with_reducible refine Keep.drew ?_ | with_reducible refine Keep.drewN ?_ _ | (with_reducible refine Keep.set_ ?_ ?_ _; rotate_left; ((try simp); (try omega))))) hb2
          clear hb2
          go_wp2_with fail
          refine (implIsResponse_any _ x _ _ (by exact Cod.bel hr2 (by repeat (first | with_reducible exact Below.refl _ _ | with_reducible assumption | with_reducible refine bel_alloc ?_ _ | with_reducible refine bel_drew ?_ | with_reducible refine bel_drewN ?_ _ | (with_reducible refine bel_set ?_ ?_ _; rotate_left; ((try simp); (try omega)))))) hn2).mono ?_
          rintro e w3 ⟨rfl, hb3⟩
          have hz_w3 := hb3.size
          (try simp at hz_w3)
          have ha0_w3 : w.heap.size < w3.heap.size := by omega
          have ha1_w3 : w.heap.size + 1 < w3.heap.size := by omega
          have ha2_w3 : w.heap.size + 2 < w3.heap.size := by omega
          have ha3_w3 : w1.heap.size < w3.heap.size := by omega
          obtain ⟨hc_w3, hf_w3, -⟩ := bcell hb3
          have hb_w3 : Below w.heap.size w w3 := bel_then (by repeat (first | with_reducible exact Below.refl _ _ | with_reducible assumption | with_reducible refine bel_alloc ?_ _ | with_reducible refine bel_drew ?_ | with_reducible refine bel_drewN ?_ _ | (with_reducible refine bel_set ?_ ?_ _; rotate_left; ((try simp); (try omega))))) hb3
          have hk3 : Keep (w.heap.size + 1 + 1 + 1) w1 w3 := Keep.bel (show Keep (w.heap.size + 1 + 1 + 1) w1 _ from (by repeat (first | with_reducible exact Keep.refl _ _ | with_reducible assumption | with_reducible refine Keep.alloc ?_ _ | with_reducible refine Keep.drew ?_ | with_reducible refine Keep.drewN ?_ _ | (with_reducible refine Keep.set_ ?_ ?_ _; rotate_left; ((try simp); (try omega)))))) hb3
          clear hb3
          have hnb : ∀ b, b ∈ G1 → w.heap.size + 1 + 1 + 1 ≤ b ∧ b < w1.heap.size := fun b hb => ⟨hg1.1 b hb, Cod.lt _ n3 b hb⟩
          have n9 := Cod.keep2 n3 hg1 hk3
          have j0 : w3.cell? ⟨w.heap.size + 1 + 1, 0, none⟩ = some (.int .i64 0) := by go_simp
          have j1 : w3.cell? ⟨w.heap.size + 1 + 1, 1, none⟩ = some (.int .i64 0) := by go_simp
          have j2 : w3.cell? ⟨w.heap.size + 1 + 1, 2, none⟩ = some (.int .i64 0) := by go_simp
          have j3 : w3.cell? ⟨w.heap.size + 1 + 1, 3, none⟩ = some (.slice none 0 0) := by go_simp
          have j4 : w3.cell? ⟨w.heap.size + 1 + 1, 4, none⟩ = some (.bool false) := by go_simp
          go_wp2_with fail
          refine bodyPost_ret (v := .agg #[.int .i64 1, .int .i64 x.status, .int .i64 x.ver, .slice B3 x.body.length d3, .bool x.shares]) (by simp [results, Try.results17, go_sem, *]) rfl ?_
          exact ⟨_, G1, rfl, (by repeat (first | with_reducible exact Below.refl _ _ | with_reducible assumption | with_reducible refine bel_alloc ?_ _ | with_reducible refine bel_drew ?_ | with_reducible refine bel_drewN ?_ _ | (with_reducible refine bel_set ?_ ?_ _; rotate_left; ((try simp); (try omega))))), TResp.mk_ (x := ⟨1, x.status, x.ver, x.body, x.shares⟩) ⟨⟨show (-9223372036854775808 : Int) ≤ 1 by decide, show (1 : Int) ≤ 9223372036854775807 by decide⟩, hok.h1, hok.h2⟩ (by repeat (first | with_reducible exact n9 | with_reducible refine Cod.allocA ?_ _ | with_reducible refine Cod.drewA ?_ | with_reducible refine Cod.drewNA ?_ _ | ((with_reducible refine Cod.setA ?_ ?_ _); rotate_left; ((intro hm9; have hm8 := hnb _ hm9; (try simp at hm8); (try omega)))))), hg1.mono (by (try simp); (try omega))⟩
        case false =>
          cases e5 : (m == 2)
          case true =>
            obtain ⟨ty, st, ve, bo, sh⟩ := x
            simp only at *
            cases sh
            case true =>
              obtain rfl : R = ⟨2, st, ve, bo, true⟩ := by rw [HE.out, e1, e2, e3, show strEq a b = false from e4, e5]; rfl
              clear HE
              go_enter Try.func17, Try.ntmps17
              go_wp2_with fail
              refine (implCopyResp_any _ ⟨ty, st, ve, bo, true⟩ _ _ (by exact Cod.bel hr2 (by repeat (first | with_reducible exact Below.refl _ _ | with_reducible assumption | with_reducible refine bel_alloc ?_ _ | with_reducible refine bel_drew ?_ | with_reducible refine bel_drewN ?_ _ | (with_reducible refine bel_set ?_ ?_ _; rotate_left; ((try simp); (try omega)))))) hn2).mono ?_
              rintro e w1 ⟨vs1, G1, rfl, hb1, hrep, hf1⟩
              obtain ⟨v3, G3, rfl, rfl, -, n3⟩ := TResp.outA hrep
              obtain ⟨B3, d3, rfl⟩ := cL_form n3
              have hz_w1 := hb1.size
              (try simp at hz_w1)
              have ha0_w1 : w.heap.size < w1.heap.size := by omega
              have ha1_w1 : w.heap.size + 1 < w1.heap.size := by omega
              have ha2_w1 : w.heap.size + 2 < w1.heap.size := by omega
              obtain ⟨hc_w1, hf_w1, -⟩ := bcell hb1
              have hb_w1 : Below w.heap.size w w1 := bel_then (by repeat (first | with_reducible exact Below.refl _ _ | with_reducible assumption | with_reducible refine bel_alloc ?_ _ | with_reducible refine bel_drew ?_ | with_reducible refine bel_drewN ?_ _ | (with_reducible refine bel_set ?_ ?_ _; rotate_left; ((try simp); (try omega))))) hb1
              have hg1 : Fresh (w.heap.size + 1 + 1 + 1) G1 := hf1.mono (by simp)
              clear hb1 hf1 hrep
              go_wp2_with fail
              refine (implRequestCells _ _ _ _ _ hq0 hq1 hq2 hq3).mono ?_
              rintro e w2 ⟨rfl, hb2⟩
              have hz_w2 := hb2.size
              (try simp at hz_w2)
              have ha0_w2 : w.heap.size < w2.heap.size := by omega
              have ha1_w2 : w.heap.size + 1 < w2.heap.size := by omega
              have ha2_w2 : w.heap.size + 2 < w2.heap.size := by omega
              have ha3_w2 : w1.heap.size < w2.heap.size := by omega
              obtain ⟨hc_w2, hf_w2, -⟩ := bcell hb2
              have hb_w2 : Below w.heap.size w w2 := bel_then (by repeat (first | with_reducible exact Below.refl _ _ | with_reducible assumption | with_reducible refine bel_alloc ?_ _ | with_reducible refine bel_drew ?_ | with_reducible refine bel_drewN ?_ _ | (with_reducible refine bel_set ?_ ?_ _; rotate_left; ((try simp); (try omega))))) hb2
              have hk2 : Keep (w.heap.size + 1 + 1 + 1) w1 w2 := Keep.bel (by repeat (first | with_reducible exact Keep.refl _ _ | with_reducible assumption | with_reducible refine Keep.alloc ?_ _ | with_reducible refine Keep.drew ?_ | with_reducible refine Keep.drewN ?_ _ | (with_reducible refine Keep.set_ ?_ ?_ _; rotate_left; ((try simp); (try omega))))) hb2
              clear hb2
              go_wp2_with fail
              refine (implIsResponse_any _ ⟨ty, st, ve, bo, true⟩ _ _ (by exact Cod.bel hr2 (by repeat (first | with_reducible exact Below.refl _ _ | with_reducible assumption | with_reducible refine bel_alloc ?_ _ | with_reducible refine bel_drew ?_ | with_reducible refine bel_drewN ?_ _ | (with_reducible refine bel_set ?_ ?_ _; rotate_left; ((try simp); (try omega)))))) hn2).mono ?_
              rintro e w3 ⟨rfl, hb3⟩
              have hz_w3 := hb3.size
              (try simp at hz_w3)
              have ha0_w3 : w.heap.size < w3.heap.size := by omega
              have ha1_w3 : w.heap.size + 1 < w3.heap.size := by omega
              have ha2_w3 : w.heap.size + 2 < w3.heap.size := by omega
              have ha3_w3 : w1.heap.size < w3.heap.size := by omega
              obtain ⟨hc_w3, hf_w3, -⟩ := bcell hb3
              have hb_w3 : Below w.heap.size w w3 := bel_then (by repeat (first | with_reducible exact Below.refl _ _ | with_reducible assumption | with_reducible refine bel_alloc ?_ _ | with_reducible refine bel_drew ?_ | with_reducible refine bel_drewN ?_ _ | (with_reducible refine bel_set ?_ ?_ _; rotate_left; ((try simp); (try omega))))) hb3
              have hk3 : Keep (w.heap.size + 1 + 1 + 1) w1 w3 := Keep.bel (show Keep (w.heap.size + 1 + 1 + 1) w1 _ from (by repeat (first | with_reducible exact Keep.refl _ _ | with_reducible assumption | with_reducible refine Keep.alloc ?_ _ | with_reducible refine Keep.drew ?_ | with_reducible refine Keep.drewN ?_ _ | (with_reducible refine Keep.set_ ?_ ?_ _; rotate_left; ((try simp); (try omega)))))) hb3
              clear hb3
              have hnb : ∀ b, b ∈ G1 → w.heap.size + 1 + 1 + 1 ≤ b ∧ b < w1.heap.size := fun b hb => ⟨hg1.1 b hb, Cod.lt _ n3 b hb⟩
              have n9 := Cod.keep2 n3 hg1 hk3
              have j0 : w3.cell? ⟨w.heap.size + 1 + 1, 0, none⟩ = some (.int .i64 0) := by go_simp
              have j1 : w3.cell? ⟨w.heap.size + 1 + 1, 1, none⟩ = some (.int .i64 0) := by go_simp
              have j2 : w3.cell? ⟨w.heap.size + 1 + 1, 2, none⟩ = some (.int .i64 0) := by go_simp
              have j3 : w3.cell? ⟨w.heap.size + 1 + 1, 3, none⟩ = some (.slice none 0 0) := by go_simp
              have j4 : w3.cell? ⟨w.heap.size + 1 + 1, 4, none⟩ = some (.bool false) := by go_simp
              go_wp2_with fail
              refine bodyPost_ret (v := .agg #[.int .i64 2, .int .i64 st, .int .i64 ve, .slice B3 bo.length d3, .bool true]) (by simp [results, Try.results17, go_sem, *]) rfl ?_
              exact ⟨_, G1, rfl, (by repeat (first | with_reducible exact Below.refl _ _ | with_reducible assumption | with_reducible refine bel_alloc ?_ _ | with_reducible refine bel_drew ?_ | with_reducible refine bel_drewN ?_ _ | (with_reducible refine bel_set ?_ ?_ _; rotate_left; ((try simp); (try omega))))), TResp.mk_ (x := ⟨2, st, ve, bo, true⟩) ⟨⟨show (-9223372036854775808 : Int) ≤ 2 by decide, show (2 : Int) ≤ 9223372036854775807 by decide⟩, hok.h1, hok.h2⟩ (by repeat (first | with_reducible exact n9 | with_reducible refine Cod.allocA ?_ _ | with_reducible refine Cod.drewA ?_ | with_reducible refine Cod.drewNA ?_ _ | ((with_reducible refine Cod.setA ?_ ?_ _); rotate_left; ((intro hm9; have hm8 := hnb _ hm9; (try simp at hm8); (try omega)))))), hg1.mono (by (try simp); (try omega))⟩
            case false =>
              cases e6 : (m == 3)
              case true => (exfalso; simp at e5 e6; omega)
              case false =>
                obtain rfl : R = errorResponse := by rw [HE.out, e1, e2, e3, show strEq a b = false from e4, e5, e6]; rfl
                clear HE
                go_enter Try.func17, Try.ntmps17
                go_wp2_with fail
                refine (implCopyResp_any _ ⟨ty, st, ve, bo, false⟩ _ _ (by exact Cod.bel hr2 (by repeat (first | with_reducible exact Below.refl _ _ | with_reducible assumption | with_reducible refine bel_alloc ?_ _ | with_reducible refine bel_drew ?_ | with_reducible refine bel_drewN ?_ _ | (with_reducible refine bel_set ?_ ?_ _; rotate_left; ((try simp); (try omega)))))) hn2).mono ?_
                rintro e w1 ⟨vs1, G1, rfl, hb1, hrep, hf1⟩
                obtain ⟨v3, G3, rfl, rfl, -, n3⟩ := TResp.outA hrep
                obtain ⟨B3, d3, rfl⟩ := cL_form n3
                have hz_w1 := hb1.size
                (try simp at hz_w1)
                have ha0_w1 : w.heap.size < w1.heap.size := by omega
                have ha1_w1 : w.heap.size + 1 < w1.heap.size := by omega
                have ha2_w1 : w.heap.size + 2 < w1.heap.size := by omega
                obtain ⟨hc_w1, hf_w1, -⟩ := bcell hb1
                have hb_w1 : Below w.heap.size w w1 := bel_then (by repeat (first | with_reducible exact Below.refl _ _ | with_reducible assumption | with_reducible refine bel_alloc ?_ _ | with_reducible refine bel_drew ?_ | with_reducible refine bel_drewN ?_ _ | (with_reducible refine bel_set ?_ ?_ _; rotate_left; ((try simp); (try omega))))) hb1
                have hg1 : Fresh (w.heap.size + 1 + 1 + 1) G1 := hf1.mono (by simp)
                clear hb1 hf1 hrep
                go_wp2_with fail
                refine (implRequestCells _ _ _ _ _ hq0 hq1 hq2 hq3).mono ?_
                rintro e w2 ⟨rfl, hb2⟩
                have hz_w2 := hb2.size
                (try simp at hz_w2)
                have ha0_w2 : w.heap.size < w2.heap.size := by omega
                have ha1_w2 : w.heap.size + 1 < w2.heap.size := by omega
                have ha2_w2 : w.heap.size + 2 < w2.heap.size := by omega
                have ha3_w2 : w1.heap.size < w2.heap.size := by omega
                obtain ⟨hc_w2, hf_w2, -⟩ := bcell hb2
                have hb_w2 : Below w.heap.size w w2 := bel_then (by repeat (first | with_reducible exact Below.refl _ _ | with_reducible assumption | with_reducible refine bel_alloc ?_ _ | with_reducible refine bel_drew ?_ | with_reducible refine bel_drewN ?_ _ | (with_reducible refine bel_set ?_ ?_ _; rotate_left; ((try simp); (try omega))))) hb2
                have hk2 : Keep (w.heap.size + 1 + 1 + 1) w1 w2 := Keep.bel (by repeat (first | with_reducible exact Keep.refl _ _ | with_reducible assumption | with_reducible refine Keep.alloc ?_ _ | with_reducible refine Keep.drew ?_ | with_reducible refine Keep.drewN ?_ _ | (with_reducible refine Keep.set_ ?_ ?_ _; rotate_left; ((try simp); (try omega))))) hb2
                clear hb2
                go_wp2_with fail
                refine (implIsResponse_any _ ⟨ty, st, ve, bo, false⟩ _ _ (by exact Cod.bel hr2 (by repeat (first | with_reducible exact Below.refl _ _ | with_reducible assumption | with_reducible refine bel_alloc ?_ _ | with_reducible refine bel_drew ?_ | with_reducible refine bel_drewN ?_ _ | (with_reducible refine bel_set ?_ ?_ _; rotate_left; ((try simp); (try omega)))))) hn2).mono ?_
                rintro e w3 ⟨rfl, hb3⟩
                have hz_w3 := hb3.size
                (try simp at hz_w3)
                have ha0_w3 : w.heap.size < w3.heap.size := by omega
                have ha1_w3 : w.heap.size + 1 < w3.heap.size := by omega
                have ha2_w3 : w.heap.size + 2 < w3.heap.size := by omega
                have ha3_w3 : w1.heap.size < w3.heap.size := by omega
                obtain ⟨hc_w3, hf_w3, -⟩ := bcell hb3
                have hb_w3 : Below w.heap.size w w3 := bel_then (by repeat (first | with_reducible exact Below.refl _ _ | with_reducible assumption | with_reducible refine bel_alloc ?_ _ | with_reducible refine bel_drew ?_ | with_reducible refine bel_drewN ?_ _ | (with_reducible refine bel_set ?_ ?_ _; rotate_left; ((try simp); (try omega))))) hb3
                have hk3 : Keep (w.heap.size + 1 + 1 + 1) w1 w3 := Keep.bel (show Keep (w.heap.size + 1 + 1 + 1) w1 _ from (by repeat (first | with_reducible exact Keep.refl _ _ | with_reducible assumption | with_reducible refine Keep.alloc ?_ _ | with_reducible refine Keep.drew ?_ | with_reducible refine Keep.drewN ?_ _ | (with_reducible refine Keep.set_ ?_ ?_ _; rotate_left; ((try simp); (try omega)))))) hb3
                clear hb3
                go_wp2_with fail
                refine (implErrorResponse_any _).mono ?_
                rintro e w4 ⟨vs4, G4, rfl, hb4, hrep4, hf4⟩
                obtain ⟨v4, _, rfl, rfl, hok4, n4⟩ := TResp.outA hrep4
                obtain ⟨B4, d4, rfl⟩ := cL_form n4
                have hz_w4 := hb4.size
                (try simp at hz_w4)
                have ha0_w4 : w.heap.size < w4.heap.size := by omega
                have ha1_w4 : w.heap.size + 1 < w4.heap.size := by omega
                have ha2_w4 : w.heap.size + 2 < w4.heap.size := by omega
                have ha3_w4 : w1.heap.size < w4.heap.size := by omega
                obtain ⟨hc_w4, hf_w4, -⟩ := bcell hb4
                have hb_w4 : Below w.heap.size w w4 := bel_then (by repeat (first | with_reducible exact Below.refl _ _ | with_reducible assumption | with_reducible refine bel_alloc ?_ _ | with_reducible refine bel_drew ?_ | with_reducible refine bel_drewN ?_ _ | (with_reducible refine bel_set ?_ ?_ _; rotate_left; ((try simp); (try omega))))) hb4
                have hg4 : Fresh (w.heap.size + 1 + 1 + 1) G4 := hf4.mono (by (try simp); (try omega))
                clear hb4 hf4 hrep4
                have j0 : w4.cell? ⟨w.heap.size + 1 + 1, 0, none⟩ = some (.int .i64 0) := by go_simp
                have j1 : w4.cell? ⟨w.heap.size + 1 + 1, 1, none⟩ = some (.int .i64 0) := by go_simp
                have j2 : w4.cell? ⟨w.heap.size + 1 + 1, 2, none⟩ = some (.int .i64 0) := by go_simp
                have j3 : w4.cell? ⟨w.heap.size + 1 + 1, 3, none⟩ = some (.slice none 0 0) := by go_simp
                have j4 : w4.cell? ⟨w.heap.size + 1 + 1, 4, none⟩ = some (.bool false) := by go_simp
                go_wp2_with fail
                refine bodyPost_ret (v := .agg #[.int .i64 errorResponse.type, .int .i64 errorResponse.status, .int .i64 errorResponse.ver, .slice B4 errorResponse.body.length d4, .bool errorResponse.shares]) (by simp [results, Try.results17, go_sem, *]) rfl ?_
                exact ⟨_, G4, rfl, (by repeat (first | with_reducible exact Below.refl _ _ | with_reducible assumption | with_reducible refine bel_alloc ?_ _ | with_reducible refine bel_drew ?_ | with_reducible refine bel_drewN ?_ _ | (with_reducible refine bel_set ?_ ?_ _; rotate_left; ((try simp); (try omega))))), TResp.mk_ hok4 (Cod.keep2 n4 hg4 (by repeat (first | with_reducible exact Keep.refl _ _ | with_reducible assumption | with_reducible refine Keep.alloc ?_ _ | with_reducible refine Keep.drew ?_ | with_reducible refine Keep.drewN ?_ _ | (with_reducible refine Keep.set_ ?_ ?_ _; rotate_left; ((try simp); (try omega)))))), hg4.mono (by (try simp); (try omega))⟩
          case false =>
            cases e6 : (m == 3)
            case true =>
              obtain rfl : R = ⟨3, 0, 0, [], false⟩ := by rw [HE.out, e1, e2, e3, show strEq a b = false from e4, e5, e6]; rfl
              clear HE
              go_enter Try.func17, Try.ntmps17
              go_wp2_with fail
              refine (implCopyResp_any _ x _ _ (by exact Cod.bel hr2 (by repeat (first | with_reducible exact Below.refl _ _ | with_reducible assumption | with_reducible refine bel_alloc ?_ _ | with_reducible refine bel_drew ?_ | with_reducible refine bel_drewN ?_ _ | (with_reducible refine bel_set ?_ ?_ _; rotate_left; ((try simp); (try omega)))))) hn2).mono ?_
              rintro e w1 ⟨vs1, G1, rfl, hb1, hrep, hf1⟩
              obtain ⟨v3, G3, rfl, rfl, -, n3⟩ := TResp.outA hrep
              obtain ⟨B3, d3, rfl⟩ := cL_form n3
              have hz_w1 := hb1.size
              (try simp at hz_w1)
              have ha0_w1 : w.heap.size < w1.heap.size := by omega
              have ha1_w1 : w.heap.size + 1 < w1.heap.size := by omega
              have ha2_w1 : w.heap.size + 2 < w1.heap.size := by omega
              obtain ⟨hc_w1, hf_w1, -⟩ := bcell hb1
              have hb_w1 : Below w.heap.size w w1 := bel_then (by repeat (first | with_reducible exact Below.refl _ _ | with_reducible assumption | with_reducible refine bel_alloc ?_ _ | with_reducible refine bel_drew ?_ | with_reducible refine bel_drewN ?_ _ | (with_reducible refine bel_set ?_ ?_ _; rotate_left; ((try simp); (try omega))))) hb1
              have hg1 : Fresh (w.heap.size + 1 + 1 + 1) G1 := hf1.mono (by simp)
              clear hb1 hf1 hrep
              go_wp2_with fail
              refine (implRequestCells _ _ _ _ _ hq0 hq1 hq2 hq3).mono ?_
              rintro e w2 ⟨rfl, hb2⟩
              have hz_w2 := hb2.size
              (try simp at hz_w2)
              have ha0_w2 : w.heap.size < w2.heap.size := by omega
              have ha1_w2 : w.heap.size + 1 < w2.heap.size := by omega
              have ha2_w2 : w.heap.size + 2 < w2.heap.size := by omega
              have ha3_w2 : w1.heap.size < w2.heap.size := by omega
              obtain ⟨hc_w2, hf_w2, -⟩ := bcell hb2
              have hb_w2 : Below w.heap.size w w2 := bel_then (by repeat (first | with_reducible exact Below.refl _ _ | with_reducible assumption | with_reducible refine bel_alloc ?_ _ | with_reducible refine bel_drew ?_ | with_reducible refine bel_drewN ?_ _ | (with_reducible refine bel_set ?_ ?_ _; rotate_left; ((try simp); (try omega))))) hb2
              have hk2 : Keep (w.heap.size + 1 + 1 + 1) w1 w2 := Keep.bel (by repeat (first | with_reducible exact Keep.refl _ _ | with_reducible assumption | with_reducible refine Keep.alloc ?_ _ | with_reducible refine Keep.drew ?_ | with_reducible refine Keep.drewN ?_ _ | (with_reducible refine Keep.set_ ?_ ?_ _; rotate_left; ((try simp); (try omega))))) hb2
              clear hb2
              go_wp2_with fail
              refine (implIsResponse_any _ x _ _ (by exact Cod.bel hr2 (by repeat (first | with_reducible exact Below.refl _ _ | with_reducible assumption | with_reducible refine bel_alloc ?_ _ | with_reducible refine bel_drew ?_ | with_reducible refine bel_drewN ?_ _ | (with_reducible refine bel_set ?_ ?_ _; rotate_left; ((try simp); (try omega)))))) hn2).mono ?_
              rintro e w3 ⟨rfl, hb3⟩
              have hz_w3 := hb3.size
              (try simp at hz_w3)
              have ha0_w3 : w.heap.size < w3.heap.size := by omega
              have ha1_w3 : w.heap.size + 1 < w3.heap.size := by omega
              have ha2_w3 : w.heap.size + 2 < w3.heap.size := by omega
              have ha3_w3 : w1.heap.size < w3.heap.size := by omega
              obtain ⟨hc_w3, hf_w3, -⟩ := bcell hb3
              have hb_w3 : Below w.heap.size w w3 := bel_then (by repeat (first | with_reducible exact Below.refl _ _ | with_reducible assumption | with_reducible refine bel_alloc ?_ _ | with_reducible refine bel_drew ?_ | with_reducible refine bel_drewN ?_ _ | (with_reducible refine bel_set ?_ ?_ _; rotate_left; ((try simp); (try omega))))) hb3
              have hk3 : Keep (w.heap.size + 1 + 1 + 1) w1 w3 := Keep.bel (show Keep (w.heap.size + 1 + 1 + 1) w1 _ from (by repeat (first | with_reducible exact Keep.refl _ _ | with_reducible assumption | with_reducible refine Keep.alloc ?_ _ | with_reducible refine Keep.drew ?_ | with_reducible refine Keep.drewN ?_ _ | (with_reducible refine Keep.set_ ?_ ?_ _; rotate_left; ((try simp); (try omega)))))) hb3
              clear hb3
              have j0 : w3.cell? ⟨w.heap.size + 1 + 1, 0, none⟩ = some (.int .i64 0) := by go_simp
              have j1 : w3.cell? ⟨w.heap.size + 1 + 1, 1, none⟩ = some (.int .i64 0) := by go_simp
              have j2 : w3.cell? ⟨w.heap.size + 1 + 1, 2, none⟩ = some (.int .i64 0) := by go_simp
              have j3 : w3.cell? ⟨w.heap.size + 1 + 1, 3, none⟩ = some (.slice none 0 0) := by go_simp
              have j4 : w3.cell? ⟨w.heap.size + 1 + 1, 4, none⟩ = some (.bool false) := by go_simp
              go_wp2_with fail
              refine bodyPost_ret (v := .agg #[.int .i64 3, .int .i64 0, .int .i64 0, .slice none 0 0, .bool false]) (by simp [results, Try.results17, go_sem, *]) rfl ?_
              exact ⟨_, [], rfl, (by repeat (first | with_reducible exact Below.refl _ _ | with_reducible assumption | with_reducible refine bel_alloc ?_ _ | with_reducible refine bel_drew ?_ | with_reducible refine bel_drewN ?_ _ | (with_reducible refine bel_set ?_ ?_ _; rotate_left; ((try simp); (try omega))))), TResp.mk_ (x := ⟨3, 0, 0, [], false⟩) ⟨by decide, by decide, by decide⟩ ⟨none, 0, rfl, by decide, by decide, .inl ⟨rfl, rfl⟩⟩, Fresh.nil _⟩
            case false =>
              obtain rfl : R = errorResponse := by rw [HE.out, e1, e2, e3, show strEq a b = false from e4, e5, e6]; rfl
              clear HE
              go_enter Try.func17, Try.ntmps17
              go_wp2_with fail
              refine (implCopyResp_any _ x _ _ (by exact Cod.bel hr2 (by repeat (first | with_reducible exact Below.refl _ _ | with_reducible assumption | with_reducible refine bel_alloc ?_ _ | with_reducible refine bel_drew ?_ | with_reducible refine bel_drewN ?_ _ | (with_reducible refine bel_set ?_ ?_ _; rotate_left; ((try simp); (try omega)))))) hn2).mono ?_
              rintro e w1 ⟨vs1, G1, rfl, hb1, hrep, hf1⟩
              obtain ⟨v3, G3, rfl, rfl, -, n3⟩ := TResp.outA hrep
              obtain ⟨B3, d3, rfl⟩ := cL_form n3
              have hz_w1 := hb1.size
              (try simp at hz_w1)
              have ha0_w1 : w.heap.size < w1.heap.size := by omega
              have ha1_w1 : w.heap.size + 1 < w1.heap.size := by omega
              have ha2_w1 : w.heap.size + 2 < w1.heap.size := by omega
              obtain ⟨hc_w1, hf_w1, -⟩ := bcell hb1
              have hb_w1 : Below w.heap.size w w1 := bel_then (by repeat (first | with_reducible exact Below.refl _ _ | with_reducible assumption | with_reducible refine bel_alloc ?_ _ | with_reducible refine bel_drew ?_ | with_reducible refine bel_drewN ?_ _ | (with_reducible refine bel_set ?_ ?_ _; rotate_left; ((try simp); (try omega))))) hb1
              have hg1 : Fresh (w.heap.size + 1 + 1 + 1) G1 := hf1.mono (by simp)
              clear hb1 hf1 hrep
              go_wp2_with fail
              refine (implRequestCells _ _ _ _ _ hq0 hq1 hq2 hq3).mono ?_
              rintro e w2 ⟨rfl, hb2⟩
              have hz_w2 := hb2.size
              (try simp at hz_w2)
              have ha0_w2 : w.heap.size < w2.heap.size := by omega
              have ha1_w2 : w.heap.size + 1 < w2.heap.size := by omega
              have ha2_w2 : w.heap.size + 2 < w2.heap.size := by omega
              have ha3_w2 : w1.heap.size < w2.heap.size := by omega
              obtain ⟨hc_w2, hf_w2, -⟩ := bcell hb2
              have hb_w2 : Below w.heap.size w w2 := bel_then (by repeat (first | with_reducible exact Below.refl _ _ | with_reducible assumption | with_reducible refine bel_alloc ?_ _ | with_reducible refine bel_drew ?_ | with_reducible refine bel_drewN ?_ _ | (with_reducible refine bel_set ?_ ?_ _; rotate_left; ((try simp); (try omega))))) hb2
              have hk2 : Keep (w.heap.size + 1 + 1 + 1) w1 w2 := Keep.bel (by repeat (first | with_reducible exact Keep.refl _ _ | with_reducible assumption | with_reducible refine Keep.alloc ?_ _ | with_reducible refine Keep.drew ?_ | with_reducible refine Keep.drewN ?_ _ | (with_reducible refine Keep.set_ ?_ ?_ _; rotate_left; ((try simp); (try omega))))) hb2
              clear hb2
              go_wp2_with fail
              refine (implIsResponse_any _ x _ _ (by exact Cod.bel hr2 (by repeat (first | with_reducible exact Below.refl _ _ | with_reducible assumption | with_reducible refine bel_alloc ?_ _ | with_reducible refine bel_drew ?_ | with_reducible refine bel_drewN ?_ _ | (with_reducible refine bel_set ?_ ?_ _; rotate_left; ((try simp); (try omega)))))) hn2).mono ?_
              rintro e w3 ⟨rfl, hb3⟩
              have hz_w3 := hb3.size
              (try simp at hz_w3)
              have ha0_w3 : w.heap.size < w3.heap.size := by omega
              have ha1_w3 : w.heap.size + 1 < w3.heap.size := by omega
              have ha2_w3 : w.heap.size + 2 < w3.heap.size := by omega
              have ha3_w3 : w1.heap.size < w3.heap.size := by omega
              obtain ⟨hc_w3, hf_w3, -⟩ := bcell hb3
              have hb_w3 : Below w.heap.size w w3 := bel_then (by repeat (first | with_reducible exact Below.refl _ _ | with_reducible assumption | with_reducible refine bel_alloc ?_ _ | with_reducible refine bel_drew ?_ | with_reducible refine bel_drewN ?_ _ | (with_reducible refine bel_set ?_ ?_ _; rotate_left; ((try simp); (try omega))))) hb3
              have hk3 : Keep (w.heap.size + 1 + 1 + 1) w1 w3 := Keep.bel (show Keep (w.heap.size + 1 + 1 + 1) w1 _ from (by repeat (first | with_reducible exact Keep.refl _ _ | with_reducible assumption | with_reducible refine Keep.alloc ?_ _ | with_reducible refine Keep.drew ?_ | with_reducible refine Keep.drewN ?_ _ | (with_reducible refine Keep.set_ ?_ ?_ _; rotate_left; ((try simp); (try omega)))))) hb3
              clear hb3
              go_wp2_with fail
              refine (implErrorResponse_any _).mono ?_
              rintro e w4 ⟨vs4, G4, rfl, hb4, hrep4, hf4⟩
              obtain ⟨v4, _, rfl, rfl, hok4, n4⟩ := TResp.outA hrep4
              obtain ⟨B4, d4, rfl⟩ := cL_form n4
              have hz_w4 := hb4.size
              (try simp at hz_w4)
              have ha0_w4 : w.heap.size < w4.heap.size := by omega
              have ha1_w4 : w.heap.size + 1 < w4.heap.size := by omega
              have ha2_w4 : w.heap.size + 2 < w4.heap.size := by omega
              have ha3_w4 : w1.heap.size < w4.heap.size := by omega
              obtain ⟨hc_w4, hf_w4, -⟩ := bcell hb4
              have hb_w4 : Below w.heap.size w w4 := bel_then (by repeat (first | with_reducible exact Below.refl _ _ | with_reducible assumption | with_reducible refine bel_alloc ?_ _ | with_reducible refine bel_drew ?_ | with_reducible refine bel_drewN ?_ _ | (with_reducible refine bel_set ?_ ?_ _; rotate_left; ((try simp); (try omega))))) hb4
              have hg4 : Fresh (w.heap.size + 1 + 1 + 1) G4 := hf4.mono (by (try simp); (try omega))
              clear hb4 hf4 hrep4
              have j0 : w4.cell? ⟨w.heap.size + 1 + 1, 0, none⟩ = some (.int .i64 0) := by go_simp
              have j1 : w4.cell? ⟨w.heap.size + 1 + 1, 1, none⟩ = some (.int .i64 0) := by go_simp
              have j2 : w4.cell? ⟨w.heap.size + 1 + 1, 2, none⟩ = some (.int .i64 0) := by go_simp
              have j3 : w4.cell? ⟨w.heap.size + 1 + 1, 3, none⟩ = some (.slice none 0 0) := by go_simp
              have j4 : w4.cell? ⟨w.heap.size + 1 + 1, 4, none⟩ = some (.bool false) := by go_simp
              go_wp2_with fail
              refine bodyPost_ret (v := .agg #[.int .i64 errorResponse.type, .int .i64 errorResponse.status, .int .i64 errorResponse.ver, .slice B4 errorResponse.body.length d4, .bool errorResponse.shares]) (by simp [results, Try.results17, go_sem, *]) rfl ?_
              exact ⟨_, G4, rfl, (by repeat (first | with_reducible exact Below.refl _ _ | with_reducible assumption | with_reducible refine bel_alloc ?_ _ | with_reducible refine bel_drew ?_ | with_reducible refine bel_drewN ?_ _ | (with_reducible refine bel_set ?_ ?_ _; rotate_left; ((try simp); (try omega))))), TResp.mk_ hok4 (Cod.keep2 n4 hg4 (by repeat (first | with_reducible exact Keep.refl _ _ | with_reducible assumption | with_reducible refine Keep.alloc ?_ _ | with_reducible refine Keep.drew ?_ | with_reducible refine Keep.drewN ?_ _ | (with_reducible refine Keep.set_ ?_ ?_ _; rotate_left; ((try simp); (try omega)))))), hg4.mono (by (try simp); (try omega))⟩
theorem specRequestCells (a b c : ByteArray) (m : Int) (w : World) (h0 : a.size ≤ maxLen) (h1 : b.size ≤ maxLen) (h2 : c.size ≤ maxLen) (h3 : -9223372036854775808 ≤ m ∧ m ≤ 9223372036854775807) :
    Calls Try.prog 21 #[.agg #[.string a, .string b, .string c, .int .i64 m]] w (Gives w (.bool (isRequest ⟨a, b, c, m⟩))) := specRequest_any ⟨a, b, c, m⟩ w ⟨h0, h1, h2, h3⟩
set_option maxRecDepth 100000 in
set_option maxHeartbeats 8000000 in
theorem specFilterResponse_any (vs : Array Value) (r : TReq) (F : List Nat) (vs2 : Array Value) (x : TResp) (F2 : List Nat) (w : World) (h : cReq.rep w vs.toList r F) (hn : cReq.sz r ≤ 1048576) (h2 : cResp.rep w vs2.toList x F2) (hn2 : cResp.sz x ≤ 1048576) :
    Calls Try.prog 19 #[.agg vs, .agg vs2] w (GivesR cResp w (filterResponse r x)) := by
  have hr2 := h2
  obtain ⟨u3, F3, rfl, -, hok, m3⟩ := TResp.outA h2
  obtain ⟨A3, c3, rfl⟩ := cL_form m3
  clear h2 m3
  have hq := (TReq.out h).2.2
  rw [TReq.val_of h]
  clear h hn
  obtain ⟨hq0, hq1, hq2, hq3⟩ := hq
  have HE := Lib.hid (show filterResponse r x = (bif !isRequest r || !isResponse x || x.type == 4 then errorResponse else bif strEq r.frm r.dst then ⟨1, x.status, x.ver, x.body, x.shares⟩ else bif r.mode == 2 && x.shares then ⟨2, x.status, x.ver, x.body, x.shares⟩ else bif r.mode == 3 then ⟨3, 0, 0, [], false⟩ else errorResponse) from rfl)
  obtain ⟨a, b, c, m⟩ := r
  simp only [TReq.val]
  simp only at hq0 hq1 hq2 hq3 HE
  obtain ⟨R, hR⟩ : ∃ R, filterResponse ⟨a, b, c, m⟩ x = R := ⟨_, rfl⟩
  rw [hR]
  rw [hR] at HE
  clear hR
  cases e1 : isRequest ⟨a, b, c, m⟩
  · obtain rfl : R = errorResponse := by rw [HE.out, e1]; rfl
    clear HE
    go_enter Try.func19, Try.ntmps19
    go_wp2_with fail
    refine (specCopyResp_any _ x _ _ (by exact Cod.bel hr2 (by repeat (first | with_reducible exact Below.refl _ _ | with_reducible assumption | with_reducible refine bel_alloc ?_ _ | with_reducible refine bel_drew ?_ | with_reducible refine bel_drewN ?_ _ | (with_reducible refine bel_set ?_ ?_ _; rotate_left; ((try simp); (try omega)))))) hn2).mono ?_
    rintro e w1 ⟨vs1, G1, rfl, hb1, hrep, hf1⟩
    obtain ⟨v3, G3, rfl, rfl, -, n3⟩ := TResp.outA hrep
    obtain ⟨B3, d3, rfl⟩ := cL_form n3
    have hz_w1 := hb1.size
    (try simp at hz_w1)
    have ha0_w1 : w.heap.size < w1.heap.size := by omega
    have ha1_w1 : w.heap.size + 1 < w1.heap.size := by omega
    have ha2_w1 : w.heap.size + 2 < w1.heap.size := by omega
    obtain ⟨hc_w1, hf_w1, -⟩ := bcell hb1
    have hb_w1 : Below w.heap.size w w1 := bel_then (by repeat (first | with_reducible exact Below.refl _ _ | with_reducible assumption | with_reducible refine bel_alloc ?_ _ | with_reducible refine bel_drew ?_ | with_reducible refine bel_drewN ?_ _ | (with_reducible refine bel_set ?_ ?_ _; rotate_left; ((try simp); (try omega))))) hb1
    have hg1 : Fresh (w.heap.size + 1 + 1 + 1) G1 := hf1.mono (by simp)
    clear hb1 hf1 hrep
    go_wp2_with fail
    refine (specRequestCells _ _ _ _ _ hq0 hq1 hq2 hq3).mono ?_
    rintro e w2 ⟨rfl, hb2⟩
    have hz_w2 := hb2.size
    (try simp at hz_w2)
    have ha0_w2 : w.heap.size < w2.heap.size := by omega
    have ha1_w2 : w.heap.size + 1 < w2.heap.size := by omega
    have ha2_w2 : w.heap.size + 2 < w2.heap.size := by omega
    have ha3_w2 : w1.heap.size < w2.heap.size := by omega
    obtain ⟨hc_w2, hf_w2, -⟩ := bcell hb2
    have hb_w2 : Below w.heap.size w w2 := bel_then (by repeat (first | with_reducible exact Below.refl _ _ | with_reducible assumption | with_reducible refine bel_alloc ?_ _ | with_reducible refine bel_drew ?_ | with_reducible refine bel_drewN ?_ _ | (with_reducible refine bel_set ?_ ?_ _; rotate_left; ((try simp); (try omega))))) hb2
    have hk2 : Keep (w.heap.size + 1 + 1 + 1) w1 w2 := Keep.bel (by repeat (first | with_reducible exact Keep.refl _ _ | with_reducible assumption | with_reducible refine Keep.alloc ?_ _ | with_reducible refine Keep.drew ?_ | with_reducible refine Keep.drewN ?_ _ | (with_reducible refine Keep.set_ ?_ ?_ _; rotate_left; ((try simp); (try omega))))) hb2
    clear hb2
    go_wp2_with fail
    go_wp2_with fail
    refine (specErrorResponse_any _).mono ?_
    rintro e w4 ⟨vs4, G4, rfl, hb4, hrep4, hf4⟩
    obtain ⟨v4, _, rfl, rfl, hok4, n4⟩ := TResp.outA hrep4
    obtain ⟨B4, d4, rfl⟩ := cL_form n4
    have hz_w4 := hb4.size
    (try simp at hz_w4)
    have ha0_w4 : w.heap.size < w4.heap.size := by omega
    have ha1_w4 : w.heap.size + 1 < w4.heap.size := by omega
    have ha2_w4 : w.heap.size + 2 < w4.heap.size := by omega
    have ha3_w4 : w1.heap.size < w4.heap.size := by omega
    obtain ⟨hc_w4, hf_w4, -⟩ := bcell hb4
    have hb_w4 : Below w.heap.size w w4 := bel_then (by repeat (first | with_reducible exact Below.refl _ _ | with_reducible assumption | with_reducible refine bel_alloc ?_ _ | with_reducible refine bel_drew ?_ | with_reducible refine bel_drewN ?_ _ | (with_reducible refine bel_set ?_ ?_ _; rotate_left; ((try simp); (try omega))))) hb4
    have hg4 : Fresh (w.heap.size + 1 + 1 + 1) G4 := hf4.mono (by (try simp); (try omega))
    clear hb4 hf4 hrep4
    have j0 : w4.cell? ⟨w.heap.size + 1 + 1, 0, none⟩ = some (.int .i64 0) := by go_simp
    have j1 : w4.cell? ⟨w.heap.size + 1 + 1, 1, none⟩ = some (.int .i64 0) := by go_simp
    have j2 : w4.cell? ⟨w.heap.size + 1 + 1, 2, none⟩ = some (.int .i64 0) := by go_simp
    have j3 : w4.cell? ⟨w.heap.size + 1 + 1, 3, none⟩ = some (.slice none 0 0) := by go_simp
    have j4 : w4.cell? ⟨w.heap.size + 1 + 1, 4, none⟩ = some (.bool false) := by go_simp
    go_wp2_with fail
    refine bodyPost_ret (v := .agg #[.int .i64 errorResponse.type, .int .i64 errorResponse.status, .int .i64 errorResponse.ver, .slice B4 errorResponse.body.length d4, .bool errorResponse.shares]) (by simp [results, Try.results19, go_sem, *]) rfl ?_
    exact ⟨_, G4, rfl, (by repeat (first | with_reducible exact Below.refl _ _ | with_reducible assumption | with_reducible refine bel_alloc ?_ _ | with_reducible refine bel_drew ?_ | with_reducible refine bel_drewN ?_ _ | (with_reducible refine bel_set ?_ ?_ _; rotate_left; ((try simp); (try omega))))), TResp.mk_ hok4 (Cod.keep2 n4 hg4 (by repeat (first | with_reducible exact Keep.refl _ _ | with_reducible assumption | with_reducible refine Keep.alloc ?_ _ | with_reducible refine Keep.drew ?_ | with_reducible refine Keep.drewN ?_ _ | (with_reducible refine Keep.set_ ?_ ?_ _; rotate_left; ((try simp); (try omega)))))), hg4.mono (by (try simp); (try omega))⟩
  · cases e2 : isResponse x
    · obtain rfl : R = errorResponse := by rw [HE.out, e1, e2]; rfl
      clear HE
      go_enter Try.func19, Try.ntmps19
      go_wp2_with fail
      refine (specCopyResp_any _ x _ _ (by exact Cod.bel hr2 (by repeat (first | with_reducible exact Below.refl _ _ | with_reducible assumption | with_reducible refine bel_alloc ?_ _ | with_reducible refine bel_drew ?_ | with_reducible refine bel_drewN ?_ _ | (with_reducible refine bel_set ?_ ?_ _; rotate_left; ((try simp); (try omega)))))) hn2).mono ?_
      rintro e w1 ⟨vs1, G1, rfl, hb1, hrep, hf1⟩
      obtain ⟨v3, G3, rfl, rfl, -, n3⟩ := TResp.outA hrep
      obtain ⟨B3, d3, rfl⟩ := cL_form n3
      have hz_w1 := hb1.size
      (try simp at hz_w1)
      have ha0_w1 : w.heap.size < w1.heap.size := by omega
      have ha1_w1 : w.heap.size + 1 < w1.heap.size := by omega
      have ha2_w1 : w.heap.size + 2 < w1.heap.size := by omega
      obtain ⟨hc_w1, hf_w1, -⟩ := bcell hb1
      have hb_w1 : Below w.heap.size w w1 := bel_then (by repeat (first | with_reducible exact Below.refl _ _ | with_reducible assumption | with_reducible refine bel_alloc ?_ _ | with_reducible refine bel_drew ?_ | with_reducible refine bel_drewN ?_ _ | (with_reducible refine bel_set ?_ ?_ _; rotate_left; ((try simp); (try omega))))) hb1
      have hg1 : Fresh (w.heap.size + 1 + 1 + 1) G1 := hf1.mono (by simp)
      clear hb1 hf1 hrep
      go_wp2_with fail
      refine (specRequestCells _ _ _ _ _ hq0 hq1 hq2 hq3).mono ?_
      rintro e w2 ⟨rfl, hb2⟩
      have hz_w2 := hb2.size
      (try simp at hz_w2)
      have ha0_w2 : w.heap.size < w2.heap.size := by omega
      have ha1_w2 : w.heap.size + 1 < w2.heap.size := by omega
      have ha2_w2 : w.heap.size + 2 < w2.heap.size := by omega
      have ha3_w2 : w1.heap.size < w2.heap.size := by omega
      obtain ⟨hc_w2, hf_w2, -⟩ := bcell hb2
      have hb_w2 : Below w.heap.size w w2 := bel_then (by repeat (first | with_reducible exact Below.refl _ _ | with_reducible assumption | with_reducible refine bel_alloc ?_ _ | with_reducible refine bel_drew ?_ | with_reducible refine bel_drewN ?_ _ | (with_reducible refine bel_set ?_ ?_ _; rotate_left; ((try simp); (try omega))))) hb2
      have hk2 : Keep (w.heap.size + 1 + 1 + 1) w1 w2 := Keep.bel (by repeat (first | with_reducible exact Keep.refl _ _ | with_reducible assumption | with_reducible refine Keep.alloc ?_ _ | with_reducible refine Keep.drew ?_ | with_reducible refine Keep.drewN ?_ _ | (with_reducible refine Keep.set_ ?_ ?_ _; rotate_left; ((try simp); (try omega))))) hb2
      clear hb2
      go_wp2_with fail
      refine (specIsResponse_any _ x _ _ (by exact Cod.bel hr2 (by repeat (first | with_reducible exact Below.refl _ _ | with_reducible assumption | with_reducible refine bel_alloc ?_ _ | with_reducible refine bel_drew ?_ | with_reducible refine bel_drewN ?_ _ | (with_reducible refine bel_set ?_ ?_ _; rotate_left; ((try simp); (try omega)))))) hn2).mono ?_
      rintro e w3 ⟨rfl, hb3⟩
      have hz_w3 := hb3.size
      (try simp at hz_w3)
      have ha0_w3 : w.heap.size < w3.heap.size := by omega
      have ha1_w3 : w.heap.size + 1 < w3.heap.size := by omega
      have ha2_w3 : w.heap.size + 2 < w3.heap.size := by omega
      have ha3_w3 : w1.heap.size < w3.heap.size := by omega
      obtain ⟨hc_w3, hf_w3, -⟩ := bcell hb3
      have hb_w3 : Below w.heap.size w w3 := bel_then (by repeat (first | with_reducible exact Below.refl _ _ | with_reducible assumption | with_reducible refine bel_alloc ?_ _ | with_reducible refine bel_drew ?_ | with_reducible refine bel_drewN ?_ _ | (with_reducible refine bel_set ?_ ?_ _; rotate_left; ((try simp); (try omega))))) hb3
      have hk3 : Keep (w.heap.size + 1 + 1 + 1) w1 w3 := Keep.bel (show Keep (w.heap.size + 1 + 1 + 1) w1 _ from (by repeat (first | with_reducible exact Keep.refl _ _ | with_reducible assumption | with_reducible refine Keep.alloc ?_ _ | with_reducible refine Keep.drew ?_ | with_reducible refine Keep.drewN ?_ _ | (with_reducible refine Keep.set_ ?_ ?_ _; rotate_left; ((try simp); (try omega)))))) hb3
      clear hb3
      go_wp2_with fail
      refine (specErrorResponse_any _).mono ?_
      rintro e w4 ⟨vs4, G4, rfl, hb4, hrep4, hf4⟩
      obtain ⟨v4, _, rfl, rfl, hok4, n4⟩ := TResp.outA hrep4
      obtain ⟨B4, d4, rfl⟩ := cL_form n4
      have hz_w4 := hb4.size
      (try simp at hz_w4)
      have ha0_w4 : w.heap.size < w4.heap.size := by omega
      have ha1_w4 : w.heap.size + 1 < w4.heap.size := by omega
      have ha2_w4 : w.heap.size + 2 < w4.heap.size := by omega
      have ha3_w4 : w1.heap.size < w4.heap.size := by omega
      obtain ⟨hc_w4, hf_w4, -⟩ := bcell hb4
      have hb_w4 : Below w.heap.size w w4 := bel_then (by repeat (first | with_reducible exact Below.refl _ _ | with_reducible assumption | with_reducible refine bel_alloc ?_ _ | with_reducible refine bel_drew ?_ | with_reducible refine bel_drewN ?_ _ | (with_reducible refine bel_set ?_ ?_ _; rotate_left; ((try simp); (try omega))))) hb4
      have hg4 : Fresh (w.heap.size + 1 + 1 + 1) G4 := hf4.mono (by (try simp); (try omega))
      clear hb4 hf4 hrep4
      have j0 : w4.cell? ⟨w.heap.size + 1 + 1, 0, none⟩ = some (.int .i64 0) := by go_simp
      have j1 : w4.cell? ⟨w.heap.size + 1 + 1, 1, none⟩ = some (.int .i64 0) := by go_simp
      have j2 : w4.cell? ⟨w.heap.size + 1 + 1, 2, none⟩ = some (.int .i64 0) := by go_simp
      have j3 : w4.cell? ⟨w.heap.size + 1 + 1, 3, none⟩ = some (.slice none 0 0) := by go_simp
      have j4 : w4.cell? ⟨w.heap.size + 1 + 1, 4, none⟩ = some (.bool false) := by go_simp
      go_wp2_with fail
      refine bodyPost_ret (v := .agg #[.int .i64 errorResponse.type, .int .i64 errorResponse.status, .int .i64 errorResponse.ver, .slice B4 errorResponse.body.length d4, .bool errorResponse.shares]) (by simp [results, Try.results19, go_sem, *]) rfl ?_
      exact ⟨_, G4, rfl, (by repeat (first | with_reducible exact Below.refl _ _ | with_reducible assumption | with_reducible refine bel_alloc ?_ _ | with_reducible refine bel_drew ?_ | with_reducible refine bel_drewN ?_ _ | (with_reducible refine bel_set ?_ ?_ _; rotate_left; ((try simp); (try omega))))), TResp.mk_ hok4 (Cod.keep2 n4 hg4 (by repeat (first | with_reducible exact Keep.refl _ _ | with_reducible assumption | with_reducible refine Keep.alloc ?_ _ | with_reducible refine Keep.drew ?_ | with_reducible refine Keep.drewN ?_ _ | (with_reducible refine Keep.set_ ?_ ?_ _; rotate_left; ((try simp); (try omega)))))), hg4.mono (by (try simp); (try omega))⟩
    · cases e3 : (x.type == 4)
      case true =>
        obtain rfl : R = errorResponse := by rw [HE.out, e1, e2, e3]; rfl
        clear HE
        go_enter Try.func19, Try.ntmps19
        go_wp2_with fail
        refine (specCopyResp_any _ x _ _ (by exact Cod.bel hr2 (by repeat (first | with_reducible exact Below.refl _ _ | with_reducible assumption | with_reducible refine bel_alloc ?_ _ | with_reducible refine bel_drew ?_ | with_reducible refine bel_drewN ?_ _ | (with_reducible refine bel_set ?_ ?_ _; rotate_left; ((try simp); (try omega)))))) hn2).mono ?_
        rintro e w1 ⟨vs1, G1, rfl, hb1, hrep, hf1⟩
        obtain ⟨v3, G3, rfl, rfl, -, n3⟩ := TResp.outA hrep
        obtain ⟨B3, d3, rfl⟩ := cL_form n3
        have hz_w1 := hb1.size
        (try simp at hz_w1)
        have ha0_w1 : w.heap.size < w1.heap.size := by omega
        have ha1_w1 : w.heap.size + 1 < w1.heap.size := by omega
        have ha2_w1 : w.heap.size + 2 < w1.heap.size := by omega
        obtain ⟨hc_w1, hf_w1, -⟩ := bcell hb1
        have hb_w1 : Below w.heap.size w w1 := bel_then (by repeat (first | with_reducible exact Below.refl _ _ | with_reducible assumption | with_reducible refine bel_alloc ?_ _ | with_reducible refine bel_drew ?_ | with_reducible refine bel_drewN ?_ _ | (with_reducible refine bel_set ?_ ?_ _; rotate_left; ((try simp); (try omega))))) hb1
        have hg1 : Fresh (w.heap.size + 1 + 1 + 1) G1 := hf1.mono (by simp)
        clear hb1 hf1 hrep
        go_wp2_with fail
        refine (specRequestCells _ _ _ _ _ hq0 hq1 hq2 hq3).mono ?_
        rintro e w2 ⟨rfl, hb2⟩
        have hz_w2 := hb2.size
        (try simp at hz_w2)
        have ha0_w2 : w.heap.size < w2.heap.size := by omega
        have ha1_w2 : w.heap.size + 1 < w2.heap.size := by omega
        have ha2_w2 : w.heap.size + 2 < w2.heap.size := by omega
        have ha3_w2 : w1.heap.size < w2.heap.size := by omega
        obtain ⟨hc_w2, hf_w2, -⟩ := bcell hb2
        have hb_w2 : Below w.heap.size w w2 := bel_then (by repeat (first | with_reducible exact Below.refl _ _ | with_reducible assumption | with_reducible refine bel_alloc ?_ _ | with_reducible refine bel_drew ?_ | with_reducible refine bel_drewN ?_ _ | (with_reducible refine bel_set ?_ ?_ _; rotate_left; ((try simp); (try omega))))) hb2
        have hk2 : Keep (w.heap.size + 1 + 1 + 1) w1 w2 := Keep.bel (by repeat (first | with_reducible exact Keep.refl _ _ | with_reducible assumption | with_reducible refine Keep.alloc ?_ _ | with_reducible refine Keep.drew ?_ | with_reducible refine Keep.drewN ?_ _ | (with_reducible refine Keep.set_ ?_ ?_ _; rotate_left; ((try simp); (try omega))))) hb2
        clear hb2
        go_wp2_with fail
        refine (specIsResponse_any _ x _ _ (by exact Cod.bel hr2 (by repeat (first | with_reducible exact Below.refl _ _ | with_reducible assumption | with_reducible refine bel_alloc ?_ _ | with_reducible refine bel_drew ?_ | with_reducible refine bel_drewN ?_ _ | (with_reducible refine bel_set ?_ ?_ _; rotate_left; ((try simp); (try omega)))))) hn2).mono ?_
        rintro e w3 ⟨rfl, hb3⟩
        have hz_w3 := hb3.size
        (try simp at hz_w3)
        have ha0_w3 : w.heap.size < w3.heap.size := by omega
        have ha1_w3 : w.heap.size + 1 < w3.heap.size := by omega
        have ha2_w3 : w.heap.size + 2 < w3.heap.size := by omega
        have ha3_w3 : w1.heap.size < w3.heap.size := by omega
        obtain ⟨hc_w3, hf_w3, -⟩ := bcell hb3
        have hb_w3 : Below w.heap.size w w3 := bel_then (by repeat (first | with_reducible exact Below.refl _ _ | with_reducible assumption | with_reducible refine bel_alloc ?_ _ | with_reducible refine bel_drew ?_ | with_reducible refine bel_drewN ?_ _ | (with_reducible refine bel_set ?_ ?_ _; rotate_left; ((try simp); (try omega))))) hb3
        have hk3 : Keep (w.heap.size + 1 + 1 + 1) w1 w3 := Keep.bel (show Keep (w.heap.size + 1 + 1 + 1) w1 _ from (by repeat (first | with_reducible exact Keep.refl _ _ | with_reducible assumption | with_reducible refine Keep.alloc ?_ _ | with_reducible refine Keep.drew ?_ | with_reducible refine Keep.drewN ?_ _ | (with_reducible refine Keep.set_ ?_ ?_ _; rotate_left; ((try simp); (try omega)))))) hb3
        clear hb3
        go_wp2_with fail
        refine (specErrorResponse_any _).mono ?_
        rintro e w4 ⟨vs4, G4, rfl, hb4, hrep4, hf4⟩
        obtain ⟨v4, _, rfl, rfl, hok4, n4⟩ := TResp.outA hrep4
        obtain ⟨B4, d4, rfl⟩ := cL_form n4
        have hz_w4 := hb4.size
        (try simp at hz_w4)
        have ha0_w4 : w.heap.size < w4.heap.size := by omega
        have ha1_w4 : w.heap.size + 1 < w4.heap.size := by omega
        have ha2_w4 : w.heap.size + 2 < w4.heap.size := by omega
        have ha3_w4 : w1.heap.size < w4.heap.size := by omega
        obtain ⟨hc_w4, hf_w4, -⟩ := bcell hb4
        have hb_w4 : Below w.heap.size w w4 := bel_then (by repeat (first | with_reducible exact Below.refl _ _ | with_reducible assumption | with_reducible refine bel_alloc ?_ _ | with_reducible refine bel_drew ?_ | with_reducible refine bel_drewN ?_ _ | (with_reducible refine bel_set ?_ ?_ _; rotate_left; ((try simp); (try omega))))) hb4
        have hg4 : Fresh (w.heap.size + 1 + 1 + 1) G4 := hf4.mono (by (try simp); (try omega))
        clear hb4 hf4 hrep4
        have j0 : w4.cell? ⟨w.heap.size + 1 + 1, 0, none⟩ = some (.int .i64 0) := by go_simp
        have j1 : w4.cell? ⟨w.heap.size + 1 + 1, 1, none⟩ = some (.int .i64 0) := by go_simp
        have j2 : w4.cell? ⟨w.heap.size + 1 + 1, 2, none⟩ = some (.int .i64 0) := by go_simp
        have j3 : w4.cell? ⟨w.heap.size + 1 + 1, 3, none⟩ = some (.slice none 0 0) := by go_simp
        have j4 : w4.cell? ⟨w.heap.size + 1 + 1, 4, none⟩ = some (.bool false) := by go_simp
        go_wp2_with fail
        refine bodyPost_ret (v := .agg #[.int .i64 errorResponse.type, .int .i64 errorResponse.status, .int .i64 errorResponse.ver, .slice B4 errorResponse.body.length d4, .bool errorResponse.shares]) (by simp [results, Try.results19, go_sem, *]) rfl ?_
        exact ⟨_, G4, rfl, (by repeat (first | with_reducible exact Below.refl _ _ | with_reducible assumption | with_reducible refine bel_alloc ?_ _ | with_reducible refine bel_drew ?_ | with_reducible refine bel_drewN ?_ _ | (with_reducible refine bel_set ?_ ?_ _; rotate_left; ((try simp); (try omega))))), TResp.mk_ hok4 (Cod.keep2 n4 hg4 (by repeat (first | with_reducible exact Keep.refl _ _ | with_reducible assumption | with_reducible refine Keep.alloc ?_ _ | with_reducible refine Keep.drew ?_ | with_reducible refine Keep.drewN ?_ _ | (with_reducible refine Keep.set_ ?_ ?_ _; rotate_left; ((try simp); (try omega)))))), hg4.mono (by (try simp); (try omega))⟩
      case false =>
        cases e4 : (a.toList == b.toList)
        case true =>
          obtain rfl : R = ⟨1, x.status, x.ver, x.body, x.shares⟩ := by rw [HE.out, e1, e2, e3, show strEq a b = true from e4]; rfl
          clear HE
          go_enter Try.func19, Try.ntmps19
          go_wp2_with fail
          refine (specCopyResp_any _ x _ _ (by exact Cod.bel hr2 (by repeat (first | with_reducible exact Below.refl _ _ | with_reducible assumption | with_reducible refine bel_alloc ?_ _ | with_reducible refine bel_drew ?_ | with_reducible refine bel_drewN ?_ _ | (with_reducible refine bel_set ?_ ?_ _; rotate_left; ((try simp); (try omega)))))) hn2).mono ?_
          rintro e w1 ⟨vs1, G1, rfl, hb1, hrep, hf1⟩
          obtain ⟨v3, G3, rfl, rfl, -, n3⟩ := TResp.outA hrep
          obtain ⟨B3, d3, rfl⟩ := cL_form n3
          have hz_w1 := hb1.size
          (try simp at hz_w1)
          have ha0_w1 : w.heap.size < w1.heap.size := by omega
          have ha1_w1 : w.heap.size + 1 < w1.heap.size := by omega
          have ha2_w1 : w.heap.size + 2 < w1.heap.size := by omega
          obtain ⟨hc_w1, hf_w1, -⟩ := bcell hb1
          have hb_w1 : Below w.heap.size w w1 := bel_then (by repeat (first | with_reducible exact Below.refl _ _ | with_reducible assumption | with_reducible refine bel_alloc ?_ _ | with_reducible refine bel_drew ?_ | with_reducible refine bel_drewN ?_ _ | (with_reducible refine bel_set ?_ ?_ _; rotate_left; ((try simp); (try omega))))) hb1
          have hg1 : Fresh (w.heap.size + 1 + 1 + 1) G1 := hf1.mono (by simp)
          clear hb1 hf1 hrep
          go_wp2_with fail
          refine (specRequestCells _ _ _ _ _ hq0 hq1 hq2 hq3).mono ?_
          rintro e w2 ⟨rfl, hb2⟩
          have hz_w2 := hb2.size
          (try simp at hz_w2)
          have ha0_w2 : w.heap.size < w2.heap.size := by omega
          have ha1_w2 : w.heap.size + 1 < w2.heap.size := by omega
          have ha2_w2 : w.heap.size + 2 < w2.heap.size := by omega
          have ha3_w2 : w1.heap.size < w2.heap.size := by omega
          obtain ⟨hc_w2, hf_w2, -⟩ := bcell hb2
          have hb_w2 : Below w.heap.size w w2 := bel_then (by repeat (first | with_reducible exact Below.refl _ _ | with_reducible assumption | with_reducible refine bel_alloc ?_ _ | with_reducible refine bel_drew ?_ | with_reducible refine bel_drewN ?_ _ | (with_reducible refine bel_set ?_ ?_ _; rotate_left; ((try simp); (try omega))))) hb2
          have hk2 : Keep (w.heap.size + 1 + 1 + 1) w1 w2 := Keep.bel (by repeat (first | with_reducible exact Keep.refl _ _ | with_reducible assumption | with_reducible refine Keep.alloc ?_ _ | with_reducible refine Keep.drew ?_ | with_reducible refine Keep.drewN ?_ _ | (with_reducible refine Keep.set_ ?_ ?_ _; rotate_left; ((try simp); (try omega))))) hb2
          clear hb2
          go_wp2_with fail
          refine (specIsResponse_any _ x _ _ (by exact Cod.bel hr2 (by repeat (first | with_reducible exact Below.refl _ _ | with_reducible assumption | with_reducible refine bel_alloc ?_ _ | with_reducible refine bel_drew ?_ | with_reducible refine bel_drewN ?_ _ | (with_reducible refine bel_set ?_ ?_ _; rotate_left; ((try simp); (try omega)))))) hn2).mono ?_
          rintro e w3 ⟨rfl, hb3⟩
          have hz_w3 := hb3.size
          (try simp at hz_w3)
          have ha0_w3 : w.heap.size < w3.heap.size := by omega
          have ha1_w3 : w.heap.size + 1 < w3.heap.size := by omega
          have ha2_w3 : w.heap.size + 2 < w3.heap.size := by omega
          have ha3_w3 : w1.heap.size < w3.heap.size := by omega
          obtain ⟨hc_w3, hf_w3, -⟩ := bcell hb3
          have hb_w3 : Below w.heap.size w w3 := bel_then (by repeat (first | with_reducible exact Below.refl _ _ | with_reducible assumption | with_reducible refine bel_alloc ?_ _ | with_reducible refine bel_drew ?_ | with_reducible refine bel_drewN ?_ _ | (with_reducible refine bel_set ?_ ?_ _; rotate_left; ((try simp); (try omega))))) hb3
          have hk3 : Keep (w.heap.size + 1 + 1 + 1) w1 w3 := Keep.bel (show Keep (w.heap.size + 1 + 1 + 1) w1 _ from (by repeat (first | with_reducible exact Keep.refl _ _ | with_reducible assumption | with_reducible refine Keep.alloc ?_ _ | with_reducible refine Keep.drew ?_ | with_reducible refine Keep.drewN ?_ _ | (with_reducible refine Keep.set_ ?_ ?_ _; rotate_left; ((try simp); (try omega)))))) hb3
          clear hb3
          have hnb : ∀ b, b ∈ G1 → w.heap.size + 1 + 1 + 1 ≤ b ∧ b < w1.heap.size := fun b hb => ⟨hg1.1 b hb, Cod.lt _ n3 b hb⟩
          have n9 := Cod.keep2 n3 hg1 hk3
          have j0 : w3.cell? ⟨w.heap.size + 1 + 1, 0, none⟩ = some (.int .i64 0) := by go_simp
          have j1 : w3.cell? ⟨w.heap.size + 1 + 1, 1, none⟩ = some (.int .i64 0) := by go_simp
          have j2 : w3.cell? ⟨w.heap.size + 1 + 1, 2, none⟩ = some (.int .i64 0) := by go_simp
          have j3 : w3.cell? ⟨w.heap.size + 1 + 1, 3, none⟩ = some (.slice none 0 0) := by go_simp
          have j4 : w3.cell? ⟨w.heap.size + 1 + 1, 4, none⟩ = some (.bool false) := by go_simp
          go_wp2_with fail
          refine bodyPost_ret (v := .agg #[.int .i64 1, .int .i64 x.status, .int .i64 x.ver, .slice B3 x.body.length d3, .bool x.shares]) (by simp [results, Try.results19, go_sem, *]) rfl ?_
          exact ⟨_, G1, rfl, (by repeat (first | with_reducible exact Below.refl _ _ | with_reducible assumption | with_reducible refine bel_alloc ?_ _ | with_reducible refine bel_drew ?_ | with_reducible refine bel_drewN ?_ _ | (with_reducible refine bel_set ?_ ?_ _; rotate_left; ((try simp); (try omega))))), TResp.mk_ (x := ⟨1, x.status, x.ver, x.body, x.shares⟩) ⟨⟨show (-9223372036854775808 : Int) ≤ 1 by decide, show (1 : Int) ≤ 9223372036854775807 by decide⟩, hok.h1, hok.h2⟩ (by repeat (first | with_reducible exact n9 | with_reducible refine Cod.allocA ?_ _ | with_reducible refine Cod.drewA ?_ | with_reducible refine Cod.drewNA ?_ _ | ((with_reducible refine Cod.setA ?_ ?_ _); rotate_left; ((intro hm9; have hm8 := hnb _ hm9; (try simp at hm8); (try omega)))))), hg1.mono (by (try simp); (try omega))⟩
        case false =>
          cases e5 : (m == 2)
          case true =>
            obtain ⟨ty, st, ve, bo, sh⟩ := x
            simp only at *
            cases sh
            case true =>
              obtain rfl : R = ⟨2, st, ve, bo, true⟩ := by rw [HE.out, e1, e2, e3, show strEq a b = false from e4, e5]; rfl
              clear HE
              go_enter Try.func19, Try.ntmps19
              go_wp2_with fail
              refine (specCopyResp_any _ ⟨ty, st, ve, bo, true⟩ _ _ (by exact Cod.bel hr2 (by repeat (first | with_reducible exact Below.refl _ _ | with_reducible assumption | with_reducible refine bel_alloc ?_ _ | with_reducible refine bel_drew ?_ | with_reducible refine bel_drewN ?_ _ | (with_reducible refine bel_set ?_ ?_ _; rotate_left; ((try simp); (try omega)))))) hn2).mono ?_
              rintro e w1 ⟨vs1, G1, rfl, hb1, hrep, hf1⟩
              obtain ⟨v3, G3, rfl, rfl, -, n3⟩ := TResp.outA hrep
              obtain ⟨B3, d3, rfl⟩ := cL_form n3
              have hz_w1 := hb1.size
              (try simp at hz_w1)
              have ha0_w1 : w.heap.size < w1.heap.size := by omega
              have ha1_w1 : w.heap.size + 1 < w1.heap.size := by omega
              have ha2_w1 : w.heap.size + 2 < w1.heap.size := by omega
              obtain ⟨hc_w1, hf_w1, -⟩ := bcell hb1
              have hb_w1 : Below w.heap.size w w1 := bel_then (by repeat (first | with_reducible exact Below.refl _ _ | with_reducible assumption | with_reducible refine bel_alloc ?_ _ | with_reducible refine bel_drew ?_ | with_reducible refine bel_drewN ?_ _ | (with_reducible refine bel_set ?_ ?_ _; rotate_left; ((try simp); (try omega))))) hb1
              have hg1 : Fresh (w.heap.size + 1 + 1 + 1) G1 := hf1.mono (by simp)
              clear hb1 hf1 hrep
              go_wp2_with fail
              refine (specRequestCells _ _ _ _ _ hq0 hq1 hq2 hq3).mono ?_
              rintro e w2 ⟨rfl, hb2⟩
              have hz_w2 := hb2.size
              (try simp at hz_w2)
              have ha0_w2 : w.heap.size < w2.heap.size := by omega
              have ha1_w2 : w.heap.size + 1 < w2.heap.size := by omega
              have ha2_w2 : w.heap.size + 2 < w2.heap.size := by omega
              have ha3_w2 : w1.heap.size < w2.heap.size := by omega
              obtain ⟨hc_w2, hf_w2, -⟩ := bcell hb2
              have hb_w2 : Below w.heap.size w w2 := bel_then (by repeat (first | with_reducible exact Below.refl _ _ | with_reducible assumption | with_reducible refine bel_alloc ?_ _ | with_reducible refine bel_drew ?_ | with_reducible refine bel_drewN ?_ _ | (with_reducible refine bel_set ?_ ?_ _; rotate_left; ((try simp); (try omega))))) hb2
              have hk2 : Keep (w.heap.size + 1 + 1 + 1) w1 w2 := Keep.bel (by repeat (first | with_reducible exact Keep.refl _ _ | with_reducible assumption | with_reducible refine Keep.alloc ?_ _ | with_reducible refine Keep.drew ?_ | with_reducible refine Keep.drewN ?_ _ | (with_reducible refine Keep.set_ ?_ ?_ _; rotate_left; ((try simp); (try omega))))) hb2
              clear hb2
              go_wp2_with fail
              refine (specIsResponse_any _ ⟨ty, st, ve, bo, true⟩ _ _ (by exact Cod.bel hr2 (by repeat (first | with_reducible exact Below.refl _ _ | with_reducible assumption | with_reducible refine bel_alloc ?_ _ | with_reducible refine bel_drew ?_ | with_reducible refine bel_drewN ?_ _ | (with_reducible refine bel_set ?_ ?_ _; rotate_left; ((try simp); (try omega)))))) hn2).mono ?_
              rintro e w3 ⟨rfl, hb3⟩
              have hz_w3 := hb3.size
              (try simp at hz_w3)
              have ha0_w3 : w.heap.size < w3.heap.size := by omega
              have ha1_w3 : w.heap.size + 1 < w3.heap.size := by omega
              have ha2_w3 : w.heap.size + 2 < w3.heap.size := by omega
              have ha3_w3 : w1.heap.size < w3.heap.size := by omega
              obtain ⟨hc_w3, hf_w3, -⟩ := bcell hb3
              have hb_w3 : Below w.heap.size w w3 := bel_then (by repeat (first | with_reducible exact Below.refl _ _ | with_reducible assumption | with_reducible refine bel_alloc ?_ _ | with_reducible refine bel_drew ?_ | with_reducible refine bel_drewN ?_ _ | (with_reducible refine bel_set ?_ ?_ _; rotate_left; ((try simp); (try omega))))) hb3
              have hk3 : Keep (w.heap.size + 1 + 1 + 1) w1 w3 := Keep.bel (show Keep (w.heap.size + 1 + 1 + 1) w1 _ from (by repeat (first | with_reducible exact Keep.refl _ _ | with_reducible assumption | with_reducible refine Keep.alloc ?_ _ | with_reducible refine Keep.drew ?_ | with_reducible refine Keep.drewN ?_ _ | (with_reducible refine Keep.set_ ?_ ?_ _; rotate_left; ((try simp); (try omega)))))) hb3
              clear hb3
              have hnb : ∀ b, b ∈ G1 → w.heap.size + 1 + 1 + 1 ≤ b ∧ b < w1.heap.size := fun b hb => ⟨hg1.1 b hb, Cod.lt _ n3 b hb⟩
              have n9 := Cod.keep2 n3 hg1 hk3
              have j0 : w3.cell? ⟨w.heap.size + 1 + 1, 0, none⟩ = some (.int .i64 0) := by go_simp
              have j1 : w3.cell? ⟨w.heap.size + 1 + 1, 1, none⟩ = some (.int .i64 0) := by go_simp
              have j2 : w3.cell? ⟨w.heap.size + 1 + 1, 2, none⟩ = some (.int .i64 0) := by go_simp
              have j3 : w3.cell? ⟨w.heap.size + 1 + 1, 3, none⟩ = some (.slice none 0 0) := by go_simp
              have j4 : w3.cell? ⟨w.heap.size + 1 + 1, 4, none⟩ = some (.bool false) := by go_simp
              go_wp2_with fail
              refine bodyPost_ret (v := .agg #[.int .i64 2, .int .i64 st, .int .i64 ve, .slice B3 bo.length d3, .bool true]) (by simp [results, Try.results19, go_sem, *]) rfl ?_
              exact ⟨_, G1, rfl, (by repeat (first | with_reducible exact Below.refl _ _ | with_reducible assumption | with_reducible refine bel_alloc ?_ _ | with_reducible refine bel_drew ?_ | with_reducible refine bel_drewN ?_ _ | (with_reducible refine bel_set ?_ ?_ _; rotate_left; ((try simp); (try omega))))), TResp.mk_ (x := ⟨2, st, ve, bo, true⟩) ⟨⟨show (-9223372036854775808 : Int) ≤ 2 by decide, show (2 : Int) ≤ 9223372036854775807 by decide⟩, hok.h1, hok.h2⟩ (by repeat (first | with_reducible exact n9 | with_reducible refine Cod.allocA ?_ _ | with_reducible refine Cod.drewA ?_ | with_reducible refine Cod.drewNA ?_ _ | ((with_reducible refine Cod.setA ?_ ?_ _); rotate_left; ((intro hm9; have hm8 := hnb _ hm9; (try simp at hm8); (try omega)))))), hg1.mono (by (try simp); (try omega))⟩
            case false =>
              cases e6 : (m == 3)
              case true => (exfalso; simp at e5 e6; omega)
              case false =>
                obtain rfl : R = errorResponse := by rw [HE.out, e1, e2, e3, show strEq a b = false from e4, e5, e6]; rfl
                clear HE
                go_enter Try.func19, Try.ntmps19
                go_wp2_with fail
                refine (specCopyResp_any _ ⟨ty, st, ve, bo, false⟩ _ _ (by exact Cod.bel hr2 (by repeat (first | with_reducible exact Below.refl _ _ | with_reducible assumption | with_reducible refine bel_alloc ?_ _ | with_reducible refine bel_drew ?_ | with_reducible refine bel_drewN ?_ _ | (with_reducible refine bel_set ?_ ?_ _; rotate_left; ((try simp); (try omega)))))) hn2).mono ?_
                rintro e w1 ⟨vs1, G1, rfl, hb1, hrep, hf1⟩
                obtain ⟨v3, G3, rfl, rfl, -, n3⟩ := TResp.outA hrep
                obtain ⟨B3, d3, rfl⟩ := cL_form n3
                have hz_w1 := hb1.size
                (try simp at hz_w1)
                have ha0_w1 : w.heap.size < w1.heap.size := by omega
                have ha1_w1 : w.heap.size + 1 < w1.heap.size := by omega
                have ha2_w1 : w.heap.size + 2 < w1.heap.size := by omega
                obtain ⟨hc_w1, hf_w1, -⟩ := bcell hb1
                have hb_w1 : Below w.heap.size w w1 := bel_then (by repeat (first | with_reducible exact Below.refl _ _ | with_reducible assumption | with_reducible refine bel_alloc ?_ _ | with_reducible refine bel_drew ?_ | with_reducible refine bel_drewN ?_ _ | (with_reducible refine bel_set ?_ ?_ _; rotate_left; ((try simp); (try omega))))) hb1
                have hg1 : Fresh (w.heap.size + 1 + 1 + 1) G1 := hf1.mono (by simp)
                clear hb1 hf1 hrep
                go_wp2_with fail
                refine (specRequestCells _ _ _ _ _ hq0 hq1 hq2 hq3).mono ?_
                rintro e w2 ⟨rfl, hb2⟩
                have hz_w2 := hb2.size
                (try simp at hz_w2)
                have ha0_w2 : w.heap.size < w2.heap.size := by omega
                have ha1_w2 : w.heap.size + 1 < w2.heap.size := by omega
                have ha2_w2 : w.heap.size + 2 < w2.heap.size := by omega
                have ha3_w2 : w1.heap.size < w2.heap.size := by omega
                obtain ⟨hc_w2, hf_w2, -⟩ := bcell hb2
                have hb_w2 : Below w.heap.size w w2 := bel_then (by repeat (first | with_reducible exact Below.refl _ _ | with_reducible assumption | with_reducible refine bel_alloc ?_ _ | with_reducible refine bel_drew ?_ | with_reducible refine bel_drewN ?_ _ | (with_reducible refine bel_set ?_ ?_ _; rotate_left; ((try simp); (try omega))))) hb2
                have hk2 : Keep (w.heap.size + 1 + 1 + 1) w1 w2 := Keep.bel (by repeat (first | with_reducible exact Keep.refl _ _ | with_reducible assumption | with_reducible refine Keep.alloc ?_ _ | with_reducible refine Keep.drew ?_ | with_reducible refine Keep.drewN ?_ _ | (with_reducible refine Keep.set_ ?_ ?_ _; rotate_left; ((try simp); (try omega))))) hb2
                clear hb2
                go_wp2_with fail
                refine (specIsResponse_any _ ⟨ty, st, ve, bo, false⟩ _ _ (by exact Cod.bel hr2 (by repeat (first | with_reducible exact Below.refl _ _ | with_reducible assumption | with_reducible refine bel_alloc ?_ _ | with_reducible refine bel_drew ?_ | with_reducible refine bel_drewN ?_ _ | (with_reducible refine bel_set ?_ ?_ _; rotate_left; ((try simp); (try omega)))))) hn2).mono ?_
                rintro e w3 ⟨rfl, hb3⟩
                have hz_w3 := hb3.size
                (try simp at hz_w3)
                have ha0_w3 : w.heap.size < w3.heap.size := by omega
                have ha1_w3 : w.heap.size + 1 < w3.heap.size := by omega
                have ha2_w3 : w.heap.size + 2 < w3.heap.size := by omega
                have ha3_w3 : w1.heap.size < w3.heap.size := by omega
                obtain ⟨hc_w3, hf_w3, -⟩ := bcell hb3
                have hb_w3 : Below w.heap.size w w3 := bel_then (by repeat (first | with_reducible exact Below.refl _ _ | with_reducible assumption | with_reducible refine bel_alloc ?_ _ | with_reducible refine bel_drew ?_ | with_reducible refine bel_drewN ?_ _ | (with_reducible refine bel_set ?_ ?_ _; rotate_left; ((try simp); (try omega))))) hb3
                have hk3 : Keep (w.heap.size + 1 + 1 + 1) w1 w3 := Keep.bel (show Keep (w.heap.size + 1 + 1 + 1) w1 _ from (by repeat (first | with_reducible exact Keep.refl _ _ | with_reducible assumption | with_reducible refine Keep.alloc ?_ _ | with_reducible refine Keep.drew ?_ | with_reducible refine Keep.drewN ?_ _ | (with_reducible refine Keep.set_ ?_ ?_ _; rotate_left; ((try simp); (try omega)))))) hb3
                clear hb3
                go_wp2_with fail
                refine (specErrorResponse_any _).mono ?_
                rintro e w4 ⟨vs4, G4, rfl, hb4, hrep4, hf4⟩
                obtain ⟨v4, _, rfl, rfl, hok4, n4⟩ := TResp.outA hrep4
                obtain ⟨B4, d4, rfl⟩ := cL_form n4
                have hz_w4 := hb4.size
                (try simp at hz_w4)
                have ha0_w4 : w.heap.size < w4.heap.size := by omega
                have ha1_w4 : w.heap.size + 1 < w4.heap.size := by omega
                have ha2_w4 : w.heap.size + 2 < w4.heap.size := by omega
                have ha3_w4 : w1.heap.size < w4.heap.size := by omega
                obtain ⟨hc_w4, hf_w4, -⟩ := bcell hb4
                have hb_w4 : Below w.heap.size w w4 := bel_then (by repeat (first | with_reducible exact Below.refl _ _ | with_reducible assumption | with_reducible refine bel_alloc ?_ _ | with_reducible refine bel_drew ?_ | with_reducible refine bel_drewN ?_ _ | (with_reducible refine bel_set ?_ ?_ _; rotate_left; ((try simp); (try omega))))) hb4
                have hg4 : Fresh (w.heap.size + 1 + 1 + 1) G4 := hf4.mono (by (try simp); (try omega))
                clear hb4 hf4 hrep4
                have j0 : w4.cell? ⟨w.heap.size + 1 + 1, 0, none⟩ = some (.int .i64 0) := by go_simp
                have j1 : w4.cell? ⟨w.heap.size + 1 + 1, 1, none⟩ = some (.int .i64 0) := by go_simp
                have j2 : w4.cell? ⟨w.heap.size + 1 + 1, 2, none⟩ = some (.int .i64 0) := by go_simp
                have j3 : w4.cell? ⟨w.heap.size + 1 + 1, 3, none⟩ = some (.slice none 0 0) := by go_simp
                have j4 : w4.cell? ⟨w.heap.size + 1 + 1, 4, none⟩ = some (.bool false) := by go_simp
                go_wp2_with fail
                refine bodyPost_ret (v := .agg #[.int .i64 errorResponse.type, .int .i64 errorResponse.status, .int .i64 errorResponse.ver, .slice B4 errorResponse.body.length d4, .bool errorResponse.shares]) (by simp [results, Try.results19, go_sem, *]) rfl ?_
                exact ⟨_, G4, rfl, (by repeat (first | with_reducible exact Below.refl _ _ | with_reducible assumption | with_reducible refine bel_alloc ?_ _ | with_reducible refine bel_drew ?_ | with_reducible refine bel_drewN ?_ _ | (with_reducible refine bel_set ?_ ?_ _; rotate_left; ((try simp); (try omega))))), TResp.mk_ hok4 (Cod.keep2 n4 hg4 (by repeat (first | with_reducible exact Keep.refl _ _ | with_reducible assumption | with_reducible refine Keep.alloc ?_ _ | with_reducible refine Keep.drew ?_ | with_reducible refine Keep.drewN ?_ _ | (with_reducible refine Keep.set_ ?_ ?_ _; rotate_left; ((try simp); (try omega)))))), hg4.mono (by (try simp); (try omega))⟩
          case false =>
            cases e6 : (m == 3)
            case true =>
              obtain rfl : R = ⟨3, 0, 0, [], false⟩ := by rw [HE.out, e1, e2, e3, show strEq a b = false from e4, e5, e6]; rfl
              clear HE
              go_enter Try.func19, Try.ntmps19
              go_wp2_with fail
              refine (specCopyResp_any _ x _ _ (by exact Cod.bel hr2 (by repeat (first | with_reducible exact Below.refl _ _ | with_reducible assumption | with_reducible refine bel_alloc ?_ _ | with_reducible refine bel_drew ?_ | with_reducible refine bel_drewN ?_ _ | (with_reducible refine bel_set ?_ ?_ _; rotate_left; ((try simp); (try omega)))))) hn2).mono ?_
              rintro e w1 ⟨vs1, G1, rfl, hb1, hrep, hf1⟩
              obtain ⟨v3, G3, rfl, rfl, -, n3⟩ := TResp.outA hrep
              obtain ⟨B3, d3, rfl⟩ := cL_form n3
              have hz_w1 := hb1.size
              (try simp at hz_w1)
              have ha0_w1 : w.heap.size < w1.heap.size := by omega
              have ha1_w1 : w.heap.size + 1 < w1.heap.size := by omega
              have ha2_w1 : w.heap.size + 2 < w1.heap.size := by omega
              obtain ⟨hc_w1, hf_w1, -⟩ := bcell hb1
              have hb_w1 : Below w.heap.size w w1 := bel_then (by repeat (first | with_reducible exact Below.refl _ _ | with_reducible assumption | with_reducible refine bel_alloc ?_ _ | with_reducible refine bel_drew ?_ | with_reducible refine bel_drewN ?_ _ | (with_reducible refine bel_set ?_ ?_ _; rotate_left; ((try simp); (try omega))))) hb1
              have hg1 : Fresh (w.heap.size + 1 + 1 + 1) G1 := hf1.mono (by simp)
              clear hb1 hf1 hrep
              go_wp2_with fail
              refine (specRequestCells _ _ _ _ _ hq0 hq1 hq2 hq3).mono ?_
              rintro e w2 ⟨rfl, hb2⟩
              have hz_w2 := hb2.size
              (try simp at hz_w2)
              have ha0_w2 : w.heap.size < w2.heap.size := by omega
              have ha1_w2 : w.heap.size + 1 < w2.heap.size := by omega
              have ha2_w2 : w.heap.size + 2 < w2.heap.size := by omega
              have ha3_w2 : w1.heap.size < w2.heap.size := by omega
              obtain ⟨hc_w2, hf_w2, -⟩ := bcell hb2
              have hb_w2 : Below w.heap.size w w2 := bel_then (by repeat (first | with_reducible exact Below.refl _ _ | with_reducible assumption | with_reducible refine bel_alloc ?_ _ | with_reducible refine bel_drew ?_ | with_reducible refine bel_drewN ?_ _ | (with_reducible refine bel_set ?_ ?_ _; rotate_left; ((try simp); (try omega))))) hb2
              have hk2 : Keep (w.heap.size + 1 + 1 + 1) w1 w2 := Keep.bel (by repeat (first | with_reducible exact Keep.refl _ _ | with_reducible assumption | with_reducible refine Keep.alloc ?_ _ | with_reducible refine Keep.drew ?_ | with_reducible refine Keep.drewN ?_ _ | (with_reducible refine Keep.set_ ?_ ?_ _; rotate_left; ((try simp); (try omega))))) hb2
              clear hb2
              go_wp2_with fail
              refine (specIsResponse_any _ x _ _ (by exact Cod.bel hr2 (by repeat (first | with_reducible exact Below.refl _ _ | with_reducible assumption | with_reducible refine bel_alloc ?_ _ | with_reducible refine bel_drew ?_ | with_reducible refine bel_drewN ?_ _ | (with_reducible refine bel_set ?_ ?_ _; rotate_left; ((try simp); (try omega)))))) hn2).mono ?_
              rintro e w3 ⟨rfl, hb3⟩
              have hz_w3 := hb3.size
              (try simp at hz_w3)
              have ha0_w3 : w.heap.size < w3.heap.size := by omega
              have ha1_w3 : w.heap.size + 1 < w3.heap.size := by omega
              have ha2_w3 : w.heap.size + 2 < w3.heap.size := by omega
              have ha3_w3 : w1.heap.size < w3.heap.size := by omega
              obtain ⟨hc_w3, hf_w3, -⟩ := bcell hb3
              have hb_w3 : Below w.heap.size w w3 := bel_then (by repeat (first | with_reducible exact Below.refl _ _ | with_reducible assumption | with_reducible refine bel_alloc ?_ _ | with_reducible refine bel_drew ?_ | with_reducible refine bel_drewN ?_ _ | (with_reducible refine bel_set ?_ ?_ _; rotate_left; ((try simp); (try omega))))) hb3
              have hk3 : Keep (w.heap.size + 1 + 1 + 1) w1 w3 := Keep.bel (show Keep (w.heap.size + 1 + 1 + 1) w1 _ from (by repeat (first | with_reducible exact Keep.refl _ _ | with_reducible assumption | with_reducible refine Keep.alloc ?_ _ | with_reducible refine Keep.drew ?_ | with_reducible refine Keep.drewN ?_ _ | (with_reducible refine Keep.set_ ?_ ?_ _; rotate_left; ((try simp); (try omega)))))) hb3
              clear hb3
              have j0 : w3.cell? ⟨w.heap.size + 1 + 1, 0, none⟩ = some (.int .i64 0) := by go_simp
              have j1 : w3.cell? ⟨w.heap.size + 1 + 1, 1, none⟩ = some (.int .i64 0) := by go_simp
              have j2 : w3.cell? ⟨w.heap.size + 1 + 1, 2, none⟩ = some (.int .i64 0) := by go_simp
              have j3 : w3.cell? ⟨w.heap.size + 1 + 1, 3, none⟩ = some (.slice none 0 0) := by go_simp
              have j4 : w3.cell? ⟨w.heap.size + 1 + 1, 4, none⟩ = some (.bool false) := by go_simp
              go_wp2_with fail
              refine bodyPost_ret (v := .agg #[.int .i64 3, .int .i64 0, .int .i64 0, .slice none 0 0, .bool false]) (by simp [results, Try.results19, go_sem, *]) rfl ?_
              exact ⟨_, [], rfl, (by repeat (first | with_reducible exact Below.refl _ _ | with_reducible assumption | with_reducible refine bel_alloc ?_ _ | with_reducible refine bel_drew ?_ | with_reducible refine bel_drewN ?_ _ | (with_reducible refine bel_set ?_ ?_ _; rotate_left; ((try simp); (try omega))))), TResp.mk_ (x := ⟨3, 0, 0, [], false⟩) ⟨by decide, by decide, by decide⟩ ⟨none, 0, rfl, by decide, by decide, .inl ⟨rfl, rfl⟩⟩, Fresh.nil _⟩
            case false =>
              obtain rfl : R = errorResponse := by rw [HE.out, e1, e2, e3, show strEq a b = false from e4, e5, e6]; rfl
              clear HE
              go_enter Try.func19, Try.ntmps19
              go_wp2_with fail
              refine (specCopyResp_any _ x _ _ (by exact Cod.bel hr2 (by repeat (first | with_reducible exact Below.refl _ _ | with_reducible assumption | with_reducible refine bel_alloc ?_ _ | with_reducible refine bel_drew ?_ | with_reducible refine bel_drewN ?_ _ | (with_reducible refine bel_set ?_ ?_ _; rotate_left; ((try simp); (try omega)))))) hn2).mono ?_
              rintro e w1 ⟨vs1, G1, rfl, hb1, hrep, hf1⟩
              obtain ⟨v3, G3, rfl, rfl, -, n3⟩ := TResp.outA hrep
              obtain ⟨B3, d3, rfl⟩ := cL_form n3
              have hz_w1 := hb1.size
              (try simp at hz_w1)
              have ha0_w1 : w.heap.size < w1.heap.size := by omega
              have ha1_w1 : w.heap.size + 1 < w1.heap.size := by omega
              have ha2_w1 : w.heap.size + 2 < w1.heap.size := by omega
              obtain ⟨hc_w1, hf_w1, -⟩ := bcell hb1
              have hb_w1 : Below w.heap.size w w1 := bel_then (by repeat (first | with_reducible exact Below.refl _ _ | with_reducible assumption | with_reducible refine bel_alloc ?_ _ | with_reducible refine bel_drew ?_ | with_reducible refine bel_drewN ?_ _ | (with_reducible refine bel_set ?_ ?_ _; rotate_left; ((try simp); (try omega))))) hb1
              have hg1 : Fresh (w.heap.size + 1 + 1 + 1) G1 := hf1.mono (by simp)
              clear hb1 hf1 hrep
              go_wp2_with fail
              refine (specRequestCells _ _ _ _ _ hq0 hq1 hq2 hq3).mono ?_
              rintro e w2 ⟨rfl, hb2⟩
              have hz_w2 := hb2.size
              (try simp at hz_w2)
              have ha0_w2 : w.heap.size < w2.heap.size := by omega
              have ha1_w2 : w.heap.size + 1 < w2.heap.size := by omega
              have ha2_w2 : w.heap.size + 2 < w2.heap.size := by omega
              have ha3_w2 : w1.heap.size < w2.heap.size := by omega
              obtain ⟨hc_w2, hf_w2, -⟩ := bcell hb2
              have hb_w2 : Below w.heap.size w w2 := bel_then (by repeat (first | with_reducible exact Below.refl _ _ | with_reducible assumption | with_reducible refine bel_alloc ?_ _ | with_reducible refine bel_drew ?_ | with_reducible refine bel_drewN ?_ _ | (with_reducible refine bel_set ?_ ?_ _; rotate_left; ((try simp); (try omega))))) hb2
              have hk2 : Keep (w.heap.size + 1 + 1 + 1) w1 w2 := Keep.bel (by repeat (first | with_reducible exact Keep.refl _ _ | with_reducible assumption | with_reducible refine Keep.alloc ?_ _ | with_reducible refine Keep.drew ?_ | with_reducible refine Keep.drewN ?_ _ | (with_reducible refine Keep.set_ ?_ ?_ _; rotate_left; ((try simp); (try omega))))) hb2
              clear hb2
              go_wp2_with fail
              refine (specIsResponse_any _ x _ _ (by exact Cod.bel hr2 (by repeat (first | with_reducible exact Below.refl _ _ | with_reducible assumption | with_reducible refine bel_alloc ?_ _ | with_reducible refine bel_drew ?_ | with_reducible refine bel_drewN ?_ _ | (with_reducible refine bel_set ?_ ?_ _; rotate_left; ((try simp); (try omega)))))) hn2).mono ?_
              rintro e w3 ⟨rfl, hb3⟩
              have hz_w3 := hb3.size
              (try simp at hz_w3)
              have ha0_w3 : w.heap.size < w3.heap.size := by omega
              have ha1_w3 : w.heap.size + 1 < w3.heap.size := by omega
              have ha2_w3 : w.heap.size + 2 < w3.heap.size := by omega
              have ha3_w3 : w1.heap.size < w3.heap.size := by omega
              obtain ⟨hc_w3, hf_w3, -⟩ := bcell hb3
              have hb_w3 : Below w.heap.size w w3 := bel_then (by repeat (first | with_reducible exact Below.refl _ _ | with_reducible assumption | with_reducible refine bel_alloc ?_ _ | with_reducible refine bel_drew ?_ | with_reducible refine bel_drewN ?_ _ | (with_reducible refine bel_set ?_ ?_ _; rotate_left; ((try simp); (try omega))))) hb3
              have hk3 : Keep (w.heap.size + 1 + 1 + 1) w1 w3 := Keep.bel (show Keep (w.heap.size + 1 + 1 + 1) w1 _ from (by repeat (first | with_reducible exact Keep.refl _ _ | with_reducible assumption | with_reducible refine Keep.alloc ?_ _ | with_reducible refine Keep.drew ?_ | with_reducible refine Keep.drewN ?_ _ | (with_reducible refine Keep.set_ ?_ ?_ _; rotate_left; ((try simp); (try omega)))))) hb3
              clear hb3
              go_wp2_with fail
              refine (specErrorResponse_any _).mono ?_
              rintro e w4 ⟨vs4, G4, rfl, hb4, hrep4, hf4⟩
              obtain ⟨v4, _, rfl, rfl, hok4, n4⟩ := TResp.outA hrep4
              obtain ⟨B4, d4, rfl⟩ := cL_form n4
              have hz_w4 := hb4.size
              (try simp at hz_w4)
              have ha0_w4 : w.heap.size < w4.heap.size := by omega
              have ha1_w4 : w.heap.size + 1 < w4.heap.size := by omega
              have ha2_w4 : w.heap.size + 2 < w4.heap.size := by omega
              have ha3_w4 : w1.heap.size < w4.heap.size := by omega
              obtain ⟨hc_w4, hf_w4, -⟩ := bcell hb4
              have hb_w4 : Below w.heap.size w w4 := bel_then (by repeat (first | with_reducible exact Below.refl _ _ | with_reducible assumption | with_reducible refine bel_alloc ?_ _ | with_reducible refine bel_drew ?_ | with_reducible refine bel_drewN ?_ _ | (with_reducible refine bel_set ?_ ?_ _; rotate_left; ((try simp); (try omega))))) hb4
              have hg4 : Fresh (w.heap.size + 1 + 1 + 1) G4 := hf4.mono (by (try simp); (try omega))
              clear hb4 hf4 hrep4
              have j0 : w4.cell? ⟨w.heap.size + 1 + 1, 0, none⟩ = some (.int .i64 0) := by go_simp
              have j1 : w4.cell? ⟨w.heap.size + 1 + 1, 1, none⟩ = some (.int .i64 0) := by go_simp
              have j2 : w4.cell? ⟨w.heap.size + 1 + 1, 2, none⟩ = some (.int .i64 0) := by go_simp
              have j3 : w4.cell? ⟨w.heap.size + 1 + 1, 3, none⟩ = some (.slice none 0 0) := by go_simp
              have j4 : w4.cell? ⟨w.heap.size + 1 + 1, 4, none⟩ = some (.bool false) := by go_simp
              go_wp2_with fail
              refine bodyPost_ret (v := .agg #[.int .i64 errorResponse.type, .int .i64 errorResponse.status, .int .i64 errorResponse.ver, .slice B4 errorResponse.body.length d4, .bool errorResponse.shares]) (by simp [results, Try.results19, go_sem, *]) rfl ?_
              exact ⟨_, G4, rfl, (by repeat (first | with_reducible exact Below.refl _ _ | with_reducible assumption | with_reducible refine bel_alloc ?_ _ | with_reducible refine bel_drew ?_ | with_reducible refine bel_drewN ?_ _ | (with_reducible refine bel_set ?_ ?_ _; rotate_left; ((try simp); (try omega))))), TResp.mk_ hok4 (Cod.keep2 n4 hg4 (by repeat (first | with_reducible exact Keep.refl _ _ | with_reducible assumption | with_reducible refine Keep.alloc ?_ _ | with_reducible refine Keep.drew ?_ | with_reducible refine Keep.drewN ?_ _ | (with_reducible refine Keep.set_ ?_ ?_ _; rotate_left; ((try simp); (try omega)))))), hg4.mono (by (try simp); (try omega))⟩
theorem filterResponse_sz (r : TReq) (x : TResp) : cResp.sz (filterResponse r x) ≤ cResp.sz x := by
  unfold filterResponse
  cases (!isRequest r || !isResponse x || x.type == 4)
  · cases strEq r.frm r.dst
    · cases (r.mode == 2 && x.shares)
      · cases (r.mode == 3)
        · exact Nat.zero_le _
        · exact Nat.zero_le _
      · exact Nat.le_refl _
    · exact Nat.le_refl _
  · exact Nat.zero_le _
end Go.Proofs.Yteipaolcmjfhdaa
