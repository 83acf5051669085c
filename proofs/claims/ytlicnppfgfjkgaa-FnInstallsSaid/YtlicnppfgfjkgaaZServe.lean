/-
  ServeFile of the program and of the reference. No conditions.
-/
import Derived.Test.YtlicnppfgfjkgaaZA
import Derived.Test.YtlicnppfgfjkgaaZRespEq
import Derived.Test.YtlicnppfgfjkgaaZRegT
namespace Go.Proofs.Ytlicnppfgfjkgaa
open Go.ChangeShapes Go.WideShapes Go.RowKit
set_option linter.unusedVariables false

theorem in1 : -9223372036854775808 ≤ (1 : Int) ∧ (1 : Int) ≤ 9223372036854775807 := by decide
theorem in200 : -9223372036854775808 ≤ (200 : Int) ∧ (200 : Int) ≤ 9223372036854775807 := by decide
theorem in404 : -9223372036854775808 ≤ (404 : Int) ∧ (404 : Int) ≤ 9223372036854775807 := by decide
def serveFile (s : TSite) (pa : ByteArray) (v : Int) : TResp :=
  bif isSite s then (bif servesVersion s v && hasStr s.files pa then ⟨1, 200, v, bodyOf s pa v, s.shared⟩ else ⟨1, 404, s.ver, [], false⟩) else errorResponse
theorem serveFile_sz (s : TSite) (pa : ByteArray) (v : Int) : cResp.sz (serveFile s pa v) ≤ 12 := by
  unfold serveFile
  have h := bodyOf_sz s pa v
  cases isSite s with
  | false => show cResp.sz errorResponse ≤ 12; decide
  | true =>
    cases servesVersion s v && hasStr s.files pa with
    | false => show 0 + (0 + (0 + (cU.szs [] + 0))) ≤ 12; decide
    | true => show 0 + (0 + (0 + (cUS.sz (bodyOf s pa v) + 0))) ≤ 12; omega

set_option maxRecDepth 100000 in
set_option maxHeartbeats 4000000 in
theorem specServeFile_any (vs : Array Value) (x : TSite) (F : List Nat) (pa : ByteArray) (v : Int) (w : World) (h : cSite.rep w vs.toList x F) (hn : cSite.sz x ≤ 1048576) (hpa : pa.size ≤ 1048576) (hv : -9223372036854775808 ≤ v ∧ v ≤ 9223372036854775807) :
    Calls Try.prog 28 #[.agg vs, .string pa, .int .i64 v] w (GivesR cResp w (serveFile x pa v)) := by
  have hr := h
  obtain ⟨v2, F2, rfl, -, hok, m2⟩ := TSite.outA h
  obtain ⟨A2, c2, rfl⟩ := cL_form m2
  clear h m2
  have hHV := Lib.hid hv
  cases hs : isSite x with
  | false =>
    have HE := Lib.hid (show serveFile x pa v = errorResponse by unfold serveFile; rw [hs]; rfl)
    rw [HE.out]
    go_enter Try.func28, Try.ntmps28
    go_wp2_with fail
    refine (specIsSite_any _ x _ _ (by exact Cod.bel hr (by repeat (first | with_reducible exact Below.refl _ _ | with_reducible assumption | with_reducible refine bel_alloc ?_ _ | with_reducible refine bel_drew ?_ | with_reducible refine bel_drewN ?_ _ | (with_reducible refine bel_set ?_ ?_ _; rotate_left; ((try simp); (try omega)))))) hn).mono ?_
    rw [hs]
    rintro e w1 ⟨rfl, hb1⟩
    have hz_w1 := hb1.size
    (try simp at hz_w1)
    have ha0_w1 : w.heap.size < w1.heap.size := by omega
    have ha1_w1 : w.heap.size + 1 < w1.heap.size := by omega
    obtain ⟨hc_w1, hf_w1, -⟩ := bcell hb1
    have hb_w1 : Below w.heap.size w w1 := bel_then (by repeat (first | with_reducible exact Below.refl _ _ | with_reducible assumption | with_reducible refine bel_alloc ?_ _ | with_reducible refine bel_drew ?_ | with_reducible refine bel_drewN ?_ _ | (with_reducible refine bel_set ?_ ?_ _; rotate_left; ((try simp); (try omega))))) hb1
    clear hb1
    go_wp2_with fail
    refine (specErrorResponse_any _).mono ?_
    rintro e w4 ⟨vs4, G4, rfl, hb4, hrep4, hf4⟩
    obtain ⟨v4, _, rfl, rfl, hok4, n4⟩ := TResp.outA hrep4
    obtain ⟨B4, d4, rfl⟩ := cL_form n4
    have hz_w4 := hb4.size
    (try simp at hz_w4)
    have ha0_w4 : w.heap.size < w4.heap.size := by omega
    have ha1_w4 : w.heap.size + 1 < w4.heap.size := by omega
    obtain ⟨hc_w4, hf_w4, -⟩ := bcell hb4
    have hb_w4 : Below w.heap.size w w4 := bel_then (by repeat (first | with_reducible exact Below.refl _ _ | with_reducible assumption | with_reducible refine bel_alloc ?_ _ | with_reducible refine bel_drew ?_ | with_reducible refine bel_drewN ?_ _ | (with_reducible refine bel_set ?_ ?_ _; rotate_left; ((try simp); (try omega))))) hb4
    have hg4 : Fresh (w.heap.size + 1 + 1) G4 := hf4.mono (by (try simp); (try omega))
    clear hb4 hf4 hrep4
    have j0 : w4.cell? ⟨w.heap.size + 1, 0, none⟩ = some (.int .i64 0) := by go_simp
    have j1 : w4.cell? ⟨w.heap.size + 1, 1, none⟩ = some (.int .i64 0) := by go_simp
    have j2 : w4.cell? ⟨w.heap.size + 1, 2, none⟩ = some (.int .i64 0) := by go_simp
    have j3 : w4.cell? ⟨w.heap.size + 1, 3, none⟩ = some (.slice none 0 0) := by go_simp
    have j4 : w4.cell? ⟨w.heap.size + 1, 4, none⟩ = some (.bool false) := by go_simp
    go_wp2_with fail
    refine bodyPost_ret (v := .agg #[.int .i64 errorResponse.type, .int .i64 errorResponse.status, .int .i64 errorResponse.ver, .slice B4 errorResponse.body.length d4, .bool errorResponse.shares]) (by simp [results, Try.results28, go_sem, *]) rfl ?_
    exact ⟨_, G4, rfl, (by repeat (first | with_reducible exact Below.refl _ _ | with_reducible assumption | with_reducible refine bel_alloc ?_ _ | with_reducible refine bel_drew ?_ | with_reducible refine bel_drewN ?_ _ | (with_reducible refine bel_set ?_ ?_ _; rotate_left; ((try simp); (try omega))))), TResp.mk_ hok4 (Cod.keep2 n4 hg4 (by repeat (first | with_reducible exact Keep.refl _ _ | with_reducible assumption | with_reducible refine Keep.alloc ?_ _ | with_reducible refine Keep.drew ?_ | with_reducible refine Keep.drewN ?_ _ | (with_reducible refine Keep.set_ ?_ ?_ _; rotate_left; ((try simp); (try omega)))))), hg4.mono (by (try simp); (try omega))⟩
  | true =>
    have hver := isSite_ver hs
    cases hsv : servesVersion x v with
    | false =>
      have HE := Lib.hid (show serveFile x pa v = ⟨1, 404, x.ver, [], false⟩ by unfold serveFile; rw [hs, hsv]; rfl)
      rw [HE.out]
      go_enter Try.func28, Try.ntmps28
      go_wp2_with fail
      refine (specIsSite_any _ x _ _ (by exact Cod.bel hr (by repeat (first | with_reducible exact Below.refl _ _ | with_reducible assumption | with_reducible refine bel_alloc ?_ _ | with_reducible refine bel_drew ?_ | with_reducible refine bel_drewN ?_ _ | (with_reducible refine bel_set ?_ ?_ _; rotate_left; ((try simp); (try omega)))))) hn).mono ?_
      rw [hs]
      rintro e w1 ⟨rfl, hb1⟩
      have hz_w1 := hb1.size
      (try simp at hz_w1)
      have ha0_w1 : w.heap.size < w1.heap.size := by omega
      have ha1_w1 : w.heap.size + 1 < w1.heap.size := by omega
      obtain ⟨hc_w1, hf_w1, -⟩ := bcell hb1
      have hb_w1 : Below w.heap.size w w1 := bel_then (by repeat (first | with_reducible exact Below.refl _ _ | with_reducible assumption | with_reducible refine bel_alloc ?_ _ | with_reducible refine bel_drew ?_ | with_reducible refine bel_drewN ?_ _ | (with_reducible refine bel_set ?_ ?_ _; rotate_left; ((try simp); (try omega))))) hb1
      clear hb1
      go_wp2_with fail
      refine (specServesVersion_any _ x _ v _ (by exact Cod.bel hr (by repeat (first | with_reducible exact Below.refl _ _ | with_reducible assumption | with_reducible refine bel_alloc ?_ _ | with_reducible refine bel_drew ?_ | with_reducible refine bel_drewN ?_ _ | (with_reducible refine bel_set ?_ ?_ _; rotate_left; ((try simp); (try omega)))))) hn hHV.out).mono ?_
      rw [hsv]
      rintro e w2 ⟨rfl, hb2⟩
      have hz_w2 := hb2.size
      (try simp at hz_w2)
      have ha0_w2 : w.heap.size < w2.heap.size := by omega
      have ha1_w2 : w.heap.size + 1 < w2.heap.size := by omega
      obtain ⟨hc_w2, hf_w2, -⟩ := bcell hb2
      have hb_w2 : Below w.heap.size w w2 := bel_then (by repeat (first | with_reducible exact Below.refl _ _ | with_reducible assumption | with_reducible refine bel_alloc ?_ _ | with_reducible refine bel_drew ?_ | with_reducible refine bel_drewN ?_ _ | (with_reducible refine bel_set ?_ ?_ _; rotate_left; ((try simp); (try omega))))) hb2
      clear hb2
      have j0 : w2.cell? ⟨w.heap.size + 1, 0, none⟩ = some (.int .i64 0) := by go_simp
      have j1 : w2.cell? ⟨w.heap.size + 1, 1, none⟩ = some (.int .i64 0) := by go_simp
      have j2 : w2.cell? ⟨w.heap.size + 1, 2, none⟩ = some (.int .i64 0) := by go_simp
      have j3 : w2.cell? ⟨w.heap.size + 1, 3, none⟩ = some (.slice none 0 0) := by go_simp
      have j4 : w2.cell? ⟨w.heap.size + 1, 4, none⟩ = some (.bool false) := by go_simp
      go_wp2_with fail
      refine bodyPost_ret (v := .agg #[.int .i64 1, .int .i64 404, .int .i64 x.ver, .slice none 0 0, .bool false]) (by simp [results, Try.results28, go_sem, *]) rfl ?_
      exact ⟨_, [], rfl, (by repeat (first | with_reducible exact Below.refl _ _ | with_reducible assumption | with_reducible refine bel_alloc ?_ _ | with_reducible refine bel_drew ?_ | with_reducible refine bel_drewN ?_ _ | (with_reducible refine bel_set ?_ ?_ _; rotate_left; ((try simp); (try omega))))), TResp.mk_ (x := ⟨1, 404, x.ver, [], false⟩) (F3 := []) ⟨in1, in404, hok.h1⟩ ⟨none, 0, rfl, Nat.le_refl _, by decide, .inl ⟨rfl, rfl⟩⟩, Fresh.nil _⟩
    | true =>
      cases hhf : hasStr x.files pa with
      | false =>
        have HE := Lib.hid (show serveFile x pa v = ⟨1, 404, x.ver, [], false⟩ by unfold serveFile; rw [hs, hsv, hhf]; rfl)
        rw [HE.out]
        go_enter Try.func28, Try.ntmps28
        go_wp2_with fail
        refine (specIsSite_any _ x _ _ (by exact Cod.bel hr (by repeat (first | with_reducible exact Below.refl _ _ | with_reducible assumption | with_reducible refine bel_alloc ?_ _ | with_reducible refine bel_drew ?_ | with_reducible refine bel_drewN ?_ _ | (with_reducible refine bel_set ?_ ?_ _; rotate_left; ((try simp); (try omega)))))) hn).mono ?_
        rw [hs]
        rintro e w1 ⟨rfl, hb1⟩
        have hz_w1 := hb1.size
        (try simp at hz_w1)
        have ha0_w1 : w.heap.size < w1.heap.size := by omega
        have ha1_w1 : w.heap.size + 1 < w1.heap.size := by omega
        obtain ⟨hc_w1, hf_w1, -⟩ := bcell hb1
        have hb_w1 : Below w.heap.size w w1 := bel_then (by repeat (first | with_reducible exact Below.refl _ _ | with_reducible assumption | with_reducible refine bel_alloc ?_ _ | with_reducible refine bel_drew ?_ | with_reducible refine bel_drewN ?_ _ | (with_reducible refine bel_set ?_ ?_ _; rotate_left; ((try simp); (try omega))))) hb1
        clear hb1
        go_wp2_with fail
        refine (specServesVersion_any _ x _ v _ (by exact Cod.bel hr (by repeat (first | with_reducible exact Below.refl _ _ | with_reducible assumption | with_reducible refine bel_alloc ?_ _ | with_reducible refine bel_drew ?_ | with_reducible refine bel_drewN ?_ _ | (with_reducible refine bel_set ?_ ?_ _; rotate_left; ((try simp); (try omega)))))) hn hHV.out).mono ?_
        rw [hsv]
        rintro e w2 ⟨rfl, hb2⟩
        have hz_w2 := hb2.size
        (try simp at hz_w2)
        have ha0_w2 : w.heap.size < w2.heap.size := by omega
        have ha1_w2 : w.heap.size + 1 < w2.heap.size := by omega
        obtain ⟨hc_w2, hf_w2, -⟩ := bcell hb2
        have hb_w2 : Below w.heap.size w w2 := bel_then (by repeat (first | with_reducible exact Below.refl _ _ | with_reducible assumption | with_reducible refine bel_alloc ?_ _ | with_reducible refine bel_drew ?_ | with_reducible refine bel_drewN ?_ _ | (with_reducible refine bel_set ?_ ?_ _; rotate_left; ((try simp); (try omega))))) hb2
        clear hb2
        go_wp2_with fail
        refine (specHasFile_any _ x _ pa _ (by exact Cod.bel hr (by repeat (first | with_reducible exact Below.refl _ _ | with_reducible assumption | with_reducible refine bel_alloc ?_ _ | with_reducible refine bel_drew ?_ | with_reducible refine bel_drewN ?_ _ | (with_reducible refine bel_set ?_ ?_ _; rotate_left; ((try simp); (try omega)))))) hn hpa).mono ?_
        rw [hhf]
        rintro e w3 ⟨rfl, hb3⟩
        have hz_w3 := hb3.size
        (try simp at hz_w3)
        have ha0_w3 : w.heap.size < w3.heap.size := by omega
        have ha1_w3 : w.heap.size + 1 < w3.heap.size := by omega
        obtain ⟨hc_w3, hf_w3, -⟩ := bcell hb3
        have hb_w3 : Below w.heap.size w w3 := bel_then (by repeat (first | with_reducible exact Below.refl _ _ | with_reducible assumption | with_reducible refine bel_alloc ?_ _ | with_reducible refine bel_drew ?_ | with_reducible refine bel_drewN ?_ _ | (with_reducible refine bel_set ?_ ?_ _; rotate_left; ((try simp); (try omega))))) hb3
        clear hb3
        have j0 : w3.cell? ⟨w.heap.size + 1, 0, none⟩ = some (.int .i64 0) := by go_simp
        have j1 : w3.cell? ⟨w.heap.size + 1, 1, none⟩ = some (.int .i64 0) := by go_simp
        have j2 : w3.cell? ⟨w.heap.size + 1, 2, none⟩ = some (.int .i64 0) := by go_simp
        have j3 : w3.cell? ⟨w.heap.size + 1, 3, none⟩ = some (.slice none 0 0) := by go_simp
        have j4 : w3.cell? ⟨w.heap.size + 1, 4, none⟩ = some (.bool false) := by go_simp
        go_wp2_with fail
        refine bodyPost_ret (v := .agg #[.int .i64 1, .int .i64 404, .int .i64 x.ver, .slice none 0 0, .bool false]) (by simp [results, Try.results28, go_sem, *]) rfl ?_
        exact ⟨_, [], rfl, (by repeat (first | with_reducible exact Below.refl _ _ | with_reducible assumption | with_reducible refine bel_alloc ?_ _ | with_reducible refine bel_drew ?_ | with_reducible refine bel_drewN ?_ _ | (with_reducible refine bel_set ?_ ?_ _; rotate_left; ((try simp); (try omega))))), TResp.mk_ (x := ⟨1, 404, x.ver, [], false⟩) (F3 := []) ⟨in1, in404, hok.h1⟩ ⟨none, 0, rfl, Nat.le_refl _, by decide, .inl ⟨rfl, rfl⟩⟩, Fresh.nil _⟩
      | true =>
        have HE := Lib.hid (show serveFile x pa v = ⟨1, 200, v, bodyOf x pa v, x.shared⟩ by unfold serveFile; rw [hs, hsv, hhf]; rfl)
        rw [HE.out]
        go_enter Try.func28, Try.ntmps28
        go_wp2_with fail
        refine (specIsSite_any _ x _ _ (by exact Cod.bel hr (by repeat (first | with_reducible exact Below.refl _ _ | with_reducible assumption | with_reducible refine bel_alloc ?_ _ | with_reducible refine bel_drew ?_ | with_reducible refine bel_drewN ?_ _ | (with_reducible refine bel_set ?_ ?_ _; rotate_left; ((try simp); (try omega)))))) hn).mono ?_
        rw [hs]
        rintro e w1 ⟨rfl, hb1⟩
        have hz_w1 := hb1.size
        (try simp at hz_w1)
        have ha0_w1 : w.heap.size < w1.heap.size := by omega
        have ha1_w1 : w.heap.size + 1 < w1.heap.size := by omega
        obtain ⟨hc_w1, hf_w1, -⟩ := bcell hb1
        have hb_w1 : Below w.heap.size w w1 := bel_then (by repeat (first | with_reducible exact Below.refl _ _ | with_reducible assumption | with_reducible refine bel_alloc ?_ _ | with_reducible refine bel_drew ?_ | with_reducible refine bel_drewN ?_ _ | (with_reducible refine bel_set ?_ ?_ _; rotate_left; ((try simp); (try omega))))) hb1
        clear hb1
        go_wp2_with fail
        refine (specServesVersion_any _ x _ v _ (by exact Cod.bel hr (by repeat (first | with_reducible exact Below.refl _ _ | with_reducible assumption | with_reducible refine bel_alloc ?_ _ | with_reducible refine bel_drew ?_ | with_reducible refine bel_drewN ?_ _ | (with_reducible refine bel_set ?_ ?_ _; rotate_left; ((try simp); (try omega)))))) hn hHV.out).mono ?_
        rw [hsv]
        rintro e w2 ⟨rfl, hb2⟩
        have hz_w2 := hb2.size
        (try simp at hz_w2)
        have ha0_w2 : w.heap.size < w2.heap.size := by omega
        have ha1_w2 : w.heap.size + 1 < w2.heap.size := by omega
        obtain ⟨hc_w2, hf_w2, -⟩ := bcell hb2
        have hb_w2 : Below w.heap.size w w2 := bel_then (by repeat (first | with_reducible exact Below.refl _ _ | with_reducible assumption | with_reducible refine bel_alloc ?_ _ | with_reducible refine bel_drew ?_ | with_reducible refine bel_drewN ?_ _ | (with_reducible refine bel_set ?_ ?_ _; rotate_left; ((try simp); (try omega))))) hb2
        clear hb2
        go_wp2_with fail
        refine (specHasFile_any _ x _ pa _ (by exact Cod.bel hr (by repeat (first | with_reducible exact Below.refl _ _ | with_reducible assumption | with_reducible refine bel_alloc ?_ _ | with_reducible refine bel_drew ?_ | with_reducible refine bel_drewN ?_ _ | (with_reducible refine bel_set ?_ ?_ _; rotate_left; ((try simp); (try omega)))))) hn hpa).mono ?_
        rw [hhf]
        rintro e w3 ⟨rfl, hb3⟩
        have hz_w3 := hb3.size
        (try simp at hz_w3)
        have ha0_w3 : w.heap.size < w3.heap.size := by omega
        have ha1_w3 : w.heap.size + 1 < w3.heap.size := by omega
        obtain ⟨hc_w3, hf_w3, -⟩ := bcell hb3
        have hb_w3 : Below w.heap.size w w3 := bel_then (by repeat (first | with_reducible exact Below.refl _ _ | with_reducible assumption | with_reducible refine bel_alloc ?_ _ | with_reducible refine bel_drew ?_ | with_reducible refine bel_drewN ?_ _ | (with_reducible refine bel_set ?_ ?_ _; rotate_left; ((try simp); (try omega))))) hb3
        clear hb3
        have b0 : w3.cell? ⟨w.heap.size, 0, none⟩ = some (.string x.name) := by go_simp
        have b1 : w3.cell? ⟨w.heap.size, 1, none⟩ = some (.int .i64 x.ver) := by go_simp
        have b2 : w3.cell? ⟨w.heap.size, 2, none⟩ = some (.slice A2 x.files.length c2) := by go_simp
        have b3 : w3.cell? ⟨w.heap.size, 3, none⟩ = some (.bool x.shared) := by go_simp
        have j0 : w3.cell? ⟨w.heap.size + 1, 0, none⟩ = some (.int .i64 0) := by go_simp
        have j1 : w3.cell? ⟨w.heap.size + 1, 1, none⟩ = some (.int .i64 0) := by go_simp
        have j2 : w3.cell? ⟨w.heap.size + 1, 2, none⟩ = some (.int .i64 0) := by go_simp
        have j3 : w3.cell? ⟨w.heap.size + 1, 3, none⟩ = some (.slice none 0 0) := by go_simp
        have j4 : w3.cell? ⟨w.heap.size + 1, 4, none⟩ = some (.bool false) := by go_simp
        have z0 : w3.frozen? ⟨w.heap.size + 1, 0, none⟩ = false := by go_simp
        have z1 : w3.frozen? ⟨w.heap.size + 1, 1, none⟩ = false := by go_simp
        have z2 : w3.frozen? ⟨w.heap.size + 1, 2, none⟩ = false := by go_simp
        have z3 : w3.frozen? ⟨w.heap.size + 1, 3, none⟩ = false := by go_simp
        have z4 : w3.frozen? ⟨w.heap.size + 1, 4, none⟩ = false := by go_simp
        have hS : ∀ w9, Below w3.heap.size w3 w9 → w9.cell? ⟨w.heap.size, 0, none⟩ = some (.string x.name) ∧ w9.cell? ⟨w.heap.size, 1, none⟩ = some (.int .i64 x.ver) ∧ w9.cell? ⟨w.heap.size, 2, none⟩ = some (.slice A2 x.files.length c2) ∧ w9.cell? ⟨w.heap.size, 3, none⟩ = some (.bool x.shared) :=
          fun w9 hb => ⟨(hb.cell (p := ⟨w.heap.size, 0, none⟩) ha0_w3).trans b0, (hb.cell (p := ⟨w.heap.size, 1, none⟩) ha0_w3).trans b1, (hb.cell (p := ⟨w.heap.size, 2, none⟩) ha0_w3).trans b2, (hb.cell (p := ⟨w.heap.size, 3, none⟩) ha0_w3).trans b3⟩
        clear hc_w1 hf_w1 hc_w2 hf_w2 hc_w3 hf_w3
        have hlb := bodyOf_len x pa v
        obtain ⟨by_, hby⟩ : ∃ by_, bodyOf x pa v = by_ := ⟨_, rfl⟩
        have HBY := Lib.hid hby
        rw [hby] at hlb ⊢
        clear hby
        go_wp2_with fail
        refine wp_regionT (S := (fun w9 => w9.cell? ⟨w.heap.size, 0, none⟩ = some (.string x.name) ∧ w9.cell? ⟨w.heap.size, 1, none⟩ = some (.int .i64 x.ver) ∧ w9.cell? ⟨w.heap.size, 2, none⟩ = some (.slice A2 x.files.length c2) ∧ w9.cell? ⟨w.heap.size, 3, none⟩ = some (.bool x.shared))) [8] (by kernel_rfl) (by (try dsimp only); exact hS _ (by repeat (first | with_reducible exact Below.refl _ _ | with_reducible assumption | with_reducible refine bel_alloc ?_ _ | with_reducible refine bel_drew ?_ | with_reducible refine bel_drewN ?_ _ | (with_reducible refine bel_set ?_ ?_ _; rotate_left; ((try simp); (try omega)))))) (fun hHeld => ?_)
        refine takeT_read (i := 0) 9 24 (v := ?v0) rfl rfl (by kernel_rfl) (by kernel_rfl) (by kernel_rfl) (by kernel_rfl) (by kernel_rfl) (by kernel_rfl) (fun _ _ _ h => h) (by rfl) ?hy0 (by assumption) ?rest0
        case hy0 => (intro w hSw; (try dsimp only at hSw); go_simp; (try with_reducible rfl))
        try simp only [Act.put, List.setIfInBounds_toArray, List.set_cons_zero, List.set_cons_succ]
        refine takeT_read (i := 1) 9 25 (v := ?v1) rfl rfl (by kernel_rfl) (by kernel_rfl) (by kernel_rfl) (by kernel_rfl) (by kernel_rfl) (by kernel_rfl) (fun _ _ _ h => h) (by rfl) ?hy1 (by assumption) ?rest1
        case hy1 => (intro w hSw; (try dsimp only at hSw); go_simp; (try with_reducible rfl))
        try simp only [Act.put, List.setIfInBounds_toArray, List.set_cons_zero, List.set_cons_succ]
        refine takeT_read (i := 2) 9 26 (v := ?v2) rfl rfl (by kernel_rfl) (by kernel_rfl) (by kernel_rfl) (by kernel_rfl) (by kernel_rfl) (by kernel_rfl) (fun _ _ _ h => h) (by rfl) ?hy2 (by assumption) ?rest2
        case hy2 => (intro w hSw; (try dsimp only at hSw); go_simp; (try with_reducible rfl))
        try simp only [Act.put, List.setIfInBounds_toArray, List.set_cons_zero, List.set_cons_succ]
        refine takeT_read (i := 3) 9 27 (v := ?v3) rfl rfl (by kernel_rfl) (by kernel_rfl) (by kernel_rfl) (by kernel_rfl) (by kernel_rfl) (by kernel_rfl) (fun _ _ _ h => h) (by rfl) ?hy3 (by assumption) ?rest3
        case hy3 => (intro w hSw; (try dsimp only at hSw); go_simp; (try with_reducible rfl))
        try simp only [Act.put, List.setIfInBounds_toArray, List.set_cons_zero, List.set_cons_succ]
        refine takeT_read (i := 5) 9 29 (v := ?v5) rfl rfl (by kernel_rfl) (by kernel_rfl) (by kernel_rfl) (by kernel_rfl) (by kernel_rfl) (by kernel_rfl) (fun _ _ _ h => h) (by rfl) ?hy5 (by assumption) ?rest5
        case hy5 => (intro w hSw; (try dsimp only at hSw); go_simp; (try with_reducible rfl))
        try simp only [Act.put, List.setIfInBounds_toArray, List.set_cons_zero, List.set_cons_succ]
        refine takeT_read (i := 6) 9 30 (v := ?v6) rfl rfl (by kernel_rfl) (by kernel_rfl) (by kernel_rfl) (by kernel_rfl) (by kernel_rfl) (by kernel_rfl) (fun _ _ _ h => h) (by rfl) ?hy6 (by assumption) ?rest6
        case hy6 => (intro w hSw; (try dsimp only at hSw); go_simp; (try with_reducible rfl))
        try simp only [Act.put, List.setIfInBounds_toArray, List.set_cons_zero, List.set_cons_succ]
        refine stepT 4 (by kernel_rfl) rfl (fun K hK => ?_)
        go_simp
        (go_at_call 55; refine (specBodyOf_any _ x _ pa v _ (by exact Cod.bel hr (bel_then hb_w3 (by repeat (first | with_reducible exact Below.refl _ _ | with_reducible assumption | with_reducible refine bel_alloc ?_ _ | with_reducible refine bel_drew ?_ | with_reducible refine bel_drewN ?_ _ | (with_reducible refine bel_set ?_ ?_ _; rotate_left; ((try simp); (try omega))))))) hn (by omega) hHV.out).mono ?_; rw [HBY.out]; rintro e w4 ⟨v4, G4, rfl, hb4, hrep4, hf4⟩; obtain ⟨B4, d4, rfl⟩ := cL_form hrep4; have hb34 : Below w3.heap.size w3 w4 := bel_then (by repeat (first | with_reducible exact Below.refl _ _ | with_reducible assumption | with_reducible refine bel_alloc ?_ _ | with_reducible refine bel_drew ?_ | with_reducible refine bel_drewN ?_ _ | (with_reducible refine bel_set ?_ ?_ _; rotate_left; ((try simp); (try omega))))) hb4; have hg4 : Fresh (w.heap.size + 1 + 1) G4 := hf4.mono (by (try simp); (try omega)); have hb04 : Below w.heap.size w w4 := bel_then hb_w3 hb34; have n4 := hrep4; clear hb4 hrep4 hf4; have y0 := (hb34.cell (p := ⟨w.heap.size + 1, 0, none⟩) ha1_w3).trans j0; have y1 := (hb34.cell (p := ⟨w.heap.size + 1, 1, none⟩) ha1_w3).trans j1; have y2 := (hb34.cell (p := ⟨w.heap.size + 1, 2, none⟩) ha1_w3).trans j2; have y3 := (hb34.cell (p := ⟨w.heap.size + 1, 3, none⟩) ha1_w3).trans j3; have y4 := (hb34.cell (p := ⟨w.heap.size + 1, 4, none⟩) ha1_w3).trans j4; have x0 : w4.frozen? ⟨w.heap.size + 1, 0, none⟩ = false := (hb34.frozen (p := ⟨w.heap.size + 1, 0, none⟩) ha1_w3).trans z0; have x1 : w4.frozen? ⟨w.heap.size + 1, 1, none⟩ = false := (hb34.frozen (p := ⟨w.heap.size + 1, 1, none⟩) ha1_w3).trans z1; have x2 : w4.frozen? ⟨w.heap.size + 1, 2, none⟩ = false := (hb34.frozen (p := ⟨w.heap.size + 1, 2, none⟩) ha1_w3).trans z2; have x3 : w4.frozen? ⟨w.heap.size + 1, 3, none⟩ = false := (hb34.frozen (p := ⟨w.heap.size + 1, 3, none⟩) ha1_w3).trans z3; have x4 : w4.frozen? ⟨w.heap.size + 1, 4, none⟩ = false := (hb34.frozen (p := ⟨w.heap.size + 1, 4, none⟩) ha1_w3).trans z4; have hs34 := hb34.size; have hw4 : w.heap.size + 1 < w4.heap.size := (by omega))
        try go_wp2_with fail
        refine hK.out _ _ ?_ (fun hHeld => ?_)
        · (try dsimp only)
          exact hS _ (by repeat (first | with_reducible exact Below.refl _ _ | with_reducible assumption | with_reducible refine bel_alloc ?_ _ | with_reducible refine bel_drew ?_ | with_reducible refine bel_drewN ?_ _ | (with_reducible refine bel_set ?_ ?_ _; rotate_left; ((try simp); (try omega)))))
        clear hK K
        refine takeT_read (i := 7) 9 31 (v := ?v7) rfl rfl (by kernel_rfl) (by kernel_rfl) (by kernel_rfl) (by kernel_rfl) (by kernel_rfl) (by kernel_rfl) (fun _ _ _ h => h) (by rfl) ?hy7 (by assumption) ?rest7
        case hy7 => (intro w hSw; (try dsimp only at hSw); go_simp; (try with_reducible rfl))
        refine stepT_end 8 (by kernel_rfl) rfl (by kernel_rfl) (fun K hK => ?_)
        go_simp
        refine hK.out _ _ ?_
        clear hK K
        refine doneT (by kernel_rfl) ?_ _
        go_wp2_with fail
        refine bodyPost_ret (v := .agg #[.int .i64 1, .int .i64 200, .int .i64 v, .slice B4 by_.length d4, .bool x.shared]) (by simp [results, Try.results28, go_sem, *]) rfl ?_
        rw [HBY.out]
        exact ⟨_, G4, rfl, (by repeat (first | with_reducible exact Below.refl _ _ | with_reducible assumption | with_reducible refine bel_alloc ?_ _ | with_reducible refine bel_drew ?_ | with_reducible refine bel_drewN ?_ _ | (with_reducible refine bel_set ?_ ?_ _; rotate_left; ((try simp); (try omega))))), TResp.mk_ (x := ⟨1, 200, v, by_, x.shared⟩) ⟨in1, in200, hHV.out⟩ (Cod.keep2 n4 hg4 (by repeat (first | with_reducible exact Keep.refl _ _ | with_reducible assumption | with_reducible refine Keep.alloc ?_ _ | with_reducible refine Keep.drew ?_ | with_reducible refine Keep.drewN ?_ _ | (with_reducible refine Keep.set_ ?_ ?_ _; rotate_left; ((try simp); (try omega)))))), hg4.mono (by (try simp); (try omega))⟩
set_option maxRecDepth 100000 in
set_option maxHeartbeats 4000000 in
theorem implServeFile_any (vs : Array Value) (x : TSite) (F : List Nat) (pa : ByteArray) (v : Int) (w : World) (h : cSite.rep w vs.toList x F) (hn : cSite.sz x ≤ 1048576) (hpa : pa.size ≤ 1048576) (hv : -9223372036854775808 ≤ v ∧ v ≤ 9223372036854775807) :
    Calls Try.prog 26 #[.agg vs, .string pa, .int .i64 v] w (GivesR cResp w (serveFile x pa v)) := by
  have hr := h
  obtain ⟨v2, F2, rfl, -, hok, m2⟩ := TSite.outA h
  obtain ⟨A2, c2, rfl⟩ := cL_form m2
  clear h m2
  have hHV := Lib.hid hv
  cases hs : isSite x with
  | false =>
    have HE := Lib.hid (show serveFile x pa v = errorResponse by unfold serveFile; rw [hs]; rfl)
    rw [HE.out]
    go_enter Try.func26, Try.ntmps26
    go_wp2_with fail
    refine (implIsSite_any _ x _ _ (by exact Cod.bel hr (by repeat (first | with_reducible exact Below.refl _ _ | with_reducible assumption | with_reducible refine bel_alloc ?_ _ | with_reducible refine bel_drew ?_ | with_reducible refine bel_drewN ?_ _ | (with_reducible refine bel_set ?_ ?_ _; rotate_left; ((try simp); (try omega)))))) hn).mono ?_
    rw [hs]
    rintro e w1 ⟨rfl, hb1⟩
    have hz_w1 := hb1.size
    (try simp at hz_w1)
    have ha0_w1 : w.heap.size < w1.heap.size := by omega
    have ha1_w1 : w.heap.size + 1 < w1.heap.size := by omega
    obtain ⟨hc_w1, hf_w1, -⟩ := bcell hb1
    have hb_w1 : Below w.heap.size w w1 := bel_then (by repeat (first | with_reducible exact Below.refl _ _ | with_reducible assumption | with_reducible refine bel_alloc ?_ _ | with_reducible refine bel_drew ?_ | with_reducible refine bel_drewN ?_ _ | (with_reducible refine bel_set ?_ ?_ _; rotate_left; ((try simp); (try omega))))) hb1
    clear hb1
    go_wp2_with fail
    refine (implErrorResponse_any _).mono ?_
    rintro e w4 ⟨vs4, G4, rfl, hb4, hrep4, hf4⟩
    obtain ⟨v4, _, rfl, rfl, hok4, n4⟩ := TResp.outA hrep4
    obtain ⟨B4, d4, rfl⟩ := cL_form n4
    have hz_w4 := hb4.size
    (try simp at hz_w4)
    have ha0_w4 : w.heap.size < w4.heap.size := by omega
    have ha1_w4 : w.heap.size + 1 < w4.heap.size := by omega
    obtain ⟨hc_w4, hf_w4, -⟩ := bcell hb4
    have hb_w4 : Below w.heap.size w w4 := bel_then (by repeat (first | with_reducible exact Below.refl _ _ | with_reducible assumption | with_reducible refine bel_alloc ?_ _ | with_reducible refine bel_drew ?_ | with_reducible refine bel_drewN ?_ _ | (with_reducible refine bel_set ?_ ?_ _; rotate_left; ((try simp); (try omega))))) hb4
    have hg4 : Fresh (w.heap.size + 1 + 1) G4 := hf4.mono (by (try simp); (try omega))
    clear hb4 hf4 hrep4
    have j0 : w4.cell? ⟨w.heap.size + 1, 0, none⟩ = some (.int .i64 0) := by go_simp
    have j1 : w4.cell? ⟨w.heap.size + 1, 1, none⟩ = some (.int .i64 0) := by go_simp
    have j2 : w4.cell? ⟨w.heap.size + 1, 2, none⟩ = some (.int .i64 0) := by go_simp
    have j3 : w4.cell? ⟨w.heap.size + 1, 3, none⟩ = some (.slice none 0 0) := by go_simp
    have j4 : w4.cell? ⟨w.heap.size + 1, 4, none⟩ = some (.bool false) := by go_simp
    go_wp2_with fail
    refine bodyPost_ret (v := .agg #[.int .i64 errorResponse.type, .int .i64 errorResponse.status, .int .i64 errorResponse.ver, .slice B4 errorResponse.body.length d4, .bool errorResponse.shares]) (by simp [results, Try.results26, go_sem, *]) rfl ?_
    exact ⟨_, G4, rfl, (by repeat (first | with_reducible exact Below.refl _ _ | with_reducible assumption | with_reducible refine bel_alloc ?_ _ | with_reducible refine bel_drew ?_ | with_reducible refine bel_drewN ?_ _ | (with_reducible refine bel_set ?_ ?_ _; rotate_left; ((try simp); (try omega))))), TResp.mk_ hok4 (Cod.keep2 n4 hg4 (by repeat (first | with_reducible exact Keep.refl _ _ | with_reducible assumption | with_reducible refine Keep.alloc ?_ _ | with_reducible refine Keep.drew ?_ | with_reducible refine Keep.drewN ?_ _ | (with_reducible refine Keep.set_ ?_ ?_ _; rotate_left; ((try simp); (try omega)))))), hg4.mono (by (try simp); (try omega))⟩
  | true =>
    have hver := isSite_ver hs
    cases hsv : servesVersion x v with
    | false =>
      have HE := Lib.hid (show serveFile x pa v = ⟨1, 404, x.ver, [], false⟩ by unfold serveFile; rw [hs, hsv]; rfl)
      rw [HE.out]
      go_enter Try.func26, Try.ntmps26
      go_wp2_with fail
      refine (implIsSite_any _ x _ _ (by exact Cod.bel hr (by repeat (first | with_reducible exact Below.refl _ _ | with_reducible assumption | with_reducible refine bel_alloc ?_ _ | with_reducible refine bel_drew ?_ | with_reducible refine bel_drewN ?_ _ | (with_reducible refine bel_set ?_ ?_ _; rotate_left; ((try simp); (try omega)))))) hn).mono ?_
      rw [hs]
      rintro e w1 ⟨rfl, hb1⟩
      have hz_w1 := hb1.size
      (try simp at hz_w1)
      have ha0_w1 : w.heap.size < w1.heap.size := by omega
      have ha1_w1 : w.heap.size + 1 < w1.heap.size := by omega
      obtain ⟨hc_w1, hf_w1, -⟩ := bcell hb1
      have hb_w1 : Below w.heap.size w w1 := bel_then (by repeat (first | with_reducible exact Below.refl _ _ | with_reducible assumption | with_reducible refine bel_alloc ?_ _ | with_reducible refine bel_drew ?_ | with_reducible refine bel_drewN ?_ _ | (with_reducible refine bel_set ?_ ?_ _; rotate_left; ((try simp); (try omega))))) hb1
      clear hb1
      go_wp2_with fail
      refine (implServesVersion_any _ x _ v _ (by exact Cod.bel hr (by repeat (first | with_reducible exact Below.refl _ _ | with_reducible assumption | with_reducible refine bel_alloc ?_ _ | with_reducible refine bel_drew ?_ | with_reducible refine bel_drewN ?_ _ | (with_reducible refine bel_set ?_ ?_ _; rotate_left; ((try simp); (try omega)))))) hn hHV.out).mono ?_
      rw [hsv]
      rintro e w2 ⟨rfl, hb2⟩
      have hz_w2 := hb2.size
      (try simp at hz_w2)
      have ha0_w2 : w.heap.size < w2.heap.size := by omega
      have ha1_w2 : w.heap.size + 1 < w2.heap.size := by omega
      obtain ⟨hc_w2, hf_w2, -⟩ := bcell hb2
      have hb_w2 : Below w.heap.size w w2 := bel_then (by repeat (first | with_reducible exact Below.refl _ _ | with_reducible assumption | with_reducible refine bel_alloc ?_ _ | with_reducible refine bel_drew ?_ | with_reducible refine bel_drewN ?_ _ | (with_reducible refine bel_set ?_ ?_ _; rotate_left; ((try simp); (try omega))))) hb2
      clear hb2
      have j0 : w2.cell? ⟨w.heap.size + 1, 0, none⟩ = some (.int .i64 0) := by go_simp
      have j1 : w2.cell? ⟨w.heap.size + 1, 1, none⟩ = some (.int .i64 0) := by go_simp
      have j2 : w2.cell? ⟨w.heap.size + 1, 2, none⟩ = some (.int .i64 0) := by go_simp
      have j3 : w2.cell? ⟨w.heap.size + 1, 3, none⟩ = some (.slice none 0 0) := by go_simp
      have j4 : w2.cell? ⟨w.heap.size + 1, 4, none⟩ = some (.bool false) := by go_simp
      go_wp2_with fail
      refine bodyPost_ret (v := .agg #[.int .i64 1, .int .i64 404, .int .i64 x.ver, .slice none 0 0, .bool false]) (by simp [results, Try.results26, go_sem, *]) rfl ?_
      exact ⟨_, [], rfl, (by repeat (first | with_reducible exact Below.refl _ _ | with_reducible assumption | with_reducible refine bel_alloc ?_ _ | with_reducible refine bel_drew ?_ | with_reducible refine bel_drewN ?_ _ | (with_reducible refine bel_set ?_ ?_ _; rotate_left; ((try simp); (try omega))))), TResp.mk_ (x := ⟨1, 404, x.ver, [], false⟩) (F3 := []) ⟨in1, in404, hok.h1⟩ ⟨none, 0, rfl, Nat.le_refl _, by decide, .inl ⟨rfl, rfl⟩⟩, Fresh.nil _⟩
    | true =>
      cases hhf : hasStr x.files pa with
      | false =>
        have HE := Lib.hid (show serveFile x pa v = ⟨1, 404, x.ver, [], false⟩ by unfold serveFile; rw [hs, hsv, hhf]; rfl)
        rw [HE.out]
        go_enter Try.func26, Try.ntmps26
        go_wp2_with fail
        refine (implIsSite_any _ x _ _ (by exact Cod.bel hr (by repeat (first | with_reducible exact Below.refl _ _ | with_reducible assumption | with_reducible refine bel_alloc ?_ _ | with_reducible refine bel_drew ?_ | with_reducible refine bel_drewN ?_ _ | (with_reducible refine bel_set ?_ ?_ _; rotate_left; ((try simp); (try omega)))))) hn).mono ?_
        rw [hs]
        rintro e w1 ⟨rfl, hb1⟩
        have hz_w1 := hb1.size
        (try simp at hz_w1)
        have ha0_w1 : w.heap.size < w1.heap.size := by omega
        have ha1_w1 : w.heap.size + 1 < w1.heap.size := by omega
        obtain ⟨hc_w1, hf_w1, -⟩ := bcell hb1
        have hb_w1 : Below w.heap.size w w1 := bel_then (by repeat (first | with_reducible exact Below.refl _ _ | with_reducible assumption | with_reducible refine bel_alloc ?_ _ | with_reducible refine bel_drew ?_ | with_reducible refine bel_drewN ?_ _ | (with_reducible refine bel_set ?_ ?_ _; rotate_left; ((try simp); (try omega))))) hb1
        clear hb1
        go_wp2_with fail
        refine (implServesVersion_any _ x _ v _ (by exact Cod.bel hr (by repeat (first | with_reducible exact Below.refl _ _ | with_reducible assumption | with_reducible refine bel_alloc ?_ _ | with_reducible refine bel_drew ?_ | with_reducible refine bel_drewN ?_ _ | (with_reducible refine bel_set ?_ ?_ _; rotate_left; ((try simp); (try omega)))))) hn hHV.out).mono ?_
        rw [hsv]
        rintro e w2 ⟨rfl, hb2⟩
        have hz_w2 := hb2.size
        (try simp at hz_w2)
        have ha0_w2 : w.heap.size < w2.heap.size := by omega
        have ha1_w2 : w.heap.size + 1 < w2.heap.size := by omega
        obtain ⟨hc_w2, hf_w2, -⟩ := bcell hb2
        have hb_w2 : Below w.heap.size w w2 := bel_then (by repeat (first | with_reducible exact Below.refl _ _ | with_reducible assumption | with_reducible refine bel_alloc ?_ _ | with_reducible refine bel_drew ?_ | with_reducible refine bel_drewN ?_ _ | (with_reducible refine bel_set ?_ ?_ _; rotate_left; ((try simp); (try omega))))) hb2
        clear hb2
        go_wp2_with fail
        refine (implHasFile_any _ x _ pa _ (by exact Cod.bel hr (by repeat (first | with_reducible exact Below.refl _ _ | with_reducible assumption | with_reducible refine bel_alloc ?_ _ | with_reducible refine bel_drew ?_ | with_reducible refine bel_drewN ?_ _ | (with_reducible refine bel_set ?_ ?_ _; rotate_left; ((try simp); (try omega)))))) hn hpa).mono ?_
        rw [hhf]
        rintro e w3 ⟨rfl, hb3⟩
        have hz_w3 := hb3.size
        (try simp at hz_w3)
        have ha0_w3 : w.heap.size < w3.heap.size := by omega
        have ha1_w3 : w.heap.size + 1 < w3.heap.size := by omega
        obtain ⟨hc_w3, hf_w3, -⟩ := bcell hb3
        have hb_w3 : Below w.heap.size w w3 := bel_then (by repeat (first | with_reducible exact Below.refl _ _ | with_reducible assumption | with_reducible refine bel_alloc ?_ _ | with_reducible refine bel_drew ?_ | with_reducible refine bel_drewN ?_ _ | (with_reducible refine bel_set ?_ ?_ _; rotate_left; ((try simp); (try omega))))) hb3
        clear hb3
        have j0 : w3.cell? ⟨w.heap.size + 1, 0, none⟩ = some (.int .i64 0) := by go_simp
        have j1 : w3.cell? ⟨w.heap.size + 1, 1, none⟩ = some (.int .i64 0) := by go_simp
        have j2 : w3.cell? ⟨w.heap.size + 1, 2, none⟩ = some (.int .i64 0) := by go_simp
        have j3 : w3.cell? ⟨w.heap.size + 1, 3, none⟩ = some (.slice none 0 0) := by go_simp
        have j4 : w3.cell? ⟨w.heap.size + 1, 4, none⟩ = some (.bool false) := by go_simp
        go_wp2_with fail
        refine bodyPost_ret (v := .agg #[.int .i64 1, .int .i64 404, .int .i64 x.ver, .slice none 0 0, .bool false]) (by simp [results, Try.results26, go_sem, *]) rfl ?_
        exact ⟨_, [], rfl, (by repeat (first | with_reducible exact Below.refl _ _ | with_reducible assumption | with_reducible refine bel_alloc ?_ _ | with_reducible refine bel_drew ?_ | with_reducible refine bel_drewN ?_ _ | (with_reducible refine bel_set ?_ ?_ _; rotate_left; ((try simp); (try omega))))), TResp.mk_ (x := ⟨1, 404, x.ver, [], false⟩) (F3 := []) ⟨in1, in404, hok.h1⟩ ⟨none, 0, rfl, Nat.le_refl _, by decide, .inl ⟨rfl, rfl⟩⟩, Fresh.nil _⟩
      | true =>
        have HE := Lib.hid (show serveFile x pa v = ⟨1, 200, v, bodyOf x pa v, x.shared⟩ by unfold serveFile; rw [hs, hsv, hhf]; rfl)
        rw [HE.out]
        go_enter Try.func26, Try.ntmps26
        go_wp2_with fail
        refine (implIsSite_any _ x _ _ (by exact Cod.bel hr (by repeat (first | with_reducible exact Below.refl _ _ | with_reducible assumption | with_reducible refine bel_alloc ?_ _ | with_reducible refine bel_drew ?_ | with_reducible refine bel_drewN ?_ _ | (with_reducible refine bel_set ?_ ?_ _; rotate_left; ((try simp); (try omega)))))) hn).mono ?_
        rw [hs]
        rintro e w1 ⟨rfl, hb1⟩
        have hz_w1 := hb1.size
        (try simp at hz_w1)
        have ha0_w1 : w.heap.size < w1.heap.size := by omega
        have ha1_w1 : w.heap.size + 1 < w1.heap.size := by omega
        obtain ⟨hc_w1, hf_w1, -⟩ := bcell hb1
        have hb_w1 : Below w.heap.size w w1 := bel_then (by repeat (first | with_reducible exact Below.refl _ _ | with_reducible assumption | with_reducible refine bel_alloc ?_ _ | with_reducible refine bel_drew ?_ | with_reducible refine bel_drewN ?_ _ | (with_reducible refine bel_set ?_ ?_ _; rotate_left; ((try simp); (try omega))))) hb1
        clear hb1
        go_wp2_with fail
        refine (implServesVersion_any _ x _ v _ (by exact Cod.bel hr (by repeat (first | with_reducible exact Below.refl _ _ | with_reducible assumption | with_reducible refine bel_alloc ?_ _ | with_reducible refine bel_drew ?_ | with_reducible refine bel_drewN ?_ _ | (with_reducible refine bel_set ?_ ?_ _; rotate_left; ((try simp); (try omega)))))) hn hHV.out).mono ?_
        rw [hsv]
        rintro e w2 ⟨rfl, hb2⟩
        have hz_w2 := hb2.size
        (try simp at hz_w2)
        have ha0_w2 : w.heap.size < w2.heap.size := by omega
        have ha1_w2 : w.heap.size + 1 < w2.heap.size := by omega
        obtain ⟨hc_w2, hf_w2, -⟩ := bcell hb2
        have hb_w2 : Below w.heap.size w w2 := bel_then (by repeat (first | with_reducible exact Below.refl _ _ | with_reducible assumption | with_reducible refine bel_alloc ?_ _ | with_reducible refine bel_drew ?_ | with_reducible refine bel_drewN ?_ _ | (with_reducible refine bel_set ?_ ?_ _; rotate_left; ((try simp); (try omega))))) hb2
        clear hb2
        go_wp2_with fail
        refine (implHasFile_any _ x _ pa _ (by exact Cod.bel hr (by repeat (first | with_reducible exact Below.refl _ _ | with_reducible assumption | with_reducible refine bel_alloc ?_ _ | with_reducible refine bel_drew ?_ | with_reducible refine bel_drewN ?_ _ | (with_reducible refine bel_set ?_ ?_ _; rotate_left; ((try simp); (try omega)))))) hn hpa).mono ?_
        rw [hhf]
        rintro e w3 ⟨rfl, hb3⟩
        have hz_w3 := hb3.size
        (try simp at hz_w3)
        have ha0_w3 : w.heap.size < w3.heap.size := by omega
        have ha1_w3 : w.heap.size + 1 < w3.heap.size := by omega
        obtain ⟨hc_w3, hf_w3, -⟩ := bcell hb3
        have hb_w3 : Below w.heap.size w w3 := bel_then (by repeat (first | with_reducible exact Below.refl _ _ | with_reducible assumption | with_reducible refine bel_alloc ?_ _ | with_reducible refine bel_drew ?_ | with_reducible refine bel_drewN ?_ _ | (with_reducible refine bel_set ?_ ?_ _; rotate_left; ((try simp); (try omega))))) hb3
        clear hb3
        have b0 : w3.cell? ⟨w.heap.size, 0, none⟩ = some (.string x.name) := by go_simp
        have b1 : w3.cell? ⟨w.heap.size, 1, none⟩ = some (.int .i64 x.ver) := by go_simp
        have b2 : w3.cell? ⟨w.heap.size, 2, none⟩ = some (.slice A2 x.files.length c2) := by go_simp
        have b3 : w3.cell? ⟨w.heap.size, 3, none⟩ = some (.bool x.shared) := by go_simp
        have j0 : w3.cell? ⟨w.heap.size + 1, 0, none⟩ = some (.int .i64 0) := by go_simp
        have j1 : w3.cell? ⟨w.heap.size + 1, 1, none⟩ = some (.int .i64 0) := by go_simp
        have j2 : w3.cell? ⟨w.heap.size + 1, 2, none⟩ = some (.int .i64 0) := by go_simp
        have j3 : w3.cell? ⟨w.heap.size + 1, 3, none⟩ = some (.slice none 0 0) := by go_simp
        have j4 : w3.cell? ⟨w.heap.size + 1, 4, none⟩ = some (.bool false) := by go_simp
        have z0 : w3.frozen? ⟨w.heap.size + 1, 0, none⟩ = false := by go_simp
        have z1 : w3.frozen? ⟨w.heap.size + 1, 1, none⟩ = false := by go_simp
        have z2 : w3.frozen? ⟨w.heap.size + 1, 2, none⟩ = false := by go_simp
        have z3 : w3.frozen? ⟨w.heap.size + 1, 3, none⟩ = false := by go_simp
        have z4 : w3.frozen? ⟨w.heap.size + 1, 4, none⟩ = false := by go_simp
        have hS : ∀ w9, Below w3.heap.size w3 w9 → w9.cell? ⟨w.heap.size, 0, none⟩ = some (.string x.name) ∧ w9.cell? ⟨w.heap.size, 1, none⟩ = some (.int .i64 x.ver) ∧ w9.cell? ⟨w.heap.size, 2, none⟩ = some (.slice A2 x.files.length c2) ∧ w9.cell? ⟨w.heap.size, 3, none⟩ = some (.bool x.shared) :=
          fun w9 hb => ⟨(hb.cell (p := ⟨w.heap.size, 0, none⟩) ha0_w3).trans b0, (hb.cell (p := ⟨w.heap.size, 1, none⟩) ha0_w3).trans b1, (hb.cell (p := ⟨w.heap.size, 2, none⟩) ha0_w3).trans b2, (hb.cell (p := ⟨w.heap.size, 3, none⟩) ha0_w3).trans b3⟩
        clear hc_w1 hf_w1 hc_w2 hf_w2 hc_w3 hf_w3
        have hlb := bodyOf_len x pa v
        obtain ⟨by_, hby⟩ : ∃ by_, bodyOf x pa v = by_ := ⟨_, rfl⟩
        have HBY := Lib.hid hby
        rw [hby] at hlb ⊢
        clear hby
        go_wp2_with fail
        refine wp_regionT (S := (fun w9 => w9.cell? ⟨w.heap.size, 0, none⟩ = some (.string x.name) ∧ w9.cell? ⟨w.heap.size, 1, none⟩ = some (.int .i64 x.ver) ∧ w9.cell? ⟨w.heap.size, 2, none⟩ = some (.slice A2 x.files.length c2) ∧ w9.cell? ⟨w.heap.size, 3, none⟩ = some (.bool x.shared))) [8] (by kernel_rfl) (by (try dsimp only); exact hS _ (by repeat (first | with_reducible exact Below.refl _ _ | with_reducible assumption | with_reducible refine bel_alloc ?_ _ | with_reducible refine bel_drew ?_ | with_reducible refine bel_drewN ?_ _ | (with_reducible refine bel_set ?_ ?_ _; rotate_left; ((try simp); (try omega)))))) (fun hHeld => ?_)
        refine takeT_read (i := 0) 9 24 (v := ?x2_v0) rfl rfl (by kernel_rfl) (by kernel_rfl) (by kernel_rfl) (by kernel_rfl) (by kernel_rfl) (by kernel_rfl) (fun _ _ _ h => h) (by rfl) ?x2_hy0 (by assumption) ?x2_rest0
        case x2_hy0 => (intro w hSw; (try dsimp only at hSw); go_simp; (try with_reducible rfl))
        try simp only [Act.put, List.setIfInBounds_toArray, List.set_cons_zero, List.set_cons_succ]
        refine takeT_read (i := 1) 9 25 (v := ?x2_v1) rfl rfl (by kernel_rfl) (by kernel_rfl) (by kernel_rfl) (by kernel_rfl) (by kernel_rfl) (by kernel_rfl) (fun _ _ _ h => h) (by rfl) ?x2_hy1 (by assumption) ?x2_rest1
        case x2_hy1 => (intro w hSw; (try dsimp only at hSw); go_simp; (try with_reducible rfl))
        try simp only [Act.put, List.setIfInBounds_toArray, List.set_cons_zero, List.set_cons_succ]
        refine takeT_read (i := 2) 9 26 (v := ?x2_v2) rfl rfl (by kernel_rfl) (by kernel_rfl) (by kernel_rfl) (by kernel_rfl) (by kernel_rfl) (by kernel_rfl) (fun _ _ _ h => h) (by rfl) ?x2_hy2 (by assumption) ?x2_rest2
        case x2_hy2 => (intro w hSw; (try dsimp only at hSw); go_simp; (try with_reducible rfl))
        try simp only [Act.put, List.setIfInBounds_toArray, List.set_cons_zero, List.set_cons_succ]
        refine takeT_read (i := 3) 9 27 (v := ?x2_v3) rfl rfl (by kernel_rfl) (by kernel_rfl) (by kernel_rfl) (by kernel_rfl) (by kernel_rfl) (by kernel_rfl) (fun _ _ _ h => h) (by rfl) ?x2_hy3 (by assumption) ?x2_rest3
        case x2_hy3 => (intro w hSw; (try dsimp only at hSw); go_simp; (try with_reducible rfl))
        try simp only [Act.put, List.setIfInBounds_toArray, List.set_cons_zero, List.set_cons_succ]
        refine takeT_read (i := 5) 9 29 (v := ?x2_v5) rfl rfl (by kernel_rfl) (by kernel_rfl) (by kernel_rfl) (by kernel_rfl) (by kernel_rfl) (by kernel_rfl) (fun _ _ _ h => h) (by rfl) ?x2_hy5 (by assumption) ?x2_rest5
        case x2_hy5 => (intro w hSw; (try dsimp only at hSw); go_simp; (try with_reducible rfl))
        try simp only [Act.put, List.setIfInBounds_toArray, List.set_cons_zero, List.set_cons_succ]
        refine takeT_read (i := 6) 9 30 (v := ?x2_v6) rfl rfl (by kernel_rfl) (by kernel_rfl) (by kernel_rfl) (by kernel_rfl) (by kernel_rfl) (by kernel_rfl) (fun _ _ _ h => h) (by rfl) ?x2_hy6 (by assumption) ?x2_rest6
        case x2_hy6 => (intro w hSw; (try dsimp only at hSw); go_simp; (try with_reducible rfl))
        try simp only [Act.put, List.setIfInBounds_toArray, List.set_cons_zero, List.set_cons_succ]
        refine stepT 4 (by kernel_rfl) rfl (fun K hK => ?_)
        go_simp
        (go_at_call 33; refine (implBodyOf_any _ x _ pa v _ (by exact Cod.bel hr (bel_then hb_w3 (by repeat (first | with_reducible exact Below.refl _ _ | with_reducible assumption | with_reducible refine bel_alloc ?_ _ | with_reducible refine bel_drew ?_ | with_reducible refine bel_drewN ?_ _ | (with_reducible refine bel_set ?_ ?_ _; rotate_left; ((try simp); (try omega))))))) hn (by omega) hHV.out).mono ?_; rw [HBY.out]; rintro e w4 ⟨v4, G4, rfl, hb4, hrep4, hf4⟩; obtain ⟨B4, d4, rfl⟩ := cL_form hrep4; have hb34 : Below w3.heap.size w3 w4 := bel_then (by repeat (first | with_reducible exact Below.refl _ _ | with_reducible assumption | with_reducible refine bel_alloc ?_ _ | with_reducible refine bel_drew ?_ | with_reducible refine bel_drewN ?_ _ | (with_reducible refine bel_set ?_ ?_ _; rotate_left; ((try simp); (try omega))))) hb4; have hg4 : Fresh (w.heap.size + 1 + 1) G4 := hf4.mono (by (try simp); (try omega)); have hb04 : Below w.heap.size w w4 := bel_then hb_w3 hb34; have n4 := hrep4; clear hb4 hrep4 hf4; have y0 := (hb34.cell (p := ⟨w.heap.size + 1, 0, none⟩) ha1_w3).trans j0; have y1 := (hb34.cell (p := ⟨w.heap.size + 1, 1, none⟩) ha1_w3).trans j1; have y2 := (hb34.cell (p := ⟨w.heap.size + 1, 2, none⟩) ha1_w3).trans j2; have y3 := (hb34.cell (p := ⟨w.heap.size + 1, 3, none⟩) ha1_w3).trans j3; have y4 := (hb34.cell (p := ⟨w.heap.size + 1, 4, none⟩) ha1_w3).trans j4; have x0 : w4.frozen? ⟨w.heap.size + 1, 0, none⟩ = false := (hb34.frozen (p := ⟨w.heap.size + 1, 0, none⟩) ha1_w3).trans z0; have x1 : w4.frozen? ⟨w.heap.size + 1, 1, none⟩ = false := (hb34.frozen (p := ⟨w.heap.size + 1, 1, none⟩) ha1_w3).trans z1; have x2 : w4.frozen? ⟨w.heap.size + 1, 2, none⟩ = false := (hb34.frozen (p := ⟨w.heap.size + 1, 2, none⟩) ha1_w3).trans z2; have x3 : w4.frozen? ⟨w.heap.size + 1, 3, none⟩ = false := (hb34.frozen (p := ⟨w.heap.size + 1, 3, none⟩) ha1_w3).trans z3; have x4 : w4.frozen? ⟨w.heap.size + 1, 4, none⟩ = false := (hb34.frozen (p := ⟨w.heap.size + 1, 4, none⟩) ha1_w3).trans z4; have hs34 := hb34.size; have hw4 : w.heap.size + 1 < w4.heap.size := (by omega))
        try go_wp2_with fail
        refine hK.out _ _ ?_ (fun hHeld => ?_)
        · (try dsimp only)
          exact hS _ (by repeat (first | with_reducible exact Below.refl _ _ | with_reducible assumption | with_reducible refine bel_alloc ?_ _ | with_reducible refine bel_drew ?_ | with_reducible refine bel_drewN ?_ _ | (with_reducible refine bel_set ?_ ?_ _; rotate_left; ((try simp); (try omega)))))
        clear hK K
        refine takeT_read (i := 7) 9 31 (v := ?x2_v7) rfl rfl (by kernel_rfl) (by kernel_rfl) (by kernel_rfl) (by kernel_rfl) (by kernel_rfl) (by kernel_rfl) (fun _ _ _ h => h) (by rfl) ?x2_hy7 (by assumption) ?x2_rest7
        case x2_hy7 => (intro w hSw; (try dsimp only at hSw); go_simp; (try with_reducible rfl))
        refine stepT_end 8 (by kernel_rfl) rfl (by kernel_rfl) (fun K hK => ?_)
        go_simp
        refine hK.out _ _ ?_
        clear hK K
        refine doneT (by kernel_rfl) ?_ _
        go_wp2_with fail
        refine bodyPost_ret (v := .agg #[.int .i64 1, .int .i64 200, .int .i64 v, .slice B4 by_.length d4, .bool x.shared]) (by simp [results, Try.results26, go_sem, *]) rfl ?_
        rw [HBY.out]
        exact ⟨_, G4, rfl, (by repeat (first | with_reducible exact Below.refl _ _ | with_reducible assumption | with_reducible refine bel_alloc ?_ _ | with_reducible refine bel_drew ?_ | with_reducible refine bel_drewN ?_ _ | (with_reducible refine bel_set ?_ ?_ _; rotate_left; ((try simp); (try omega))))), TResp.mk_ (x := ⟨1, 200, v, by_, x.shared⟩) ⟨in1, in200, hHV.out⟩ (Cod.keep2 n4 hg4 (by repeat (first | with_reducible exact Keep.refl _ _ | with_reducible assumption | with_reducible refine Keep.alloc ?_ _ | with_reducible refine Keep.drew ?_ | with_reducible refine Keep.drewN ?_ _ | (with_reducible refine Keep.set_ ?_ ?_ _; rotate_left; ((try simp); (try omega)))))), hg4.mono (by (try simp); (try omega))⟩
end Go.Proofs.Ytlicnppfgfjkgaa
