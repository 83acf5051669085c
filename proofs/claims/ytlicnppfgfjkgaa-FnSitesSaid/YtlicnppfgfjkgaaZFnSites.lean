/-
  The law FnSites: a site serves exactly its most recent versions, and files of different versions are different. No conditions.
-/
import Derived.Test.YtlicnppfgfjkgaaRows
import Derived.Test.YtlicnppfgfjkgaaZDrawSite3
import Derived.Test.YtlicnppfgfjkgaaZSitesPlain
import Derived.Test.YtlicnppfgfjkgaaZSame
import Derived.Test.YtlicnppfgfjkgaaZServe
import Derived.Test.YtlicnppfgfjkgaaZA
import Derived.Test.YtlicnppfgfjkgaaZAtFn
import Derived.Test.YtlicnppfgfjkgaaZRespEq
import Derived.Deep.CutRange
namespace Go.Proofs.Ytlicnppfgfjkgaa
open Go.ChangeShapes Go.WideShapes Go.RowKit
set_option linter.unusedVariables false

theorem respSelf (x : TResp) : equalResponses x x = true := by simp [equalResponses, bytesEq_eq]
theorem szStr_small : ∀ fs : List ByteArray, (∀ f, f ∈ fs → f.size ≤ 100) → cS.szs fs ≤ 101 * fs.length
  | [], _ => Nat.le_refl _
  | f :: fs, h => by
    have h1 := h f (by simp)
    have h2 := szStr_small fs fun y hy => h y (by simp [hy])
    have e : cS.szs (f :: fs) = f.size + 1 + cS.szs fs := rfl
    rw [e, List.length_cons]
    omega
theorem smallSite_sz {x : TSite} (h : SmallSite x) : cSite.sz x ≤ 1048576 := by
  have h1 := szStr_small x.files h.2.2.2
  have h2 := h.2.2.1
  have h3 := h.1
  have e : cSite.sz x = x.name.size + (0 + (cS.szs x.files + 0)) := rfl
  omega
theorem inR_parts {n a b : Int} (h : inR n a b = true) : a ≤ n ∧ n ≤ b := inR_true h
theorem isSite_parts {x : TSite} (h : isSite x = true) : 1 ≤ x.ver ∧ x.ver ≤ 1000000000000 := by
  simp only [isSite, Bool.and_eq_true] at h
  exact inR_parts h.1.2
theorem release_true {x : TSite} (h : (release x).2 = true) : (release x).1 = ⟨x.name, x.ver + 1, x.files, x.shared⟩ ∧ 1 ≤ x.ver ∧ x.ver + 1 ≤ 1000000000000 ∧ servesVersion ⟨x.name, x.ver + 1, x.files, x.shared⟩ x.ver = true ∧ servesVersion ⟨x.name, x.ver + 1, x.files, x.shared⟩ (x.ver - 1) = false := by
  unfold release at h ⊢
  cases hc : isSite x && isSite ⟨x.name, x.ver + 1, x.files, x.shared⟩ with
  | false => rw [hc] at h; cases h
  | true =>
    simp only [Bool.and_eq_true] at hc
    have h1 := isSite_parts hc.1
    have h2 := isSite_parts hc.2
    simp only at h2
    refine ⟨by simp, h1.1, h2.2, ?_, ?_⟩
    · simp only [servesVersion, hc.2, Bool.true_and]
      unfold inR maxI
      split <;> simp <;> omega
    · simp only [servesVersion, hc.2, Bool.true_and]
      unfold inR maxI
      split <;> simp <;> omega
theorem serve_hit {x : TSite} {pa : ByteArray} {n : Int} (h : servesVersion x n = true) (h2 : hasStr x.files pa = true) : serveFile x pa n = ⟨1, 200, n, bodyOf x pa n, x.shared⟩ := by
  have hi : isSite x = true := by
    unfold servesVersion at h
    simp only [Bool.and_eq_true] at h
    exact h.1
  unfold serveFile
  rw [hi, h, h2]; rfl
theorem serve_miss {x : TSite} {pa : ByteArray} {n : Int} (h : (servesVersion x n && hasStr x.files pa) = false) : (serveFile x pa n).status ≠ 200 := by
  unfold serveFile
  rw [h]
  cases isSite x with
  | false => show (0 : Int) ≠ 200; decide
  | true => show (404 : Int) ≠ 200; decide
set_option maxRecDepth 100000 in
set_option maxHeartbeats 8000000 in
theorem lawSites_any (v : Value) (xs : List UInt8) (F : List Nat) (w : World) (h : cUS.rep w [v] xs F) :
    Calls Try.prog 5 #[v] w (Gives w (.bool true)) := by
  obtain ⟨A, cp, rfl⟩ := cL_form h
  have HR := Lib.hid h
  clear h
  by_cases hbig : (1048576 : Int) < xs.length
  · have hd : decide ((1048576 : Int) < xs.length) = true := by simpa using hbig
    go_enter Try.func5, Try.ntmps5
    go_wp2_with (go_at_call 10; refine (big_any _ _ _ _).mono ?_; rw [hd]; rintro e w1 ⟨rfl, rfl⟩)
    go_ret
    exact ⟨rfl, (by repeat (first | with_reducible exact Below.refl _ _ | with_reducible assumption | with_reducible refine bel_alloc ?_ _ | with_reducible refine bel_drew ?_ | with_reducible refine bel_drewN ?_ _ | (with_reducible refine bel_set ?_ ?_ _; rotate_left; ((try simp); (try omega)))))⟩
  · have hn : xs.length ≤ 1048576 := by omega
    have hd : decide ((1048576 : Int) < xs.length) = false := by simpa using hbig
    go_enter Try.func5, Try.ntmps5
    go_wp2_with (go_at_call 10; refine (big_any _ _ _ _).mono ?_; rw [hd]; rintro e w1 ⟨rfl, rfl⟩)
    clear hbig hd
    refine (drawServeFile_any _ xs F _ (Cod.bel HR.out (by repeat (first | with_reducible exact Below.refl _ _ | with_reducible assumption | with_reducible refine bel_alloc ?_ _ | with_reducible refine bel_drew ?_ | with_reducible refine bel_drewN ?_ _ | (with_reducible refine bel_set ?_ ?_ _; rotate_left; ((try simp); (try omega)))))) hn).mono ?_
    rintro e w1 ⟨x, pa, v2, n, G, rfl, hb1, hr1, hf1, hsm, hpa, hn0, hn1⟩
    have hsz := smallSite_sz hsm
    obtain ⟨nm, ver, fs, sh⟩ := x
    simp only at hr1 ⊢
    obtain ⟨A2, cp2, rfl⟩ := cL_form hr1
    have hB1 : Below w.heap.size w w1 := bel_then (by repeat (first | with_reducible exact Below.refl _ _ | with_reducible assumption | with_reducible refine bel_alloc ?_ _ | with_reducible refine bel_drew ?_ | with_reducible refine bel_drewN ?_ _ | (with_reducible refine bel_set ?_ ?_ _; rotate_left; ((try simp); (try omega))))) hb1
    have hz1 := hB1.size
    have hvr := hsm.2.1
    simp only at hvr
    have hok : (⟨nm, ver, fs, sh⟩ : TSite).Ok := ⟨by have := hsm.1; unfold maxLen; simp only at this ⊢; omega, by simp only; omega⟩
    have HSM := Lib.hid (And.intro hsm hok)
    have HR1 := Lib.hid hr1
    clear hb1 hr1 hf1 hsm hok
    go_upto_region 4 with (fail)
    obtain ⟨sb, hsb⟩ : ∃ sb, w1.heap.size = sb := ⟨_, rfl⟩
    generalize hW : World.alloc w1 _ = W
    have hWs : W.heap.size = sb + 1 := by rw [← hW, ← hsb]; clear hW hsb; simp
    have hbW : Below w1.heap.size w1 W := by rw [← hW]; exact bel_alloc (Below.refl _ _) _
    have HQ := Lib.hid (show SiteBox W sb nm ver (.slice A2 fs.length cp2) sh from by rw [← hW, ← hsb]; exact SiteBox.new w1 _ _ _ _ _)
    have HSR := Lib.hid (show ∀ W9, Below W.heap.size W W9 → cSite.rep W9 [.string nm, .int .i64 ver, .slice A2 fs.length cp2, .bool sh] ⟨nm, ver, fs, sh⟩ G from fun W9 hb => TSite.mk_ (x := ⟨nm, ver, fs, sh⟩) HSM.out.2 (Cod.bel HR1.out (bel_then hbW hb)))
    have hBW : Below w.heap.size w W := bel_then hB1 hbW
    clear hW hbW HR1
    rw [hsb]
    have hsbw : w.heap.size ≤ sb := by omega
    have q0 := HQ.out.c0; have q1 := HQ.out.c1; have q2 := HQ.out.c2; have q3 := HQ.out.c3
    go_wp2_with fail
    refine (implServeFile_any _ ⟨nm, ver, fs, sh⟩ G pa n _ (by exact HSR.out _ (Below.refl _ _)) hsz (by omega) (by omega)).mono ?_
    obtain ⟨y, hy⟩ : ∃ y, serveFile ⟨nm, ver, fs, sh⟩ pa n = y := ⟨_, rfl⟩
    have hysz := serveFile_sz ⟨nm, ver, fs, sh⟩ pa n
    rw [hy] at hysz ⊢
    rintro e w2 ⟨vs2, G2, rfl, hb2, hr2, hf2⟩
    obtain ⟨u3, F3, rfl, rfl, -, m3⟩ := TResp.outA hr2
    obtain ⟨Y, cy, hye⟩ := cL_form m3
    subst hye
    have hz2 := hb2.size
    have HY := Lib.hid (And.intro hr2 m3)
    have HQ2 := Lib.hid (HQ.out.block (hb2.block sb (by omega)))
    clear q0 q1 q2 q3 hf2 m3 hr2
    go_upto_region 5 with (fail)
    obtain ⟨xb, hxb⟩ : ∃ xb, w2.heap.size = xb := ⟨_, rfl⟩
    generalize hW2 : World.alloc w2 _ = W2
    have hWs2 : W2.heap.size = xb + 1 := by rw [← hW2, ← hxb]; clear hW2 hxb; simp
    have hbW2 : Below w2.heap.size w2 W2 := by rw [← hW2]; exact bel_alloc (Below.refl _ _) _
    have HX2 := Lib.hid (show W2.cell? ⟨xb, 0, none⟩ = some (.int .i64 y.type) ∧ W2.cell? ⟨xb, 1, none⟩ = some (.int .i64 y.status) ∧ W2.cell? ⟨xb, 2, none⟩ = some (.int .i64 y.ver) ∧ W2.cell? ⟨xb, 3, none⟩ = some (.slice Y y.body.length cy) ∧ W2.cell? ⟨xb, 4, none⟩ = some (.bool y.shares) from by rw [← hW2, ← hxb]; clear hW2 hxb; refine ⟨?_, ?_, ?_, ?_, ?_⟩ <;> go_simp)
    have HQ3 := Lib.hid (HQ2.out.block (hbW2.block sb (by omega)))
    have hBW2 : Below W.heap.size W W2 := bel_then hb2 hbW2
    have hBw2 : Below w.heap.size w W2 := bel_then hBW hBW2
    have HYR := Lib.hid (show ∀ W9, Below W2.heap.size W2 W9 → cResp.rep W9 [.int .i64 y.type, .int .i64 y.status, .int .i64 y.ver, .slice Y y.body.length cy, .bool y.shares] y G2 from fun W9 hb => Cod.bel HY.out.1 (bel_then hbW2 hb))
    have HYB := Lib.hid (show ∀ W9, Below W2.heap.size W2 W9 → cUS.rep W9 [.slice Y y.body.length cy] y.body G2 from fun W9 hb => Cod.bel HY.out.2 (bel_then hbW2 hb))
    have HSR2 := Lib.hid (show ∀ W9, Below W2.heap.size W2 W9 → cSite.rep W9 [.string nm, .int .i64 ver, .slice A2 fs.length cp2, .bool sh] ⟨nm, ver, fs, sh⟩ G from fun W9 hb => HSR.out W9 (bel_then hBW2 hb))
    clear hW2 hbW2 hb2 HY HQ HQ2 HSR hBW2
    rw [hxb]
    have hsx : sb < xb := by omega
    have q0 := HQ3.out.c0; have q1 := HQ3.out.c1; have q2 := HQ3.out.c2; have q3 := HQ3.out.c3
    obtain ⟨q4, q5, q6, q7, q8⟩ := HX2.out
    have hS : ∀ w9, Below W2.heap.size W2 w9 → w9.cell? ⟨sb, 0, none⟩ = some (.string nm) ∧ w9.cell? ⟨sb, 1, none⟩ = some (.int .i64 ver) ∧ w9.cell? ⟨sb, 2, none⟩ = some (.slice A2 fs.length cp2) ∧ w9.cell? ⟨sb, 3, none⟩ = some (.bool sh) ∧ w9.cell? ⟨xb, 0, none⟩ = some (.int .i64 y.type) ∧ w9.cell? ⟨xb, 1, none⟩ = some (.int .i64 y.status) ∧ w9.cell? ⟨xb, 2, none⟩ = some (.int .i64 y.ver) ∧ w9.cell? ⟨xb, 3, none⟩ = some (.slice Y y.body.length cy) ∧ w9.cell? ⟨xb, 4, none⟩ = some (.bool y.shares) := fun w9 hb => ⟨(hb.cell (p := ⟨sb, 0, none⟩) (by (try simp); omega)).trans q0, (hb.cell (p := ⟨sb, 1, none⟩) (by (try simp); omega)).trans q1, (hb.cell (p := ⟨sb, 2, none⟩) (by (try simp); omega)).trans q2, (hb.cell (p := ⟨sb, 3, none⟩) (by (try simp); omega)).trans q3, (hb.cell (p := ⟨xb, 0, none⟩) (by (try simp); omega)).trans q4, (hb.cell (p := ⟨xb, 1, none⟩) (by (try simp); omega)).trans q5, (hb.cell (p := ⟨xb, 2, none⟩) (by (try simp); omega)).trans q6, (hb.cell (p := ⟨xb, 3, none⟩) (by (try simp); omega)).trans q7, (hb.cell (p := ⟨xb, 4, none⟩) (by (try simp); omega)).trans q8⟩
    clear q0 q1 q2 q3 q4 q5 q6 q7 q8
    have hcs := fun W9 hb => specServeFile_any _ ⟨nm, ver, fs, sh⟩ G pa n W9 (HSR2.out W9 hb) hsz (by omega) (by omega)
    rw [hy] at hcs
    have hci := fun W9 hb => implServesVersion_any _ ⟨nm, ver, fs, sh⟩ G n W9 (HSR2.out W9 hb) hsz (by omega)
    have hcj := fun W9 hb => specServesVersion_any _ ⟨nm, ver, fs, sh⟩ G n W9 (HSR2.out W9 hb) hsz (by omega)
    have hch := fun W9 hb => specHasFile_any _ ⟨nm, ver, fs, sh⟩ G pa W9 (HSR2.out W9 hb) hsz (by omega)
    have hcb := fun W9 hb => implBodyOf_any _ ⟨nm, ver, fs, sh⟩ G pa n W9 (HSR2.out W9 hb) hsz (by omega) (by omega)
    have hhit : servesVersion ⟨nm, ver, fs, sh⟩ n = true → hasStr fs pa = true → y = ⟨1, 200, n, bodyOf ⟨nm, ver, fs, sh⟩ pa n, sh⟩ := fun h1 h2 => by rw [← hy]; exact serve_hit h1 h2
    have hmiss : (servesVersion ⟨nm, ver, fs, sh⟩ n && hasStr fs pa) = false → (y.status == 200) = false := fun h1 => by rw [← hy]; simpa using serve_miss h1
    generalize servesVersion ⟨nm, ver, fs, sh⟩ n = sv at *
    generalize hasStr fs pa = hf at *
    have HC := Lib.hid (And.intro hcs (And.intro hci (And.intro hcj (And.intro hch hcb))))
    clear hcs hci hcj hch hcb hy
    have hnb : ∀ b : Bool, (b != b) = false := fun b => by cases b <;> rfl
    have hww : Below W2.heap.size W2 W2 := Below.refl _ _
    refine wp_region_held_drew (S := (fun w9 => w9.cell? ⟨sb, 0, none⟩ = some (.string nm) ∧ w9.cell? ⟨sb, 1, none⟩ = some (.int .i64 ver) ∧ w9.cell? ⟨sb, 2, none⟩ = some (.slice A2 fs.length cp2) ∧ w9.cell? ⟨sb, 3, none⟩ = some (.bool sh) ∧ w9.cell? ⟨xb, 0, none⟩ = some (.int .i64 y.type) ∧ w9.cell? ⟨xb, 1, none⟩ = some (.int .i64 y.status) ∧ w9.cell? ⟨xb, 2, none⟩ = some (.int .i64 y.ver) ∧ w9.cell? ⟨xb, 3, none⟩ = some (.slice Y y.body.length cy) ∧ w9.cell? ⟨xb, 4, none⟩ = some (.bool y.shares))) (by kernel_rfl) (by (try dsimp only); exact hS _ (by repeat (first | with_reducible exact Below.refl _ _ | with_reducible assumption | with_reducible refine bel_alloc ?_ _ | with_reducible refine bel_drew ?_ | with_reducible refine bel_drewN ?_ _ | (with_reducible refine bel_set ?_ ?_ _; rotate_left; ((try simp); (try omega)))))) (fun hHeld => ?_)
    refine take_read (i := 0) 23 (v := ?v0) rfl rfl (by kernel_rfl) (by kernel_rfl) (by kernel_rfl) (fun _ _ _ h => h) (by rfl) ?hy0 (by assumption) ?rest0
    case hy0 => (intro w hSw; (try dsimp only at hSw); go_simp; (try with_reducible rfl))
    try simp only [Act.put, List.setIfInBounds_toArray, List.set_cons_zero, List.set_cons_succ]
    refine take_read (i := 1) 24 (v := ?v1) rfl rfl (by kernel_rfl) (by kernel_rfl) (by kernel_rfl) (fun _ _ _ h => h) (by rfl) ?hy1 (by assumption) ?rest1
    case hy1 => (intro w hSw; (try dsimp only at hSw); go_simp; (try with_reducible rfl))
    try simp only [Act.put, List.setIfInBounds_toArray, List.set_cons_zero, List.set_cons_succ]
    refine take_read (i := 2) 25 (v := ?v2) rfl rfl (by kernel_rfl) (by kernel_rfl) (by kernel_rfl) (fun _ _ _ h => h) (by rfl) ?hy2 (by assumption) ?rest2
    case hy2 => (intro w hSw; (try dsimp only at hSw); go_simp; (try with_reducible rfl))
    try simp only [Act.put, List.setIfInBounds_toArray, List.set_cons_zero, List.set_cons_succ]
    refine take_read (i := 3) 26 (v := ?v3) rfl rfl (by kernel_rfl) (by kernel_rfl) (by kernel_rfl) (fun _ _ _ h => h) (by rfl) ?hy3 (by assumption) ?rest3
    case hy3 => (intro w hSw; (try dsimp only at hSw); go_simp; (try with_reducible rfl))
    try simp only [Act.put, List.setIfInBounds_toArray, List.set_cons_zero, List.set_cons_succ]
    refine wpAnyH_ready (rs := [4]) (by kernel_rfl) (by simp) ?_
    refine AllReadyH.cons rfl (fun K hK => ?_) AllReadyH.nil
    go_simp
    (first | (go_at_call 28; refine (HC.out.1 _ (by repeat (first | with_reducible exact Below.refl _ _ | with_reducible assumption | with_reducible refine bel_alloc ?_ _ | with_reducible refine bel_drew ?_ | with_reducible refine bel_drewN ?_ _ | (with_reducible refine bel_set ?_ ?_ _; rotate_left; ((try simp); (try omega)))))).mono ?_; rintro e w3 ⟨vs3, G3, rfl, hb3, hrep3, hf3⟩; obtain ⟨u5, F5, rfl, rfl, -, hm5⟩ := TResp.outA hrep3; obtain ⟨Z, cz, hze⟩ := cL_form hm5; subst hze; have hW3 : Below W2.heap.size W2 w3 := bel_then (by repeat (first | with_reducible exact Below.refl _ _ | with_reducible assumption | with_reducible refine bel_alloc ?_ _ | with_reducible refine bel_drew ?_ | with_reducible refine bel_drewN ?_ _ | (with_reducible refine bel_set ?_ ?_ _; rotate_left; ((try simp); (try omega))))) hb3; clear hm5 hf3 hb3) | (go_at_call 27; refine (implEqualResponses_any _ y _ _ y _ _ (by exact HYR.out _ (by repeat (first | with_reducible exact Below.refl _ _ | with_reducible assumption | with_reducible refine bel_alloc ?_ _ | with_reducible refine bel_drew ?_ | with_reducible refine bel_drewN ?_ _ | (with_reducible refine bel_set ?_ ?_ _; rotate_left; ((try simp); (try omega)))))) (by omega) (by exact Cod.bel hrep3 (by repeat (first | with_reducible exact Below.refl _ _ | with_reducible assumption | with_reducible refine bel_alloc ?_ _ | with_reducible refine bel_drew ?_ | with_reducible refine bel_drewN ?_ _ | (with_reducible refine bel_set ?_ ?_ _; rotate_left; ((try simp); (try omega)))))) (by omega)).mono ?_; rw [respSelf]; rintro e w4 ⟨rfl, hb4⟩; have hW4 : Below W2.heap.size W2 w4 := bel_then (by repeat (first | with_reducible exact Below.refl _ _ | with_reducible assumption | with_reducible refine bel_alloc ?_ _ | with_reducible refine bel_drew ?_ | with_reducible refine bel_drewN ?_ _ | (with_reducible refine bel_set ?_ ?_ _; rotate_left; ((try simp); (try omega))))) hb4; clear hb4 hrep3) | (go_at_call 29; refine (HC.out.2.1 _ (by repeat (first | with_reducible exact Below.refl _ _ | with_reducible assumption | with_reducible refine bel_alloc ?_ _ | with_reducible refine bel_drew ?_ | with_reducible refine bel_drewN ?_ _ | (with_reducible refine bel_set ?_ ?_ _; rotate_left; ((try simp); (try omega)))))).mono ?_; rintro e w5 ⟨rfl, hb5⟩; have hW5 : Below W2.heap.size W2 w5 := bel_then (by repeat (first | with_reducible exact Below.refl _ _ | with_reducible assumption | with_reducible refine bel_alloc ?_ _ | with_reducible refine bel_drew ?_ | with_reducible refine bel_drewN ?_ _ | (with_reducible refine bel_set ?_ ?_ _; rotate_left; ((try simp); (try omega))))) hb5; clear hb5) | (go_at_call 30; refine (HC.out.2.2.1 _ (by repeat (first | with_reducible exact Below.refl _ _ | with_reducible assumption | with_reducible refine bel_alloc ?_ _ | with_reducible refine bel_drew ?_ | with_reducible refine bel_drewN ?_ _ | (with_reducible refine bel_set ?_ ?_ _; rotate_left; ((try simp); (try omega)))))).mono ?_; rintro e w6 ⟨rfl, hb6⟩; have hW6 : Below W2.heap.size W2 w6 := bel_then (by repeat (first | with_reducible exact Below.refl _ _ | with_reducible assumption | with_reducible refine bel_alloc ?_ _ | with_reducible refine bel_drew ?_ | with_reducible refine bel_drewN ?_ _ | (with_reducible refine bel_set ?_ ?_ _; rotate_left; ((try simp); (try omega))))) hb6; clear hb6))
    try go_wp2_with fail
    refine hK.out _ _ ?_ (fun hHeld => ?_)
    · (try dsimp only)
      exact hS _ (by repeat (first | with_reducible exact Below.refl _ _ | with_reducible assumption | with_reducible refine bel_alloc ?_ _ | with_reducible refine bel_drew ?_ | with_reducible refine bel_drewN ?_ _ | (with_reducible refine bel_set ?_ ?_ _; rotate_left; ((try simp); (try omega)))))
    clear hK K
    try simp only [Act.put, List.setIfInBounds_toArray, List.set_cons_zero, List.set_cons_succ]
    refine wpAnyH_ready (rs := [5]) (by kernel_rfl) (by simp) ?_
    refine AllReadyH.cons rfl (fun K hK => ?_) AllReadyH.nil
    go_simp
    (first | (go_at_call 28; refine (HC.out.1 _ (by repeat (first | with_reducible exact Below.refl _ _ | with_reducible assumption | with_reducible refine bel_alloc ?_ _ | with_reducible refine bel_drew ?_ | with_reducible refine bel_drewN ?_ _ | (with_reducible refine bel_set ?_ ?_ _; rotate_left; ((try simp); (try omega)))))).mono ?_; rintro e w3 ⟨vs3, G3, rfl, hb3, hrep3, hf3⟩; obtain ⟨u5, F5, rfl, rfl, -, hm5⟩ := TResp.outA hrep3; obtain ⟨Z, cz, hze⟩ := cL_form hm5; subst hze; have hW3 : Below W2.heap.size W2 w3 := bel_then (by repeat (first | with_reducible exact Below.refl _ _ | with_reducible assumption | with_reducible refine bel_alloc ?_ _ | with_reducible refine bel_drew ?_ | with_reducible refine bel_drewN ?_ _ | (with_reducible refine bel_set ?_ ?_ _; rotate_left; ((try simp); (try omega))))) hb3; clear hm5 hf3 hb3) | (go_at_call 27; refine (implEqualResponses_any _ y _ _ y _ _ (by exact HYR.out _ (by repeat (first | with_reducible exact Below.refl _ _ | with_reducible assumption | with_reducible refine bel_alloc ?_ _ | with_reducible refine bel_drew ?_ | with_reducible refine bel_drewN ?_ _ | (with_reducible refine bel_set ?_ ?_ _; rotate_left; ((try simp); (try omega)))))) (by omega) (by exact Cod.bel hrep3 (by repeat (first | with_reducible exact Below.refl _ _ | with_reducible assumption | with_reducible refine bel_alloc ?_ _ | with_reducible refine bel_drew ?_ | with_reducible refine bel_drewN ?_ _ | (with_reducible refine bel_set ?_ ?_ _; rotate_left; ((try simp); (try omega)))))) (by omega)).mono ?_; rw [respSelf]; rintro e w4 ⟨rfl, hb4⟩; have hW4 : Below W2.heap.size W2 w4 := bel_then (by repeat (first | with_reducible exact Below.refl _ _ | with_reducible assumption | with_reducible refine bel_alloc ?_ _ | with_reducible refine bel_drew ?_ | with_reducible refine bel_drewN ?_ _ | (with_reducible refine bel_set ?_ ?_ _; rotate_left; ((try simp); (try omega))))) hb4; clear hb4 hrep3) | (go_at_call 29; refine (HC.out.2.1 _ (by repeat (first | with_reducible exact Below.refl _ _ | with_reducible assumption | with_reducible refine bel_alloc ?_ _ | with_reducible refine bel_drew ?_ | with_reducible refine bel_drewN ?_ _ | (with_reducible refine bel_set ?_ ?_ _; rotate_left; ((try simp); (try omega)))))).mono ?_; rintro e w5 ⟨rfl, hb5⟩; have hW5 : Below W2.heap.size W2 w5 := bel_then (by repeat (first | with_reducible exact Below.refl _ _ | with_reducible assumption | with_reducible refine bel_alloc ?_ _ | with_reducible refine bel_drew ?_ | with_reducible refine bel_drewN ?_ _ | (with_reducible refine bel_set ?_ ?_ _; rotate_left; ((try simp); (try omega))))) hb5; clear hb5) | (go_at_call 30; refine (HC.out.2.2.1 _ (by repeat (first | with_reducible exact Below.refl _ _ | with_reducible assumption | with_reducible refine bel_alloc ?_ _ | with_reducible refine bel_drew ?_ | with_reducible refine bel_drewN ?_ _ | (with_reducible refine bel_set ?_ ?_ _; rotate_left; ((try simp); (try omega)))))).mono ?_; rintro e w6 ⟨rfl, hb6⟩; have hW6 : Below W2.heap.size W2 w6 := bel_then (by repeat (first | with_reducible exact Below.refl _ _ | with_reducible assumption | with_reducible refine bel_alloc ?_ _ | with_reducible refine bel_drew ?_ | with_reducible refine bel_drewN ?_ _ | (with_reducible refine bel_set ?_ ?_ _; rotate_left; ((try simp); (try omega))))) hb6; clear hb6))
    try go_wp2_with fail
    refine hK.out _ _ ?_ (fun hHeld => ?_)
    · (try dsimp only)
      exact hS _ (by repeat (first | with_reducible exact Below.refl _ _ | with_reducible assumption | with_reducible refine bel_alloc ?_ _ | with_reducible refine bel_drew ?_ | with_reducible refine bel_drewN ?_ _ | (with_reducible refine bel_set ?_ ?_ _; rotate_left; ((try simp); (try omega)))))
    clear hK K
    try simp only [Act.put, List.setIfInBounds_toArray, List.set_cons_zero, List.set_cons_succ]
    refine take_read (i := 6) 29 (v := ?v6) rfl rfl (by kernel_rfl) (by kernel_rfl) (by kernel_rfl) (fun _ _ _ h => h) (by rfl) ?hy6 (by assumption) ?rest6
    case hy6 => (intro w hSw; (try dsimp only at hSw); go_simp; (try with_reducible rfl))
    try simp only [Act.put, List.setIfInBounds_toArray, List.set_cons_zero, List.set_cons_succ]
    refine take_read (i := 7) 30 (v := ?v7) rfl rfl (by kernel_rfl) (by kernel_rfl) (by kernel_rfl) (fun _ _ _ h => h) (by rfl) ?hy7 (by assumption) ?rest7
    case hy7 => (intro w hSw; (try dsimp only at hSw); go_simp; (try with_reducible rfl))
    try simp only [Act.put, List.setIfInBounds_toArray, List.set_cons_zero, List.set_cons_succ]
    refine take_read (i := 8) 31 (v := ?v8) rfl rfl (by kernel_rfl) (by kernel_rfl) (by kernel_rfl) (fun _ _ _ h => h) (by rfl) ?hy8 (by assumption) ?rest8
    case hy8 => (intro w hSw; (try dsimp only at hSw); go_simp; (try with_reducible rfl))
    try simp only [Act.put, List.setIfInBounds_toArray, List.set_cons_zero, List.set_cons_succ]
    refine take_read (i := 9) 32 (v := ?v9) rfl rfl (by kernel_rfl) (by kernel_rfl) (by kernel_rfl) (fun _ _ _ h => h) (by rfl) ?hy9 (by assumption) ?rest9
    case hy9 => (intro w hSw; (try dsimp only at hSw); go_simp; (try with_reducible rfl))
    try simp only [Act.put, List.setIfInBounds_toArray, List.set_cons_zero, List.set_cons_succ]
    refine take_read (i := 11) 34 (v := ?v11) rfl rfl (by kernel_rfl) (by kernel_rfl) (by kernel_rfl) (fun _ _ _ h => h) (by rfl) ?hy11 (by assumption) ?rest11
    case hy11 => (intro w hSw; (try dsimp only at hSw); go_simp; (try with_reducible rfl))
    try simp only [Act.put, List.setIfInBounds_toArray, List.set_cons_zero, List.set_cons_succ]
    refine take_read (i := 12) 35 (v := ?v12) rfl rfl (by kernel_rfl) (by kernel_rfl) (by kernel_rfl) (fun _ _ _ h => h) (by rfl) ?hy12 (by assumption) ?rest12
    case hy12 => (intro w hSw; (try dsimp only at hSw); go_simp; (try with_reducible rfl))
    try simp only [Act.put, List.setIfInBounds_toArray, List.set_cons_zero, List.set_cons_succ]
    refine wpAnyH_ready (rs := [10]) (by kernel_rfl) (by simp) ?_
    refine AllReadyH.cons rfl (fun K hK => ?_) AllReadyH.nil
    go_simp
    (first | (go_at_call 28; refine (HC.out.1 _ (by repeat (first | with_reducible exact Below.refl _ _ | with_reducible assumption | with_reducible refine bel_alloc ?_ _ | with_reducible refine bel_drew ?_ | with_reducible refine bel_drewN ?_ _ | (with_reducible refine bel_set ?_ ?_ _; rotate_left; ((try simp); (try omega)))))).mono ?_; rintro e w3 ⟨vs3, G3, rfl, hb3, hrep3, hf3⟩; obtain ⟨u5, F5, rfl, rfl, -, hm5⟩ := TResp.outA hrep3; obtain ⟨Z, cz, hze⟩ := cL_form hm5; subst hze; have hW3 : Below W2.heap.size W2 w3 := bel_then (by repeat (first | with_reducible exact Below.refl _ _ | with_reducible assumption | with_reducible refine bel_alloc ?_ _ | with_reducible refine bel_drew ?_ | with_reducible refine bel_drewN ?_ _ | (with_reducible refine bel_set ?_ ?_ _; rotate_left; ((try simp); (try omega))))) hb3; clear hm5 hf3 hb3) | (go_at_call 27; refine (implEqualResponses_any _ y _ _ y _ _ (by exact HYR.out _ (by repeat (first | with_reducible exact Below.refl _ _ | with_reducible assumption | with_reducible refine bel_alloc ?_ _ | with_reducible refine bel_drew ?_ | with_reducible refine bel_drewN ?_ _ | (with_reducible refine bel_set ?_ ?_ _; rotate_left; ((try simp); (try omega)))))) (by omega) (by exact Cod.bel hrep3 (by repeat (first | with_reducible exact Below.refl _ _ | with_reducible assumption | with_reducible refine bel_alloc ?_ _ | with_reducible refine bel_drew ?_ | with_reducible refine bel_drewN ?_ _ | (with_reducible refine bel_set ?_ ?_ _; rotate_left; ((try simp); (try omega)))))) (by omega)).mono ?_; rw [respSelf]; rintro e w4 ⟨rfl, hb4⟩; have hW4 : Below W2.heap.size W2 w4 := bel_then (by repeat (first | with_reducible exact Below.refl _ _ | with_reducible assumption | with_reducible refine bel_alloc ?_ _ | with_reducible refine bel_drew ?_ | with_reducible refine bel_drewN ?_ _ | (with_reducible refine bel_set ?_ ?_ _; rotate_left; ((try simp); (try omega))))) hb4; clear hb4 hrep3) | (go_at_call 29; refine (HC.out.2.1 _ (by repeat (first | with_reducible exact Below.refl _ _ | with_reducible assumption | with_reducible refine bel_alloc ?_ _ | with_reducible refine bel_drew ?_ | with_reducible refine bel_drewN ?_ _ | (with_reducible refine bel_set ?_ ?_ _; rotate_left; ((try simp); (try omega)))))).mono ?_; rintro e w5 ⟨rfl, hb5⟩; have hW5 : Below W2.heap.size W2 w5 := bel_then (by repeat (first | with_reducible exact Below.refl _ _ | with_reducible assumption | with_reducible refine bel_alloc ?_ _ | with_reducible refine bel_drew ?_ | with_reducible refine bel_drewN ?_ _ | (with_reducible refine bel_set ?_ ?_ _; rotate_left; ((try simp); (try omega))))) hb5; clear hb5) | (go_at_call 30; refine (HC.out.2.2.1 _ (by repeat (first | with_reducible exact Below.refl _ _ | with_reducible assumption | with_reducible refine bel_alloc ?_ _ | with_reducible refine bel_drew ?_ | with_reducible refine bel_drewN ?_ _ | (with_reducible refine bel_set ?_ ?_ _; rotate_left; ((try simp); (try omega)))))).mono ?_; rintro e w6 ⟨rfl, hb6⟩; have hW6 : Below W2.heap.size W2 w6 := bel_then (by repeat (first | with_reducible exact Below.refl _ _ | with_reducible assumption | with_reducible refine bel_alloc ?_ _ | with_reducible refine bel_drew ?_ | with_reducible refine bel_drewN ?_ _ | (with_reducible refine bel_set ?_ ?_ _; rotate_left; ((try simp); (try omega))))) hb6; clear hb6))
    try go_wp2_with fail
    refine hK.out _ _ ?_ (fun hHeld => ?_)
    · (try dsimp only)
      exact hS _ (by repeat (first | with_reducible exact Below.refl _ _ | with_reducible assumption | with_reducible refine bel_alloc ?_ _ | with_reducible refine bel_drew ?_ | with_reducible refine bel_drewN ?_ _ | (with_reducible refine bel_set ?_ ?_ _; rotate_left; ((try simp); (try omega)))))
    clear hK K
    try simp only [Act.put, List.setIfInBounds_toArray, List.set_cons_zero, List.set_cons_succ]
    refine wpAnyH_ready (rs := [13]) (by kernel_rfl) (by simp) ?_
    refine AllReadyH.cons rfl (fun K hK => ?_) AllReadyH.nil
    go_simp
    (first | (go_at_call 28; refine (HC.out.1 _ (by repeat (first | with_reducible exact Below.refl _ _ | with_reducible assumption | with_reducible refine bel_alloc ?_ _ | with_reducible refine bel_drew ?_ | with_reducible refine bel_drewN ?_ _ | (with_reducible refine bel_set ?_ ?_ _; rotate_left; ((try simp); (try omega)))))).mono ?_; rintro e w3 ⟨vs3, G3, rfl, hb3, hrep3, hf3⟩; obtain ⟨u5, F5, rfl, rfl, -, hm5⟩ := TResp.outA hrep3; obtain ⟨Z, cz, hze⟩ := cL_form hm5; subst hze; have hW3 : Below W2.heap.size W2 w3 := bel_then (by repeat (first | with_reducible exact Below.refl _ _ | with_reducible assumption | with_reducible refine bel_alloc ?_ _ | with_reducible refine bel_drew ?_ | with_reducible refine bel_drewN ?_ _ | (with_reducible refine bel_set ?_ ?_ _; rotate_left; ((try simp); (try omega))))) hb3; clear hm5 hf3 hb3) | (go_at_call 27; refine (implEqualResponses_any _ y _ _ y _ _ (by exact HYR.out _ (by repeat (first | with_reducible exact Below.refl _ _ | with_reducible assumption | with_reducible refine bel_alloc ?_ _ | with_reducible refine bel_drew ?_ | with_reducible refine bel_drewN ?_ _ | (with_reducible refine bel_set ?_ ?_ _; rotate_left; ((try simp); (try omega)))))) (by omega) (by exact Cod.bel hrep3 (by repeat (first | with_reducible exact Below.refl _ _ | with_reducible assumption | with_reducible refine bel_alloc ?_ _ | with_reducible refine bel_drew ?_ | with_reducible refine bel_drewN ?_ _ | (with_reducible refine bel_set ?_ ?_ _; rotate_left; ((try simp); (try omega)))))) (by omega)).mono ?_; rw [respSelf]; rintro e w4 ⟨rfl, hb4⟩; have hW4 : Below W2.heap.size W2 w4 := bel_then (by repeat (first | with_reducible exact Below.refl _ _ | with_reducible assumption | with_reducible refine bel_alloc ?_ _ | with_reducible refine bel_drew ?_ | with_reducible refine bel_drewN ?_ _ | (with_reducible refine bel_set ?_ ?_ _; rotate_left; ((try simp); (try omega))))) hb4; clear hb4 hrep3) | (go_at_call 29; refine (HC.out.2.1 _ (by repeat (first | with_reducible exact Below.refl _ _ | with_reducible assumption | with_reducible refine bel_alloc ?_ _ | with_reducible refine bel_drew ?_ | with_reducible refine bel_drewN ?_ _ | (with_reducible refine bel_set ?_ ?_ _; rotate_left; ((try simp); (try omega)))))).mono ?_; rintro e w5 ⟨rfl, hb5⟩; have hW5 : Below W2.heap.size W2 w5 := bel_then (by repeat (first | with_reducible exact Below.refl _ _ | with_reducible assumption | with_reducible refine bel_alloc ?_ _ | with_reducible refine bel_drew ?_ | with_reducible refine bel_drewN ?_ _ | (with_reducible refine bel_set ?_ ?_ _; rotate_left; ((try simp); (try omega))))) hb5; clear hb5) | (go_at_call 30; refine (HC.out.2.2.1 _ (by repeat (first | with_reducible exact Below.refl _ _ | with_reducible assumption | with_reducible refine bel_alloc ?_ _ | with_reducible refine bel_drew ?_ | with_reducible refine bel_drewN ?_ _ | (with_reducible refine bel_set ?_ ?_ _; rotate_left; ((try simp); (try omega)))))).mono ?_; rintro e w6 ⟨rfl, hb6⟩; have hW6 : Below W2.heap.size W2 w6 := bel_then (by repeat (first | with_reducible exact Below.refl _ _ | with_reducible assumption | with_reducible refine bel_alloc ?_ _ | with_reducible refine bel_drew ?_ | with_reducible refine bel_drewN ?_ _ | (with_reducible refine bel_set ?_ ?_ _; rotate_left; ((try simp); (try omega))))) hb6; clear hb6))
    try go_wp2_with fail
    refine hK.out _ _ ?_ (fun hHeld => ?_)
    · (try dsimp only)
      exact hS _ (by repeat (first | with_reducible exact Below.refl _ _ | with_reducible assumption | with_reducible refine bel_alloc ?_ _ | with_reducible refine bel_drew ?_ | with_reducible refine bel_drewN ?_ _ | (with_reducible refine bel_set ?_ ?_ _; rotate_left; ((try simp); (try omega)))))
    clear hK K
    try simp only [Act.put, List.setIfInBounds_toArray, List.set_cons_zero, List.set_cons_succ]
    refine take_read (i := 14) 37 (v := ?v14) rfl rfl (by kernel_rfl) (by kernel_rfl) (by kernel_rfl) (fun _ _ _ h => h) (by rfl) ?hy14 (by assumption) ?rest14
    case hy14 => (intro w hSw; (try dsimp only at hSw); go_simp; (try with_reducible rfl))
    try simp only [Act.put, List.setIfInBounds_toArray, List.set_cons_zero, List.set_cons_succ]
    refine take_read (i := 15) 38 (v := ?v15) rfl rfl (by kernel_rfl) (by kernel_rfl) (by kernel_rfl) (fun _ _ _ h => h) (by rfl) ?hy15 (by assumption) ?rest15
    case hy15 => (intro w hSw; (try dsimp only at hSw); go_simp; (try with_reducible rfl))
    try simp only [Act.put, List.setIfInBounds_toArray, List.set_cons_zero, List.set_cons_succ]
    refine wpAnyH_done (by kernel_rfl) ?_ _
    have hB6 : Below W2.heap.size W2 w6 := by assumption
    have hz6 := hB6.size
    go_upto_region 7 with (fail)
    go_cut [71] from 39 to 70 (fun v wq => v = .bool false ∧ Below w6.heap.size w6 wq)
    case first =>
      have hS7 : ∀ w9, Below w6.heap.size w6 w9 → w9.cell? ⟨sb, 0, none⟩ = some (.string nm) ∧ w9.cell? ⟨sb, 1, none⟩ = some (.int .i64 ver) ∧ w9.cell? ⟨sb, 2, none⟩ = some (.slice A2 fs.length cp2) ∧ w9.cell? ⟨sb, 3, none⟩ = some (.bool sh) ∧ w9.cell? ⟨xb, 0, none⟩ = some (.int .i64 y.type) ∧ w9.cell? ⟨xb, 1, none⟩ = some (.int .i64 y.status) ∧ w9.cell? ⟨xb, 2, none⟩ = some (.int .i64 y.ver) ∧ w9.cell? ⟨xb, 3, none⟩ = some (.slice Y y.body.length cy) ∧ w9.cell? ⟨xb, 4, none⟩ = some (.bool y.shares) := fun w9 hb => hS w9 (bel_then hB6 hb)
      have hw6 : Below w6.heap.size w6 w6 := Below.refl _ _
      clear hS hww
      cases sv
      · have hst := hmiss rfl
        clear hhit hmiss
        refine wp_region_held_drew (S := (fun w9 => w9.cell? ⟨sb, 0, none⟩ = some (.string nm) ∧ w9.cell? ⟨sb, 1, none⟩ = some (.int .i64 ver) ∧ w9.cell? ⟨sb, 2, none⟩ = some (.slice A2 fs.length cp2) ∧ w9.cell? ⟨sb, 3, none⟩ = some (.bool sh) ∧ w9.cell? ⟨xb, 0, none⟩ = some (.int .i64 y.type) ∧ w9.cell? ⟨xb, 1, none⟩ = some (.int .i64 y.status) ∧ w9.cell? ⟨xb, 2, none⟩ = some (.int .i64 y.ver) ∧ w9.cell? ⟨xb, 3, none⟩ = some (.slice Y y.body.length cy) ∧ w9.cell? ⟨xb, 4, none⟩ = some (.bool y.shares))) (by kernel_rfl) (by (try dsimp only); exact hS7 _ (by repeat (first | with_reducible exact Below.refl _ _ | with_reducible assumption | with_reducible refine bel_alloc ?_ _ | with_reducible refine bel_drew ?_ | with_reducible refine bel_drewN ?_ _ | (with_reducible refine bel_set ?_ ?_ _; rotate_left; ((try simp); (try omega)))))) (fun hHeld => ?_)
        refine take_read (i := 0) 39 (v := ?x2_v0) rfl rfl (by kernel_rfl) (by kernel_rfl) (by kernel_rfl) (fun _ _ _ h => h) (by rfl) ?x2_hy0 (by assumption) ?x2_rest0
        case x2_hy0 => (intro w hSw; (try dsimp only at hSw); go_simp; (try with_reducible rfl))
        try simp only [Act.put, List.setIfInBounds_toArray, List.set_cons_zero, List.set_cons_succ]
        refine take_read (i := 1) 40 (v := ?x2_v1) rfl rfl (by kernel_rfl) (by kernel_rfl) (by kernel_rfl) (fun _ _ _ h => h) (by rfl) ?x2_hy1 (by assumption) ?x2_rest1
        case x2_hy1 => (intro w hSw; (try dsimp only at hSw); go_simp; (try with_reducible rfl))
        try simp only [Act.put, List.setIfInBounds_toArray, List.set_cons_zero, List.set_cons_succ]
        refine take_read (i := 2) 41 (v := ?x2_v2) rfl rfl (by kernel_rfl) (by kernel_rfl) (by kernel_rfl) (fun _ _ _ h => h) (by rfl) ?x2_hy2 (by assumption) ?x2_rest2
        case x2_hy2 => (intro w hSw; (try dsimp only at hSw); go_simp; (try with_reducible rfl))
        try simp only [Act.put, List.setIfInBounds_toArray, List.set_cons_zero, List.set_cons_succ]
        refine take_read (i := 3) 42 (v := ?x2_v3) rfl rfl (by kernel_rfl) (by kernel_rfl) (by kernel_rfl) (fun _ _ _ h => h) (by rfl) ?x2_hy3 (by assumption) ?x2_rest3
        case x2_hy3 => (intro w hSw; (try dsimp only at hSw); go_simp; (try with_reducible rfl))
        try simp only [Act.put, List.setIfInBounds_toArray, List.set_cons_zero, List.set_cons_succ]
        refine take_read (i := 4) 43 (v := ?x2_v4) rfl rfl (by kernel_rfl) (by kernel_rfl) (by kernel_rfl) (fun _ _ _ h => h) (by rfl) ?x2_hy4 (by assumption) ?x2_rest4
        case x2_hy4 => (intro w hSw; (try dsimp only at hSw); go_simp; (try with_reducible rfl))
        try simp only [Act.put, List.setIfInBounds_toArray, List.set_cons_zero, List.set_cons_succ]
        refine wpAnyH_ready (rs := [5]) (by kernel_rfl) (by simp) ?_
        refine AllReadyH.cons rfl (fun K hK => ?_) AllReadyH.nil
        go_simp
        (go_at_call 30; refine (HC.out.2.2.1 _ (bel_then hB6 (by repeat (first | with_reducible exact Below.refl _ _ | with_reducible assumption | with_reducible refine bel_alloc ?_ _ | with_reducible refine bel_drew ?_ | with_reducible refine bel_drewN ?_ _ | (with_reducible refine bel_set ?_ ?_ _; rotate_left; ((try simp); (try omega))))))).mono ?_; rintro e w7 ⟨rfl, hb7⟩; have hW7 : Below w6.heap.size w6 w7 := bel_then (by repeat (first | with_reducible exact Below.refl _ _ | with_reducible assumption | with_reducible refine bel_alloc ?_ _ | with_reducible refine bel_drew ?_ | with_reducible refine bel_drewN ?_ _ | (with_reducible refine bel_set ?_ ?_ _; rotate_left; ((try simp); (try omega))))) hb7; clear hb7)
        try go_wp2_with fail
        refine hK.out _ _ ?_ (fun hHeld => ?_)
        · (try dsimp only)
          exact hS7 _ (by repeat (first | with_reducible exact Below.refl _ _ | with_reducible assumption | with_reducible refine bel_alloc ?_ _ | with_reducible refine bel_drew ?_ | with_reducible refine bel_drewN ?_ _ | (with_reducible refine bel_set ?_ ?_ _; rotate_left; ((try simp); (try omega)))))
        clear hK K
        try simp only [Act.put, List.setIfInBounds_toArray, List.set_cons_zero, List.set_cons_succ]
        refine take_read (i := 6) 45 (v := ?x2_v6) rfl rfl (by kernel_rfl) (by kernel_rfl) (by kernel_rfl) (fun _ _ _ h => h) (by rfl) ?x2_hy6 (by assumption) ?x2_rest6
        case x2_hy6 => (intro w hSw; (try dsimp only at hSw); go_simp; (try with_reducible rfl))
        try simp only [Act.put, List.setIfInBounds_toArray, List.set_cons_zero, List.set_cons_succ]
        refine take_skip (i := 7) 46 rfl rfl (by kernel_rfl) (by kernel_rfl) (by kernel_rfl) (fun _ _ _ h => h) (by rfl) (by assumption) ?_
        try simp only [Act.put, List.setIfInBounds_toArray, List.set_cons_zero, List.set_cons_succ]
        refine take_skip (i := 8) 47 rfl rfl (by kernel_rfl) (by kernel_rfl) (by kernel_rfl) (fun _ _ _ h => h) (by rfl) (by assumption) ?_
        try simp only [Act.put, List.setIfInBounds_toArray, List.set_cons_zero, List.set_cons_succ]
        refine take_skip (i := 9) 48 rfl rfl (by kernel_rfl) (by kernel_rfl) (by kernel_rfl) (fun _ _ _ h => h) (by rfl) (by assumption) ?_
        try simp only [Act.put, List.setIfInBounds_toArray, List.set_cons_zero, List.set_cons_succ]
        refine take_read (i := 10) 49 (v := ?x2_v10) rfl rfl (by kernel_rfl) (by kernel_rfl) (by kernel_rfl) (fun _ _ _ h => h) (by rfl) ?x2_hy10 (by assumption) ?x2_rest10
        case x2_hy10 => (intro w hSw; (try dsimp only at hSw); go_simp; (try with_reducible rfl))
        try simp only [Act.put, List.setIfInBounds_toArray, List.set_cons_zero, List.set_cons_succ]
        refine take_read (i := 11) 50 (v := ?x2_v11) rfl rfl (by kernel_rfl) (by kernel_rfl) (by kernel_rfl) (fun _ _ _ h => h) (by rfl) ?x2_hy11 (by assumption) ?x2_rest11
        case x2_hy11 => (intro w hSw; (try dsimp only at hSw); go_simp; (try with_reducible rfl))
        try simp only [Act.put, List.setIfInBounds_toArray, List.set_cons_zero, List.set_cons_succ]
        refine take_read (i := 12) 51 (v := ?x2_v12) rfl rfl (by kernel_rfl) (by kernel_rfl) (by kernel_rfl) (fun _ _ _ h => h) (by rfl) ?x2_hy12 (by assumption) ?x2_rest12
        case x2_hy12 => (intro w hSw; (try dsimp only at hSw); go_simp; (try with_reducible rfl))
        try simp only [Act.put, List.setIfInBounds_toArray, List.set_cons_zero, List.set_cons_succ]
        refine take_read (i := 13) 52 (v := ?x2_v13) rfl rfl (by kernel_rfl) (by kernel_rfl) (by kernel_rfl) (fun _ _ _ h => h) (by rfl) ?x2_hy13 (by assumption) ?x2_rest13
        case x2_hy13 => (intro w hSw; (try dsimp only at hSw); go_simp; (try with_reducible rfl))
        try simp only [Act.put, List.setIfInBounds_toArray, List.set_cons_zero, List.set_cons_succ]
        refine take_read (i := 14) 53 (v := ?x2_v14) rfl rfl (by kernel_rfl) (by kernel_rfl) (by kernel_rfl) (fun _ _ _ h => h) (by rfl) ?x2_hy14 (by assumption) ?x2_rest14
        case x2_hy14 => (intro w hSw; (try dsimp only at hSw); go_simp; (try with_reducible rfl))
        try simp only [Act.put, List.setIfInBounds_toArray, List.set_cons_zero, List.set_cons_succ]
        refine take_read (i := 15) 54 (v := ?x2_v15) rfl rfl (by kernel_rfl) (by kernel_rfl) (by kernel_rfl) (fun _ _ _ h => h) (by rfl) ?x2_hy15 (by assumption) ?x2_rest15
        case x2_hy15 => (intro w hSw; (try dsimp only at hSw); go_simp; (try with_reducible rfl))
        try simp only [Act.put, List.setIfInBounds_toArray, List.set_cons_zero, List.set_cons_succ]
        refine take_read (i := 16) 55 (v := ?x2_v16) rfl rfl (by kernel_rfl) (by kernel_rfl) (by kernel_rfl) (fun _ _ _ h => h) (by rfl) ?x2_hy16 (by assumption) ?x2_rest16
        case x2_hy16 => (intro w hSw; (try dsimp only at hSw); go_simp; (try with_reducible rfl))
        try simp only [Act.put, List.setIfInBounds_toArray, List.set_cons_zero, List.set_cons_succ]
        refine take_skip (i := 17) 56 rfl rfl (by kernel_rfl) (by kernel_rfl) (by kernel_rfl) (fun _ _ _ h => h) (by rfl) (by assumption) ?_
        try simp only [Act.put, List.setIfInBounds_toArray, List.set_cons_zero, List.set_cons_succ]
        refine take_skip (i := 18) 57 rfl rfl (by kernel_rfl) (by kernel_rfl) (by kernel_rfl) (fun _ _ _ h => h) (by rfl) (by assumption) ?_
        try simp only [Act.put, List.setIfInBounds_toArray, List.set_cons_zero, List.set_cons_succ]
        refine take_skip (i := 19) 58 rfl rfl (by kernel_rfl) (by kernel_rfl) (by kernel_rfl) (fun _ _ _ h => h) (by rfl) (by assumption) ?_
        try simp only [Act.put, List.setIfInBounds_toArray, List.set_cons_zero, List.set_cons_succ]
        refine take_skip (i := 20) 59 rfl rfl (by kernel_rfl) (by kernel_rfl) (by kernel_rfl) (fun _ _ _ h => h) (by rfl) (by assumption) ?_
        try simp only [Act.put, List.setIfInBounds_toArray, List.set_cons_zero, List.set_cons_succ]
        refine take_skip (i := 21) 60 rfl rfl (by kernel_rfl) (by kernel_rfl) (by kernel_rfl) (fun _ _ _ h => h) (by rfl) (by assumption) ?_
        try simp only [Act.put, List.setIfInBounds_toArray, List.set_cons_zero, List.set_cons_succ]
        refine take_skip (i := 22) 61 rfl rfl (by kernel_rfl) (by kernel_rfl) (by kernel_rfl) (fun _ _ _ h => h) (by rfl) (by assumption) ?_
        try simp only [Act.put, List.setIfInBounds_toArray, List.set_cons_zero, List.set_cons_succ]
        refine take_skip (i := 23) 62 rfl rfl (by kernel_rfl) (by kernel_rfl) (by kernel_rfl) (fun _ _ _ h => h) (by rfl) (by assumption) ?_
        try simp only [Act.put, List.setIfInBounds_toArray, List.set_cons_zero, List.set_cons_succ]
        refine take_skip (i := 24) 63 rfl rfl (by kernel_rfl) (by kernel_rfl) (by kernel_rfl) (fun _ _ _ h => h) (by rfl) (by assumption) ?_
        try simp only [Act.put, List.setIfInBounds_toArray, List.set_cons_zero, List.set_cons_succ]
        refine take_skip (i := 25) 64 rfl rfl (by kernel_rfl) (by kernel_rfl) (by kernel_rfl) (fun _ _ _ h => h) (by rfl) (by assumption) ?_
        try simp only [Act.put, List.setIfInBounds_toArray, List.set_cons_zero, List.set_cons_succ]
        refine take_skip (i := 26) 65 rfl rfl (by kernel_rfl) (by kernel_rfl) (by kernel_rfl) (fun _ _ _ h => h) (by rfl) (by assumption) ?_
        try simp only [Act.put, List.setIfInBounds_toArray, List.set_cons_zero, List.set_cons_succ]
        refine take_skip (i := 27) 66 rfl rfl (by kernel_rfl) (by kernel_rfl) (by kernel_rfl) (fun _ _ _ h => h) (by rfl) (by assumption) ?_
        try simp only [Act.put, List.setIfInBounds_toArray, List.set_cons_zero, List.set_cons_succ]
        refine take_skip (i := 28) 67 rfl rfl (by kernel_rfl) (by kernel_rfl) (by kernel_rfl) (fun _ _ _ h => h) (by rfl) (by assumption) ?_
        try simp only [Act.put, List.setIfInBounds_toArray, List.set_cons_zero, List.set_cons_succ]
        refine take_skip (i := 29) 68 rfl rfl (by kernel_rfl) (by kernel_rfl) (by kernel_rfl) (fun _ _ _ h => h) (by rfl) (by assumption) ?_
        try simp only [Act.put, List.setIfInBounds_toArray, List.set_cons_zero, List.set_cons_succ]
        refine take_skip (i := 30) 69 rfl rfl (by kernel_rfl) (by kernel_rfl) (by kernel_rfl) (fun _ _ _ h => h) (by rfl) (by assumption) ?_
        try simp only [Act.put, List.setIfInBounds_toArray, List.set_cons_zero, List.set_cons_succ]
        refine take_read (i := 31) 70 (v := ?x2_v31) rfl rfl (by kernel_rfl) (by kernel_rfl) (by kernel_rfl) (fun _ _ _ h => h) (by rfl) ?x2_hy31 (by assumption) ?x2_rest31
        case x2_hy31 => (intro w hSw; (try dsimp only at hSw); go_simp; (try with_reducible rfl))
        try simp only [Act.put, List.setIfInBounds_toArray, List.set_cons_zero, List.set_cons_succ]
        refine take_read (i := 32) 71 (v := ?x2_v32) rfl rfl (by kernel_rfl) (by kernel_rfl) (by kernel_rfl) (fun _ _ _ h => h) (by rfl) ?x2_hy32 (by assumption) ?x2_rest32
        case x2_hy32 => (intro w hSw; (try dsimp only at hSw); go_simp; (try with_reducible rfl))
        try simp only [Act.put, List.setIfInBounds_toArray, List.set_cons_zero, List.set_cons_succ]
        refine wpAnyH_done (by kernel_rfl) ?_ _
        go_wp2_with fail
        go_meet
        case rel => exact ⟨rfl, (by repeat (first | with_reducible exact Below.refl _ _ | with_reducible assumption | with_reducible refine bel_alloc ?_ _ | with_reducible refine bel_drew ?_ | with_reducible refine bel_drewN ?_ _ | (with_reducible refine bel_set ?_ ?_ _; rotate_left; ((try simp); (try omega)))))⟩
      · cases hf
        · have hst := hmiss rfl
          clear hhit hmiss
          refine wp_region_held_drew (S := (fun w9 => w9.cell? ⟨sb, 0, none⟩ = some (.string nm) ∧ w9.cell? ⟨sb, 1, none⟩ = some (.int .i64 ver) ∧ w9.cell? ⟨sb, 2, none⟩ = some (.slice A2 fs.length cp2) ∧ w9.cell? ⟨sb, 3, none⟩ = some (.bool sh) ∧ w9.cell? ⟨xb, 0, none⟩ = some (.int .i64 y.type) ∧ w9.cell? ⟨xb, 1, none⟩ = some (.int .i64 y.status) ∧ w9.cell? ⟨xb, 2, none⟩ = some (.int .i64 y.ver) ∧ w9.cell? ⟨xb, 3, none⟩ = some (.slice Y y.body.length cy) ∧ w9.cell? ⟨xb, 4, none⟩ = some (.bool y.shares))) (by kernel_rfl) (by (try dsimp only); exact hS7 _ (by repeat (first | with_reducible exact Below.refl _ _ | with_reducible assumption | with_reducible refine bel_alloc ?_ _ | with_reducible refine bel_drew ?_ | with_reducible refine bel_drewN ?_ _ | (with_reducible refine bel_set ?_ ?_ _; rotate_left; ((try simp); (try omega)))))) (fun hHeld => ?_)
          refine take_read (i := 0) 39 (v := ?x3_v0) rfl rfl (by kernel_rfl) (by kernel_rfl) (by kernel_rfl) (fun _ _ _ h => h) (by rfl) ?x3_hy0 (by assumption) ?x3_rest0
          case x3_hy0 => (intro w hSw; (try dsimp only at hSw); go_simp; (try with_reducible rfl))
          try simp only [Act.put, List.setIfInBounds_toArray, List.set_cons_zero, List.set_cons_succ]
          refine take_read (i := 1) 40 (v := ?x3_v1) rfl rfl (by kernel_rfl) (by kernel_rfl) (by kernel_rfl) (fun _ _ _ h => h) (by rfl) ?x3_hy1 (by assumption) ?x3_rest1
          case x3_hy1 => (intro w hSw; (try dsimp only at hSw); go_simp; (try with_reducible rfl))
          try simp only [Act.put, List.setIfInBounds_toArray, List.set_cons_zero, List.set_cons_succ]
          refine take_read (i := 2) 41 (v := ?x3_v2) rfl rfl (by kernel_rfl) (by kernel_rfl) (by kernel_rfl) (fun _ _ _ h => h) (by rfl) ?x3_hy2 (by assumption) ?x3_rest2
          case x3_hy2 => (intro w hSw; (try dsimp only at hSw); go_simp; (try with_reducible rfl))
          try simp only [Act.put, List.setIfInBounds_toArray, List.set_cons_zero, List.set_cons_succ]
          refine take_read (i := 3) 42 (v := ?x3_v3) rfl rfl (by kernel_rfl) (by kernel_rfl) (by kernel_rfl) (fun _ _ _ h => h) (by rfl) ?x3_hy3 (by assumption) ?x3_rest3
          case x3_hy3 => (intro w hSw; (try dsimp only at hSw); go_simp; (try with_reducible rfl))
          try simp only [Act.put, List.setIfInBounds_toArray, List.set_cons_zero, List.set_cons_succ]
          refine take_read (i := 4) 43 (v := ?x3_v4) rfl rfl (by kernel_rfl) (by kernel_rfl) (by kernel_rfl) (fun _ _ _ h => h) (by rfl) ?x3_hy4 (by assumption) ?x3_rest4
          case x3_hy4 => (intro w hSw; (try dsimp only at hSw); go_simp; (try with_reducible rfl))
          try simp only [Act.put, List.setIfInBounds_toArray, List.set_cons_zero, List.set_cons_succ]
          refine wpAnyH_ready (rs := [5]) (by kernel_rfl) (by simp) ?_
          refine AllReadyH.cons rfl (fun K hK => ?_) AllReadyH.nil
          go_simp
          (first | (go_at_call 30; refine (HC.out.2.2.1 _ (bel_then hB6 (by repeat (first | with_reducible exact Below.refl _ _ | with_reducible assumption | with_reducible refine bel_alloc ?_ _ | with_reducible refine bel_drew ?_ | with_reducible refine bel_drewN ?_ _ | (with_reducible refine bel_set ?_ ?_ _; rotate_left; ((try simp); (try omega))))))).mono ?_; rintro e w7 ⟨rfl, hb7⟩; have hW7 : Below w6.heap.size w6 w7 := bel_then (by repeat (first | with_reducible exact Below.refl _ _ | with_reducible assumption | with_reducible refine bel_alloc ?_ _ | with_reducible refine bel_drew ?_ | with_reducible refine bel_drewN ?_ _ | (with_reducible refine bel_set ?_ ?_ _; rotate_left; ((try simp); (try omega))))) hb7; clear hb7) | (go_at_call 31; refine (HC.out.2.2.2.1 _ (bel_then hB6 (by repeat (first | with_reducible exact Below.refl _ _ | with_reducible assumption | with_reducible refine bel_alloc ?_ _ | with_reducible refine bel_drew ?_ | with_reducible refine bel_drewN ?_ _ | (with_reducible refine bel_set ?_ ?_ _; rotate_left; ((try simp); (try omega))))))).mono ?_; rintro e w8 ⟨rfl, hb8⟩; have hW8 : Below w6.heap.size w6 w8 := bel_then (by repeat (first | with_reducible exact Below.refl _ _ | with_reducible assumption | with_reducible refine bel_alloc ?_ _ | with_reducible refine bel_drew ?_ | with_reducible refine bel_drewN ?_ _ | (with_reducible refine bel_set ?_ ?_ _; rotate_left; ((try simp); (try omega))))) hb8; clear hb8))
          try go_wp2_with fail
          refine hK.out _ _ ?_ (fun hHeld => ?_)
          · (try dsimp only)
            exact hS7 _ (by repeat (first | with_reducible exact Below.refl _ _ | with_reducible assumption | with_reducible refine bel_alloc ?_ _ | with_reducible refine bel_drew ?_ | with_reducible refine bel_drewN ?_ _ | (with_reducible refine bel_set ?_ ?_ _; rotate_left; ((try simp); (try omega)))))
          clear hK K
          try simp only [Act.put, List.setIfInBounds_toArray, List.set_cons_zero, List.set_cons_succ]
          refine take_read (i := 6) 45 (v := ?x3_v6) rfl rfl (by kernel_rfl) (by kernel_rfl) (by kernel_rfl) (fun _ _ _ h => h) (by rfl) ?x3_hy6 (by assumption) ?x3_rest6
          case x3_hy6 => (intro w hSw; (try dsimp only at hSw); go_simp; (try with_reducible rfl))
          try simp only [Act.put, List.setIfInBounds_toArray, List.set_cons_zero, List.set_cons_succ]
          refine take_read (i := 7) 46 (v := ?x3_v7) rfl rfl (by kernel_rfl) (by kernel_rfl) (by kernel_rfl) (fun _ _ _ h => h) (by rfl) ?x3_hy7 (by assumption) ?x3_rest7
          case x3_hy7 => (intro w hSw; (try dsimp only at hSw); go_simp; (try with_reducible rfl))
          try simp only [Act.put, List.setIfInBounds_toArray, List.set_cons_zero, List.set_cons_succ]
          refine take_read (i := 8) 47 (v := ?x3_v8) rfl rfl (by kernel_rfl) (by kernel_rfl) (by kernel_rfl) (fun _ _ _ h => h) (by rfl) ?x3_hy8 (by assumption) ?x3_rest8
          case x3_hy8 => (intro w hSw; (try dsimp only at hSw); go_simp; (try with_reducible rfl))
          try simp only [Act.put, List.setIfInBounds_toArray, List.set_cons_zero, List.set_cons_succ]
          refine wpAnyH_ready (rs := [9]) (by kernel_rfl) (by simp) ?_
          refine AllReadyH.cons rfl (fun K hK => ?_) AllReadyH.nil
          go_simp
          (first | (go_at_call 30; refine (HC.out.2.2.1 _ (bel_then hB6 (by repeat (first | with_reducible exact Below.refl _ _ | with_reducible assumption | with_reducible refine bel_alloc ?_ _ | with_reducible refine bel_drew ?_ | with_reducible refine bel_drewN ?_ _ | (with_reducible refine bel_set ?_ ?_ _; rotate_left; ((try simp); (try omega))))))).mono ?_; rintro e w7 ⟨rfl, hb7⟩; have hW7 : Below w6.heap.size w6 w7 := bel_then (by repeat (first | with_reducible exact Below.refl _ _ | with_reducible assumption | with_reducible refine bel_alloc ?_ _ | with_reducible refine bel_drew ?_ | with_reducible refine bel_drewN ?_ _ | (with_reducible refine bel_set ?_ ?_ _; rotate_left; ((try simp); (try omega))))) hb7; clear hb7) | (go_at_call 31; refine (HC.out.2.2.2.1 _ (bel_then hB6 (by repeat (first | with_reducible exact Below.refl _ _ | with_reducible assumption | with_reducible refine bel_alloc ?_ _ | with_reducible refine bel_drew ?_ | with_reducible refine bel_drewN ?_ _ | (with_reducible refine bel_set ?_ ?_ _; rotate_left; ((try simp); (try omega))))))).mono ?_; rintro e w8 ⟨rfl, hb8⟩; have hW8 : Below w6.heap.size w6 w8 := bel_then (by repeat (first | with_reducible exact Below.refl _ _ | with_reducible assumption | with_reducible refine bel_alloc ?_ _ | with_reducible refine bel_drew ?_ | with_reducible refine bel_drewN ?_ _ | (with_reducible refine bel_set ?_ ?_ _; rotate_left; ((try simp); (try omega))))) hb8; clear hb8))
          try go_wp2_with fail
          refine hK.out _ _ ?_ (fun hHeld => ?_)
          · (try dsimp only)
            exact hS7 _ (by repeat (first | with_reducible exact Below.refl _ _ | with_reducible assumption | with_reducible refine bel_alloc ?_ _ | with_reducible refine bel_drew ?_ | with_reducible refine bel_drewN ?_ _ | (with_reducible refine bel_set ?_ ?_ _; rotate_left; ((try simp); (try omega)))))
          clear hK K
          try simp only [Act.put, List.setIfInBounds_toArray, List.set_cons_zero, List.set_cons_succ]
          refine take_read (i := 10) 49 (v := ?x3_v10) rfl rfl (by kernel_rfl) (by kernel_rfl) (by kernel_rfl) (fun _ _ _ h => h) (by rfl) ?x3_hy10 (by assumption) ?x3_rest10
          case x3_hy10 => (intro w hSw; (try dsimp only at hSw); go_simp; (try with_reducible rfl))
          try simp only [Act.put, List.setIfInBounds_toArray, List.set_cons_zero, List.set_cons_succ]
          refine take_read (i := 11) 50 (v := ?x3_v11) rfl rfl (by kernel_rfl) (by kernel_rfl) (by kernel_rfl) (fun _ _ _ h => h) (by rfl) ?x3_hy11 (by assumption) ?x3_rest11
          case x3_hy11 => (intro w hSw; (try dsimp only at hSw); go_simp; (try with_reducible rfl))
          try simp only [Act.put, List.setIfInBounds_toArray, List.set_cons_zero, List.set_cons_succ]
          refine take_read (i := 12) 51 (v := ?x3_v12) rfl rfl (by kernel_rfl) (by kernel_rfl) (by kernel_rfl) (fun _ _ _ h => h) (by rfl) ?x3_hy12 (by assumption) ?x3_rest12
          case x3_hy12 => (intro w hSw; (try dsimp only at hSw); go_simp; (try with_reducible rfl))
          try simp only [Act.put, List.setIfInBounds_toArray, List.set_cons_zero, List.set_cons_succ]
          refine take_read (i := 13) 52 (v := ?x3_v13) rfl rfl (by kernel_rfl) (by kernel_rfl) (by kernel_rfl) (fun _ _ _ h => h) (by rfl) ?x3_hy13 (by assumption) ?x3_rest13
          case x3_hy13 => (intro w hSw; (try dsimp only at hSw); go_simp; (try with_reducible rfl))
          try simp only [Act.put, List.setIfInBounds_toArray, List.set_cons_zero, List.set_cons_succ]
          refine take_read (i := 14) 53 (v := ?x3_v14) rfl rfl (by kernel_rfl) (by kernel_rfl) (by kernel_rfl) (fun _ _ _ h => h) (by rfl) ?x3_hy14 (by assumption) ?x3_rest14
          case x3_hy14 => (intro w hSw; (try dsimp only at hSw); go_simp; (try with_reducible rfl))
          try simp only [Act.put, List.setIfInBounds_toArray, List.set_cons_zero, List.set_cons_succ]
          refine take_read (i := 15) 54 (v := ?x3_v15) rfl rfl (by kernel_rfl) (by kernel_rfl) (by kernel_rfl) (fun _ _ _ h => h) (by rfl) ?x3_hy15 (by assumption) ?x3_rest15
          case x3_hy15 => (intro w hSw; (try dsimp only at hSw); go_simp; (try with_reducible rfl))
          try simp only [Act.put, List.setIfInBounds_toArray, List.set_cons_zero, List.set_cons_succ]
          refine take_read (i := 16) 55 (v := ?x3_v16) rfl rfl (by kernel_rfl) (by kernel_rfl) (by kernel_rfl) (fun _ _ _ h => h) (by rfl) ?x3_hy16 (by assumption) ?x3_rest16
          case x3_hy16 => (intro w hSw; (try dsimp only at hSw); go_simp; (try with_reducible rfl))
          try simp only [Act.put, List.setIfInBounds_toArray, List.set_cons_zero, List.set_cons_succ]
          refine take_skip (i := 17) 56 rfl rfl (by kernel_rfl) (by kernel_rfl) (by kernel_rfl) (fun _ _ _ h => h) (by rfl) (by assumption) ?_
          try simp only [Act.put, List.setIfInBounds_toArray, List.set_cons_zero, List.set_cons_succ]
          refine take_skip (i := 18) 57 rfl rfl (by kernel_rfl) (by kernel_rfl) (by kernel_rfl) (fun _ _ _ h => h) (by rfl) (by assumption) ?_
          try simp only [Act.put, List.setIfInBounds_toArray, List.set_cons_zero, List.set_cons_succ]
          refine take_skip (i := 19) 58 rfl rfl (by kernel_rfl) (by kernel_rfl) (by kernel_rfl) (fun _ _ _ h => h) (by rfl) (by assumption) ?_
          try simp only [Act.put, List.setIfInBounds_toArray, List.set_cons_zero, List.set_cons_succ]
          refine take_skip (i := 20) 59 rfl rfl (by kernel_rfl) (by kernel_rfl) (by kernel_rfl) (fun _ _ _ h => h) (by rfl) (by assumption) ?_
          try simp only [Act.put, List.setIfInBounds_toArray, List.set_cons_zero, List.set_cons_succ]
          refine take_skip (i := 21) 60 rfl rfl (by kernel_rfl) (by kernel_rfl) (by kernel_rfl) (fun _ _ _ h => h) (by rfl) (by assumption) ?_
          try simp only [Act.put, List.setIfInBounds_toArray, List.set_cons_zero, List.set_cons_succ]
          refine take_skip (i := 22) 61 rfl rfl (by kernel_rfl) (by kernel_rfl) (by kernel_rfl) (fun _ _ _ h => h) (by rfl) (by assumption) ?_
          try simp only [Act.put, List.setIfInBounds_toArray, List.set_cons_zero, List.set_cons_succ]
          refine take_skip (i := 23) 62 rfl rfl (by kernel_rfl) (by kernel_rfl) (by kernel_rfl) (fun _ _ _ h => h) (by rfl) (by assumption) ?_
          try simp only [Act.put, List.setIfInBounds_toArray, List.set_cons_zero, List.set_cons_succ]
          refine take_skip (i := 24) 63 rfl rfl (by kernel_rfl) (by kernel_rfl) (by kernel_rfl) (fun _ _ _ h => h) (by rfl) (by assumption) ?_
          try simp only [Act.put, List.setIfInBounds_toArray, List.set_cons_zero, List.set_cons_succ]
          refine take_skip (i := 25) 64 rfl rfl (by kernel_rfl) (by kernel_rfl) (by kernel_rfl) (fun _ _ _ h => h) (by rfl) (by assumption) ?_
          try simp only [Act.put, List.setIfInBounds_toArray, List.set_cons_zero, List.set_cons_succ]
          refine take_skip (i := 26) 65 rfl rfl (by kernel_rfl) (by kernel_rfl) (by kernel_rfl) (fun _ _ _ h => h) (by rfl) (by assumption) ?_
          try simp only [Act.put, List.setIfInBounds_toArray, List.set_cons_zero, List.set_cons_succ]
          refine take_skip (i := 27) 66 rfl rfl (by kernel_rfl) (by kernel_rfl) (by kernel_rfl) (fun _ _ _ h => h) (by rfl) (by assumption) ?_
          try simp only [Act.put, List.setIfInBounds_toArray, List.set_cons_zero, List.set_cons_succ]
          refine take_skip (i := 28) 67 rfl rfl (by kernel_rfl) (by kernel_rfl) (by kernel_rfl) (fun _ _ _ h => h) (by rfl) (by assumption) ?_
          try simp only [Act.put, List.setIfInBounds_toArray, List.set_cons_zero, List.set_cons_succ]
          refine take_skip (i := 29) 68 rfl rfl (by kernel_rfl) (by kernel_rfl) (by kernel_rfl) (fun _ _ _ h => h) (by rfl) (by assumption) ?_
          try simp only [Act.put, List.setIfInBounds_toArray, List.set_cons_zero, List.set_cons_succ]
          refine take_skip (i := 30) 69 rfl rfl (by kernel_rfl) (by kernel_rfl) (by kernel_rfl) (fun _ _ _ h => h) (by rfl) (by assumption) ?_
          try simp only [Act.put, List.setIfInBounds_toArray, List.set_cons_zero, List.set_cons_succ]
          refine take_read (i := 31) 70 (v := ?x3_v31) rfl rfl (by kernel_rfl) (by kernel_rfl) (by kernel_rfl) (fun _ _ _ h => h) (by rfl) ?x3_hy31 (by assumption) ?x3_rest31
          case x3_hy31 => (intro w hSw; (try dsimp only at hSw); go_simp; (try with_reducible rfl))
          try simp only [Act.put, List.setIfInBounds_toArray, List.set_cons_zero, List.set_cons_succ]
          refine take_read (i := 32) 71 (v := ?x3_v32) rfl rfl (by kernel_rfl) (by kernel_rfl) (by kernel_rfl) (fun _ _ _ h => h) (by rfl) ?x3_hy32 (by assumption) ?x3_rest32
          case x3_hy32 => (intro w hSw; (try dsimp only at hSw); go_simp; (try with_reducible rfl))
          try simp only [Act.put, List.setIfInBounds_toArray, List.set_cons_zero, List.set_cons_succ]
          refine wpAnyH_done (by kernel_rfl) ?_ _
          go_wp2_with fail
          go_meet
          case rel => exact ⟨rfl, (by repeat (first | with_reducible exact Below.refl _ _ | with_reducible assumption | with_reducible refine bel_alloc ?_ _ | with_reducible refine bel_drew ?_ | with_reducible refine bel_drewN ?_ _ | (with_reducible refine bel_set ?_ ?_ _; rotate_left; ((try simp); (try omega)))))⟩
        · obtain rfl := hhit rfl rfl
          clear hhit hmiss
          simp only at hS7
          obtain ⟨b, hb⟩ : ∃ b, bodyOf ⟨nm, ver, fs, sh⟩ pa n = b := ⟨_, rfl⟩
          rw [hb] at HC hS7 HYB
          simp only at HYB
          clear hb
          have hnn : (n != n) = false := by simp
          refine wp_region_held_drew (S := (fun w9 => w9.cell? ⟨sb, 0, none⟩ = some (.string nm) ∧ w9.cell? ⟨sb, 1, none⟩ = some (.int .i64 ver) ∧ w9.cell? ⟨sb, 2, none⟩ = some (.slice A2 fs.length cp2) ∧ w9.cell? ⟨sb, 3, none⟩ = some (.bool sh) ∧ w9.cell? ⟨xb, 0, none⟩ = some (.int .i64 1) ∧ w9.cell? ⟨xb, 1, none⟩ = some (.int .i64 200) ∧ w9.cell? ⟨xb, 2, none⟩ = some (.int .i64 n) ∧ w9.cell? ⟨xb, 3, none⟩ = some (.slice Y b.length cy) ∧ w9.cell? ⟨xb, 4, none⟩ = some (.bool sh))) (by kernel_rfl) (by (try dsimp only); exact hS7 _ (by repeat (first | with_reducible exact Below.refl _ _ | with_reducible assumption | with_reducible refine bel_alloc ?_ _ | with_reducible refine bel_drew ?_ | with_reducible refine bel_drewN ?_ _ | (with_reducible refine bel_set ?_ ?_ _; rotate_left; ((try simp); (try omega)))))) (fun hHeld => ?_)
          refine take_read (i := 0) 39 (v := ?x4_v0) rfl rfl (by kernel_rfl) (by kernel_rfl) (by kernel_rfl) (fun _ _ _ h => h) (by rfl) ?x4_hy0 (by assumption) ?x4_rest0
          case x4_hy0 => (intro w hSw; (try dsimp only at hSw); go_simp; (try with_reducible rfl))
          try simp only [Act.put, List.setIfInBounds_toArray, List.set_cons_zero, List.set_cons_succ]
          refine take_read (i := 1) 40 (v := ?x4_v1) rfl rfl (by kernel_rfl) (by kernel_rfl) (by kernel_rfl) (fun _ _ _ h => h) (by rfl) ?x4_hy1 (by assumption) ?x4_rest1
          case x4_hy1 => (intro w hSw; (try dsimp only at hSw); go_simp; (try with_reducible rfl))
          try simp only [Act.put, List.setIfInBounds_toArray, List.set_cons_zero, List.set_cons_succ]
          refine take_read (i := 2) 41 (v := ?x4_v2) rfl rfl (by kernel_rfl) (by kernel_rfl) (by kernel_rfl) (fun _ _ _ h => h) (by rfl) ?x4_hy2 (by assumption) ?x4_rest2
          case x4_hy2 => (intro w hSw; (try dsimp only at hSw); go_simp; (try with_reducible rfl))
          try simp only [Act.put, List.setIfInBounds_toArray, List.set_cons_zero, List.set_cons_succ]
          refine take_read (i := 3) 42 (v := ?x4_v3) rfl rfl (by kernel_rfl) (by kernel_rfl) (by kernel_rfl) (fun _ _ _ h => h) (by rfl) ?x4_hy3 (by assumption) ?x4_rest3
          case x4_hy3 => (intro w hSw; (try dsimp only at hSw); go_simp; (try with_reducible rfl))
          try simp only [Act.put, List.setIfInBounds_toArray, List.set_cons_zero, List.set_cons_succ]
          refine take_read (i := 4) 43 (v := ?x4_v4) rfl rfl (by kernel_rfl) (by kernel_rfl) (by kernel_rfl) (fun _ _ _ h => h) (by rfl) ?x4_hy4 (by assumption) ?x4_rest4
          case x4_hy4 => (intro w hSw; (try dsimp only at hSw); go_simp; (try with_reducible rfl))
          try simp only [Act.put, List.setIfInBounds_toArray, List.set_cons_zero, List.set_cons_succ]
          refine wpAnyH_ready (rs := [5]) (by kernel_rfl) (by simp) ?_
          refine AllReadyH.cons rfl (fun K hK => ?_) AllReadyH.nil
          go_simp
          (first | (go_at_call 30; refine (HC.out.2.2.1 _ (bel_then hB6 (by repeat (first | with_reducible exact Below.refl _ _ | with_reducible assumption | with_reducible refine bel_alloc ?_ _ | with_reducible refine bel_drew ?_ | with_reducible refine bel_drewN ?_ _ | (with_reducible refine bel_set ?_ ?_ _; rotate_left; ((try simp); (try omega))))))).mono ?_; rintro e w7 ⟨rfl, hb7⟩; have hW7 : Below w6.heap.size w6 w7 := bel_then (by repeat (first | with_reducible exact Below.refl _ _ | with_reducible assumption | with_reducible refine bel_alloc ?_ _ | with_reducible refine bel_drew ?_ | with_reducible refine bel_drewN ?_ _ | (with_reducible refine bel_set ?_ ?_ _; rotate_left; ((try simp); (try omega))))) hb7; clear hb7) | (go_at_call 31; refine (HC.out.2.2.2.1 _ (bel_then hB6 (by repeat (first | with_reducible exact Below.refl _ _ | with_reducible assumption | with_reducible refine bel_alloc ?_ _ | with_reducible refine bel_drew ?_ | with_reducible refine bel_drewN ?_ _ | (with_reducible refine bel_set ?_ ?_ _; rotate_left; ((try simp); (try omega))))))).mono ?_; rintro e w8 ⟨rfl, hb8⟩; have hW8 : Below w6.heap.size w6 w8 := bel_then (by repeat (first | with_reducible exact Below.refl _ _ | with_reducible assumption | with_reducible refine bel_alloc ?_ _ | with_reducible refine bel_drew ?_ | with_reducible refine bel_drewN ?_ _ | (with_reducible refine bel_set ?_ ?_ _; rotate_left; ((try simp); (try omega))))) hb8; clear hb8) | (go_at_call 33; refine (HC.out.2.2.2.2 _ (bel_then hB6 (by repeat (first | with_reducible exact Below.refl _ _ | with_reducible assumption | with_reducible refine bel_alloc ?_ _ | with_reducible refine bel_drew ?_ | with_reducible refine bel_drewN ?_ _ | (with_reducible refine bel_set ?_ ?_ _; rotate_left; ((try simp); (try omega))))))).mono ?_; rintro e wb ⟨vb, Fb, rfl, hbb, hrb, -⟩; obtain ⟨Bb, cb, rfl⟩ := cL_form hrb; have hWb : Below w6.heap.size w6 wb := bel_then (by repeat (first | with_reducible exact Below.refl _ _ | with_reducible assumption | with_reducible refine bel_alloc ?_ _ | with_reducible refine bel_drew ?_ | with_reducible refine bel_drewN ?_ _ | (with_reducible refine bel_set ?_ ?_ _; rotate_left; ((try simp); (try omega))))) hbb; clear hbb) | (go_at_call 32; refine (sameBytes_any _ _ b b _ _ _ (by exact HYB.out _ (bel_then hB6 (by repeat (first | with_reducible exact Below.refl _ _ | with_reducible assumption | with_reducible refine bel_alloc ?_ _ | with_reducible refine bel_drew ?_ | with_reducible refine bel_drewN ?_ _ | (with_reducible refine bel_set ?_ ?_ _; rotate_left; ((try simp); (try omega))))))) (by exact Cod.bel hrb (by repeat (first | with_reducible exact Below.refl _ _ | with_reducible assumption | with_reducible refine bel_alloc ?_ _ | with_reducible refine bel_drew ?_ | with_reducible refine bel_drewN ?_ _ | (with_reducible refine bel_set ?_ ?_ _; rotate_left; ((try simp); (try omega))))))).mono ?_; rw [show bytesEq b b = true by simp [bytesEq_eq]]; rintro e ws ⟨rfl, hbs⟩; have hWs : Below w6.heap.size w6 ws := bel_then (by repeat (first | with_reducible exact Below.refl _ _ | with_reducible assumption | with_reducible refine bel_alloc ?_ _ | with_reducible refine bel_drew ?_ | with_reducible refine bel_drewN ?_ _ | (with_reducible refine bel_set ?_ ?_ _; rotate_left; ((try simp); (try omega))))) hbs; clear hbs hrb))
          try go_wp2_with fail
          refine hK.out _ _ ?_ (fun hHeld => ?_)
          · (try dsimp only)
            exact hS7 _ (by repeat (first | with_reducible exact Below.refl _ _ | with_reducible assumption | with_reducible refine bel_alloc ?_ _ | with_reducible refine bel_drew ?_ | with_reducible refine bel_drewN ?_ _ | (with_reducible refine bel_set ?_ ?_ _; rotate_left; ((try simp); (try omega)))))
          clear hK K
          try simp only [Act.put, List.setIfInBounds_toArray, List.set_cons_zero, List.set_cons_succ]
          refine take_read (i := 6) 45 (v := ?x4_v6) rfl rfl (by kernel_rfl) (by kernel_rfl) (by kernel_rfl) (fun _ _ _ h => h) (by rfl) ?x4_hy6 (by assumption) ?x4_rest6
          case x4_hy6 => (intro w hSw; (try dsimp only at hSw); go_simp; (try with_reducible rfl))
          try simp only [Act.put, List.setIfInBounds_toArray, List.set_cons_zero, List.set_cons_succ]
          refine take_read (i := 7) 46 (v := ?x4_v7) rfl rfl (by kernel_rfl) (by kernel_rfl) (by kernel_rfl) (fun _ _ _ h => h) (by rfl) ?x4_hy7 (by assumption) ?x4_rest7
          case x4_hy7 => (intro w hSw; (try dsimp only at hSw); go_simp; (try with_reducible rfl))
          try simp only [Act.put, List.setIfInBounds_toArray, List.set_cons_zero, List.set_cons_succ]
          refine take_read (i := 8) 47 (v := ?x4_v8) rfl rfl (by kernel_rfl) (by kernel_rfl) (by kernel_rfl) (fun _ _ _ h => h) (by rfl) ?x4_hy8 (by assumption) ?x4_rest8
          case x4_hy8 => (intro w hSw; (try dsimp only at hSw); go_simp; (try with_reducible rfl))
          try simp only [Act.put, List.setIfInBounds_toArray, List.set_cons_zero, List.set_cons_succ]
          refine wpAnyH_ready (rs := [9]) (by kernel_rfl) (by simp) ?_
          refine AllReadyH.cons rfl (fun K hK => ?_) AllReadyH.nil
          go_simp
          (first | (go_at_call 30; refine (HC.out.2.2.1 _ (bel_then hB6 (by repeat (first | with_reducible exact Below.refl _ _ | with_reducible assumption | with_reducible refine bel_alloc ?_ _ | with_reducible refine bel_drew ?_ | with_reducible refine bel_drewN ?_ _ | (with_reducible refine bel_set ?_ ?_ _; rotate_left; ((try simp); (try omega))))))).mono ?_; rintro e w7 ⟨rfl, hb7⟩; have hW7 : Below w6.heap.size w6 w7 := bel_then (by repeat (first | with_reducible exact Below.refl _ _ | with_reducible assumption | with_reducible refine bel_alloc ?_ _ | with_reducible refine bel_drew ?_ | with_reducible refine bel_drewN ?_ _ | (with_reducible refine bel_set ?_ ?_ _; rotate_left; ((try simp); (try omega))))) hb7; clear hb7) | (go_at_call 31; refine (HC.out.2.2.2.1 _ (bel_then hB6 (by repeat (first | with_reducible exact Below.refl _ _ | with_reducible assumption | with_reducible refine bel_alloc ?_ _ | with_reducible refine bel_drew ?_ | with_reducible refine bel_drewN ?_ _ | (with_reducible refine bel_set ?_ ?_ _; rotate_left; ((try simp); (try omega))))))).mono ?_; rintro e w8 ⟨rfl, hb8⟩; have hW8 : Below w6.heap.size w6 w8 := bel_then (by repeat (first | with_reducible exact Below.refl _ _ | with_reducible assumption | with_reducible refine bel_alloc ?_ _ | with_reducible refine bel_drew ?_ | with_reducible refine bel_drewN ?_ _ | (with_reducible refine bel_set ?_ ?_ _; rotate_left; ((try simp); (try omega))))) hb8; clear hb8) | (go_at_call 33; refine (HC.out.2.2.2.2 _ (bel_then hB6 (by repeat (first | with_reducible exact Below.refl _ _ | with_reducible assumption | with_reducible refine bel_alloc ?_ _ | with_reducible refine bel_drew ?_ | with_reducible refine bel_drewN ?_ _ | (with_reducible refine bel_set ?_ ?_ _; rotate_left; ((try simp); (try omega))))))).mono ?_; rintro e wb ⟨vb, Fb, rfl, hbb, hrb, -⟩; obtain ⟨Bb, cb, rfl⟩ := cL_form hrb; have hWb : Below w6.heap.size w6 wb := bel_then (by repeat (first | with_reducible exact Below.refl _ _ | with_reducible assumption | with_reducible refine bel_alloc ?_ _ | with_reducible refine bel_drew ?_ | with_reducible refine bel_drewN ?_ _ | (with_reducible refine bel_set ?_ ?_ _; rotate_left; ((try simp); (try omega))))) hbb; clear hbb) | (go_at_call 32; refine (sameBytes_any _ _ b b _ _ _ (by exact HYB.out _ (bel_then hB6 (by repeat (first | with_reducible exact Below.refl _ _ | with_reducible assumption | with_reducible refine bel_alloc ?_ _ | with_reducible refine bel_drew ?_ | with_reducible refine bel_drewN ?_ _ | (with_reducible refine bel_set ?_ ?_ _; rotate_left; ((try simp); (try omega))))))) (by exact Cod.bel hrb (by repeat (first | with_reducible exact Below.refl _ _ | with_reducible assumption | with_reducible refine bel_alloc ?_ _ | with_reducible refine bel_drew ?_ | with_reducible refine bel_drewN ?_ _ | (with_reducible refine bel_set ?_ ?_ _; rotate_left; ((try simp); (try omega))))))).mono ?_; rw [show bytesEq b b = true by simp [bytesEq_eq]]; rintro e ws ⟨rfl, hbs⟩; have hWs : Below w6.heap.size w6 ws := bel_then (by repeat (first | with_reducible exact Below.refl _ _ | with_reducible assumption | with_reducible refine bel_alloc ?_ _ | with_reducible refine bel_drew ?_ | with_reducible refine bel_drewN ?_ _ | (with_reducible refine bel_set ?_ ?_ _; rotate_left; ((try simp); (try omega))))) hbs; clear hbs hrb))
          try go_wp2_with fail
          refine hK.out _ _ ?_ (fun hHeld => ?_)
          · (try dsimp only)
            exact hS7 _ (by repeat (first | with_reducible exact Below.refl _ _ | with_reducible assumption | with_reducible refine bel_alloc ?_ _ | with_reducible refine bel_drew ?_ | with_reducible refine bel_drewN ?_ _ | (with_reducible refine bel_set ?_ ?_ _; rotate_left; ((try simp); (try omega)))))
          clear hK K
          try simp only [Act.put, List.setIfInBounds_toArray, List.set_cons_zero, List.set_cons_succ]
          refine take_read (i := 10) 49 (v := ?x4_v10) rfl rfl (by kernel_rfl) (by kernel_rfl) (by kernel_rfl) (fun _ _ _ h => h) (by rfl) ?x4_hy10 (by assumption) ?x4_rest10
          case x4_hy10 => (intro w hSw; (try dsimp only at hSw); go_simp; (try with_reducible rfl))
          try simp only [Act.put, List.setIfInBounds_toArray, List.set_cons_zero, List.set_cons_succ]
          refine take_read (i := 11) 50 (v := ?x4_v11) rfl rfl (by kernel_rfl) (by kernel_rfl) (by kernel_rfl) (fun _ _ _ h => h) (by rfl) ?x4_hy11 (by assumption) ?x4_rest11
          case x4_hy11 => (intro w hSw; (try dsimp only at hSw); go_simp; (try with_reducible rfl))
          try simp only [Act.put, List.setIfInBounds_toArray, List.set_cons_zero, List.set_cons_succ]
          refine take_read (i := 12) 51 (v := ?x4_v12) rfl rfl (by kernel_rfl) (by kernel_rfl) (by kernel_rfl) (fun _ _ _ h => h) (by rfl) ?x4_hy12 (by assumption) ?x4_rest12
          case x4_hy12 => (intro w hSw; (try dsimp only at hSw); go_simp; (try with_reducible rfl))
          try simp only [Act.put, List.setIfInBounds_toArray, List.set_cons_zero, List.set_cons_succ]
          refine take_read (i := 13) 52 (v := ?x4_v13) rfl rfl (by kernel_rfl) (by kernel_rfl) (by kernel_rfl) (fun _ _ _ h => h) (by rfl) ?x4_hy13 (by assumption) ?x4_rest13
          case x4_hy13 => (intro w hSw; (try dsimp only at hSw); go_simp; (try with_reducible rfl))
          try simp only [Act.put, List.setIfInBounds_toArray, List.set_cons_zero, List.set_cons_succ]
          refine take_read (i := 14) 53 (v := ?x4_v14) rfl rfl (by kernel_rfl) (by kernel_rfl) (by kernel_rfl) (fun _ _ _ h => h) (by rfl) ?x4_hy14 (by assumption) ?x4_rest14
          case x4_hy14 => (intro w hSw; (try dsimp only at hSw); go_simp; (try with_reducible rfl))
          try simp only [Act.put, List.setIfInBounds_toArray, List.set_cons_zero, List.set_cons_succ]
          refine take_read (i := 15) 54 (v := ?x4_v15) rfl rfl (by kernel_rfl) (by kernel_rfl) (by kernel_rfl) (fun _ _ _ h => h) (by rfl) ?x4_hy15 (by assumption) ?x4_rest15
          case x4_hy15 => (intro w hSw; (try dsimp only at hSw); go_simp; (try with_reducible rfl))
          try simp only [Act.put, List.setIfInBounds_toArray, List.set_cons_zero, List.set_cons_succ]
          refine take_read (i := 16) 55 (v := ?x4_v16) rfl rfl (by kernel_rfl) (by kernel_rfl) (by kernel_rfl) (fun _ _ _ h => h) (by rfl) ?x4_hy16 (by assumption) ?x4_rest16
          case x4_hy16 => (intro w hSw; (try dsimp only at hSw); go_simp; (try with_reducible rfl))
          try simp only [Act.put, List.setIfInBounds_toArray, List.set_cons_zero, List.set_cons_succ]
          refine take_read (i := 17) 56 (v := ?x4_v17) rfl rfl (by kernel_rfl) (by kernel_rfl) (by kernel_rfl) (fun _ _ _ h => h) (by rfl) ?x4_hy17 (by assumption) ?x4_rest17
          case x4_hy17 => (intro w hSw; (try dsimp only at hSw); go_simp; (try with_reducible rfl))
          try simp only [Act.put, List.setIfInBounds_toArray, List.set_cons_zero, List.set_cons_succ]
          refine take_read (i := 18) 57 (v := ?x4_v18) rfl rfl (by kernel_rfl) (by kernel_rfl) (by kernel_rfl) (fun _ _ _ h => h) (by rfl) ?x4_hy18 (by assumption) ?x4_rest18
          case x4_hy18 => (intro w hSw; (try dsimp only at hSw); go_simp; (try with_reducible rfl))
          try simp only [Act.put, List.setIfInBounds_toArray, List.set_cons_zero, List.set_cons_succ]
          refine take_read (i := 19) 58 (v := ?x4_v19) rfl rfl (by kernel_rfl) (by kernel_rfl) (by kernel_rfl) (fun _ _ _ h => h) (by rfl) ?x4_hy19 (by assumption) ?x4_rest19
          case x4_hy19 => (intro w hSw; (try dsimp only at hSw); go_simp; (try with_reducible rfl))
          try simp only [Act.put, List.setIfInBounds_toArray, List.set_cons_zero, List.set_cons_succ]
          refine take_read (i := 20) 59 (v := ?x4_v20) rfl rfl (by kernel_rfl) (by kernel_rfl) (by kernel_rfl) (fun _ _ _ h => h) (by rfl) ?x4_hy20 (by assumption) ?x4_rest20
          case x4_hy20 => (intro w hSw; (try dsimp only at hSw); go_simp; (try with_reducible rfl))
          try simp only [Act.put, List.setIfInBounds_toArray, List.set_cons_zero, List.set_cons_succ]
          refine take_read (i := 21) 60 (v := ?x4_v21) rfl rfl (by kernel_rfl) (by kernel_rfl) (by kernel_rfl) (fun _ _ _ h => h) (by rfl) ?x4_hy21 (by assumption) ?x4_rest21
          case x4_hy21 => (intro w hSw; (try dsimp only at hSw); go_simp; (try with_reducible rfl))
          try simp only [Act.put, List.setIfInBounds_toArray, List.set_cons_zero, List.set_cons_succ]
          refine take_read (i := 22) 61 (v := ?x4_v22) rfl rfl (by kernel_rfl) (by kernel_rfl) (by kernel_rfl) (fun _ _ _ h => h) (by rfl) ?x4_hy22 (by assumption) ?x4_rest22
          case x4_hy22 => (intro w hSw; (try dsimp only at hSw); go_simp; (try with_reducible rfl))
          try simp only [Act.put, List.setIfInBounds_toArray, List.set_cons_zero, List.set_cons_succ]
          refine take_read (i := 23) 62 (v := ?x4_v23) rfl rfl (by kernel_rfl) (by kernel_rfl) (by kernel_rfl) (fun _ _ _ h => h) (by rfl) ?x4_hy23 (by assumption) ?x4_rest23
          case x4_hy23 => (intro w hSw; (try dsimp only at hSw); go_simp; (try with_reducible rfl))
          try simp only [Act.put, List.setIfInBounds_toArray, List.set_cons_zero, List.set_cons_succ]
          refine take_read (i := 24) 63 (v := ?x4_v24) rfl rfl (by kernel_rfl) (by kernel_rfl) (by kernel_rfl) (fun _ _ _ h => h) (by rfl) ?x4_hy24 (by assumption) ?x4_rest24
          case x4_hy24 => (intro w hSw; (try dsimp only at hSw); go_simp; (try with_reducible rfl))
          try simp only [Act.put, List.setIfInBounds_toArray, List.set_cons_zero, List.set_cons_succ]
          refine take_read (i := 25) 64 (v := ?x4_v25) rfl rfl (by kernel_rfl) (by kernel_rfl) (by kernel_rfl) (fun _ _ _ h => h) (by rfl) ?x4_hy25 (by assumption) ?x4_rest25
          case x4_hy25 => (intro w hSw; (try dsimp only at hSw); go_simp; (try with_reducible rfl))
          try simp only [Act.put, List.setIfInBounds_toArray, List.set_cons_zero, List.set_cons_succ]
          refine take_read (i := 26) 65 (v := ?x4_v26) rfl rfl (by kernel_rfl) (by kernel_rfl) (by kernel_rfl) (fun _ _ _ h => h) (by rfl) ?x4_hy26 (by assumption) ?x4_rest26
          case x4_hy26 => (intro w hSw; (try dsimp only at hSw); go_simp; (try with_reducible rfl))
          try simp only [Act.put, List.setIfInBounds_toArray, List.set_cons_zero, List.set_cons_succ]
          refine wpAnyH_ready (rs := [27]) (by kernel_rfl) (by simp) ?_
          refine AllReadyH.cons rfl (fun K hK => ?_) AllReadyH.nil
          go_simp
          (first | (go_at_call 30; refine (HC.out.2.2.1 _ (bel_then hB6 (by repeat (first | with_reducible exact Below.refl _ _ | with_reducible assumption | with_reducible refine bel_alloc ?_ _ | with_reducible refine bel_drew ?_ | with_reducible refine bel_drewN ?_ _ | (with_reducible refine bel_set ?_ ?_ _; rotate_left; ((try simp); (try omega))))))).mono ?_; rintro e w7 ⟨rfl, hb7⟩; have hW7 : Below w6.heap.size w6 w7 := bel_then (by repeat (first | with_reducible exact Below.refl _ _ | with_reducible assumption | with_reducible refine bel_alloc ?_ _ | with_reducible refine bel_drew ?_ | with_reducible refine bel_drewN ?_ _ | (with_reducible refine bel_set ?_ ?_ _; rotate_left; ((try simp); (try omega))))) hb7; clear hb7) | (go_at_call 31; refine (HC.out.2.2.2.1 _ (bel_then hB6 (by repeat (first | with_reducible exact Below.refl _ _ | with_reducible assumption | with_reducible refine bel_alloc ?_ _ | with_reducible refine bel_drew ?_ | with_reducible refine bel_drewN ?_ _ | (with_reducible refine bel_set ?_ ?_ _; rotate_left; ((try simp); (try omega))))))).mono ?_; rintro e w8 ⟨rfl, hb8⟩; have hW8 : Below w6.heap.size w6 w8 := bel_then (by repeat (first | with_reducible exact Below.refl _ _ | with_reducible assumption | with_reducible refine bel_alloc ?_ _ | with_reducible refine bel_drew ?_ | with_reducible refine bel_drewN ?_ _ | (with_reducible refine bel_set ?_ ?_ _; rotate_left; ((try simp); (try omega))))) hb8; clear hb8) | (go_at_call 33; refine (HC.out.2.2.2.2 _ (bel_then hB6 (by repeat (first | with_reducible exact Below.refl _ _ | with_reducible assumption | with_reducible refine bel_alloc ?_ _ | with_reducible refine bel_drew ?_ | with_reducible refine bel_drewN ?_ _ | (with_reducible refine bel_set ?_ ?_ _; rotate_left; ((try simp); (try omega))))))).mono ?_; rintro e wb ⟨vb, Fb, rfl, hbb, hrb, -⟩; obtain ⟨Bb, cb, rfl⟩ := cL_form hrb; have hWb : Below w6.heap.size w6 wb := bel_then (by repeat (first | with_reducible exact Below.refl _ _ | with_reducible assumption | with_reducible refine bel_alloc ?_ _ | with_reducible refine bel_drew ?_ | with_reducible refine bel_drewN ?_ _ | (with_reducible refine bel_set ?_ ?_ _; rotate_left; ((try simp); (try omega))))) hbb; clear hbb) | (go_at_call 32; refine (sameBytes_any _ _ b b _ _ _ (by exact HYB.out _ (bel_then hB6 (by repeat (first | with_reducible exact Below.refl _ _ | with_reducible assumption | with_reducible refine bel_alloc ?_ _ | with_reducible refine bel_drew ?_ | with_reducible refine bel_drewN ?_ _ | (with_reducible refine bel_set ?_ ?_ _; rotate_left; ((try simp); (try omega))))))) (by exact Cod.bel hrb (by repeat (first | with_reducible exact Below.refl _ _ | with_reducible assumption | with_reducible refine bel_alloc ?_ _ | with_reducible refine bel_drew ?_ | with_reducible refine bel_drewN ?_ _ | (with_reducible refine bel_set ?_ ?_ _; rotate_left; ((try simp); (try omega))))))).mono ?_; rw [show bytesEq b b = true by simp [bytesEq_eq]]; rintro e ws ⟨rfl, hbs⟩; have hWs : Below w6.heap.size w6 ws := bel_then (by repeat (first | with_reducible exact Below.refl _ _ | with_reducible assumption | with_reducible refine bel_alloc ?_ _ | with_reducible refine bel_drew ?_ | with_reducible refine bel_drewN ?_ _ | (with_reducible refine bel_set ?_ ?_ _; rotate_left; ((try simp); (try omega))))) hbs; clear hbs hrb))
          try go_wp2_with fail
          refine hK.out _ _ ?_ (fun hHeld => ?_)
          · (try dsimp only)
            exact hS7 _ (by repeat (first | with_reducible exact Below.refl _ _ | with_reducible assumption | with_reducible refine bel_alloc ?_ _ | with_reducible refine bel_drew ?_ | with_reducible refine bel_drewN ?_ _ | (with_reducible refine bel_set ?_ ?_ _; rotate_left; ((try simp); (try omega)))))
          clear hK K
          try simp only [Act.put, List.setIfInBounds_toArray, List.set_cons_zero, List.set_cons_succ]
          refine wpAnyH_ready (rs := [28]) (by kernel_rfl) (by simp) ?_
          refine AllReadyH.cons rfl (fun K hK => ?_) AllReadyH.nil
          go_simp
          (first | (go_at_call 30; refine (HC.out.2.2.1 _ (bel_then hB6 (by repeat (first | with_reducible exact Below.refl _ _ | with_reducible assumption | with_reducible refine bel_alloc ?_ _ | with_reducible refine bel_drew ?_ | with_reducible refine bel_drewN ?_ _ | (with_reducible refine bel_set ?_ ?_ _; rotate_left; ((try simp); (try omega))))))).mono ?_; rintro e w7 ⟨rfl, hb7⟩; have hW7 : Below w6.heap.size w6 w7 := bel_then (by repeat (first | with_reducible exact Below.refl _ _ | with_reducible assumption | with_reducible refine bel_alloc ?_ _ | with_reducible refine bel_drew ?_ | with_reducible refine bel_drewN ?_ _ | (with_reducible refine bel_set ?_ ?_ _; rotate_left; ((try simp); (try omega))))) hb7; clear hb7) | (go_at_call 31; refine (HC.out.2.2.2.1 _ (bel_then hB6 (by repeat (first | with_reducible exact Below.refl _ _ | with_reducible assumption | with_reducible refine bel_alloc ?_ _ | with_reducible refine bel_drew ?_ | with_reducible refine bel_drewN ?_ _ | (with_reducible refine bel_set ?_ ?_ _; rotate_left; ((try simp); (try omega))))))).mono ?_; rintro e w8 ⟨rfl, hb8⟩; have hW8 : Below w6.heap.size w6 w8 := bel_then (by repeat (first | with_reducible exact Below.refl _ _ | with_reducible assumption | with_reducible refine bel_alloc ?_ _ | with_reducible refine bel_drew ?_ | with_reducible refine bel_drewN ?_ _ | (with_reducible refine bel_set ?_ ?_ _; rotate_left; ((try simp); (try omega))))) hb8; clear hb8) | (go_at_call 33; refine (HC.out.2.2.2.2 _ (bel_then hB6 (by repeat (first | with_reducible exact Below.refl _ _ | with_reducible assumption | with_reducible refine bel_alloc ?_ _ | with_reducible refine bel_drew ?_ | with_reducible refine bel_drewN ?_ _ | (with_reducible refine bel_set ?_ ?_ _; rotate_left; ((try simp); (try omega))))))).mono ?_; rintro e wb ⟨vb, Fb, rfl, hbb, hrb, -⟩; obtain ⟨Bb, cb, rfl⟩ := cL_form hrb; have hWb : Below w6.heap.size w6 wb := bel_then (by repeat (first | with_reducible exact Below.refl _ _ | with_reducible assumption | with_reducible refine bel_alloc ?_ _ | with_reducible refine bel_drew ?_ | with_reducible refine bel_drewN ?_ _ | (with_reducible refine bel_set ?_ ?_ _; rotate_left; ((try simp); (try omega))))) hbb; clear hbb) | (go_at_call 32; refine (sameBytes_any _ _ b b _ _ _ (by exact HYB.out _ (bel_then hB6 (by repeat (first | with_reducible exact Below.refl _ _ | with_reducible assumption | with_reducible refine bel_alloc ?_ _ | with_reducible refine bel_drew ?_ | with_reducible refine bel_drewN ?_ _ | (with_reducible refine bel_set ?_ ?_ _; rotate_left; ((try simp); (try omega))))))) (by exact Cod.bel hrb (by repeat (first | with_reducible exact Below.refl _ _ | with_reducible assumption | with_reducible refine bel_alloc ?_ _ | with_reducible refine bel_drew ?_ | with_reducible refine bel_drewN ?_ _ | (with_reducible refine bel_set ?_ ?_ _; rotate_left; ((try simp); (try omega))))))).mono ?_; rw [show bytesEq b b = true by simp [bytesEq_eq]]; rintro e ws ⟨rfl, hbs⟩; have hWs : Below w6.heap.size w6 ws := bel_then (by repeat (first | with_reducible exact Below.refl _ _ | with_reducible assumption | with_reducible refine bel_alloc ?_ _ | with_reducible refine bel_drew ?_ | with_reducible refine bel_drewN ?_ _ | (with_reducible refine bel_set ?_ ?_ _; rotate_left; ((try simp); (try omega))))) hbs; clear hbs hrb))
          try go_wp2_with fail
          refine hK.out _ _ ?_ (fun hHeld => ?_)
          · (try dsimp only)
            exact hS7 _ (by repeat (first | with_reducible exact Below.refl _ _ | with_reducible assumption | with_reducible refine bel_alloc ?_ _ | with_reducible refine bel_drew ?_ | with_reducible refine bel_drewN ?_ _ | (with_reducible refine bel_set ?_ ?_ _; rotate_left; ((try simp); (try omega)))))
          clear hK K
          try simp only [Act.put, List.setIfInBounds_toArray, List.set_cons_zero, List.set_cons_succ]
          refine take_read (i := 29) 68 (v := ?x4_v29) rfl rfl (by kernel_rfl) (by kernel_rfl) (by kernel_rfl) (fun _ _ _ h => h) (by rfl) ?x4_hy29 (by assumption) ?x4_rest29
          case x4_hy29 => (intro w hSw; (try dsimp only at hSw); go_simp; (try with_reducible rfl))
          try simp only [Act.put, List.setIfInBounds_toArray, List.set_cons_zero, List.set_cons_succ]
          refine take_read (i := 30) 69 (v := ?x4_v30) rfl rfl (by kernel_rfl) (by kernel_rfl) (by kernel_rfl) (fun _ _ _ h => h) (by rfl) ?x4_hy30 (by assumption) ?x4_rest30
          case x4_hy30 => (intro w hSw; (try dsimp only at hSw); go_simp; (try with_reducible rfl))
          try simp only [Act.put, List.setIfInBounds_toArray, List.set_cons_zero, List.set_cons_succ]
          refine take_read (i := 31) 70 (v := ?x4_v31) rfl rfl (by kernel_rfl) (by kernel_rfl) (by kernel_rfl) (fun _ _ _ h => h) (by rfl) ?x4_hy31 (by assumption) ?x4_rest31
          case x4_hy31 => (intro w hSw; (try dsimp only at hSw); go_simp; (try with_reducible rfl))
          try simp only [Act.put, List.setIfInBounds_toArray, List.set_cons_zero, List.set_cons_succ]
          refine take_read (i := 32) 71 (v := ?x4_v32) rfl rfl (by kernel_rfl) (by kernel_rfl) (by kernel_rfl) (fun _ _ _ h => h) (by rfl) ?x4_hy32 (by assumption) ?x4_rest32
          case x4_hy32 => (intro w hSw; (try dsimp only at hSw); go_simp; (try with_reducible rfl))
          try simp only [Act.put, List.setIfInBounds_toArray, List.set_cons_zero, List.set_cons_succ]
          refine wpAnyH_done (by kernel_rfl) ?_ _
          go_wp2_with fail
          go_meet
          case rel => exact ⟨rfl, (by repeat (first | with_reducible exact Below.refl _ _ | with_reducible assumption | with_reducible refine bel_alloc ?_ _ | with_reducible refine bel_drew ?_ | with_reducible refine bel_drewN ?_ _ | (with_reducible refine bel_set ?_ ?_ _; rotate_left; ((try simp); (try omega)))))⟩
    case rest =>
      obtain ⟨rfl, hBc⟩ := hcut
      have hBc2 : Below W2.heap.size W2 wc := bel_then hB6 hBc
      have hzc := hBc2.size
      clear HYR HYB HC hhit hmiss hB6 hBc hz6 hW3 hW4 hW5 hW6 hHeld
      obtain ⟨q0, q1, q2, q3, -⟩ := hS wc hBc2
      go_wp2_with fail
      refine (implRelease_any _ ⟨nm, ver, fs, sh⟩ G _ (by exact HSR2.out _ hBc2) hsz).mono ?_
      have hsp := fun W9 hb => specRelease_any _ ⟨nm, ver, fs, sh⟩ G W9 (HSR2.out W9 hb) hsz
      have hrt := fun h9 => release_true (x := ⟨nm, ver, fs, sh⟩) h9
      have hrs := release_sz ⟨nm, ver, fs, sh⟩
      obtain ⟨q, hq⟩ : ∃ q, (release ⟨nm, ver, fs, sh⟩).1 = q := ⟨_, rfl⟩
      obtain ⟨ok, hok⟩ : ∃ ok, (release ⟨nm, ver, fs, sh⟩).2 = ok := ⟨_, rfl⟩
      rw [hq, hok]
      rw [hq, hok] at hsp hrt
      rw [hq] at hrs
      have HSP := Lib.hid (And.intro hsp hrt)
      clear hsp hrt
      rintro e w7 ⟨vs7, G7, rfl, hb7, hr7, hf7⟩
      obtain ⟨u7, F7, rfl, rfl, -, m7⟩ := TSite.outA hr7
      obtain ⟨A3, cp3, e3⟩ := cL_form m7
      subst e3
      have hz7 := hb7.size
      have hB7 : Below W2.heap.size W2 w7 := bel_then hBc2 hb7
      have HR7 := Lib.hid hr7
      clear hb7 hr7 hf7 m7 q0 q1 q2 q3
      go_upto_region 10 with (fail)
      obtain ⟨rb, hrb⟩ : ∃ rb, w7.heap.size = rb := ⟨_, rfl⟩
      generalize hW3 : World.alloc w7 _ = W3
      have hWs3 : W3.heap.size = rb + 1 := by rw [← hW3, ← hrb]; clear hW3 hrb; simp
      have hbW3 : Below w7.heap.size w7 W3 := by rw [← hW3]; exact bel_alloc (Below.refl _ _) _
      have HQ7 := Lib.hid (show SiteBox W3 rb q.name q.ver (.slice A3 q.files.length cp3) q.shared from by rw [← hW3, ← hrb]; exact SiteBox.new w7 _ _ _ _ _)
      have hB8 : Below W2.heap.size W2 W3 := bel_then hB7 hbW3
      have HR8 := Lib.hid (Cod.bel HR7.out hbW3)
      clear hW3 hbW3 HR7
      rw [hrb]
      have hrbx : xb < rb := by omega
      obtain ⟨q0, q1, q2, q3, -⟩ := hS W3 hB8
      go_wp2_with fail
      refine (HSP.out.1 _ hB8).mono ?_
      rintro e w8 ⟨vs8, G8, rfl, hb8, hr8, -⟩
      obtain ⟨u8, F8, rfl, rfl, -, m8⟩ := TSite.outA hr8
      obtain ⟨A4, cp4, e4⟩ := cL_form m8
      subst e4
      have hz8 := hb8.size
      have hB9 : Below W2.heap.size W2 w8 := bel_then hB8 hb8
      have HQ8 := Lib.hid (HQ7.out.block (hb8.block rb (by omega)))
      have HR9 := Lib.hid (Cod.bel HR8.out hb8)
      clear hb8 hr8 m8 HR8 HQ7 q0 q1 q2 q3
      go_upto_region 11 with (fail)
      generalize hW4 : World.alloc w8 _ = W4
      have hWs4 : W4.heap.size = w8.heap.size + 1 := by rw [← hW4]; clear hW4; simp
      have hbW4 : Below w8.heap.size w8 W4 := by rw [← hW4]; exact bel_alloc (Below.refl _ _) _
      have hB10 : Below W2.heap.size W2 W4 := bel_then hB9 hbW4
      have HQ9 := Lib.hid (HQ8.out.block (hbW4.block rb (by omega)))
      have HRR := Lib.hid (show ∀ W9, Below W4.heap.size W4 W9 → cSite.rep W9 [.string q.name, .int .i64 q.ver, .slice A3 q.files.length cp3, .bool q.shared] q G7 from fun W9 hb => Cod.bel HR9.out (bel_then hbW4 hb))
      clear hW4 hbW4 HR9 HQ8
      have hBw10 : Below w.heap.size w W4 := bel_then hBw2 hB10
      have h44 : Below W4.heap.size W4 W4 := Below.refl _ _
      cases ok
      · go_upto_region 13 with (fail)
        refine wp_region_held_drew (S := (fun _ => True)) (by kernel_rfl) (by (try dsimp only); (first | done | trivial)) (fun hHeld => ?_)
        refine take_read (i := 0) 85 (v := ?x5_v0) rfl rfl (by kernel_rfl) (by kernel_rfl) (by kernel_rfl) (fun _ _ _ h => h) (by rfl) ?x5_hy0 (by assumption) ?x5_rest0
        case x5_hy0 => (intro w hSw; (try dsimp only at hSw); go_simp; (try with_reducible rfl))
        try simp only [Act.put, List.setIfInBounds_toArray, List.set_cons_zero, List.set_cons_succ]
        refine take_read (i := 1) 86 (v := ?x5_v1) rfl rfl (by kernel_rfl) (by kernel_rfl) (by kernel_rfl) (fun _ _ _ h => h) (by rfl) ?x5_hy1 (by assumption) ?x5_rest1
        case x5_hy1 => (intro w hSw; (try dsimp only at hSw); go_simp; (try with_reducible rfl))
        try simp only [Act.put, List.setIfInBounds_toArray, List.set_cons_zero, List.set_cons_succ]
        refine take_read (i := 2) 87 (v := ?x5_v2) rfl rfl (by kernel_rfl) (by kernel_rfl) (by kernel_rfl) (fun _ _ _ h => h) (by rfl) ?x5_hy2 (by assumption) ?x5_rest2
        case x5_hy2 => (intro w hSw; (try dsimp only at hSw); go_simp; (try with_reducible rfl))
        try simp only [Act.put, List.setIfInBounds_toArray, List.set_cons_zero, List.set_cons_succ]
        refine take_skip (i := 3) 88 rfl rfl (by kernel_rfl) (by kernel_rfl) (by kernel_rfl) (fun _ _ _ h => h) (by rfl) (by assumption) ?_
        try simp only [Act.put, List.setIfInBounds_toArray, List.set_cons_zero, List.set_cons_succ]
        refine take_skip (i := 4) 89 rfl rfl (by kernel_rfl) (by kernel_rfl) (by kernel_rfl) (fun _ _ _ h => h) (by rfl) (by assumption) ?_
        try simp only [Act.put, List.setIfInBounds_toArray, List.set_cons_zero, List.set_cons_succ]
        refine take_skip (i := 5) 90 rfl rfl (by kernel_rfl) (by kernel_rfl) (by kernel_rfl) (fun _ _ _ h => h) (by rfl) (by assumption) ?_
        try simp only [Act.put, List.setIfInBounds_toArray, List.set_cons_zero, List.set_cons_succ]
        refine take_skip (i := 6) 91 rfl rfl (by kernel_rfl) (by kernel_rfl) (by kernel_rfl) (fun _ _ _ h => h) (by rfl) (by assumption) ?_
        try simp only [Act.put, List.setIfInBounds_toArray, List.set_cons_zero, List.set_cons_succ]
        refine take_skip (i := 7) 92 rfl rfl (by kernel_rfl) (by kernel_rfl) (by kernel_rfl) (fun _ _ _ h => h) (by rfl) (by assumption) ?_
        try simp only [Act.put, List.setIfInBounds_toArray, List.set_cons_zero, List.set_cons_succ]
        refine take_skip (i := 8) 93 rfl rfl (by kernel_rfl) (by kernel_rfl) (by kernel_rfl) (fun _ _ _ h => h) (by rfl) (by assumption) ?_
        try simp only [Act.put, List.setIfInBounds_toArray, List.set_cons_zero, List.set_cons_succ]
        refine take_skip (i := 9) 94 rfl rfl (by kernel_rfl) (by kernel_rfl) (by kernel_rfl) (fun _ _ _ h => h) (by rfl) (by assumption) ?_
        try simp only [Act.put, List.setIfInBounds_toArray, List.set_cons_zero, List.set_cons_succ]
        refine take_skip (i := 10) 95 rfl rfl (by kernel_rfl) (by kernel_rfl) (by kernel_rfl) (fun _ _ _ h => h) (by rfl) (by assumption) ?_
        try simp only [Act.put, List.setIfInBounds_toArray, List.set_cons_zero, List.set_cons_succ]
        refine take_skip (i := 11) 96 rfl rfl (by kernel_rfl) (by kernel_rfl) (by kernel_rfl) (fun _ _ _ h => h) (by rfl) (by assumption) ?_
        try simp only [Act.put, List.setIfInBounds_toArray, List.set_cons_zero, List.set_cons_succ]
        refine take_skip (i := 12) 97 rfl rfl (by kernel_rfl) (by kernel_rfl) (by kernel_rfl) (fun _ _ _ h => h) (by rfl) (by assumption) ?_
        try simp only [Act.put, List.setIfInBounds_toArray, List.set_cons_zero, List.set_cons_succ]
        refine take_skip (i := 13) 98 rfl rfl (by kernel_rfl) (by kernel_rfl) (by kernel_rfl) (fun _ _ _ h => h) (by rfl) (by assumption) ?_
        try simp only [Act.put, List.setIfInBounds_toArray, List.set_cons_zero, List.set_cons_succ]
        refine take_skip (i := 14) 99 rfl rfl (by kernel_rfl) (by kernel_rfl) (by kernel_rfl) (fun _ _ _ h => h) (by rfl) (by assumption) ?_
        try simp only [Act.put, List.setIfInBounds_toArray, List.set_cons_zero, List.set_cons_succ]
        refine take_skip (i := 15) 100 rfl rfl (by kernel_rfl) (by kernel_rfl) (by kernel_rfl) (fun _ _ _ h => h) (by rfl) (by assumption) ?_
        try simp only [Act.put, List.setIfInBounds_toArray, List.set_cons_zero, List.set_cons_succ]
        refine take_skip (i := 16) 101 rfl rfl (by kernel_rfl) (by kernel_rfl) (by kernel_rfl) (fun _ _ _ h => h) (by rfl) (by assumption) ?_
        try simp only [Act.put, List.setIfInBounds_toArray, List.set_cons_zero, List.set_cons_succ]
        refine take_skip (i := 17) 102 rfl rfl (by kernel_rfl) (by kernel_rfl) (by kernel_rfl) (fun _ _ _ h => h) (by rfl) (by assumption) ?_
        try simp only [Act.put, List.setIfInBounds_toArray, List.set_cons_zero, List.set_cons_succ]
        refine take_skip (i := 18) 103 rfl rfl (by kernel_rfl) (by kernel_rfl) (by kernel_rfl) (fun _ _ _ h => h) (by rfl) (by assumption) ?_
        try simp only [Act.put, List.setIfInBounds_toArray, List.set_cons_zero, List.set_cons_succ]
        refine take_skip (i := 19) 104 rfl rfl (by kernel_rfl) (by kernel_rfl) (by kernel_rfl) (fun _ _ _ h => h) (by rfl) (by assumption) ?_
        try simp only [Act.put, List.setIfInBounds_toArray, List.set_cons_zero, List.set_cons_succ]
        refine take_skip (i := 20) 105 rfl rfl (by kernel_rfl) (by kernel_rfl) (by kernel_rfl) (fun _ _ _ h => h) (by rfl) (by assumption) ?_
        try simp only [Act.put, List.setIfInBounds_toArray, List.set_cons_zero, List.set_cons_succ]
        refine take_skip (i := 21) 106 rfl rfl (by kernel_rfl) (by kernel_rfl) (by kernel_rfl) (fun _ _ _ h => h) (by rfl) (by assumption) ?_
        try simp only [Act.put, List.setIfInBounds_toArray, List.set_cons_zero, List.set_cons_succ]
        refine take_skip (i := 22) 107 rfl rfl (by kernel_rfl) (by kernel_rfl) (by kernel_rfl) (fun _ _ _ h => h) (by rfl) (by assumption) ?_
        try simp only [Act.put, List.setIfInBounds_toArray, List.set_cons_zero, List.set_cons_succ]
        refine take_skip (i := 23) 108 rfl rfl (by kernel_rfl) (by kernel_rfl) (by kernel_rfl) (fun _ _ _ h => h) (by rfl) (by assumption) ?_
        try simp only [Act.put, List.setIfInBounds_toArray, List.set_cons_zero, List.set_cons_succ]
        refine take_skip (i := 24) 109 rfl rfl (by kernel_rfl) (by kernel_rfl) (by kernel_rfl) (fun _ _ _ h => h) (by rfl) (by assumption) ?_
        try simp only [Act.put, List.setIfInBounds_toArray, List.set_cons_zero, List.set_cons_succ]
        refine take_skip (i := 25) 110 rfl rfl (by kernel_rfl) (by kernel_rfl) (by kernel_rfl) (fun _ _ _ h => h) (by rfl) (by assumption) ?_
        try simp only [Act.put, List.setIfInBounds_toArray, List.set_cons_zero, List.set_cons_succ]
        refine take_skip (i := 26) 111 rfl rfl (by kernel_rfl) (by kernel_rfl) (by kernel_rfl) (fun _ _ _ h => h) (by rfl) (by assumption) ?_
        try simp only [Act.put, List.setIfInBounds_toArray, List.set_cons_zero, List.set_cons_succ]
        refine take_skip (i := 27) 112 rfl rfl (by kernel_rfl) (by kernel_rfl) (by kernel_rfl) (fun _ _ _ h => h) (by rfl) (by assumption) ?_
        try simp only [Act.put, List.setIfInBounds_toArray, List.set_cons_zero, List.set_cons_succ]
        refine take_skip (i := 28) 113 rfl rfl (by kernel_rfl) (by kernel_rfl) (by kernel_rfl) (fun _ _ _ h => h) (by rfl) (by assumption) ?_
        try simp only [Act.put, List.setIfInBounds_toArray, List.set_cons_zero, List.set_cons_succ]
        refine take_skip (i := 29) 114 rfl rfl (by kernel_rfl) (by kernel_rfl) (by kernel_rfl) (fun _ _ _ h => h) (by rfl) (by assumption) ?_
        try simp only [Act.put, List.setIfInBounds_toArray, List.set_cons_zero, List.set_cons_succ]
        refine take_skip (i := 30) 115 rfl rfl (by kernel_rfl) (by kernel_rfl) (by kernel_rfl) (fun _ _ _ h => h) (by rfl) (by assumption) ?_
        try simp only [Act.put, List.setIfInBounds_toArray, List.set_cons_zero, List.set_cons_succ]
        refine take_skip (i := 31) 116 rfl rfl (by kernel_rfl) (by kernel_rfl) (by kernel_rfl) (fun _ _ _ h => h) (by rfl) (by assumption) ?_
        try simp only [Act.put, List.setIfInBounds_toArray, List.set_cons_zero, List.set_cons_succ]
        refine take_skip (i := 32) 117 rfl rfl (by kernel_rfl) (by kernel_rfl) (by kernel_rfl) (fun _ _ _ h => h) (by rfl) (by assumption) ?_
        try simp only [Act.put, List.setIfInBounds_toArray, List.set_cons_zero, List.set_cons_succ]
        refine take_skip (i := 33) 118 rfl rfl (by kernel_rfl) (by kernel_rfl) (by kernel_rfl) (fun _ _ _ h => h) (by rfl) (by assumption) ?_
        try simp only [Act.put, List.setIfInBounds_toArray, List.set_cons_zero, List.set_cons_succ]
        refine take_skip (i := 34) 119 rfl rfl (by kernel_rfl) (by kernel_rfl) (by kernel_rfl) (fun _ _ _ h => h) (by rfl) (by assumption) ?_
        try simp only [Act.put, List.setIfInBounds_toArray, List.set_cons_zero, List.set_cons_succ]
        refine take_skip (i := 35) 120 rfl rfl (by kernel_rfl) (by kernel_rfl) (by kernel_rfl) (fun _ _ _ h => h) (by rfl) (by assumption) ?_
        try simp only [Act.put, List.setIfInBounds_toArray, List.set_cons_zero, List.set_cons_succ]
        refine take_skip (i := 36) 121 rfl rfl (by kernel_rfl) (by kernel_rfl) (by kernel_rfl) (fun _ _ _ h => h) (by rfl) (by assumption) ?_
        try simp only [Act.put, List.setIfInBounds_toArray, List.set_cons_zero, List.set_cons_succ]
        refine take_read (i := 37) 122 (v := ?x5_v37) rfl rfl (by kernel_rfl) (by kernel_rfl) (by kernel_rfl) (fun _ _ _ h => h) (by rfl) ?x5_hy37 (by assumption) ?x5_rest37
        case x5_hy37 => (intro w hSw; (try dsimp only at hSw); go_simp; (try with_reducible rfl))
        try simp only [Act.put, List.setIfInBounds_toArray, List.set_cons_zero, List.set_cons_succ]
        refine take_read (i := 38) 2 (v := ?x5_v38) rfl rfl (by kernel_rfl) (by kernel_rfl) (by kernel_rfl) (fun _ _ _ h => h) (by rfl) ?x5_hy38 (by assumption) ?x5_rest38
        case x5_hy38 => (intro w hSw; (try dsimp only at hSw); go_simp; (try with_reducible rfl))
        try simp only [Act.put, List.setIfInBounds_toArray, List.set_cons_zero, List.set_cons_succ]
        refine wpAnyH_done (by kernel_rfl) ?_ _
        go_wp2_with fail
        go_ret
        exact ⟨rfl, (by repeat (first | with_reducible exact Below.refl _ _ | with_reducible assumption | with_reducible refine bel_alloc ?_ _ | with_reducible refine bel_drew ?_ | with_reducible refine bel_drewN ?_ _ | (with_reducible refine bel_set ?_ ?_ _; rotate_left; ((try simp); (try omega)))))⟩
      · obtain ⟨hqe, hv1, hv2, hs1, hs2⟩ := HSP.out.2 rfl
        obtain rfl := hqe
        (try simp only at hs1); (try simp only at hs2); (try simp only at hv1); (try simp only at hv2); (try simp only at hrs)
        have hrsz : cSite.sz ⟨nm, ver + 1, fs, sh⟩ ≤ 1048576 := by rw [hrs]; exact hsz
        have q4 := HQ9.out.c0; have q5 := HQ9.out.c1; have q6 := HQ9.out.c2; have q7 := HQ9.out.c3
        simp only at q4 q5 q6 q7
        obtain ⟨q0, q1, q2, q3, -⟩ := hS W4 hB10
        have hS9 : ∀ w9, Below W4.heap.size W4 w9 → w9.cell? ⟨sb, 0, none⟩ = some (.string nm) ∧ w9.cell? ⟨sb, 1, none⟩ = some (.int .i64 ver) ∧ w9.cell? ⟨sb, 2, none⟩ = some (.slice A2 fs.length cp2) ∧ w9.cell? ⟨sb, 3, none⟩ = some (.bool sh) ∧ w9.cell? ⟨rb, 0, none⟩ = some (.string nm) ∧ w9.cell? ⟨rb, 1, none⟩ = some (.int .i64 (ver + 1)) ∧ w9.cell? ⟨rb, 2, none⟩ = some (.slice A3 fs.length cp3) ∧ w9.cell? ⟨rb, 3, none⟩ = some (.bool sh) := fun w9 hb => ⟨(hb.cell (p := ⟨sb, 0, none⟩) (by (try simp); omega)).trans q0, (hb.cell (p := ⟨sb, 1, none⟩) (by (try simp); omega)).trans q1, (hb.cell (p := ⟨sb, 2, none⟩) (by (try simp); omega)).trans q2, (hb.cell (p := ⟨sb, 3, none⟩) (by (try simp); omega)).trans q3, (hb.cell (p := ⟨rb, 0, none⟩) (by (try simp); omega)).trans q4, (hb.cell (p := ⟨rb, 1, none⟩) (by (try simp); omega)).trans q5, (hb.cell (p := ⟨rb, 2, none⟩) (by (try simp); omega)).trans q6, (hb.cell (p := ⟨rb, 3, none⟩) (by (try simp); omega)).trans q7⟩
        clear q0 q1 q2 q3 q4 q5 q6 q7 hS
        have hc1 := fun W9 hb => implServesVersion_any _ ⟨nm, ver + 1, fs, sh⟩ G7 ver W9 (HRR.out W9 hb) hrsz (by omega)
        have hc2 := fun W9 hb => implServesVersion_any _ ⟨nm, ver + 1, fs, sh⟩ G7 (ver - 1) W9 (HRR.out W9 hb) hrsz (by omega)
        rw [hs1] at hc1
        rw [hs2] at hc2
        have hc3 := fun W9 hb => implBodyOf_any _ ⟨nm, ver, fs, sh⟩ G pa ver W9 (HSR2.out W9 (bel_then hB10 hb)) hsz (by omega) (by omega)
        have hc4 := fun W9 hb => implBodyOf_any _ ⟨nm, ver, fs, sh⟩ G pa (ver + 1) W9 (HSR2.out W9 (bel_then hB10 hb)) hsz (by omega) (by omega)
        have hbn := bodyOf_next ⟨nm, ver, fs, sh⟩ pa ver ⟨hv1, by omega⟩
        generalize bodyOf ⟨nm, ver, fs, sh⟩ pa ver = b1 at *
        generalize bodyOf ⟨nm, ver, fs, sh⟩ pa (ver + 1) = b2 at *
        have hwp : IntKind.i64.wrap (ver + 1) = ver + 1 := IntWalk.i64_in _ (by omega)
        have hwm : IntKind.i64.wrap (ver - 1) = ver - 1 := IntWalk.i64_in _ (by omega)
        clear hs1 hs2 HQ9 HRR hrsz
        obtain ⟨vq, hvq⟩ : ∃ vq, ver + 1 = vq := ⟨_, rfl⟩
        obtain ⟨vm, hvm⟩ : ∃ vm, ver - 1 = vm := ⟨_, rfl⟩
        rw [hvm] at hc2 hwm
        rw [hvq] at hc1 hc2 hc4 hwp hS9
        have hwp1 : IntKind.i64.wrap (ver + 1) = vq := by rw [hvq]; exact hwp
        have hwm1 : IntKind.i64.wrap (ver - 1) = vm := by rw [hvm]; exact hwm
        have HC9 := Lib.hid (And.intro hc1 (And.intro hc2 (And.intro hc3 hc4)))
        clear hc1 hc2 hc3 hc4
        go_upto_region 13 with (fail)
        refine wp_region_held_drew (S := (fun w9 => w9.cell? ⟨sb, 0, none⟩ = some (.string nm) ∧ w9.cell? ⟨sb, 1, none⟩ = some (.int .i64 ver) ∧ w9.cell? ⟨sb, 2, none⟩ = some (.slice A2 fs.length cp2) ∧ w9.cell? ⟨sb, 3, none⟩ = some (.bool sh) ∧ w9.cell? ⟨rb, 0, none⟩ = some (.string nm) ∧ w9.cell? ⟨rb, 1, none⟩ = some (.int .i64 vq) ∧ w9.cell? ⟨rb, 2, none⟩ = some (.slice A3 fs.length cp3) ∧ w9.cell? ⟨rb, 3, none⟩ = some (.bool sh))) (by kernel_rfl) (by (try dsimp only); exact hS9 _ (by repeat (first | with_reducible exact Below.refl _ _ | with_reducible assumption | with_reducible refine bel_alloc ?_ _ | with_reducible refine bel_drew ?_ | with_reducible refine bel_drewN ?_ _ | (with_reducible refine bel_set ?_ ?_ _; rotate_left; ((try simp); (try omega)))))) (fun hHeld => ?_)
        refine take_read (i := 0) 85 (v := ?x6_v0) rfl rfl (by kernel_rfl) (by kernel_rfl) (by kernel_rfl) (fun _ _ _ h => h) (by rfl) ?x6_hy0 (by assumption) ?x6_rest0
        case x6_hy0 => (intro w hSw; (try dsimp only at hSw); go_simp; (try with_reducible rfl))
        try simp only [Act.put, List.setIfInBounds_toArray, List.set_cons_zero, List.set_cons_succ]
        refine take_read (i := 1) 86 (v := ?x6_v1) rfl rfl (by kernel_rfl) (by kernel_rfl) (by kernel_rfl) (fun _ _ _ h => h) (by rfl) ?x6_hy1 (by assumption) ?x6_rest1
        case x6_hy1 => (intro w hSw; (try dsimp only at hSw); go_simp; (try with_reducible rfl))
        try simp only [Act.put, List.setIfInBounds_toArray, List.set_cons_zero, List.set_cons_succ]
        refine take_read (i := 2) 87 (v := ?x6_v2) rfl rfl (by kernel_rfl) (by kernel_rfl) (by kernel_rfl) (fun _ _ _ h => h) (by rfl) ?x6_hy2 (by assumption) ?x6_rest2
        case x6_hy2 => (intro w hSw; (try dsimp only at hSw); go_simp; (try with_reducible rfl))
        try simp only [Act.put, List.setIfInBounds_toArray, List.set_cons_zero, List.set_cons_succ]
        refine take_read (i := 3) 88 (v := ?x6_v3) rfl rfl (by kernel_rfl) (by kernel_rfl) (by kernel_rfl) (fun _ _ _ h => h) (by rfl) ?x6_hy3 (by assumption) ?x6_rest3
        case x6_hy3 => (intro w hSw; (try dsimp only at hSw); go_simp; (try with_reducible rfl))
        try simp only [Act.put, List.setIfInBounds_toArray, List.set_cons_zero, List.set_cons_succ]
        refine take_read (i := 4) 89 (v := ?x6_v4) rfl rfl (by kernel_rfl) (by kernel_rfl) (by kernel_rfl) (fun _ _ _ h => h) (by rfl) ?x6_hy4 (by assumption) ?x6_rest4
        case x6_hy4 => (intro w hSw; (try dsimp only at hSw); go_simp; (try with_reducible rfl))
        try simp only [Act.put, List.setIfInBounds_toArray, List.set_cons_zero, List.set_cons_succ]
        refine take_read (i := 5) 90 (v := ?x6_v5) rfl rfl (by kernel_rfl) (by kernel_rfl) (by kernel_rfl) (fun _ _ _ h => h) (by rfl) ?x6_hy5 (by assumption) ?x6_rest5
        case x6_hy5 => (intro w hSw; (try dsimp only at hSw); go_simp; (try with_reducible rfl))
        try simp only [Act.put, List.setIfInBounds_toArray, List.set_cons_zero, List.set_cons_succ]
        refine take_read (i := 6) 91 (v := ?x6_v6) rfl rfl (by kernel_rfl) (by kernel_rfl) (by kernel_rfl) (fun _ _ _ h => h) (by rfl) ?x6_hy6 (by assumption) ?x6_rest6
        case x6_hy6 => (intro w hSw; (try dsimp only at hSw); go_simp; (try with_reducible rfl))
        try simp only [Act.put, List.setIfInBounds_toArray, List.set_cons_zero, List.set_cons_succ]
        refine take_read (i := 7) 92 (v := ?x6_v7) rfl rfl (by kernel_rfl) (by kernel_rfl) (by kernel_rfl) (fun _ _ _ h => h) (by rfl) ?x6_hy7 (by assumption) ?x6_rest7
        case x6_hy7 => (intro w hSw; (try dsimp only at hSw); go_simp; (try with_reducible rfl))
        try simp only [Act.put, List.setIfInBounds_toArray, List.set_cons_zero, List.set_cons_succ]
        refine take_read (i := 8) 93 (v := ?x6_v8) rfl rfl (by kernel_rfl) (by kernel_rfl) (by kernel_rfl) (fun _ _ _ h => h) (by rfl) ?x6_hy8 (by assumption) ?x6_rest8
        case x6_hy8 => (intro w hSw; (try dsimp only at hSw); go_simp; (try with_reducible rfl))
        try simp only [Act.put, List.setIfInBounds_toArray, List.set_cons_zero, List.set_cons_succ]
        refine take_read (i := 9) 94 (v := ?x6_v9) rfl rfl (by kernel_rfl) (by kernel_rfl) (by kernel_rfl) (fun _ _ _ h => h) (by rfl) ?x6_hy9 (by assumption) ?x6_rest9
        case x6_hy9 => (intro w hSw; (try dsimp only at hSw); go_simp; (try with_reducible rfl))
        try simp only [Act.put, List.setIfInBounds_toArray, List.set_cons_zero, List.set_cons_succ]
        refine take_read (i := 10) 95 (v := ?x6_v10) rfl rfl (by kernel_rfl) (by kernel_rfl) (by kernel_rfl) (fun _ _ _ h => h) (by rfl) ?x6_hy10 (by assumption) ?x6_rest10
        case x6_hy10 => (intro w hSw; (try dsimp only at hSw); go_simp; (try with_reducible rfl))
        try simp only [Act.put, List.setIfInBounds_toArray, List.set_cons_zero, List.set_cons_succ]
        refine take_read (i := 11) 96 (v := ?x6_v11) rfl rfl (by kernel_rfl) (by kernel_rfl) (by kernel_rfl) (fun _ _ _ h => h) (by rfl) ?x6_hy11 (by assumption) ?x6_rest11
        case x6_hy11 => (intro w hSw; (try dsimp only at hSw); go_simp; (try with_reducible rfl))
        try simp only [Act.put, List.setIfInBounds_toArray, List.set_cons_zero, List.set_cons_succ]
        refine take_read (i := 12) 97 (v := ?x6_v12) rfl rfl (by kernel_rfl) (by kernel_rfl) (by kernel_rfl) (fun _ _ _ h => h) (by rfl) ?x6_hy12 (by assumption) ?x6_rest12
        case x6_hy12 => (intro w hSw; (try dsimp only at hSw); go_simp; (try with_reducible rfl))
        try simp only [Act.put, List.setIfInBounds_toArray, List.set_cons_zero, List.set_cons_succ]
        refine wpAnyH_ready (rs := [13]) (by kernel_rfl) (by simp) ?_
        refine AllReadyH.cons rfl (fun K hK => ?_) AllReadyH.nil
        go_simp
        (first | (go_at_call_of 29 (Value.int IntKind.i64 vm); refine (HC9.out.2.1 _ (by repeat (first | with_reducible exact Below.refl _ _ | with_reducible assumption | with_reducible refine bel_alloc ?_ _ | with_reducible refine bel_drew ?_ | with_reducible refine bel_drewN ?_ _ | (with_reducible refine bel_set ?_ ?_ _; rotate_left; ((try simp); (try omega)))))).mono ?_; rintro e y2 ⟨rfl, hy2⟩; have hY2 : Below W4.heap.size W4 y2 := bel_then (by repeat (first | with_reducible exact Below.refl _ _ | with_reducible assumption | with_reducible refine bel_alloc ?_ _ | with_reducible refine bel_drew ?_ | with_reducible refine bel_drewN ?_ _ | (with_reducible refine bel_set ?_ ?_ _; rotate_left; ((try simp); (try omega))))) hy2; clear hy2) | (go_at_call 29; refine (HC9.out.1 _ (by repeat (first | with_reducible exact Below.refl _ _ | with_reducible assumption | with_reducible refine bel_alloc ?_ _ | with_reducible refine bel_drew ?_ | with_reducible refine bel_drewN ?_ _ | (with_reducible refine bel_set ?_ ?_ _; rotate_left; ((try simp); (try omega)))))).mono ?_; rintro e y1 ⟨rfl, hy1⟩; have hY1 : Below W4.heap.size W4 y1 := bel_then (by repeat (first | with_reducible exact Below.refl _ _ | with_reducible assumption | with_reducible refine bel_alloc ?_ _ | with_reducible refine bel_drew ?_ | with_reducible refine bel_drewN ?_ _ | (with_reducible refine bel_set ?_ ?_ _; rotate_left; ((try simp); (try omega))))) hy1; clear hy1) | (go_at_call_of 33 (Value.int IntKind.i64 vq); refine (HC9.out.2.2.2 _ (by repeat (first | with_reducible exact Below.refl _ _ | with_reducible assumption | with_reducible refine bel_alloc ?_ _ | with_reducible refine bel_drew ?_ | with_reducible refine bel_drewN ?_ _ | (with_reducible refine bel_set ?_ ?_ _; rotate_left; ((try simp); (try omega)))))).mono ?_; rintro e y4 ⟨v4, F4, rfl, hy4, hr4, -⟩; obtain ⟨B4, c4, rfl⟩ := cL_form hr4; have hY4 : Below W4.heap.size W4 y4 := bel_then (by repeat (first | with_reducible exact Below.refl _ _ | with_reducible assumption | with_reducible refine bel_alloc ?_ _ | with_reducible refine bel_drew ?_ | with_reducible refine bel_drewN ?_ _ | (with_reducible refine bel_set ?_ ?_ _; rotate_left; ((try simp); (try omega))))) hy4; have hr34 := Cod.bel hr3 (bel_then (by repeat (first | with_reducible exact Below.refl _ _ | with_reducible assumption | with_reducible refine bel_alloc ?_ _ | with_reducible refine bel_drew ?_ | with_reducible refine bel_drewN ?_ _ | (with_reducible refine bel_set ?_ ?_ _; rotate_left; ((try simp); (try omega))))) hy4); clear hy4 hr3) | (go_at_call 33; refine (HC9.out.2.2.1 _ (by repeat (first | with_reducible exact Below.refl _ _ | with_reducible assumption | with_reducible refine bel_alloc ?_ _ | with_reducible refine bel_drew ?_ | with_reducible refine bel_drewN ?_ _ | (with_reducible refine bel_set ?_ ?_ _; rotate_left; ((try simp); (try omega)))))).mono ?_; rintro e y3 ⟨v3, F3, rfl, hy3, hr3, -⟩; obtain ⟨B3, c3, rfl⟩ := cL_form hr3; have hY3 : Below W4.heap.size W4 y3 := bel_then (by repeat (first | with_reducible exact Below.refl _ _ | with_reducible assumption | with_reducible refine bel_alloc ?_ _ | with_reducible refine bel_drew ?_ | with_reducible refine bel_drewN ?_ _ | (with_reducible refine bel_set ?_ ?_ _; rotate_left; ((try simp); (try omega))))) hy3; clear hy3) | (go_at_call 32; refine (sameBytes_any _ _ b1 b2 _ _ _ (by exact Cod.bel hr34 (by repeat (first | with_reducible exact Below.refl _ _ | with_reducible assumption | with_reducible refine bel_alloc ?_ _ | with_reducible refine bel_drew ?_ | with_reducible refine bel_drewN ?_ _ | (with_reducible refine bel_set ?_ ?_ _; rotate_left; ((try simp); (try omega)))))) (by exact Cod.bel hr4 (by repeat (first | with_reducible exact Below.refl _ _ | with_reducible assumption | with_reducible refine bel_alloc ?_ _ | with_reducible refine bel_drew ?_ | with_reducible refine bel_drewN ?_ _ | (with_reducible refine bel_set ?_ ?_ _; rotate_left; ((try simp); (try omega))))))).mono ?_; rw [hbn]; rintro e y5 ⟨rfl, hy5⟩; have hY5 : Below W4.heap.size W4 y5 := bel_then (by repeat (first | with_reducible exact Below.refl _ _ | with_reducible assumption | with_reducible refine bel_alloc ?_ _ | with_reducible refine bel_drew ?_ | with_reducible refine bel_drewN ?_ _ | (with_reducible refine bel_set ?_ ?_ _; rotate_left; ((try simp); (try omega))))) hy5; clear hy5 hr34 hr4))
        try go_wp2_with fail
        refine hK.out _ _ ?_ (fun hHeld => ?_)
        · (try dsimp only)
          exact hS9 _ (by repeat (first | with_reducible exact Below.refl _ _ | with_reducible assumption | with_reducible refine bel_alloc ?_ _ | with_reducible refine bel_drew ?_ | with_reducible refine bel_drewN ?_ _ | (with_reducible refine bel_set ?_ ?_ _; rotate_left; ((try simp); (try omega)))))
        clear hK K
        try simp only [Act.put, List.setIfInBounds_toArray, List.set_cons_zero, List.set_cons_succ]
        refine take_read (i := 14) 99 (v := ?x6_v14) rfl rfl (by kernel_rfl) (by kernel_rfl) (by kernel_rfl) (fun _ _ _ h => h) (by rfl) ?x6_hy14 (by assumption) ?x6_rest14
        case x6_hy14 => (intro w hSw; (try dsimp only at hSw); go_simp; (try with_reducible rfl))
        try simp only [Act.put, List.setIfInBounds_toArray, List.set_cons_zero, List.set_cons_succ]
        refine take_read (i := 15) 100 (v := ?x6_v15) rfl rfl (by kernel_rfl) (by kernel_rfl) (by kernel_rfl) (fun _ _ _ h => h) (by rfl) ?x6_hy15 (by assumption) ?x6_rest15
        case x6_hy15 => (intro w hSw; (try dsimp only at hSw); go_simp; (try with_reducible rfl))
        try simp only [Act.put, List.setIfInBounds_toArray, List.set_cons_zero, List.set_cons_succ]
        refine take_read (i := 16) 101 (v := ?x6_v16) rfl rfl (by kernel_rfl) (by kernel_rfl) (by kernel_rfl) (fun _ _ _ h => h) (by rfl) ?x6_hy16 (by assumption) ?x6_rest16
        case x6_hy16 => (intro w hSw; (try dsimp only at hSw); go_simp; (try with_reducible rfl))
        try simp only [Act.put, List.setIfInBounds_toArray, List.set_cons_zero, List.set_cons_succ]
        refine take_read (i := 17) 102 (v := ?x6_v17) rfl rfl (by kernel_rfl) (by kernel_rfl) (by kernel_rfl) (fun _ _ _ h => h) (by rfl) ?x6_hy17 (by assumption) ?x6_rest17
        case x6_hy17 => (intro w hSw; (try dsimp only at hSw); go_simp; (try with_reducible rfl))
        try simp only [Act.put, List.setIfInBounds_toArray, List.set_cons_zero, List.set_cons_succ]
        refine take_read (i := 18) 103 (v := ?x6_v18) rfl rfl (by kernel_rfl) (by kernel_rfl) (by kernel_rfl) (fun _ _ _ h => h) (by rfl) ?x6_hy18 (by assumption) ?x6_rest18
        case x6_hy18 => (intro w hSw; (try dsimp only at hSw); go_simp; (try with_reducible rfl))
        try simp only [Act.put, List.setIfInBounds_toArray, List.set_cons_zero, List.set_cons_succ]
        refine take_read (i := 19) 104 (v := ?x6_v19) rfl rfl (by kernel_rfl) (by kernel_rfl) (by kernel_rfl) (fun _ _ _ h => h) (by rfl) ?x6_hy19 (by assumption) ?x6_rest19
        case x6_hy19 => (intro w hSw; (try dsimp only at hSw); go_simp; (try with_reducible rfl))
        try simp only [Act.put, List.setIfInBounds_toArray, List.set_cons_zero, List.set_cons_succ]
        refine wpAnyH_ready (rs := [20]) (by kernel_rfl) (by simp) ?_
        refine AllReadyH.cons rfl (fun K hK => ?_) AllReadyH.nil
        go_simp
        (first | (go_at_call_of 29 (Value.int IntKind.i64 vm); refine (HC9.out.2.1 _ (by repeat (first | with_reducible exact Below.refl _ _ | with_reducible assumption | with_reducible refine bel_alloc ?_ _ | with_reducible refine bel_drew ?_ | with_reducible refine bel_drewN ?_ _ | (with_reducible refine bel_set ?_ ?_ _; rotate_left; ((try simp); (try omega)))))).mono ?_; rintro e y2 ⟨rfl, hy2⟩; have hY2 : Below W4.heap.size W4 y2 := bel_then (by repeat (first | with_reducible exact Below.refl _ _ | with_reducible assumption | with_reducible refine bel_alloc ?_ _ | with_reducible refine bel_drew ?_ | with_reducible refine bel_drewN ?_ _ | (with_reducible refine bel_set ?_ ?_ _; rotate_left; ((try simp); (try omega))))) hy2; clear hy2) | (go_at_call 29; refine (HC9.out.1 _ (by repeat (first | with_reducible exact Below.refl _ _ | with_reducible assumption | with_reducible refine bel_alloc ?_ _ | with_reducible refine bel_drew ?_ | with_reducible refine bel_drewN ?_ _ | (with_reducible refine bel_set ?_ ?_ _; rotate_left; ((try simp); (try omega)))))).mono ?_; rintro e y1 ⟨rfl, hy1⟩; have hY1 : Below W4.heap.size W4 y1 := bel_then (by repeat (first | with_reducible exact Below.refl _ _ | with_reducible assumption | with_reducible refine bel_alloc ?_ _ | with_reducible refine bel_drew ?_ | with_reducible refine bel_drewN ?_ _ | (with_reducible refine bel_set ?_ ?_ _; rotate_left; ((try simp); (try omega))))) hy1; clear hy1) | (go_at_call_of 33 (Value.int IntKind.i64 vq); refine (HC9.out.2.2.2 _ (by repeat (first | with_reducible exact Below.refl _ _ | with_reducible assumption | with_reducible refine bel_alloc ?_ _ | with_reducible refine bel_drew ?_ | with_reducible refine bel_drewN ?_ _ | (with_reducible refine bel_set ?_ ?_ _; rotate_left; ((try simp); (try omega)))))).mono ?_; rintro e y4 ⟨v4, F4, rfl, hy4, hr4, -⟩; obtain ⟨B4, c4, rfl⟩ := cL_form hr4; have hY4 : Below W4.heap.size W4 y4 := bel_then (by repeat (first | with_reducible exact Below.refl _ _ | with_reducible assumption | with_reducible refine bel_alloc ?_ _ | with_reducible refine bel_drew ?_ | with_reducible refine bel_drewN ?_ _ | (with_reducible refine bel_set ?_ ?_ _; rotate_left; ((try simp); (try omega))))) hy4; have hr34 := Cod.bel hr3 (bel_then (by repeat (first | with_reducible exact Below.refl _ _ | with_reducible assumption | with_reducible refine bel_alloc ?_ _ | with_reducible refine bel_drew ?_ | with_reducible refine bel_drewN ?_ _ | (with_reducible refine bel_set ?_ ?_ _; rotate_left; ((try simp); (try omega))))) hy4); clear hy4 hr3) | (go_at_call 33; refine (HC9.out.2.2.1 _ (by repeat (first | with_reducible exact Below.refl _ _ | with_reducible assumption | with_reducible refine bel_alloc ?_ _ | with_reducible refine bel_drew ?_ | with_reducible refine bel_drewN ?_ _ | (with_reducible refine bel_set ?_ ?_ _; rotate_left; ((try simp); (try omega)))))).mono ?_; rintro e y3 ⟨v3, F3, rfl, hy3, hr3, -⟩; obtain ⟨B3, c3, rfl⟩ := cL_form hr3; have hY3 : Below W4.heap.size W4 y3 := bel_then (by repeat (first | with_reducible exact Below.refl _ _ | with_reducible assumption | with_reducible refine bel_alloc ?_ _ | with_reducible refine bel_drew ?_ | with_reducible refine bel_drewN ?_ _ | (with_reducible refine bel_set ?_ ?_ _; rotate_left; ((try simp); (try omega))))) hy3; clear hy3) | (go_at_call 32; refine (sameBytes_any _ _ b1 b2 _ _ _ (by exact Cod.bel hr34 (by repeat (first | with_reducible exact Below.refl _ _ | with_reducible assumption | with_reducible refine bel_alloc ?_ _ | with_reducible refine bel_drew ?_ | with_reducible refine bel_drewN ?_ _ | (with_reducible refine bel_set ?_ ?_ _; rotate_left; ((try simp); (try omega)))))) (by exact Cod.bel hr4 (by repeat (first | with_reducible exact Below.refl _ _ | with_reducible assumption | with_reducible refine bel_alloc ?_ _ | with_reducible refine bel_drew ?_ | with_reducible refine bel_drewN ?_ _ | (with_reducible refine bel_set ?_ ?_ _; rotate_left; ((try simp); (try omega))))))).mono ?_; rw [hbn]; rintro e y5 ⟨rfl, hy5⟩; have hY5 : Below W4.heap.size W4 y5 := bel_then (by repeat (first | with_reducible exact Below.refl _ _ | with_reducible assumption | with_reducible refine bel_alloc ?_ _ | with_reducible refine bel_drew ?_ | with_reducible refine bel_drewN ?_ _ | (with_reducible refine bel_set ?_ ?_ _; rotate_left; ((try simp); (try omega))))) hy5; clear hy5 hr34 hr4))
        try go_wp2_with fail
        refine hK.out _ _ ?_ (fun hHeld => ?_)
        · (try dsimp only)
          exact hS9 _ (by repeat (first | with_reducible exact Below.refl _ _ | with_reducible assumption | with_reducible refine bel_alloc ?_ _ | with_reducible refine bel_drew ?_ | with_reducible refine bel_drewN ?_ _ | (with_reducible refine bel_set ?_ ?_ _; rotate_left; ((try simp); (try omega)))))
        clear hK K
        try simp only [Act.put, List.setIfInBounds_toArray, List.set_cons_zero, List.set_cons_succ]
        refine take_read (i := 21) 106 (v := ?x6_v21) rfl rfl (by kernel_rfl) (by kernel_rfl) (by kernel_rfl) (fun _ _ _ h => h) (by rfl) ?x6_hy21 (by assumption) ?x6_rest21
        case x6_hy21 => (intro w hSw; (try dsimp only at hSw); go_simp; (try with_reducible rfl))
        try simp only [Act.put, List.setIfInBounds_toArray, List.set_cons_zero, List.set_cons_succ]
        refine take_read (i := 22) 107 (v := ?x6_v22) rfl rfl (by kernel_rfl) (by kernel_rfl) (by kernel_rfl) (fun _ _ _ h => h) (by rfl) ?x6_hy22 (by assumption) ?x6_rest22
        case x6_hy22 => (intro w hSw; (try dsimp only at hSw); go_simp; (try with_reducible rfl))
        try simp only [Act.put, List.setIfInBounds_toArray, List.set_cons_zero, List.set_cons_succ]
        refine take_read (i := 23) 108 (v := ?x6_v23) rfl rfl (by kernel_rfl) (by kernel_rfl) (by kernel_rfl) (fun _ _ _ h => h) (by rfl) ?x6_hy23 (by assumption) ?x6_rest23
        case x6_hy23 => (intro w hSw; (try dsimp only at hSw); go_simp; (try with_reducible rfl))
        try simp only [Act.put, List.setIfInBounds_toArray, List.set_cons_zero, List.set_cons_succ]
        refine take_read (i := 24) 109 (v := ?x6_v24) rfl rfl (by kernel_rfl) (by kernel_rfl) (by kernel_rfl) (fun _ _ _ h => h) (by rfl) ?x6_hy24 (by assumption) ?x6_rest24
        case x6_hy24 => (intro w hSw; (try dsimp only at hSw); go_simp; (try with_reducible rfl))
        try simp only [Act.put, List.setIfInBounds_toArray, List.set_cons_zero, List.set_cons_succ]
        refine take_read (i := 25) 110 (v := ?x6_v25) rfl rfl (by kernel_rfl) (by kernel_rfl) (by kernel_rfl) (fun _ _ _ h => h) (by rfl) ?x6_hy25 (by assumption) ?x6_rest25
        case x6_hy25 => (intro w hSw; (try dsimp only at hSw); go_simp; (try with_reducible rfl))
        try simp only [Act.put, List.setIfInBounds_toArray, List.set_cons_zero, List.set_cons_succ]
        refine take_read (i := 26) 111 (v := ?x6_v26) rfl rfl (by kernel_rfl) (by kernel_rfl) (by kernel_rfl) (fun _ _ _ h => h) (by rfl) ?x6_hy26 (by assumption) ?x6_rest26
        case x6_hy26 => (intro w hSw; (try dsimp only at hSw); go_simp; (try with_reducible rfl))
        try simp only [Act.put, List.setIfInBounds_toArray, List.set_cons_zero, List.set_cons_succ]
        refine take_read (i := 27) 112 (v := ?x6_v27) rfl rfl (by kernel_rfl) (by kernel_rfl) (by kernel_rfl) (fun _ _ _ h => h) (by rfl) ?x6_hy27 (by assumption) ?x6_rest27
        case x6_hy27 => (intro w hSw; (try dsimp only at hSw); go_simp; (try with_reducible rfl))
        try simp only [Act.put, List.setIfInBounds_toArray, List.set_cons_zero, List.set_cons_succ]
        refine take_read (i := 29) 114 (v := ?x6_v29) rfl rfl (by kernel_rfl) (by kernel_rfl) (by kernel_rfl) (fun _ _ _ h => h) (by rfl) ?x6_hy29 (by assumption) ?x6_rest29
        case x6_hy29 => (intro w hSw; (try dsimp only at hSw); go_simp; (try with_reducible rfl))
        try simp only [Act.put, List.setIfInBounds_toArray, List.set_cons_zero, List.set_cons_succ]
        refine take_read (i := 30) 115 (v := ?x6_v30) rfl rfl (by kernel_rfl) (by kernel_rfl) (by kernel_rfl) (fun _ _ _ h => h) (by rfl) ?x6_hy30 (by assumption) ?x6_rest30
        case x6_hy30 => (intro w hSw; (try dsimp only at hSw); go_simp; (try with_reducible rfl))
        try simp only [Act.put, List.setIfInBounds_toArray, List.set_cons_zero, List.set_cons_succ]
        refine take_read (i := 31) 116 (v := ?x6_v31) rfl rfl (by kernel_rfl) (by kernel_rfl) (by kernel_rfl) (fun _ _ _ h => h) (by rfl) ?x6_hy31 (by assumption) ?x6_rest31
        case x6_hy31 => (intro w hSw; (try dsimp only at hSw); go_simp; (try with_reducible rfl))
        try simp only [Act.put, List.setIfInBounds_toArray, List.set_cons_zero, List.set_cons_succ]
        refine take_read (i := 32) 117 (v := ?x6_v32) rfl rfl (by kernel_rfl) (by kernel_rfl) (by kernel_rfl) (fun _ _ _ h => h) (by rfl) ?x6_hy32 (by assumption) ?x6_rest32
        case x6_hy32 => (intro w hSw; (try dsimp only at hSw); go_simp; (try with_reducible rfl))
        try simp only [Act.put, List.setIfInBounds_toArray, List.set_cons_zero, List.set_cons_succ]
        refine wpAnyH_ready (rs := [28]) (by kernel_rfl) (by simp) ?_
        refine AllReadyH.cons rfl (fun K hK => ?_) AllReadyH.nil
        go_simp
        (first | (go_at_call_of 29 (Value.int IntKind.i64 vm); refine (HC9.out.2.1 _ (by repeat (first | with_reducible exact Below.refl _ _ | with_reducible assumption | with_reducible refine bel_alloc ?_ _ | with_reducible refine bel_drew ?_ | with_reducible refine bel_drewN ?_ _ | (with_reducible refine bel_set ?_ ?_ _; rotate_left; ((try simp); (try omega)))))).mono ?_; rintro e y2 ⟨rfl, hy2⟩; have hY2 : Below W4.heap.size W4 y2 := bel_then (by repeat (first | with_reducible exact Below.refl _ _ | with_reducible assumption | with_reducible refine bel_alloc ?_ _ | with_reducible refine bel_drew ?_ | with_reducible refine bel_drewN ?_ _ | (with_reducible refine bel_set ?_ ?_ _; rotate_left; ((try simp); (try omega))))) hy2; clear hy2) | (go_at_call 29; refine (HC9.out.1 _ (by repeat (first | with_reducible exact Below.refl _ _ | with_reducible assumption | with_reducible refine bel_alloc ?_ _ | with_reducible refine bel_drew ?_ | with_reducible refine bel_drewN ?_ _ | (with_reducible refine bel_set ?_ ?_ _; rotate_left; ((try simp); (try omega)))))).mono ?_; rintro e y1 ⟨rfl, hy1⟩; have hY1 : Below W4.heap.size W4 y1 := bel_then (by repeat (first | with_reducible exact Below.refl _ _ | with_reducible assumption | with_reducible refine bel_alloc ?_ _ | with_reducible refine bel_drew ?_ | with_reducible refine bel_drewN ?_ _ | (with_reducible refine bel_set ?_ ?_ _; rotate_left; ((try simp); (try omega))))) hy1; clear hy1) | (go_at_call_of 33 (Value.int IntKind.i64 vq); refine (HC9.out.2.2.2 _ (by repeat (first | with_reducible exact Below.refl _ _ | with_reducible assumption | with_reducible refine bel_alloc ?_ _ | with_reducible refine bel_drew ?_ | with_reducible refine bel_drewN ?_ _ | (with_reducible refine bel_set ?_ ?_ _; rotate_left; ((try simp); (try omega)))))).mono ?_; rintro e y4 ⟨v4, F4, rfl, hy4, hr4, -⟩; obtain ⟨B4, c4, rfl⟩ := cL_form hr4; have hY4 : Below W4.heap.size W4 y4 := bel_then (by repeat (first | with_reducible exact Below.refl _ _ | with_reducible assumption | with_reducible refine bel_alloc ?_ _ | with_reducible refine bel_drew ?_ | with_reducible refine bel_drewN ?_ _ | (with_reducible refine bel_set ?_ ?_ _; rotate_left; ((try simp); (try omega))))) hy4; have hr34 := Cod.bel hr3 (bel_then (by repeat (first | with_reducible exact Below.refl _ _ | with_reducible assumption | with_reducible refine bel_alloc ?_ _ | with_reducible refine bel_drew ?_ | with_reducible refine bel_drewN ?_ _ | (with_reducible refine bel_set ?_ ?_ _; rotate_left; ((try simp); (try omega))))) hy4); clear hy4 hr3) | (go_at_call 33; refine (HC9.out.2.2.1 _ (by repeat (first | with_reducible exact Below.refl _ _ | with_reducible assumption | with_reducible refine bel_alloc ?_ _ | with_reducible refine bel_drew ?_ | with_reducible refine bel_drewN ?_ _ | (with_reducible refine bel_set ?_ ?_ _; rotate_left; ((try simp); (try omega)))))).mono ?_; rintro e y3 ⟨v3, F3, rfl, hy3, hr3, -⟩; obtain ⟨B3, c3, rfl⟩ := cL_form hr3; have hY3 : Below W4.heap.size W4 y3 := bel_then (by repeat (first | with_reducible exact Below.refl _ _ | with_reducible assumption | with_reducible refine bel_alloc ?_ _ | with_reducible refine bel_drew ?_ | with_reducible refine bel_drewN ?_ _ | (with_reducible refine bel_set ?_ ?_ _; rotate_left; ((try simp); (try omega))))) hy3; clear hy3) | (go_at_call 32; refine (sameBytes_any _ _ b1 b2 _ _ _ (by exact Cod.bel hr34 (by repeat (first | with_reducible exact Below.refl _ _ | with_reducible assumption | with_reducible refine bel_alloc ?_ _ | with_reducible refine bel_drew ?_ | with_reducible refine bel_drewN ?_ _ | (with_reducible refine bel_set ?_ ?_ _; rotate_left; ((try simp); (try omega)))))) (by exact Cod.bel hr4 (by repeat (first | with_reducible exact Below.refl _ _ | with_reducible assumption | with_reducible refine bel_alloc ?_ _ | with_reducible refine bel_drew ?_ | with_reducible refine bel_drewN ?_ _ | (with_reducible refine bel_set ?_ ?_ _; rotate_left; ((try simp); (try omega))))))).mono ?_; rw [hbn]; rintro e y5 ⟨rfl, hy5⟩; have hY5 : Below W4.heap.size W4 y5 := bel_then (by repeat (first | with_reducible exact Below.refl _ _ | with_reducible assumption | with_reducible refine bel_alloc ?_ _ | with_reducible refine bel_drew ?_ | with_reducible refine bel_drewN ?_ _ | (with_reducible refine bel_set ?_ ?_ _; rotate_left; ((try simp); (try omega))))) hy5; clear hy5 hr34 hr4))
        try go_wp2_with fail
        refine hK.out _ _ ?_ (fun hHeld => ?_)
        · (try dsimp only)
          exact hS9 _ (by repeat (first | with_reducible exact Below.refl _ _ | with_reducible assumption | with_reducible refine bel_alloc ?_ _ | with_reducible refine bel_drew ?_ | with_reducible refine bel_drewN ?_ _ | (with_reducible refine bel_set ?_ ?_ _; rotate_left; ((try simp); (try omega)))))
        clear hK K
        try simp only [Act.put, List.setIfInBounds_toArray, List.set_cons_zero, List.set_cons_succ]
        refine wpAnyH_ready (rs := [33]) (by kernel_rfl) (by simp) ?_
        refine AllReadyH.cons rfl (fun K hK => ?_) AllReadyH.nil
        go_simp
        (first | (go_at_call_of 29 (Value.int IntKind.i64 vm); refine (HC9.out.2.1 _ (by repeat (first | with_reducible exact Below.refl _ _ | with_reducible assumption | with_reducible refine bel_alloc ?_ _ | with_reducible refine bel_drew ?_ | with_reducible refine bel_drewN ?_ _ | (with_reducible refine bel_set ?_ ?_ _; rotate_left; ((try simp); (try omega)))))).mono ?_; rintro e y2 ⟨rfl, hy2⟩; have hY2 : Below W4.heap.size W4 y2 := bel_then (by repeat (first | with_reducible exact Below.refl _ _ | with_reducible assumption | with_reducible refine bel_alloc ?_ _ | with_reducible refine bel_drew ?_ | with_reducible refine bel_drewN ?_ _ | (with_reducible refine bel_set ?_ ?_ _; rotate_left; ((try simp); (try omega))))) hy2; clear hy2) | (go_at_call 29; refine (HC9.out.1 _ (by repeat (first | with_reducible exact Below.refl _ _ | with_reducible assumption | with_reducible refine bel_alloc ?_ _ | with_reducible refine bel_drew ?_ | with_reducible refine bel_drewN ?_ _ | (with_reducible refine bel_set ?_ ?_ _; rotate_left; ((try simp); (try omega)))))).mono ?_; rintro e y1 ⟨rfl, hy1⟩; have hY1 : Below W4.heap.size W4 y1 := bel_then (by repeat (first | with_reducible exact Below.refl _ _ | with_reducible assumption | with_reducible refine bel_alloc ?_ _ | with_reducible refine bel_drew ?_ | with_reducible refine bel_drewN ?_ _ | (with_reducible refine bel_set ?_ ?_ _; rotate_left; ((try simp); (try omega))))) hy1; clear hy1) | (go_at_call_of 33 (Value.int IntKind.i64 vq); refine (HC9.out.2.2.2 _ (by repeat (first | with_reducible exact Below.refl _ _ | with_reducible assumption | with_reducible refine bel_alloc ?_ _ | with_reducible refine bel_drew ?_ | with_reducible refine bel_drewN ?_ _ | (with_reducible refine bel_set ?_ ?_ _; rotate_left; ((try simp); (try omega)))))).mono ?_; rintro e y4 ⟨v4, F4, rfl, hy4, hr4, -⟩; obtain ⟨B4, c4, rfl⟩ := cL_form hr4; have hY4 : Below W4.heap.size W4 y4 := bel_then (by repeat (first | with_reducible exact Below.refl _ _ | with_reducible assumption | with_reducible refine bel_alloc ?_ _ | with_reducible refine bel_drew ?_ | with_reducible refine bel_drewN ?_ _ | (with_reducible refine bel_set ?_ ?_ _; rotate_left; ((try simp); (try omega))))) hy4; have hr34 := Cod.bel hr3 (bel_then (by repeat (first | with_reducible exact Below.refl _ _ | with_reducible assumption | with_reducible refine bel_alloc ?_ _ | with_reducible refine bel_drew ?_ | with_reducible refine bel_drewN ?_ _ | (with_reducible refine bel_set ?_ ?_ _; rotate_left; ((try simp); (try omega))))) hy4); clear hy4 hr3) | (go_at_call 33; refine (HC9.out.2.2.1 _ (by repeat (first | with_reducible exact Below.refl _ _ | with_reducible assumption | with_reducible refine bel_alloc ?_ _ | with_reducible refine bel_drew ?_ | with_reducible refine bel_drewN ?_ _ | (with_reducible refine bel_set ?_ ?_ _; rotate_left; ((try simp); (try omega)))))).mono ?_; rintro e y3 ⟨v3, F3, rfl, hy3, hr3, -⟩; obtain ⟨B3, c3, rfl⟩ := cL_form hr3; have hY3 : Below W4.heap.size W4 y3 := bel_then (by repeat (first | with_reducible exact Below.refl _ _ | with_reducible assumption | with_reducible refine bel_alloc ?_ _ | with_reducible refine bel_drew ?_ | with_reducible refine bel_drewN ?_ _ | (with_reducible refine bel_set ?_ ?_ _; rotate_left; ((try simp); (try omega))))) hy3; clear hy3) | (go_at_call 32; refine (sameBytes_any _ _ b1 b2 _ _ _ (by exact Cod.bel hr34 (by repeat (first | with_reducible exact Below.refl _ _ | with_reducible assumption | with_reducible refine bel_alloc ?_ _ | with_reducible refine bel_drew ?_ | with_reducible refine bel_drewN ?_ _ | (with_reducible refine bel_set ?_ ?_ _; rotate_left; ((try simp); (try omega)))))) (by exact Cod.bel hr4 (by repeat (first | with_reducible exact Below.refl _ _ | with_reducible assumption | with_reducible refine bel_alloc ?_ _ | with_reducible refine bel_drew ?_ | with_reducible refine bel_drewN ?_ _ | (with_reducible refine bel_set ?_ ?_ _; rotate_left; ((try simp); (try omega))))))).mono ?_; rw [hbn]; rintro e y5 ⟨rfl, hy5⟩; have hY5 : Below W4.heap.size W4 y5 := bel_then (by repeat (first | with_reducible exact Below.refl _ _ | with_reducible assumption | with_reducible refine bel_alloc ?_ _ | with_reducible refine bel_drew ?_ | with_reducible refine bel_drewN ?_ _ | (with_reducible refine bel_set ?_ ?_ _; rotate_left; ((try simp); (try omega))))) hy5; clear hy5 hr34 hr4))
        try go_wp2_with fail
        refine hK.out _ _ ?_ (fun hHeld => ?_)
        · (try dsimp only)
          exact hS9 _ (by repeat (first | with_reducible exact Below.refl _ _ | with_reducible assumption | with_reducible refine bel_alloc ?_ _ | with_reducible refine bel_drew ?_ | with_reducible refine bel_drewN ?_ _ | (with_reducible refine bel_set ?_ ?_ _; rotate_left; ((try simp); (try omega)))))
        clear hK K
        try simp only [Act.put, List.setIfInBounds_toArray, List.set_cons_zero, List.set_cons_succ]
        refine wpAnyH_ready (rs := [34]) (by kernel_rfl) (by simp) ?_
        refine AllReadyH.cons rfl (fun K hK => ?_) AllReadyH.nil
        go_simp
        (first | (go_at_call_of 29 (Value.int IntKind.i64 vm); refine (HC9.out.2.1 _ (by repeat (first | with_reducible exact Below.refl _ _ | with_reducible assumption | with_reducible refine bel_alloc ?_ _ | with_reducible refine bel_drew ?_ | with_reducible refine bel_drewN ?_ _ | (with_reducible refine bel_set ?_ ?_ _; rotate_left; ((try simp); (try omega)))))).mono ?_; rintro e y2 ⟨rfl, hy2⟩; have hY2 : Below W4.heap.size W4 y2 := bel_then (by repeat (first | with_reducible exact Below.refl _ _ | with_reducible assumption | with_reducible refine bel_alloc ?_ _ | with_reducible refine bel_drew ?_ | with_reducible refine bel_drewN ?_ _ | (with_reducible refine bel_set ?_ ?_ _; rotate_left; ((try simp); (try omega))))) hy2; clear hy2) | (go_at_call 29; refine (HC9.out.1 _ (by repeat (first | with_reducible exact Below.refl _ _ | with_reducible assumption | with_reducible refine bel_alloc ?_ _ | with_reducible refine bel_drew ?_ | with_reducible refine bel_drewN ?_ _ | (with_reducible refine bel_set ?_ ?_ _; rotate_left; ((try simp); (try omega)))))).mono ?_; rintro e y1 ⟨rfl, hy1⟩; have hY1 : Below W4.heap.size W4 y1 := bel_then (by repeat (first | with_reducible exact Below.refl _ _ | with_reducible assumption | with_reducible refine bel_alloc ?_ _ | with_reducible refine bel_drew ?_ | with_reducible refine bel_drewN ?_ _ | (with_reducible refine bel_set ?_ ?_ _; rotate_left; ((try simp); (try omega))))) hy1; clear hy1) | (go_at_call_of 33 (Value.int IntKind.i64 vq); refine (HC9.out.2.2.2 _ (by repeat (first | with_reducible exact Below.refl _ _ | with_reducible assumption | with_reducible refine bel_alloc ?_ _ | with_reducible refine bel_drew ?_ | with_reducible refine bel_drewN ?_ _ | (with_reducible refine bel_set ?_ ?_ _; rotate_left; ((try simp); (try omega)))))).mono ?_; rintro e y4 ⟨v4, F4, rfl, hy4, hr4, -⟩; obtain ⟨B4, c4, rfl⟩ := cL_form hr4; have hY4 : Below W4.heap.size W4 y4 := bel_then (by repeat (first | with_reducible exact Below.refl _ _ | with_reducible assumption | with_reducible refine bel_alloc ?_ _ | with_reducible refine bel_drew ?_ | with_reducible refine bel_drewN ?_ _ | (with_reducible refine bel_set ?_ ?_ _; rotate_left; ((try simp); (try omega))))) hy4; have hr34 := Cod.bel hr3 (bel_then (by repeat (first | with_reducible exact Below.refl _ _ | with_reducible assumption | with_reducible refine bel_alloc ?_ _ | with_reducible refine bel_drew ?_ | with_reducible refine bel_drewN ?_ _ | (with_reducible refine bel_set ?_ ?_ _; rotate_left; ((try simp); (try omega))))) hy4); clear hy4 hr3) | (go_at_call 33; refine (HC9.out.2.2.1 _ (by repeat (first | with_reducible exact Below.refl _ _ | with_reducible assumption | with_reducible refine bel_alloc ?_ _ | with_reducible refine bel_drew ?_ | with_reducible refine bel_drewN ?_ _ | (with_reducible refine bel_set ?_ ?_ _; rotate_left; ((try simp); (try omega)))))).mono ?_; rintro e y3 ⟨v3, F3, rfl, hy3, hr3, -⟩; obtain ⟨B3, c3, rfl⟩ := cL_form hr3; have hY3 : Below W4.heap.size W4 y3 := bel_then (by repeat (first | with_reducible exact Below.refl _ _ | with_reducible assumption | with_reducible refine bel_alloc ?_ _ | with_reducible refine bel_drew ?_ | with_reducible refine bel_drewN ?_ _ | (with_reducible refine bel_set ?_ ?_ _; rotate_left; ((try simp); (try omega))))) hy3; clear hy3) | (go_at_call 32; refine (sameBytes_any _ _ b1 b2 _ _ _ (by exact Cod.bel hr34 (by repeat (first | with_reducible exact Below.refl _ _ | with_reducible assumption | with_reducible refine bel_alloc ?_ _ | with_reducible refine bel_drew ?_ | with_reducible refine bel_drewN ?_ _ | (with_reducible refine bel_set ?_ ?_ _; rotate_left; ((try simp); (try omega)))))) (by exact Cod.bel hr4 (by repeat (first | with_reducible exact Below.refl _ _ | with_reducible assumption | with_reducible refine bel_alloc ?_ _ | with_reducible refine bel_drew ?_ | with_reducible refine bel_drewN ?_ _ | (with_reducible refine bel_set ?_ ?_ _; rotate_left; ((try simp); (try omega))))))).mono ?_; rw [hbn]; rintro e y5 ⟨rfl, hy5⟩; have hY5 : Below W4.heap.size W4 y5 := bel_then (by repeat (first | with_reducible exact Below.refl _ _ | with_reducible assumption | with_reducible refine bel_alloc ?_ _ | with_reducible refine bel_drew ?_ | with_reducible refine bel_drewN ?_ _ | (with_reducible refine bel_set ?_ ?_ _; rotate_left; ((try simp); (try omega))))) hy5; clear hy5 hr34 hr4))
        try go_wp2_with fail
        refine hK.out _ _ ?_ (fun hHeld => ?_)
        · (try dsimp only)
          exact hS9 _ (by repeat (first | with_reducible exact Below.refl _ _ | with_reducible assumption | with_reducible refine bel_alloc ?_ _ | with_reducible refine bel_drew ?_ | with_reducible refine bel_drewN ?_ _ | (with_reducible refine bel_set ?_ ?_ _; rotate_left; ((try simp); (try omega)))))
        clear hK K
        try simp only [Act.put, List.setIfInBounds_toArray, List.set_cons_zero, List.set_cons_succ]
        refine take_read (i := 35) 120 (v := ?x6_v35) rfl rfl (by kernel_rfl) (by kernel_rfl) (by kernel_rfl) (fun _ _ _ h => h) (by rfl) ?x6_hy35 (by assumption) ?x6_rest35
        case x6_hy35 => (intro w hSw; (try dsimp only at hSw); go_simp; (try with_reducible rfl))
        try simp only [Act.put, List.setIfInBounds_toArray, List.set_cons_zero, List.set_cons_succ]
        refine take_read (i := 36) 121 (v := ?x6_v36) rfl rfl (by kernel_rfl) (by kernel_rfl) (by kernel_rfl) (fun _ _ _ h => h) (by rfl) ?x6_hy36 (by assumption) ?x6_rest36
        case x6_hy36 => (intro w hSw; (try dsimp only at hSw); go_simp; (try with_reducible rfl))
        try simp only [Act.put, List.setIfInBounds_toArray, List.set_cons_zero, List.set_cons_succ]
        refine take_read (i := 37) 122 (v := ?x6_v37) rfl rfl (by kernel_rfl) (by kernel_rfl) (by kernel_rfl) (fun _ _ _ h => h) (by rfl) ?x6_hy37 (by assumption) ?x6_rest37
        case x6_hy37 => (intro w hSw; (try dsimp only at hSw); go_simp; (try with_reducible rfl))
        try simp only [Act.put, List.setIfInBounds_toArray, List.set_cons_zero, List.set_cons_succ]
        refine take_read (i := 38) 2 (v := ?x6_v38) rfl rfl (by kernel_rfl) (by kernel_rfl) (by kernel_rfl) (fun _ _ _ h => h) (by rfl) ?x6_hy38 (by assumption) ?x6_rest38
        case x6_hy38 => (intro w hSw; (try dsimp only at hSw); go_simp; (try with_reducible rfl))
        try simp only [Act.put, List.setIfInBounds_toArray, List.set_cons_zero, List.set_cons_succ]
        refine wpAnyH_done (by kernel_rfl) ?_ _
        go_wp2_with fail
        go_ret
        exact ⟨rfl, bel_then hBw10 (by assumption)⟩

set_option maxRecDepth 100000 in
theorem lawSites_walk (H : Type) (enc : TypeId × Value → H) (W : World) (base : Nat) (args : Array Value) (ds : List (DataW H)) (p : List MemPlace)
    (hval : ∀ (j : Nat) t v, Try.f5.params[j]? = some t → args[j]? = some v → Value.okWide Try.prog W .any base t v)
    (hA : DataW.TrodAll enc Try.prog W 0 (fun _ => true) true Try.f5.params.toList args.toList ds p) (hf : W.noneFrozen p) :
    Calls Try.prog 5 args W (Gives W (.bool true)) := by
  rw [Try.params5] at hA hval
  obtain ⟨v0, vs0, d0, ds0, q0, s0, hargs, rfl, rfl, k0, t0⟩ := trodAll_cons hA
  obtain ⟨rfl, rfl, rfl⟩ := trodAll_nil t0
  obtain rfl : args = #[v0] := by cases args; simp_all
  obtain ⟨x0, F0, hx0⟩ := opens_US.slice_ Try.underlying22 (hval 0 _ _ rfl rfl) k0 (noneFrozen_mono hf fun y hy => by simp [hy])
  exact lawSites_any v0 x0 F0 W hx0

set_option maxRecDepth 100000 in
theorem lawSites_lifted (os : Os) (started : os.Started) (H : Type) (enc : TypeId × Value → H) :
    ReturnsInHanded {} Try.checked os 5 .any (Rows.fnSitesSpec.pre6 enc Try.prog Try.f5 Rows.fnSitesRow.domain false) (Rows.fnSitesSpec.post enc Try.prog Try.f5 false true false false) := by
  refine returnsInHanded_of_change (C := Try.checked) (by kernel_rfl) started (by kernel_rfl) Try.func5
    (ChangeSpec.witness6 (enc := enc) (C := Try.checked) false ⟨#[], #[.slice none 0 0], []⟩ 16 (by kernel_rfl) (by kernel_rfl) (by kernel_rfl) (by kernel_rfl)) ?_
  intro W base args ds gs before hval hW _ _
  have hW' := hW
  obtain ⟨p, q, hA, hV, rfl, hfz, hnd⟩ := hW
  refine (lawSites_walk H enc W base args ds p hval hA (noneFrozen_mono hfz fun y hy => by simp [hy])).mono fun e W' ⟨he, hb⟩ => ⟨_, he, ?_⟩
  exact law_post (by kernel_rfl) rfl (by kernel_rfl) Try.underlying4 (by kernel_rfl) (fun ds h => by
    match ds, h with
    | [d0], _ => exact ⟨rfl, rfl, rfl⟩) hW' hb
theorem lawSites_over : Rows.fnSitesRow.holds Try.pinned (OpenSpec.ofChange Rows.fnSitesSpec) :=
  OpenClaim.holds_of_wide 5 Try.f5 rfl rfl rfl rfl rfl rfl rfl ⟨rfl, rfl, rfl, rfl, rfl⟩ rfl rfl rfl rfl rfl (by kernel_rfl) Try.func5 (by kernel_rfl)
    (of_decide_eq_true (by kernel_rfl)) (by unfold Func.isWrapper; rw [if_neg (of_decide_eq_false (by kernel_rfl))]; exact ⟨rfl, rfl⟩)
    (fun os started H enc _ => lawSites_lifted os started H enc)
/-- THE STATEMENT -/
theorem lawSites_holds : Rows.FnSitesSaid := lawSites_over

end Go.Proofs.Ytlicnppfgfjkgaa
