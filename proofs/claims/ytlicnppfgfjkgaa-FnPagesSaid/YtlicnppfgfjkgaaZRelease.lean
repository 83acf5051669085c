/-
  Copies of a site; Release of the program and of the reference. No conditions.
-/
import Derived.Test.YtlicnppfgfjkgaaZA
namespace Go.Proofs.Ytlicnppfgfjkgaa
open Go.ChangeShapes Go.WideShapes Go.RowKit
set_option linter.unusedVariables false

theorem infoStr : (Try.prog.info? 9).map (fun i => (i.zero, i.size, i.bytes)) = some (some (Value.string ByteArray.empty), 1, 16) := by kernel_rfl

set_option maxRecDepth 100000 in
set_option maxHeartbeats 4000000 in
theorem implCopySite_any (vs : Array Value) (x : TSite) (F : List Nat) (w : World) (h : cSite.rep w vs.toList x F) (hn : cSite.sz x ≤ 1048576) :
    Calls Try.prog 87 #[.agg vs] w (GivesR cSite w x) := by
  obtain ⟨i0, hi0, hz0, hz1, hz2⟩ := info_parts infoStr
  have hlen : x.files.length ≤ 1048576 := by
    have h1 := Cod.len_le cS x.files
    have : cSite.sz x = x.name.size + (0 + (cS.szs x.files + 0)) := rfl
    omega
  obtain ⟨u2, F2, rfl, -, hok, m2⟩ := TSite.outA h
  obtain ⟨A2, c2, rfl⟩ := cL_form m2
  clear h hn
  have HS := Lib.hid hlen
  clear hlen
  go_enter Try.func87, Try.ntmps87
  go_wp2_with (at_builtin; refine wpList_app (c := cS) (xs := []) (ys := x.files) (Fi := []) (Fy := []) _ rfl _ _ _ rfl i0 _ _ Try.underlying57 hi0 hz0 hz1 hz2 rfl (by decide) (v := .slice (some _) 0 0) rfl (Own.empty _) (.slice A2 x.files.length c2) rfl (AppSrc.flat (hw := by decide) (hw2 := by decide) flat_S (Cod.bel m2 (by repeat (first | with_reducible exact Below.refl _ _ | with_reducible assumption | with_reducible refine bel_alloc ?_ _ | with_reducible refine bel_drew ?_ | with_reducible refine bel_drewN ?_ _ | (with_reducible refine bel_set ?_ ?_ _; rotate_left; ((try simp); (try omega))))))) (by have := HS.out; unfold maxLen; simp; omega) (by have := HS.out; simp; omega) (Nat.le_refl _) (by simp [ownB]) ?_)
  intro v1 w1 ho hg hat
  replace ho : Own cS 9 _ w1 v1 x.files [] := ho
  obtain ⟨B1, d1, e1⟩ := ho.slice
  subst e1
  have hb : Below _ _ w1 := (Below.refl _ _).grown hg (Nat.le_refl _) (by simp [ownB])
  have hs := hb.size
  (try simp at hs)
  have ha0 : w.heap.size < w1.heap.size := by omega
  have ha1 : w.heap.size + 1 < w1.heap.size := by omega
  obtain ⟨hc1, hf1, -⟩ := bcell hb
  have hb1 : Below w.heap.size w w1 := bel_then (by repeat (first | with_reducible exact Below.refl _ _ | with_reducible assumption | with_reducible refine bel_alloc ?_ _ | with_reducible refine bel_drew ?_ | with_reducible refine bel_drewN ?_ _ | (with_reducible refine bel_set ?_ ?_ _; rotate_left; ((try simp); (try omega))))) hb
  have k0 : w1.cell? ⟨w.heap.size, 0, none⟩ = some (.string x.name) := by go_simp
  have k1 : w1.cell? ⟨w.heap.size, 1, none⟩ = some (.int .i64 x.ver) := by go_simp
  have k2 : w1.cell? ⟨w.heap.size, 2, none⟩ = some (.slice A2 x.files.length c2) := by go_simp
  have k3 : w1.cell? ⟨w.heap.size, 3, none⟩ = some (.bool x.shared) := by go_simp
  have j0 : w1.cell? ⟨w.heap.size + 1, 0, none⟩ = some (.string ⟨#[]⟩) := by go_simp
  have j1 : w1.cell? ⟨w.heap.size + 1, 1, none⟩ = some (.int .i64 0) := by go_simp
  have j2 : w1.cell? ⟨w.heap.size + 1, 2, none⟩ = some (.slice none 0 0) := by go_simp
  have j3 : w1.cell? ⟨w.heap.size + 1, 3, none⟩ = some (.bool false) := by go_simp
  clear hb hg hat hs
  have HO := Lib.hid ho
  clear ho
  go_wp2_with fail
  obtain ⟨G, k2, f2, g2⟩ := HO.out.fresh (hw := by decide) (hw2 := by decide)
  refine bodyPost_ret (v := .agg #[.string x.name, .int .i64 x.ver, .slice B1 x.files.length d1, .bool x.shared]) (by simp [results, Try.results87, go_sem, *]) rfl ?_
  exact ⟨_, G, rfl, (by repeat (first | with_reducible exact Below.refl _ _ | with_reducible assumption | with_reducible refine bel_alloc ?_ _ | with_reducible refine bel_drew ?_ | with_reducible refine bel_drewN ?_ _ | (with_reducible refine bel_set ?_ ?_ _; rotate_left; ((try simp); (try omega))))), TSite.mk_ hok (Cod.keep2 k2 f2 (by repeat (first | with_reducible exact Keep.refl _ _ | with_reducible assumption | with_reducible refine Keep.alloc ?_ _ | with_reducible refine Keep.drew ?_ | with_reducible refine Keep.drewN ?_ _ | (with_reducible refine Keep.set_ ?_ ?_ _; rotate_left; ((try simp); (try omega)))))), f2.mono (by (try simp); (try omega))⟩
set_option maxRecDepth 100000 in
set_option maxHeartbeats 4000000 in
theorem specCopySite_any (vs : Array Value) (x : TSite) (F : List Nat) (w : World) (h : cSite.rep w vs.toList x F) (hn : cSite.sz x ≤ 1048576) :
    Calls Try.prog 88 #[.agg vs] w (GivesR cSite w x) := by
  obtain ⟨i0, hi0, hz0, hz1, hz2⟩ := info_parts infoStr
  have hlen : x.files.length ≤ 1048576 := by
    have h1 := Cod.len_le cS x.files
    have : cSite.sz x = x.name.size + (0 + (cS.szs x.files + 0)) := rfl
    omega
  obtain ⟨u2, F2, rfl, -, hok, m2⟩ := TSite.outA h
  obtain ⟨A2, c2, rfl⟩ := cL_form m2
  clear h hn
  have HS := Lib.hid hlen
  clear hlen
  go_enter Try.func88, Try.ntmps88
  go_wp2_with (at_builtin; refine wpList_app (c := cS) (xs := []) (ys := x.files) (Fi := []) (Fy := []) _ rfl _ _ _ rfl i0 _ _ Try.underlying57 hi0 hz0 hz1 hz2 rfl (by decide) (v := .slice (some _) 0 0) rfl (Own.empty _) (.slice A2 x.files.length c2) rfl (AppSrc.flat (hw := by decide) (hw2 := by decide) flat_S (Cod.bel m2 (by repeat (first | with_reducible exact Below.refl _ _ | with_reducible assumption | with_reducible refine bel_alloc ?_ _ | with_reducible refine bel_drew ?_ | with_reducible refine bel_drewN ?_ _ | (with_reducible refine bel_set ?_ ?_ _; rotate_left; ((try simp); (try omega))))))) (by have := HS.out; unfold maxLen; simp; omega) (by have := HS.out; simp; omega) (Nat.le_refl _) (by simp [ownB]) ?_)
  intro v1 w1 ho hg hat
  replace ho : Own cS 9 _ w1 v1 x.files [] := ho
  obtain ⟨B1, d1, e1⟩ := ho.slice
  subst e1
  have hb : Below _ _ w1 := (Below.refl _ _).grown hg (Nat.le_refl _) (by simp [ownB])
  have hs := hb.size
  (try simp at hs)
  have ha0 : w.heap.size < w1.heap.size := by omega
  have ha2 : w.heap.size + 1 + 1 < w1.heap.size := by omega
  have ha1 : w.heap.size + 1 < w1.heap.size := by omega
  obtain ⟨hc1, hf1, -⟩ := bcell hb
  have hb1 : Below w.heap.size w w1 := bel_then (by repeat (first | with_reducible exact Below.refl _ _ | with_reducible assumption | with_reducible refine bel_alloc ?_ _ | with_reducible refine bel_drew ?_ | with_reducible refine bel_drewN ?_ _ | (with_reducible refine bel_set ?_ ?_ _; rotate_left; ((try simp); (try omega))))) hb
  have k0 : w1.cell? ⟨w.heap.size, 0, none⟩ = some (.string x.name) := by go_simp
  have k1 : w1.cell? ⟨w.heap.size, 1, none⟩ = some (.int .i64 x.ver) := by go_simp
  have k2 : w1.cell? ⟨w.heap.size, 2, none⟩ = some (.slice A2 x.files.length c2) := by go_simp
  have k3 : w1.cell? ⟨w.heap.size, 3, none⟩ = some (.bool x.shared) := by go_simp
  have j0 : w1.cell? ⟨w.heap.size + 1, 0, none⟩ = some (.string ⟨#[]⟩) := by go_simp
  have j1 : w1.cell? ⟨w.heap.size + 1, 1, none⟩ = some (.int .i64 0) := by go_simp
  have j2 : w1.cell? ⟨w.heap.size + 1, 2, none⟩ = some (.slice none 0 0) := by go_simp
  have j3 : w1.cell? ⟨w.heap.size + 1, 3, none⟩ = some (.bool false) := by go_simp
  have i0 : w1.cell? ⟨w.heap.size + 1 + 1, 0, none⟩ = some (.string x.name) := by go_simp
  have i1 : w1.cell? ⟨w.heap.size + 1 + 1, 1, none⟩ = some (.int .i64 x.ver) := by go_simp
  have i2 : w1.cell? ⟨w.heap.size + 1 + 1, 2, none⟩ = some (.slice A2 x.files.length c2) := by go_simp
  have i3 : w1.cell? ⟨w.heap.size + 1 + 1, 3, none⟩ = some (.bool x.shared) := by go_simp
  clear hb hg hat hs
  have HO := Lib.hid ho
  clear ho
  go_wp2_with fail
  obtain ⟨G, k2, f2, g2⟩ := HO.out.fresh (hw := by decide) (hw2 := by decide)
  refine bodyPost_ret (v := .agg #[.string x.name, .int .i64 x.ver, .slice B1 x.files.length d1, .bool x.shared]) (by simp [results, Try.results88, go_sem, *]) rfl ?_
  exact ⟨_, G, rfl, (by repeat (first | with_reducible exact Below.refl _ _ | with_reducible assumption | with_reducible refine bel_alloc ?_ _ | with_reducible refine bel_drew ?_ | with_reducible refine bel_drewN ?_ _ | (with_reducible refine bel_set ?_ ?_ _; rotate_left; ((try simp); (try omega))))), TSite.mk_ hok (Cod.keep2 k2 f2 (by repeat (first | with_reducible exact Keep.refl _ _ | with_reducible assumption | with_reducible refine Keep.alloc ?_ _ | with_reducible refine Keep.drew ?_ | with_reducible refine Keep.drewN ?_ _ | (with_reducible refine Keep.set_ ?_ ?_ _; rotate_left; ((try simp); (try omega)))))), f2.mono (by (try simp); (try omega))⟩

def release (x : TSite) : TSite × Bool := bif isSite x && isSite ⟨x.name, x.ver + 1, x.files, x.shared⟩ then (⟨x.name, x.ver + 1, x.files, x.shared⟩, true) else (x, false)
set_option maxRecDepth 100000 in
set_option maxHeartbeats 4000000 in
theorem implRelease_any (vs : Array Value) (x : TSite) (F : List Nat) (w : World) (h : cSite.rep w vs.toList x F) (hn : cSite.sz x ≤ 1048576) :
    Calls Try.prog 34 #[.agg vs] w (GivesR2 cSite w (release x).1 (.bool (release x).2)) := by
  have hr := h
  obtain ⟨u2, F2, rfl, -, hok, m2⟩ := TSite.outA h
  obtain ⟨A2, c2, rfl⟩ := cL_form m2
  clear h m2
  cases hs : isSite x
  · have HE := Lib.hid (show release x = (x, false) by simp [release, hs])
    rw [HE.out]
    have hcs := fun W hb => implIsSite_any _ x _ W (Cod.bel hr hb) hn
    rw [hs] at hcs
    go_enter Try.func34, Try.ntmps34
    go_wp2_with fail
    refine (implCopySite_any _ x _ _ (by exact Cod.bel hr (by repeat (first | with_reducible exact Below.refl _ _ | with_reducible assumption | with_reducible refine bel_alloc ?_ _ | with_reducible refine bel_drew ?_ | with_reducible refine bel_drewN ?_ _ | (with_reducible refine bel_set ?_ ?_ _; rotate_left; ((try simp); (try omega)))))) hn).mono ?_
    rintro e w1 ⟨vs1, G1, rfl, hb1, hr1, hf1⟩
    obtain ⟨u1, _, rfl, rfl, -, m1⟩ := TSite.outA hr1
    obtain ⟨A1, c1, rfl⟩ := cL_form m1
    have hz_w1 := hb1.size
    (try simp at hz_w1)
    have ha0_w1 : w.heap.size < w1.heap.size := by omega
    have ha1_w1 : w.heap.size + 1 < w1.heap.size := by omega
    obtain ⟨hc_w1, hf_w1, -⟩ := bcell hb1
    have hb_w1 : Below w.heap.size w w1 := bel_then (by repeat (first | with_reducible exact Below.refl _ _ | with_reducible assumption | with_reducible refine bel_alloc ?_ _ | with_reducible refine bel_drew ?_ | with_reducible refine bel_drewN ?_ _ | (with_reducible refine bel_set ?_ ?_ _; rotate_left; ((try simp); (try omega))))) hb1
    clear hr1 hb1 m1 hf1
    go_wp2_with fail
    refine (hcs _ (by repeat (first | with_reducible exact Below.refl _ _ | with_reducible assumption | with_reducible refine bel_alloc ?_ _ | with_reducible refine bel_drew ?_ | with_reducible refine bel_drewN ?_ _ | (with_reducible refine bel_set ?_ ?_ _; rotate_left; ((try simp); (try omega)))))).mono ?_
    rintro e w2 ⟨rfl, hb2⟩
    have hz_w2 := hb2.size
    (try simp at hz_w2)
    have ha0_w2 : w.heap.size < w2.heap.size := by omega
    have ha1_w2 : w.heap.size + 1 < w2.heap.size := by omega
    obtain ⟨hc_w2, hf_w2, -⟩ := bcell hb2
    have hb_w2 : Below w.heap.size w w2 := bel_then (by repeat (first | with_reducible exact Below.refl _ _ | with_reducible assumption | with_reducible refine bel_alloc ?_ _ | with_reducible refine bel_drew ?_ | with_reducible refine bel_drewN ?_ _ | (with_reducible refine bel_set ?_ ?_ _; rotate_left; ((try simp); (try omega))))) hb2
    clear hb2
    go_wp2_with fail
    refine (implCopySite_any _ x _ _ (by exact Cod.bel hr (by repeat (first | with_reducible exact Below.refl _ _ | with_reducible assumption | with_reducible refine bel_alloc ?_ _ | with_reducible refine bel_drew ?_ | with_reducible refine bel_drewN ?_ _ | (with_reducible refine bel_set ?_ ?_ _; rotate_left; ((try simp); (try omega)))))) hn).mono ?_
    rintro e w3 ⟨vs3, G3, rfl, hb3, hr3, hf3⟩
    obtain ⟨u3, _, rfl, rfl, -, m3⟩ := TSite.outA hr3
    obtain ⟨A3, c3, rfl⟩ := cL_form m3
    have hz_w3 := hb3.size
    (try simp at hz_w3)
    have ha0_w3 : w.heap.size < w3.heap.size := by omega
    have ha1_w3 : w.heap.size + 1 < w3.heap.size := by omega
    obtain ⟨hc_w3, hf_w3, -⟩ := bcell hb3
    have hb_w3 : Below w.heap.size w w3 := bel_then (by repeat (first | with_reducible exact Below.refl _ _ | with_reducible assumption | with_reducible refine bel_alloc ?_ _ | with_reducible refine bel_drew ?_ | with_reducible refine bel_drewN ?_ _ | (with_reducible refine bel_set ?_ ?_ _; rotate_left; ((try simp); (try omega))))) hb3
    clear hr3 hb3
    have j0 : w3.cell? ⟨w.heap.size + 1, 0, none⟩ = some (.string ⟨#[]⟩) := by go_simp
    have j1 : w3.cell? ⟨w.heap.size + 1, 1, none⟩ = some (.int .i64 0) := by go_simp
    have j2 : w3.cell? ⟨w.heap.size + 1, 2, none⟩ = some (.slice none 0 0) := by go_simp
    have j3 : w3.cell? ⟨w.heap.size + 1, 3, none⟩ = some (.bool false) := by go_simp
    go_wp2_with fail
    refine bodyPost_ret (v := .tuple #[.agg #[.string x.name, .int .i64 x.ver, .slice A3 x.files.length c3, .bool x.shared], .bool false]) (by simp [results, Try.results34, go_sem, *]) rfl ?_
    exact ⟨_, G3, rfl, (by repeat (first | with_reducible exact Below.refl _ _ | with_reducible assumption | with_reducible refine bel_alloc ?_ _ | with_reducible refine bel_drew ?_ | with_reducible refine bel_drewN ?_ _ | (with_reducible refine bel_set ?_ ?_ _; rotate_left; ((try simp); (try omega))))), TSite.mk_ hok (Cod.keep2 m3 hf3 (by repeat (first | with_reducible exact Keep.refl _ _ | with_reducible assumption | with_reducible refine Keep.alloc ?_ _ | with_reducible refine Keep.drew ?_ | with_reducible refine Keep.drewN ?_ _ | (with_reducible refine Keep.set_ ?_ ?_ _; rotate_left; ((try simp); (try omega)))))), hf3.mono (by (try simp); (try omega))⟩
  · have hv := isSite_ver hs
    have hcs := fun W hb => implIsSite_any _ x _ W (Cod.bel hr hb) hn
    rw [hs] at hcs
    have hok2 : (⟨x.name, x.ver + 1, x.files, x.shared⟩ : TSite).Ok := ⟨hok.h0, by show -9223372036854775808 ≤ x.ver + 1 ∧ x.ver + 1 ≤ 9223372036854775807; omega⟩
    have hn2 : cSite.sz ⟨x.name, x.ver + 1, x.files, x.shared⟩ ≤ 1048576 := hn
    cases hs2 : isSite ⟨x.name, x.ver + 1, x.files, x.shared⟩
    · have HE := Lib.hid (show release x = (x, false) by simp [release, hs2])
      rw [HE.out]
      go_enter Try.func34, Try.ntmps34
      go_wp2_with fail
      refine (implCopySite_any _ x _ _ (by exact Cod.bel hr (by repeat (first | with_reducible exact Below.refl _ _ | with_reducible assumption | with_reducible refine bel_alloc ?_ _ | with_reducible refine bel_drew ?_ | with_reducible refine bel_drewN ?_ _ | (with_reducible refine bel_set ?_ ?_ _; rotate_left; ((try simp); (try omega)))))) hn).mono ?_
      rintro e w1 ⟨vs1, G1, rfl, hb1, hr1, hf1⟩
      obtain ⟨u1, _, rfl, rfl, -, m1⟩ := TSite.outA hr1
      obtain ⟨A1, c1, rfl⟩ := cL_form m1
      have hz_w1 := hb1.size
      (try simp at hz_w1)
      have ha0_w1 : w.heap.size < w1.heap.size := by omega
      have ha1_w1 : w.heap.size + 1 < w1.heap.size := by omega
      obtain ⟨hc_w1, hf_w1, -⟩ := bcell hb1
      have hb_w1 : Below w.heap.size w w1 := bel_then (by repeat (first | with_reducible exact Below.refl _ _ | with_reducible assumption | with_reducible refine bel_alloc ?_ _ | with_reducible refine bel_drew ?_ | with_reducible refine bel_drewN ?_ _ | (with_reducible refine bel_set ?_ ?_ _; rotate_left; ((try simp); (try omega))))) hb1
      have hg1 : Fresh (w.heap.size + 1 + 1) G1 := hf1.mono (by simp)
      clear hr1 hb1 hf1
      go_wp2_with fail
      refine (hcs _ (by repeat (first | with_reducible exact Below.refl _ _ | with_reducible assumption | with_reducible refine bel_alloc ?_ _ | with_reducible refine bel_drew ?_ | with_reducible refine bel_drewN ?_ _ | (with_reducible refine bel_set ?_ ?_ _; rotate_left; ((try simp); (try omega)))))).mono ?_
      rintro e w2 ⟨rfl, hb2⟩
      have hz_w2 := hb2.size
      (try simp at hz_w2)
      have ha0_w2 : w.heap.size < w2.heap.size := by omega
      have ha1_w2 : w.heap.size + 1 < w2.heap.size := by omega
      have ha2_w2 : w1.heap.size < w2.heap.size := by omega
      obtain ⟨hc_w2, hf_w2, -⟩ := bcell hb2
      have hb_w2 : Below w.heap.size w w2 := bel_then (by repeat (first | with_reducible exact Below.refl _ _ | with_reducible assumption | with_reducible refine bel_alloc ?_ _ | with_reducible refine bel_drew ?_ | with_reducible refine bel_drewN ?_ _ | (with_reducible refine bel_set ?_ ?_ _; rotate_left; ((try simp); (try omega))))) hb2
      have hk2 : Keep (w.heap.size + 1 + 1) w1 w2 := Keep.bel (by repeat (first | with_reducible exact Keep.refl _ _ | with_reducible assumption | with_reducible refine Keep.alloc ?_ _ | with_reducible refine Keep.drew ?_ | with_reducible refine Keep.drewN ?_ _ | (with_reducible refine Keep.set_ ?_ ?_ _; rotate_left; ((try simp); (try omega))))) hb2
      clear hb2
      go_wp2_with fail
      refine (implIsSite_any _ ⟨x.name, x.ver + 1, x.files, x.shared⟩ _ _ (by exact TSite.mk_ (x := ⟨x.name, x.ver + 1, x.files, x.shared⟩) hok2 (Cod.keep2 m1 hg1 (by repeat (first | with_reducible exact Keep.refl _ _ | with_reducible assumption | with_reducible refine Keep.alloc ?_ _ | with_reducible refine Keep.drew ?_ | with_reducible refine Keep.drewN ?_ _ | (with_reducible refine Keep.set_ ?_ ?_ _; rotate_left; ((try simp); (try omega))))))) hn2).mono ?_
      rw [hs2]
      rintro e w4 ⟨rfl, hb4⟩
      have hz_w4 := hb4.size
      (try simp at hz_w4)
      have ha0_w4 : w.heap.size < w4.heap.size := by omega
      have ha1_w4 : w.heap.size + 1 < w4.heap.size := by omega
      have ha2_w4 : w1.heap.size < w4.heap.size := by omega
      obtain ⟨hc_w4, hf_w4, -⟩ := bcell hb4
      have hb_w4 : Below w.heap.size w w4 := bel_then (by repeat (first | with_reducible exact Below.refl _ _ | with_reducible assumption | with_reducible refine bel_alloc ?_ _ | with_reducible refine bel_drew ?_ | with_reducible refine bel_drewN ?_ _ | (with_reducible refine bel_set ?_ ?_ _; rotate_left; ((try simp); (try omega))))) hb4
      clear hb4
      go_wp2_with fail
      refine (implCopySite_any _ x _ _ (by exact Cod.bel hr (by repeat (first | with_reducible exact Below.refl _ _ | with_reducible assumption | with_reducible refine bel_alloc ?_ _ | with_reducible refine bel_drew ?_ | with_reducible refine bel_drewN ?_ _ | (with_reducible refine bel_set ?_ ?_ _; rotate_left; ((try simp); (try omega)))))) hn).mono ?_
      rintro e w3 ⟨vs3, G3, rfl, hb3, hr3, hf3⟩
      obtain ⟨u3, _, rfl, rfl, -, m3⟩ := TSite.outA hr3
      obtain ⟨A3, c3, rfl⟩ := cL_form m3
      have hz_w3 := hb3.size
      (try simp at hz_w3)
      have ha0_w3 : w.heap.size < w3.heap.size := by omega
      have ha1_w3 : w.heap.size + 1 < w3.heap.size := by omega
      obtain ⟨hc_w3, hf_w3, -⟩ := bcell hb3
      have hb_w3 : Below w.heap.size w w3 := bel_then (by repeat (first | with_reducible exact Below.refl _ _ | with_reducible assumption | with_reducible refine bel_alloc ?_ _ | with_reducible refine bel_drew ?_ | with_reducible refine bel_drewN ?_ _ | (with_reducible refine bel_set ?_ ?_ _; rotate_left; ((try simp); (try omega))))) hb3
      clear hr3 hb3
      have j0 : w3.cell? ⟨w.heap.size + 1, 0, none⟩ = some (.string ⟨#[]⟩) := by go_simp
      have j1 : w3.cell? ⟨w.heap.size + 1, 1, none⟩ = some (.int .i64 0) := by go_simp
      have j2 : w3.cell? ⟨w.heap.size + 1, 2, none⟩ = some (.slice none 0 0) := by go_simp
      have j3 : w3.cell? ⟨w.heap.size + 1, 3, none⟩ = some (.bool false) := by go_simp
      go_wp2_with fail
      refine bodyPost_ret (v := .tuple #[.agg #[.string x.name, .int .i64 x.ver, .slice A3 x.files.length c3, .bool x.shared], .bool false]) (by simp [results, Try.results34, go_sem, *]) rfl ?_
      exact ⟨_, G3, rfl, (by repeat (first | with_reducible exact Below.refl _ _ | with_reducible assumption | with_reducible refine bel_alloc ?_ _ | with_reducible refine bel_drew ?_ | with_reducible refine bel_drewN ?_ _ | (with_reducible refine bel_set ?_ ?_ _; rotate_left; ((try simp); (try omega))))), TSite.mk_ hok (Cod.keep2 m3 hf3 (by repeat (first | with_reducible exact Keep.refl _ _ | with_reducible assumption | with_reducible refine Keep.alloc ?_ _ | with_reducible refine Keep.drew ?_ | with_reducible refine Keep.drewN ?_ _ | (with_reducible refine Keep.set_ ?_ ?_ _; rotate_left; ((try simp); (try omega)))))), hf3.mono (by (try simp); (try omega))⟩
    · have HE := Lib.hid (show release x = (⟨x.name, x.ver + 1, x.files, x.shared⟩, true) by simp [release, hs, hs2])
      rw [HE.out]
      go_enter Try.func34, Try.ntmps34
      go_wp2_with fail
      refine (implCopySite_any _ x _ _ (by exact Cod.bel hr (by repeat (first | with_reducible exact Below.refl _ _ | with_reducible assumption | with_reducible refine bel_alloc ?_ _ | with_reducible refine bel_drew ?_ | with_reducible refine bel_drewN ?_ _ | (with_reducible refine bel_set ?_ ?_ _; rotate_left; ((try simp); (try omega)))))) hn).mono ?_
      rintro e w1 ⟨vs1, G1, rfl, hb1, hr1, hf1⟩
      obtain ⟨u1, _, rfl, rfl, -, m1⟩ := TSite.outA hr1
      obtain ⟨A1, c1, rfl⟩ := cL_form m1
      have hz_w1 := hb1.size
      (try simp at hz_w1)
      have ha0_w1 : w.heap.size < w1.heap.size := by omega
      have ha1_w1 : w.heap.size + 1 < w1.heap.size := by omega
      obtain ⟨hc_w1, hf_w1, -⟩ := bcell hb1
      have hb_w1 : Below w.heap.size w w1 := bel_then (by repeat (first | with_reducible exact Below.refl _ _ | with_reducible assumption | with_reducible refine bel_alloc ?_ _ | with_reducible refine bel_drew ?_ | with_reducible refine bel_drewN ?_ _ | (with_reducible refine bel_set ?_ ?_ _; rotate_left; ((try simp); (try omega))))) hb1
      have hg1 : Fresh (w.heap.size + 1 + 1) G1 := hf1.mono (by simp)
      clear hr1 hb1 hf1
      go_wp2_with fail
      refine (hcs _ (by repeat (first | with_reducible exact Below.refl _ _ | with_reducible assumption | with_reducible refine bel_alloc ?_ _ | with_reducible refine bel_drew ?_ | with_reducible refine bel_drewN ?_ _ | (with_reducible refine bel_set ?_ ?_ _; rotate_left; ((try simp); (try omega)))))).mono ?_
      rintro e w2 ⟨rfl, hb2⟩
      have hz_w2 := hb2.size
      (try simp at hz_w2)
      have ha0_w2 : w.heap.size < w2.heap.size := by omega
      have ha1_w2 : w.heap.size + 1 < w2.heap.size := by omega
      have ha2_w2 : w1.heap.size < w2.heap.size := by omega
      obtain ⟨hc_w2, hf_w2, -⟩ := bcell hb2
      have hb_w2 : Below w.heap.size w w2 := bel_then (by repeat (first | with_reducible exact Below.refl _ _ | with_reducible assumption | with_reducible refine bel_alloc ?_ _ | with_reducible refine bel_drew ?_ | with_reducible refine bel_drewN ?_ _ | (with_reducible refine bel_set ?_ ?_ _; rotate_left; ((try simp); (try omega))))) hb2
      have hk2 : Keep (w.heap.size + 1 + 1) w1 w2 := Keep.bel (by repeat (first | with_reducible exact Keep.refl _ _ | with_reducible assumption | with_reducible refine Keep.alloc ?_ _ | with_reducible refine Keep.drew ?_ | with_reducible refine Keep.drewN ?_ _ | (with_reducible refine Keep.set_ ?_ ?_ _; rotate_left; ((try simp); (try omega))))) hb2
      clear hb2
      go_wp2_with fail
      refine (implIsSite_any _ ⟨x.name, x.ver + 1, x.files, x.shared⟩ _ _ (by exact TSite.mk_ (x := ⟨x.name, x.ver + 1, x.files, x.shared⟩) hok2 (Cod.keep2 m1 hg1 (by repeat (first | with_reducible exact Keep.refl _ _ | with_reducible assumption | with_reducible refine Keep.alloc ?_ _ | with_reducible refine Keep.drew ?_ | with_reducible refine Keep.drewN ?_ _ | (with_reducible refine Keep.set_ ?_ ?_ _; rotate_left; ((try simp); (try omega))))))) hn2).mono ?_
      rw [hs2]
      rintro e w4 ⟨rfl, hb4⟩
      have hz_w4 := hb4.size
      (try simp at hz_w4)
      have ha0_w4 : w.heap.size < w4.heap.size := by omega
      have ha1_w4 : w.heap.size + 1 < w4.heap.size := by omega
      have ha2_w4 : w1.heap.size < w4.heap.size := by omega
      obtain ⟨hc_w4, hf_w4, -⟩ := bcell hb4
      have hb_w4 : Below w.heap.size w w4 := bel_then (by repeat (first | with_reducible exact Below.refl _ _ | with_reducible assumption | with_reducible refine bel_alloc ?_ _ | with_reducible refine bel_drew ?_ | with_reducible refine bel_drewN ?_ _ | (with_reducible refine bel_set ?_ ?_ _; rotate_left; ((try simp); (try omega))))) hb4
      have hk4 : Keep (w.heap.size + 1 + 1) w1 w4 := Keep.bel (by repeat (first | with_reducible exact Keep.refl _ _ | with_reducible assumption | with_reducible refine Keep.alloc ?_ _ | with_reducible refine Keep.drew ?_ | with_reducible refine Keep.drewN ?_ _ | (with_reducible refine Keep.set_ ?_ ?_ _; rotate_left; ((try simp); (try omega))))) hb4
      clear hb4
      have j0 : w4.cell? ⟨w.heap.size + 1, 0, none⟩ = some (.string ⟨#[]⟩) := by go_simp
      have j1 : w4.cell? ⟨w.heap.size + 1, 1, none⟩ = some (.int .i64 0) := by go_simp
      have j2 : w4.cell? ⟨w.heap.size + 1, 2, none⟩ = some (.slice none 0 0) := by go_simp
      have j3 : w4.cell? ⟨w.heap.size + 1, 3, none⟩ = some (.bool false) := by go_simp
      go_wp2_with fail
      refine bodyPost_ret (v := .tuple #[.agg #[.string x.name, .int .i64 (x.ver + 1), .slice A1 x.files.length c1, .bool x.shared], .bool true]) (by simp [results, Try.results34, go_sem, *]) rfl ?_
      exact ⟨_, G1, rfl, (by repeat (first | with_reducible exact Below.refl _ _ | with_reducible assumption | with_reducible refine bel_alloc ?_ _ | with_reducible refine bel_drew ?_ | with_reducible refine bel_drewN ?_ _ | (with_reducible refine bel_set ?_ ?_ _; rotate_left; ((try simp); (try omega))))), TSite.mk_ (x := ⟨x.name, x.ver + 1, x.files, x.shared⟩) hok2 (Cod.keep2 m1 hg1 (by repeat (first | with_reducible exact Keep.refl _ _ | with_reducible assumption | with_reducible refine Keep.alloc ?_ _ | with_reducible refine Keep.drew ?_ | with_reducible refine Keep.drewN ?_ _ | (with_reducible refine Keep.set_ ?_ ?_ _; rotate_left; ((try simp); (try omega)))))), hg1.mono (by (try simp); (try omega))⟩
theorem l1Next_any (n : Int) (w : World) (hn : -9223372036854775808 ≤ n ∧ n ≤ 9223372036854775807) : Calls Try.prog 89 #[.int .i64 n] w fun e w' => e = .returned (.int .i64 (if 1000000000000 < n then n else n + 1)) ∧ w = w' := by
  by_cases h : 1000000000000 < n
  · have HM := Lib.hid (show (if 1000000000000 < n then n else n + 1) = n by rw [if_pos h])
    go_enter Try.func89, Try.ntmps89
    go_wp2
    go_ret
    exact ⟨rfl, rfl⟩
  · have HM := Lib.hid (show (if 1000000000000 < n then n else n + 1) = n + 1 by rw [if_neg h])
    go_enter Try.func89, Try.ntmps89
    go_wp2
    go_ret
    exact ⟨rfl, rfl⟩
set_option maxRecDepth 100000 in
set_option maxHeartbeats 4000000 in
theorem specRelease_any (vs : Array Value) (x : TSite) (F : List Nat) (w : World) (h : cSite.rep w vs.toList x F) (hn : cSite.sz x ≤ 1048576) :
    Calls Try.prog 35 #[.agg vs] w (GivesR2 cSite w (release x).1 (.bool (release x).2)) := by
  have hr := h
  obtain ⟨u2, F2, rfl, -, hok, m2⟩ := TSite.outA h
  obtain ⟨A2, c2, rfl⟩ := cL_form m2
  clear h m2
  cases hs : isSite x
  · have HE := Lib.hid (show release x = (x, false) by simp [release, hs])
    rw [HE.out]
    have hcs := fun W hb => specIsSite_any _ x _ W (Cod.bel hr hb) hn
    rw [hs] at hcs
    obtain ⟨nv, hnv⟩ : ∃ nv : Int, (if 1000000000000 < x.ver then x.ver else x.ver + 1) = nv := ⟨_, rfl⟩
    have hnx := fun W => l1Next_any x.ver W hok.h1
    rw [hnv] at hnx
    clear hnv
    go_enter Try.func35, Try.ntmps35
    go_wp2_with fail
    refine (specCopySite_any _ x _ _ (by exact Cod.bel hr (by repeat (first | with_reducible exact Below.refl _ _ | with_reducible assumption | with_reducible refine bel_alloc ?_ _ | with_reducible refine bel_drew ?_ | with_reducible refine bel_drewN ?_ _ | (with_reducible refine bel_set ?_ ?_ _; rotate_left; ((try simp); (try omega)))))) hn).mono ?_
    rintro e w1 ⟨vs1, G1, rfl, hb1, hr1, hf1⟩
    obtain ⟨u1, _, rfl, rfl, -, m1⟩ := TSite.outA hr1
    obtain ⟨A1, c1, rfl⟩ := cL_form m1
    have hz_w1 := hb1.size
    (try simp at hz_w1)
    have ha0_w1 : w.heap.size < w1.heap.size := by omega
    have ha1_w1 : w.heap.size + 1 < w1.heap.size := by omega
    obtain ⟨hc_w1, hf_w1, -⟩ := bcell hb1
    have hb_w1 : Below w.heap.size w w1 := bel_then (by repeat (first | with_reducible exact Below.refl _ _ | with_reducible assumption | with_reducible refine bel_alloc ?_ _ | with_reducible refine bel_drew ?_ | with_reducible refine bel_drewN ?_ _ | (with_reducible refine bel_set ?_ ?_ _; rotate_left; ((try simp); (try omega))))) hb1
    clear hr1 hb1 m1 hf1
    go_wp2_with (first | (go_at_call 89; refine (hnx _).mono ?_; rintro e w1 ⟨rfl, rfl⟩))
    refine (hcs _ (by repeat (first | with_reducible exact Below.refl _ _ | with_reducible assumption | with_reducible refine bel_alloc ?_ _ | with_reducible refine bel_drew ?_ | with_reducible refine bel_drewN ?_ _ | (with_reducible refine bel_set ?_ ?_ _; rotate_left; ((try simp); (try omega)))))).mono ?_
    rintro e w2 ⟨rfl, hb2⟩
    have hz_w2 := hb2.size
    (try simp at hz_w2)
    have ha0_w2 : w.heap.size < w2.heap.size := by omega
    have ha1_w2 : w.heap.size + 1 < w2.heap.size := by omega
    obtain ⟨hc_w2, hf_w2, -⟩ := bcell hb2
    have hb_w2 : Below w.heap.size w w2 := bel_then (by repeat (first | with_reducible exact Below.refl _ _ | with_reducible assumption | with_reducible refine bel_alloc ?_ _ | with_reducible refine bel_drew ?_ | with_reducible refine bel_drewN ?_ _ | (with_reducible refine bel_set ?_ ?_ _; rotate_left; ((try simp); (try omega))))) hb2
    clear hb2
    go_wp2_with fail
    refine (specCopySite_any _ x _ _ (by exact Cod.bel hr (by repeat (first | with_reducible exact Below.refl _ _ | with_reducible assumption | with_reducible refine bel_alloc ?_ _ | with_reducible refine bel_drew ?_ | with_reducible refine bel_drewN ?_ _ | (with_reducible refine bel_set ?_ ?_ _; rotate_left; ((try simp); (try omega)))))) hn).mono ?_
    rintro e w3 ⟨vs3, G3, rfl, hb3, hr3, hf3⟩
    obtain ⟨u3, _, rfl, rfl, -, m3⟩ := TSite.outA hr3
    obtain ⟨A3, c3, rfl⟩ := cL_form m3
    have hz_w3 := hb3.size
    (try simp at hz_w3)
    have ha0_w3 : w.heap.size < w3.heap.size := by omega
    have ha1_w3 : w.heap.size + 1 < w3.heap.size := by omega
    obtain ⟨hc_w3, hf_w3, -⟩ := bcell hb3
    have hb_w3 : Below w.heap.size w w3 := bel_then (by repeat (first | with_reducible exact Below.refl _ _ | with_reducible assumption | with_reducible refine bel_alloc ?_ _ | with_reducible refine bel_drew ?_ | with_reducible refine bel_drewN ?_ _ | (with_reducible refine bel_set ?_ ?_ _; rotate_left; ((try simp); (try omega))))) hb3
    clear hr3 hb3
    have j0 : w3.cell? ⟨w.heap.size + 1, 0, none⟩ = some (.string ⟨#[]⟩) := by go_simp
    have j1 : w3.cell? ⟨w.heap.size + 1, 1, none⟩ = some (.int .i64 0) := by go_simp
    have j2 : w3.cell? ⟨w.heap.size + 1, 2, none⟩ = some (.slice none 0 0) := by go_simp
    have j3 : w3.cell? ⟨w.heap.size + 1, 3, none⟩ = some (.bool false) := by go_simp
    go_wp2_with fail
    refine bodyPost_ret (v := .tuple #[.agg #[.string x.name, .int .i64 x.ver, .slice A3 x.files.length c3, .bool x.shared], .bool false]) (by simp [results, Try.results35, go_sem, *]) rfl ?_
    exact ⟨_, G3, rfl, (by repeat (first | with_reducible exact Below.refl _ _ | with_reducible assumption | with_reducible refine bel_alloc ?_ _ | with_reducible refine bel_drew ?_ | with_reducible refine bel_drewN ?_ _ | (with_reducible refine bel_set ?_ ?_ _; rotate_left; ((try simp); (try omega))))), TSite.mk_ hok (Cod.keep2 m3 hf3 (by repeat (first | with_reducible exact Keep.refl _ _ | with_reducible assumption | with_reducible refine Keep.alloc ?_ _ | with_reducible refine Keep.drew ?_ | with_reducible refine Keep.drewN ?_ _ | (with_reducible refine Keep.set_ ?_ ?_ _; rotate_left; ((try simp); (try omega)))))), hf3.mono (by (try simp); (try omega))⟩
  · have hv := isSite_ver hs
    have hnx := fun W => l1Next_any x.ver W hok.h1
    rw [if_neg (by omega)] at hnx
    have hcs := fun W hb => specIsSite_any _ x _ W (Cod.bel hr hb) hn
    rw [hs] at hcs
    have hok2 : (⟨x.name, x.ver + 1, x.files, x.shared⟩ : TSite).Ok := ⟨hok.h0, by show -9223372036854775808 ≤ x.ver + 1 ∧ x.ver + 1 ≤ 9223372036854775807; omega⟩
    have hn2 : cSite.sz ⟨x.name, x.ver + 1, x.files, x.shared⟩ ≤ 1048576 := hn
    cases hs2 : isSite ⟨x.name, x.ver + 1, x.files, x.shared⟩
    · have HE := Lib.hid (show release x = (x, false) by simp [release, hs2])
      rw [HE.out]
      go_enter Try.func35, Try.ntmps35
      go_wp2_with fail
      refine (specCopySite_any _ x _ _ (by exact Cod.bel hr (by repeat (first | with_reducible exact Below.refl _ _ | with_reducible assumption | with_reducible refine bel_alloc ?_ _ | with_reducible refine bel_drew ?_ | with_reducible refine bel_drewN ?_ _ | (with_reducible refine bel_set ?_ ?_ _; rotate_left; ((try simp); (try omega)))))) hn).mono ?_
      rintro e w1 ⟨vs1, G1, rfl, hb1, hr1, hf1⟩
      obtain ⟨u1, _, rfl, rfl, -, m1⟩ := TSite.outA hr1
      obtain ⟨A1, c1, rfl⟩ := cL_form m1
      have hz_w1 := hb1.size
      (try simp at hz_w1)
      have ha0_w1 : w.heap.size < w1.heap.size := by omega
      have ha1_w1 : w.heap.size + 1 < w1.heap.size := by omega
      obtain ⟨hc_w1, hf_w1, -⟩ := bcell hb1
      have hb_w1 : Below w.heap.size w w1 := bel_then (by repeat (first | with_reducible exact Below.refl _ _ | with_reducible assumption | with_reducible refine bel_alloc ?_ _ | with_reducible refine bel_drew ?_ | with_reducible refine bel_drewN ?_ _ | (with_reducible refine bel_set ?_ ?_ _; rotate_left; ((try simp); (try omega))))) hb1
      have hg1 : Fresh (w.heap.size + 1 + 1) G1 := hf1.mono (by simp)
      clear hr1 hb1 hf1
      go_wp2_with (first | (go_at_call 89; refine (hnx _).mono ?_; rintro e w1 ⟨rfl, rfl⟩))
      refine (hcs _ (by repeat (first | with_reducible exact Below.refl _ _ | with_reducible assumption | with_reducible refine bel_alloc ?_ _ | with_reducible refine bel_drew ?_ | with_reducible refine bel_drewN ?_ _ | (with_reducible refine bel_set ?_ ?_ _; rotate_left; ((try simp); (try omega)))))).mono ?_
      rintro e w2 ⟨rfl, hb2⟩
      have hz_w2 := hb2.size
      (try simp at hz_w2)
      have ha0_w2 : w.heap.size < w2.heap.size := by omega
      have ha1_w2 : w.heap.size + 1 < w2.heap.size := by omega
      have ha2_w2 : w1.heap.size < w2.heap.size := by omega
      obtain ⟨hc_w2, hf_w2, -⟩ := bcell hb2
      have hb_w2 : Below w.heap.size w w2 := bel_then (by repeat (first | with_reducible exact Below.refl _ _ | with_reducible assumption | with_reducible refine bel_alloc ?_ _ | with_reducible refine bel_drew ?_ | with_reducible refine bel_drewN ?_ _ | (with_reducible refine bel_set ?_ ?_ _; rotate_left; ((try simp); (try omega))))) hb2
      have hk2 : Keep (w.heap.size + 1 + 1) w1 w2 := Keep.bel (by repeat (first | with_reducible exact Keep.refl _ _ | with_reducible assumption | with_reducible refine Keep.alloc ?_ _ | with_reducible refine Keep.drew ?_ | with_reducible refine Keep.drewN ?_ _ | (with_reducible refine Keep.set_ ?_ ?_ _; rotate_left; ((try simp); (try omega))))) hb2
      clear hb2
      go_wp2_with fail
      refine (specIsSite_any _ ⟨x.name, x.ver + 1, x.files, x.shared⟩ _ _ (by exact TSite.mk_ (x := ⟨x.name, x.ver + 1, x.files, x.shared⟩) hok2 (Cod.keep2 m1 hg1 (by repeat (first | with_reducible exact Keep.refl _ _ | with_reducible assumption | with_reducible refine Keep.alloc ?_ _ | with_reducible refine Keep.drew ?_ | with_reducible refine Keep.drewN ?_ _ | (with_reducible refine Keep.set_ ?_ ?_ _; rotate_left; ((try simp); (try omega))))))) hn2).mono ?_
      rw [hs2]
      rintro e w4 ⟨rfl, hb4⟩
      have hz_w4 := hb4.size
      (try simp at hz_w4)
      have ha0_w4 : w.heap.size < w4.heap.size := by omega
      have ha1_w4 : w.heap.size + 1 < w4.heap.size := by omega
      have ha2_w4 : w1.heap.size < w4.heap.size := by omega
      obtain ⟨hc_w4, hf_w4, -⟩ := bcell hb4
      have hb_w4 : Below w.heap.size w w4 := bel_then (by repeat (first | with_reducible exact Below.refl _ _ | with_reducible assumption | with_reducible refine bel_alloc ?_ _ | with_reducible refine bel_drew ?_ | with_reducible refine bel_drewN ?_ _ | (with_reducible refine bel_set ?_ ?_ _; rotate_left; ((try simp); (try omega))))) hb4
      clear hb4
      go_wp2_with fail
      refine (specCopySite_any _ x _ _ (by exact Cod.bel hr (by repeat (first | with_reducible exact Below.refl _ _ | with_reducible assumption | with_reducible refine bel_alloc ?_ _ | with_reducible refine bel_drew ?_ | with_reducible refine bel_drewN ?_ _ | (with_reducible refine bel_set ?_ ?_ _; rotate_left; ((try simp); (try omega)))))) hn).mono ?_
      rintro e w3 ⟨vs3, G3, rfl, hb3, hr3, hf3⟩
      obtain ⟨u3, _, rfl, rfl, -, m3⟩ := TSite.outA hr3
      obtain ⟨A3, c3, rfl⟩ := cL_form m3
      have hz_w3 := hb3.size
      (try simp at hz_w3)
      have ha0_w3 : w.heap.size < w3.heap.size := by omega
      have ha1_w3 : w.heap.size + 1 < w3.heap.size := by omega
      obtain ⟨hc_w3, hf_w3, -⟩ := bcell hb3
      have hb_w3 : Below w.heap.size w w3 := bel_then (by repeat (first | with_reducible exact Below.refl _ _ | with_reducible assumption | with_reducible refine bel_alloc ?_ _ | with_reducible refine bel_drew ?_ | with_reducible refine bel_drewN ?_ _ | (with_reducible refine bel_set ?_ ?_ _; rotate_left; ((try simp); (try omega))))) hb3
      clear hr3 hb3
      have j0 : w3.cell? ⟨w.heap.size + 1, 0, none⟩ = some (.string ⟨#[]⟩) := by go_simp
      have j1 : w3.cell? ⟨w.heap.size + 1, 1, none⟩ = some (.int .i64 0) := by go_simp
      have j2 : w3.cell? ⟨w.heap.size + 1, 2, none⟩ = some (.slice none 0 0) := by go_simp
      have j3 : w3.cell? ⟨w.heap.size + 1, 3, none⟩ = some (.bool false) := by go_simp
      go_wp2_with fail
      refine bodyPost_ret (v := .tuple #[.agg #[.string x.name, .int .i64 x.ver, .slice A3 x.files.length c3, .bool x.shared], .bool false]) (by simp [results, Try.results35, go_sem, *]) rfl ?_
      exact ⟨_, G3, rfl, (by repeat (first | with_reducible exact Below.refl _ _ | with_reducible assumption | with_reducible refine bel_alloc ?_ _ | with_reducible refine bel_drew ?_ | with_reducible refine bel_drewN ?_ _ | (with_reducible refine bel_set ?_ ?_ _; rotate_left; ((try simp); (try omega))))), TSite.mk_ hok (Cod.keep2 m3 hf3 (by repeat (first | with_reducible exact Keep.refl _ _ | with_reducible assumption | with_reducible refine Keep.alloc ?_ _ | with_reducible refine Keep.drew ?_ | with_reducible refine Keep.drewN ?_ _ | (with_reducible refine Keep.set_ ?_ ?_ _; rotate_left; ((try simp); (try omega)))))), hf3.mono (by (try simp); (try omega))⟩
    · have HE := Lib.hid (show release x = (⟨x.name, x.ver + 1, x.files, x.shared⟩, true) by simp [release, hs, hs2])
      rw [HE.out]
      go_enter Try.func35, Try.ntmps35
      go_wp2_with fail
      refine (specCopySite_any _ x _ _ (by exact Cod.bel hr (by repeat (first | with_reducible exact Below.refl _ _ | with_reducible assumption | with_reducible refine bel_alloc ?_ _ | with_reducible refine bel_drew ?_ | with_reducible refine bel_drewN ?_ _ | (with_reducible refine bel_set ?_ ?_ _; rotate_left; ((try simp); (try omega)))))) hn).mono ?_
      rintro e w1 ⟨vs1, G1, rfl, hb1, hr1, hf1⟩
      obtain ⟨u1, _, rfl, rfl, -, m1⟩ := TSite.outA hr1
      obtain ⟨A1, c1, rfl⟩ := cL_form m1
      have hz_w1 := hb1.size
      (try simp at hz_w1)
      have ha0_w1 : w.heap.size < w1.heap.size := by omega
      have ha1_w1 : w.heap.size + 1 < w1.heap.size := by omega
      obtain ⟨hc_w1, hf_w1, -⟩ := bcell hb1
      have hb_w1 : Below w.heap.size w w1 := bel_then (by repeat (first | with_reducible exact Below.refl _ _ | with_reducible assumption | with_reducible refine bel_alloc ?_ _ | with_reducible refine bel_drew ?_ | with_reducible refine bel_drewN ?_ _ | (with_reducible refine bel_set ?_ ?_ _; rotate_left; ((try simp); (try omega))))) hb1
      have hg1 : Fresh (w.heap.size + 1 + 1) G1 := hf1.mono (by simp)
      clear hr1 hb1 hf1
      go_wp2_with (first | (go_at_call 89; refine (hnx _).mono ?_; rintro e w1 ⟨rfl, rfl⟩))
      refine (hcs _ (by repeat (first | with_reducible exact Below.refl _ _ | with_reducible assumption | with_reducible refine bel_alloc ?_ _ | with_reducible refine bel_drew ?_ | with_reducible refine bel_drewN ?_ _ | (with_reducible refine bel_set ?_ ?_ _; rotate_left; ((try simp); (try omega)))))).mono ?_
      rintro e w2 ⟨rfl, hb2⟩
      have hz_w2 := hb2.size
      (try simp at hz_w2)
      have ha0_w2 : w.heap.size < w2.heap.size := by omega
      have ha1_w2 : w.heap.size + 1 < w2.heap.size := by omega
      have ha2_w2 : w1.heap.size < w2.heap.size := by omega
      obtain ⟨hc_w2, hf_w2, -⟩ := bcell hb2
      have hb_w2 : Below w.heap.size w w2 := bel_then (by repeat (first | with_reducible exact Below.refl _ _ | with_reducible assumption | with_reducible refine bel_alloc ?_ _ | with_reducible refine bel_drew ?_ | with_reducible refine bel_drewN ?_ _ | (with_reducible refine bel_set ?_ ?_ _; rotate_left; ((try simp); (try omega))))) hb2
      have hk2 : Keep (w.heap.size + 1 + 1) w1 w2 := Keep.bel (by repeat (first | with_reducible exact Keep.refl _ _ | with_reducible assumption | with_reducible refine Keep.alloc ?_ _ | with_reducible refine Keep.drew ?_ | with_reducible refine Keep.drewN ?_ _ | (with_reducible refine Keep.set_ ?_ ?_ _; rotate_left; ((try simp); (try omega))))) hb2
      clear hb2
      go_wp2_with fail
      refine (specIsSite_any _ ⟨x.name, x.ver + 1, x.files, x.shared⟩ _ _ (by exact TSite.mk_ (x := ⟨x.name, x.ver + 1, x.files, x.shared⟩) hok2 (Cod.keep2 m1 hg1 (by repeat (first | with_reducible exact Keep.refl _ _ | with_reducible assumption | with_reducible refine Keep.alloc ?_ _ | with_reducible refine Keep.drew ?_ | with_reducible refine Keep.drewN ?_ _ | (with_reducible refine Keep.set_ ?_ ?_ _; rotate_left; ((try simp); (try omega))))))) hn2).mono ?_
      rw [hs2]
      rintro e w4 ⟨rfl, hb4⟩
      have hz_w4 := hb4.size
      (try simp at hz_w4)
      have ha0_w4 : w.heap.size < w4.heap.size := by omega
      have ha1_w4 : w.heap.size + 1 < w4.heap.size := by omega
      have ha2_w4 : w1.heap.size < w4.heap.size := by omega
      obtain ⟨hc_w4, hf_w4, -⟩ := bcell hb4
      have hb_w4 : Below w.heap.size w w4 := bel_then (by repeat (first | with_reducible exact Below.refl _ _ | with_reducible assumption | with_reducible refine bel_alloc ?_ _ | with_reducible refine bel_drew ?_ | with_reducible refine bel_drewN ?_ _ | (with_reducible refine bel_set ?_ ?_ _; rotate_left; ((try simp); (try omega))))) hb4
      have hk4 : Keep (w.heap.size + 1 + 1) w1 w4 := Keep.bel (by repeat (first | with_reducible exact Keep.refl _ _ | with_reducible assumption | with_reducible refine Keep.alloc ?_ _ | with_reducible refine Keep.drew ?_ | with_reducible refine Keep.drewN ?_ _ | (with_reducible refine Keep.set_ ?_ ?_ _; rotate_left; ((try simp); (try omega))))) hb4
      clear hb4
      have j0 : w4.cell? ⟨w.heap.size + 1, 0, none⟩ = some (.string ⟨#[]⟩) := by go_simp
      have j1 : w4.cell? ⟨w.heap.size + 1, 1, none⟩ = some (.int .i64 0) := by go_simp
      have j2 : w4.cell? ⟨w.heap.size + 1, 2, none⟩ = some (.slice none 0 0) := by go_simp
      have j3 : w4.cell? ⟨w.heap.size + 1, 3, none⟩ = some (.bool false) := by go_simp
      go_wp2_with fail
      refine bodyPost_ret (v := .tuple #[.agg #[.string x.name, .int .i64 (x.ver + 1), .slice A1 x.files.length c1, .bool x.shared], .bool true]) (by simp [results, Try.results35, go_sem, *]) rfl ?_
      exact ⟨_, G1, rfl, (by repeat (first | with_reducible exact Below.refl _ _ | with_reducible assumption | with_reducible refine bel_alloc ?_ _ | with_reducible refine bel_drew ?_ | with_reducible refine bel_drewN ?_ _ | (with_reducible refine bel_set ?_ ?_ _; rotate_left; ((try simp); (try omega))))), TSite.mk_ (x := ⟨x.name, x.ver + 1, x.files, x.shared⟩) hok2 (Cod.keep2 m1 hg1 (by repeat (first | with_reducible exact Keep.refl _ _ | with_reducible assumption | with_reducible refine Keep.alloc ?_ _ | with_reducible refine Keep.drew ?_ | with_reducible refine Keep.drewN ?_ _ | (with_reducible refine Keep.set_ ?_ ?_ _; rotate_left; ((try simp); (try omega)))))), hg1.mono (by (try simp); (try omega))⟩
theorem release_sz (x : TSite) : cSite.sz (release x).1 = cSite.sz x := by
  unfold release
  cases isSite x && isSite ⟨x.name, x.ver + 1, x.files, x.shared⟩ <;> rfl
end Go.Proofs.Ytlicnppfgfjkgaa
