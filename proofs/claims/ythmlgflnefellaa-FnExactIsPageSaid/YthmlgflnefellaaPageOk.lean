/-
  IsPage of the program and of the reference. No conditions.
-/
import Derived.Test.YthmlgflnefellaaTPage
import Derived.Test.YthmlgflnefellaaName
import Derived.Test.YthmlgflnefellaaSearch
import Derived.StillTailTactics
namespace Go.Proofs.Ythmlgflnefellaa
open Go.ChangeShapes Go.WideShapes Go.RowKit
set_option linter.unusedVariables false

def loadedOk (v : Int) (x : TLoaded) : Bool := isName x.path && x.ver == v
def isPage (x : TPage) : Bool := !(x.loaded.any fun y => !loadedOk x.ver y) && inR x.id 1 1000000000000 && isName x.site && isName x.top && inR x.ver 1 1000000000000 && decide ((x.loaded.length : Int) ≤ 8)
set_option maxRecDepth 100000 in
set_option maxHeartbeats 4000000 in
theorem implIsPage_any (vs : Array Value) (x : TPage) (F : List Nat) (w : World) (h : cPage.rep w vs.toList x F) (hn : cPage.sz x ≤ 1048576) :
    Calls Try.prog 49 #[.agg vs] w (Gives w (.bool (isPage x))) := by
  obtain ⟨v4, v5, v7, F4, F5, F7, rfl, -, hok, m4, m5, m7⟩ := TPage.outA h
  clear h
  obtain ⟨A, cp, rfl⟩ := cL_form m4
  obtain ⟨A5, c5, rfl⟩ := cL_form m5
  obtain ⟨A7, c7, rfl⟩ := cL_form m7
  clear m5 m7
  obtain ⟨-, hcp, hm⟩ := cL_len m4
  have HE := Lib.hid (show isPage x = (!(x.loaded.any fun y => !loadedOk x.ver y) && inR x.id 1 1000000000000 && isName x.site && isName x.top && inR x.ver 1 1000000000000 && decide ((x.loaded.length : Int) ≤ 8)) from rfl)
  obtain ⟨n, hxn⟩ : ∃ n, x.loaded.length = n := ⟨_, rfl⟩
  have HN := Lib.hid hxn
  rw [hxn] at hcp ⊢
  clear hxn
  unfold maxLen at hm
  have hsite := hok.h1
  have htop := hok.h2
  go_enter Try.func49, Try.ntmps49
  go_wp2
  generalize hW : World.alloc _ _ = W
  have hWs : W.heap.size = w.heap.size + 1 := by rw [← hW]; clear hW; simp
  have hbW : Below w.heap.size w W := by rw [← hW]; exact (by repeat (first | with_reducible exact Below.refl _ _ | with_reducible assumption | with_reducible refine bel_alloc ?_ _ | with_reducible refine bel_drew ?_ | with_reducible refine bel_drewN ?_ _ | (with_reducible refine bel_set ?_ ?_ _; rotate_left; ((try simp); (try omega)))))
  have HK := Lib.hid (show W.cell? ⟨w.heap.size, 0, none⟩ = some (.int .i64 x.id) ∧ W.cell? ⟨w.heap.size, 1, none⟩ = some (.string x.site) ∧ W.cell? ⟨w.heap.size, 2, none⟩ = some (.string x.top) ∧ W.cell? ⟨w.heap.size, 3, none⟩ = some (.int .i64 x.ver) ∧ W.cell? ⟨w.heap.size, 4, none⟩ = some (.slice A n cp) ∧ W.cell? ⟨w.heap.size, 5, none⟩ = some (.slice A5 x.mach.script.length c5) ∧ W.cell? ⟨w.heap.size, 6, none⟩ = some (.int .i64 x.mach.pc) ∧ W.cell? ⟨w.heap.size, 7, none⟩ = some (.slice A7 x.mach.regs.length c7) ∧ W.cell? ⟨w.heap.size, 8, none⟩ = some (.int .i64 x.mach.steps) ∧ W.cell? ⟨w.heap.size, 9, none⟩ = some (.bool x.mach.done) ∧ W.cell? ⟨w.heap.size, 10, none⟩ = some (.bool x.mach.wait) from by refine ⟨?_, ?_, ?_, ?_, ?_, ?_, ?_, ?_, ?_, ?_, ?_⟩ <;> (rw [← hW]; clear hW; go_simp))
  clear hW
  go_loopw [8] (fun i wr => ∃ k : Nat, k ≤ n ∧ i = .int .i64 k ∧ noneTo (fun y => !loadedOk x.ver y) x.loaded k = true ∧ Below W.heap.size W wr) (fun i _ => n - (intOf i).toNat)
  case atStart => exact ⟨0, Nat.zero_le _, rfl, noneTo_zero _ _, Below.refl _ _⟩
  case round =>
    obtain ⟨k, hk, rfl, hno, hB⟩ := hrel
    have HO := Lib.hid hno
    clear hno
    have hws_wr : w.heap.size < wr.heap.size := by have := hB.size; omega
    have hbw : Below w.heap.size w wr := bel_then hbW hB
    have k0_wr : wr.cell? ⟨w.heap.size, 0, none⟩ = some (.int .i64 x.id) := (hB.cell (p := ⟨w.heap.size, 0, none⟩) (by (try simp); (try omega))).trans HK.out.1
    have k1_wr : wr.cell? ⟨w.heap.size, 1, none⟩ = some (.string x.site) := (hB.cell (p := ⟨w.heap.size, 1, none⟩) (by (try simp); (try omega))).trans HK.out.2.1
    have k2_wr : wr.cell? ⟨w.heap.size, 2, none⟩ = some (.string x.top) := (hB.cell (p := ⟨w.heap.size, 2, none⟩) (by (try simp); (try omega))).trans HK.out.2.2.1
    have k3_wr : wr.cell? ⟨w.heap.size, 3, none⟩ = some (.int .i64 x.ver) := (hB.cell (p := ⟨w.heap.size, 3, none⟩) (by (try simp); (try omega))).trans HK.out.2.2.2.1
    have k4_wr : wr.cell? ⟨w.heap.size, 4, none⟩ = some (.slice A n cp) := (hB.cell (p := ⟨w.heap.size, 4, none⟩) (by (try simp); (try omega))).trans HK.out.2.2.2.2.1
    have k5_wr : wr.cell? ⟨w.heap.size, 5, none⟩ = some (.slice A5 x.mach.script.length c5) := (hB.cell (p := ⟨w.heap.size, 5, none⟩) (by (try simp); (try omega))).trans HK.out.2.2.2.2.2.1
    have k6_wr : wr.cell? ⟨w.heap.size, 6, none⟩ = some (.int .i64 x.mach.pc) := (hB.cell (p := ⟨w.heap.size, 6, none⟩) (by (try simp); (try omega))).trans HK.out.2.2.2.2.2.2.1
    have k7_wr : wr.cell? ⟨w.heap.size, 7, none⟩ = some (.slice A7 x.mach.regs.length c7) := (hB.cell (p := ⟨w.heap.size, 7, none⟩) (by (try simp); (try omega))).trans HK.out.2.2.2.2.2.2.2.1
    have k8_wr : wr.cell? ⟨w.heap.size, 8, none⟩ = some (.int .i64 x.mach.steps) := (hB.cell (p := ⟨w.heap.size, 8, none⟩) (by (try simp); (try omega))).trans HK.out.2.2.2.2.2.2.2.2.1
    have k9_wr : wr.cell? ⟨w.heap.size, 9, none⟩ = some (.bool x.mach.done) := (hB.cell (p := ⟨w.heap.size, 9, none⟩) (by (try simp); (try omega))).trans HK.out.2.2.2.2.2.2.2.2.2.1
    have k10_wr : wr.cell? ⟨w.heap.size, 10, none⟩ = some (.bool x.mach.wait) := (hB.cell (p := ⟨w.heap.size, 10, none⟩) (by (try simp); (try omega))).trans HK.out.2.2.2.2.2.2.2.2.2.2
    by_cases hlt : k < n
    · have hkx : k < x.loaded.length := by rw [HN.out]; exact hlt
      obtain ⟨g, o, vs, F1, rfl, hgF, hx, -, hc⟩ := cL_get (hw := by decide) (hw2 := by decide) (Cod.bel m4 hbw) hkx
      obtain ⟨rfl, -, hok1⟩ := TLoaded.out hx
      have q0 : wr.cell? ⟨g, o + k * 2, none⟩ = some _ := (hc 0 _ rfl).1
      have q1 : wr.cell? ⟨g, o + k * 2 + 1, none⟩ = some _ := (hc 1 _ rfl).1
      have hk1 := hok1.h0
      have hgw : g < wr.heap.size := Cod.lt _ (Cod.bel m4 hbw) g hgF
      clear hc hx
      have hki : ((k : Int) < (n : Int)) := by omega
      cases e1 : (isName x.loaded[k].path)
      · have HB := Lib.hid (show isPage x = false by rw [HE.out, any_hit (fun y => !loadedOk x.ver y) x.loaded k hkx (by first | (simp [loadedOk, e1]; done) | (simp [loadedOk]; right; simpa using e2))]; rfl)
        go_wp2_with (first | (go_at_call 83; refine (implName_any _ _ (by assumption)).mono ?_; rintro e w1 ⟨rfl, rfl⟩))
        go_ret
        exact ⟨ret_bool HB.out.symm, (by repeat (first | with_reducible exact Below.refl _ _ | with_reducible assumption | with_reducible refine bel_alloc ?_ _ | with_reducible refine bel_drew ?_ | with_reducible refine bel_drewN ?_ _ | (with_reducible refine bel_set ?_ ?_ _; rotate_left; ((try simp); (try omega)))))⟩
      ·
        cases e2 : (x.loaded[k].ver != x.ver)
        case true =>
          have HB := Lib.hid (show isPage x = false by rw [HE.out, any_hit (fun y => !loadedOk x.ver y) x.loaded k hkx (by first | (simp [loadedOk, e1]; done) | (simp [loadedOk]; right; simpa using e2))]; rfl)
          go_wp2_with (first | (go_at_call 83; refine (implName_any _ _ (by assumption)).mono ?_; rintro e w1 ⟨rfl, rfl⟩))
          go_ret
          exact ⟨ret_bool HB.out.symm, (by repeat (first | with_reducible exact Below.refl _ _ | with_reducible assumption | with_reducible refine bel_alloc ?_ _ | with_reducible refine bel_drew ?_ | with_reducible refine bel_drewN ?_ _ | (with_reducible refine bel_set ?_ ?_ _; rotate_left; ((try simp); (try omega)))))⟩
        case false =>
          have HI := Lib.hid (show (!loadedOk x.ver x.loaded[k]) = false by simp [loadedOk, e1]; simpa using e2)
          go_wp2_with (first | (go_at_call 83; refine (implName_any _ _ (by assumption)).mono ?_; rintro e w1 ⟨rfl, rfl⟩))
          go_roundw
          case rel => exact ⟨k + 1, by omega, by go_num, noneTo_succ _ x.loaded k hkx HO.out HI.out, (by repeat (first | with_reducible exact Below.refl _ _ | with_reducible assumption | with_reducible refine bel_alloc ?_ _ | with_reducible refine bel_drew ?_ | with_reducible refine bel_drewN ?_ _ | (with_reducible refine bel_set ?_ ?_ _; rotate_left; ((try simp); (try omega)))))⟩
          case measure => simp [intOf]; omega
    · obtain rfl : k = n := by omega
      have HH := Lib.hid (show isPage x = (inR x.id 1 1000000000000 && isName x.site && isName x.top && inR x.ver 1 1000000000000 && decide ((k : Int) ≤ 8)) by rw [HE.out, HN.out, any_miss _ x.loaded (by rw [HN.out]; exact HO.out)]; rfl)
      go_wp2_with (first | (go_at_call 83; refine (implName_any _ _ (by assumption)).mono ?_; rintro e w1 ⟨rfl, rfl⟩) | (go_at_call 74; refine (inRange_any _ _ _ _).mono ?_; rintro e w1 ⟨rfl, rfl⟩))
      all_goals go_ret
      all_goals exact ⟨ret_bool (by rw [HH.out]; simp [*]), (by repeat (first | with_reducible exact Below.refl _ _ | with_reducible assumption | with_reducible refine bel_alloc ?_ _ | with_reducible refine bel_drew ?_ | with_reducible refine bel_drewN ?_ _ | (with_reducible refine bel_set ?_ ?_ _; rotate_left; ((try simp); (try omega)))))⟩
set_option maxRecDepth 100000 in
set_option maxHeartbeats 4000000 in
theorem specIsPage_any (vs : Array Value) (x : TPage) (F : List Nat) (w : World) (h : cPage.rep w vs.toList x F) (hn : cPage.sz x ≤ 1048576) :
    Calls Try.prog 47 #[.agg vs] w (Gives w (.bool (isPage x))) := by
  obtain ⟨v4, v5, v7, F4, F5, F7, rfl, -, hok, m4, m5, m7⟩ := TPage.outA h
  clear h
  obtain ⟨A, cp, rfl⟩ := cL_form m4
  obtain ⟨A5, c5, rfl⟩ := cL_form m5
  obtain ⟨A7, c7, rfl⟩ := cL_form m7
  clear m5 m7
  obtain ⟨-, hcp, hm⟩ := cL_len m4
  have HE := Lib.hid (show isPage x = (!(x.loaded.any fun y => !loadedOk x.ver y) && inR x.id 1 1000000000000 && isName x.site && isName x.top && inR x.ver 1 1000000000000 && decide ((x.loaded.length : Int) ≤ 8)) from rfl)
  obtain ⟨n, hxn⟩ : ∃ n, x.loaded.length = n := ⟨_, rfl⟩
  have HN := Lib.hid hxn
  rw [hxn] at hcp ⊢
  clear hxn
  unfold maxLen at hm
  have hsite := hok.h1
  have htop := hok.h2
  go_enter Try.func47, Try.ntmps47
  go_wp2
  generalize hW : World.alloc _ _ = W
  have hWs : W.heap.size = w.heap.size + 1 := by rw [← hW]; clear hW; simp
  have hbW : Below w.heap.size w W := by rw [← hW]; exact (by repeat (first | with_reducible exact Below.refl _ _ | with_reducible assumption | with_reducible refine bel_alloc ?_ _ | with_reducible refine bel_drew ?_ | with_reducible refine bel_drewN ?_ _ | (with_reducible refine bel_set ?_ ?_ _; rotate_left; ((try simp); (try omega)))))
  have HK := Lib.hid (show W.cell? ⟨w.heap.size, 0, none⟩ = some (.int .i64 x.id) ∧ W.cell? ⟨w.heap.size, 1, none⟩ = some (.string x.site) ∧ W.cell? ⟨w.heap.size, 2, none⟩ = some (.string x.top) ∧ W.cell? ⟨w.heap.size, 3, none⟩ = some (.int .i64 x.ver) ∧ W.cell? ⟨w.heap.size, 4, none⟩ = some (.slice A n cp) ∧ W.cell? ⟨w.heap.size, 5, none⟩ = some (.slice A5 x.mach.script.length c5) ∧ W.cell? ⟨w.heap.size, 6, none⟩ = some (.int .i64 x.mach.pc) ∧ W.cell? ⟨w.heap.size, 7, none⟩ = some (.slice A7 x.mach.regs.length c7) ∧ W.cell? ⟨w.heap.size, 8, none⟩ = some (.int .i64 x.mach.steps) ∧ W.cell? ⟨w.heap.size, 9, none⟩ = some (.bool x.mach.done) ∧ W.cell? ⟨w.heap.size, 10, none⟩ = some (.bool x.mach.wait) from by refine ⟨?_, ?_, ?_, ?_, ?_, ?_, ?_, ?_, ?_, ?_, ?_⟩ <;> (rw [← hW]; clear hW; go_simp))
  clear hW
  go_loopw [3] (fun i wr => ∃ k : Nat, k ≤ n ∧ i = .int .i64 k ∧ noneTo (fun y => !loadedOk x.ver y) x.loaded k = true ∧ Below W.heap.size W wr) (fun i _ => n - (intOf i).toNat)
  case atStart => exact ⟨0, Nat.zero_le _, rfl, noneTo_zero _ _, Below.refl _ _⟩
  case round =>
    obtain ⟨k, hk, rfl, hno, hB⟩ := hrel
    have HO := Lib.hid hno
    clear hno
    have hws_wr : w.heap.size < wr.heap.size := by have := hB.size; omega
    have hbw : Below w.heap.size w wr := bel_then hbW hB
    have k0_wr : wr.cell? ⟨w.heap.size, 0, none⟩ = some (.int .i64 x.id) := (hB.cell (p := ⟨w.heap.size, 0, none⟩) (by (try simp); (try omega))).trans HK.out.1
    have k1_wr : wr.cell? ⟨w.heap.size, 1, none⟩ = some (.string x.site) := (hB.cell (p := ⟨w.heap.size, 1, none⟩) (by (try simp); (try omega))).trans HK.out.2.1
    have k2_wr : wr.cell? ⟨w.heap.size, 2, none⟩ = some (.string x.top) := (hB.cell (p := ⟨w.heap.size, 2, none⟩) (by (try simp); (try omega))).trans HK.out.2.2.1
    have k3_wr : wr.cell? ⟨w.heap.size, 3, none⟩ = some (.int .i64 x.ver) := (hB.cell (p := ⟨w.heap.size, 3, none⟩) (by (try simp); (try omega))).trans HK.out.2.2.2.1
    have k4_wr : wr.cell? ⟨w.heap.size, 4, none⟩ = some (.slice A n cp) := (hB.cell (p := ⟨w.heap.size, 4, none⟩) (by (try simp); (try omega))).trans HK.out.2.2.2.2.1
    have k5_wr : wr.cell? ⟨w.heap.size, 5, none⟩ = some (.slice A5 x.mach.script.length c5) := (hB.cell (p := ⟨w.heap.size, 5, none⟩) (by (try simp); (try omega))).trans HK.out.2.2.2.2.2.1
    have k6_wr : wr.cell? ⟨w.heap.size, 6, none⟩ = some (.int .i64 x.mach.pc) := (hB.cell (p := ⟨w.heap.size, 6, none⟩) (by (try simp); (try omega))).trans HK.out.2.2.2.2.2.2.1
    have k7_wr : wr.cell? ⟨w.heap.size, 7, none⟩ = some (.slice A7 x.mach.regs.length c7) := (hB.cell (p := ⟨w.heap.size, 7, none⟩) (by (try simp); (try omega))).trans HK.out.2.2.2.2.2.2.2.1
    have k8_wr : wr.cell? ⟨w.heap.size, 8, none⟩ = some (.int .i64 x.mach.steps) := (hB.cell (p := ⟨w.heap.size, 8, none⟩) (by (try simp); (try omega))).trans HK.out.2.2.2.2.2.2.2.2.1
    have k9_wr : wr.cell? ⟨w.heap.size, 9, none⟩ = some (.bool x.mach.done) := (hB.cell (p := ⟨w.heap.size, 9, none⟩) (by (try simp); (try omega))).trans HK.out.2.2.2.2.2.2.2.2.2.1
    have k10_wr : wr.cell? ⟨w.heap.size, 10, none⟩ = some (.bool x.mach.wait) := (hB.cell (p := ⟨w.heap.size, 10, none⟩) (by (try simp); (try omega))).trans HK.out.2.2.2.2.2.2.2.2.2.2
    by_cases hlt : k < n
    · have hkx : k < x.loaded.length := by rw [HN.out]; exact hlt
      obtain ⟨g, o, vs, F1, rfl, hgF, hx, -, hc⟩ := cL_get (hw := by decide) (hw2 := by decide) (Cod.bel m4 hbw) hkx
      obtain ⟨rfl, -, hok1⟩ := TLoaded.out hx
      have q0 : wr.cell? ⟨g, o + k * 2, none⟩ = some _ := (hc 0 _ rfl).1
      have q1 : wr.cell? ⟨g, o + k * 2 + 1, none⟩ = some _ := (hc 1 _ rfl).1
      have hk1 := hok1.h0
      have hgw : g < wr.heap.size := Cod.lt _ (Cod.bel m4 hbw) g hgF
      clear hc hx
      have hki : ((k : Int) < (n : Int)) := by omega
      have hcn := fun W : World => specName_any x.loaded[k].path W (by assumption)
      cases e1 : (isName x.loaded[k].path)
      · have HB := Lib.hid (show isPage x = false by rw [HE.out, any_hit (fun y => !loadedOk x.ver y) x.loaded k hkx (by first | (simp [loadedOk, e1]; done) | (simp [loadedOk]; right; simpa using e2))]; rfl)
        rw [e1] at hcn
        go_wp2_with fail
        go_quiet (first | (go_at_call 81; first | exact quiet_left (hcn _) | exact quiet_add_left (hcn _)))
        go_wp2_with fail
        go_ret
        exact ⟨ret_bool HB.out.symm, (by repeat (first | with_reducible exact Below.refl _ _ | with_reducible assumption | with_reducible refine bel_alloc ?_ _ | with_reducible refine bel_drew ?_ | with_reducible refine bel_drewN ?_ _ | (with_reducible refine bel_set ?_ ?_ _; rotate_left; ((try simp); (try omega)))))⟩
      ·
        cases e2 : (x.loaded[k].ver != x.ver)
        case true =>
          have HB := Lib.hid (show isPage x = false by rw [HE.out, any_hit (fun y => !loadedOk x.ver y) x.loaded k hkx (by first | (simp [loadedOk, e1]; done) | (simp [loadedOk]; right; simpa using e2))]; rfl)
          rw [e1] at hcn
          go_wp2_with fail
          go_quiet (first | (go_at_call 81; first | exact quiet_left (hcn _) | exact quiet_add_left (hcn _)))
          go_wp2_with fail
          go_ret
          exact ⟨ret_bool HB.out.symm, (by repeat (first | with_reducible exact Below.refl _ _ | with_reducible assumption | with_reducible refine bel_alloc ?_ _ | with_reducible refine bel_drew ?_ | with_reducible refine bel_drewN ?_ _ | (with_reducible refine bel_set ?_ ?_ _; rotate_left; ((try simp); (try omega)))))⟩
        case false =>
          have HI := Lib.hid (show (!loadedOk x.ver x.loaded[k]) = false by simp [loadedOk, e1]; simpa using e2)
          rw [e1] at hcn
          go_wp2_with fail
          go_quiet (first | (go_at_call 81; first | exact quiet_left (hcn _) | exact quiet_add_left (hcn _)))
          go_wp2_with fail
          go_roundw
          case rel => exact ⟨k + 1, by omega, by go_num, noneTo_succ _ x.loaded k hkx HO.out HI.out, bel_drewN hB _⟩
          case measure => simp [intOf]; omega
    · obtain rfl : k = n := by omega
      have HH := Lib.hid (show isPage x = (inR x.id 1 1000000000000 && isName x.site && isName x.top && inR x.ver 1 1000000000000 && decide ((k : Int) ≤ 8)) by rw [HE.out, HN.out, any_miss _ x.loaded (by rw [HN.out]; exact HO.out)]; rfl)
      go_wp2_with (first | (go_at_call 81; refine (specName_any _ _ (by assumption)).mono ?_; rintro e w1 ⟨rfl, rfl⟩) | (go_at_call 76; refine (l1In_any _ _ _ _).mono ?_; rintro e w1 ⟨rfl, rfl⟩))
      all_goals go_ret
      all_goals exact ⟨ret_bool (by rw [HH.out]; simp [*]), (by repeat (first | with_reducible exact Below.refl _ _ | with_reducible assumption | with_reducible refine bel_alloc ?_ _ | with_reducible refine bel_drew ?_ | with_reducible refine bel_drewN ?_ _ | (with_reducible refine bel_set ?_ ?_ _; rotate_left; ((try simp); (try omega)))))⟩
end Go.Proofs.Ythmlgflnefellaa
