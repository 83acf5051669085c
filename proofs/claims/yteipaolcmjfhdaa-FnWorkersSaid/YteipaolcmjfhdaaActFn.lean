/-
  slices.Index and slices.Contains at ints; CanActivate of the program and of the reference. No conditions.
-/
import Derived.Test.YteipaolcmjfhdaaEndFn
import Derived.Test.YteipaolcmjfhdaaTSI
import Derived.Test.YteipaolcmjfhdaaSearch
import Derived.LoopTactic
import Derived.StillTailTactics
namespace Go.Proofs.Yteipaolcmjfhdaa
open Go.ChangeShapes Go.WideShapes Go.RowKit
set_option linter.unusedVariables false

def eqI (a b : Int) : Bool := a == b
def idxInt (xs : List Int) (v : Int) : Int := idxP (fun y => eqI v y) xs
def hasInt (xs : List Int) (v : Int) : Bool := xs.any fun y => eqI v y

set_option maxRecDepth 100000 in
set_option maxHeartbeats 4000000 in
theorem indexInt_any (A : Value) (xs : List Int) (v : Int) (F : List Nat) (w : World) (h : cIS.rep w [A] xs F) :
    Calls Try.prog 131 #[A, .int .i64 v] w fun e w' => e = .returned (.int .i64 (idxInt xs v)) ∧ w = w' := by
  obtain ⟨A, cp, rfl⟩ := cL_form h
  obtain ⟨-, hcp, hm⟩ := cL_len h
  obtain ⟨n, hxn⟩ : ∃ n, xs.length = n := ⟨_, rfl⟩
  have HN := Lib.hid hxn
  rw [hxn] at hcp ⊢
  clear hxn
  unfold maxLen at hm
  go_enter Try.func131, Try.ntmps131
  go_wp2
  go_loop [8] (fun i => ∃ k : Nat, k ≤ n ∧ i = .int .i64 k ∧ noneTo (fun y => eqI v y) xs k = true) (fun i => n - (intOf i).toNat)
  case atStart => exact ⟨0, Nat.zero_le _, rfl, noneTo_zero _ _⟩
  case round =>
    obtain ⟨k, hk, rfl, hno⟩ := hrel
    have HO := Lib.hid hno
    clear hno
    by_cases hlt : k < n
    · have hkx : k < xs.length := by rw [HN.out]; exact hlt
      obtain ⟨g, o, vs, F1, rfl, hgF, hx, -, hc⟩ := cL_get (hw := by decide) (hw2 := by decide) h hkx
      obtain ⟨rfl, -, hk1⟩ := hx
      have q0 : w.cell? ⟨g, o + k, none⟩ = some _ := (by have h1 := (hc 0 _ rfl).1; rwa [show (cI).wd = 1 from rfl, Nat.mul_one, Nat.add_zero] at h1)
      clear hc hk1
      by_cases he : (v == xs[k]) = true
      · go_wp2
        go_ret
        exact ⟨ret_int (idxP_hit (fun y => eqI v y) xs k hkx HO.out he).symm, rfl⟩
      · rw [Bool.not_eq_true] at he
        go_wp2
        go_round
        case rel => exact ⟨k + 1, by omega, by go_num, noneTo_succ _ xs k hkx HO.out he⟩
        case measure => simp [intOf]; omega
    · obtain rfl : k = n := by omega
      go_wp2
      go_ret
      exact ⟨ret_int (idxP_miss _ xs (by rw [HN.out]; exact HO.out)).symm, rfl⟩
theorem containsInt_any (A : Value) (xs : List Int) (v : Int) (F : List Nat) (w : World) (h : cIS.rep w [A] xs F) :
    Calls Try.prog 87 #[A, .int .i64 v] w fun e w' => e = .returned (.bool (hasInt xs v)) ∧ w = w' := by
  have HA := Lib.hid (idxP_any (fun y => eqI v y) xs)
  go_enter Try.func87, Try.ntmps87
  go_wp2_with fail
  refine (indexInt_any _ xs v _ _ h).mono ?_
  rintro e w1 ⟨rfl, rfl⟩
  go_wp2_with fail
  go_ret
  exact ⟨ret_bool HA.out.symm, rfl⟩

def canActivate (x : TReg) (used : List Int) : Bool := isReg x && x.wai != 0 && !hasInt used x.act
set_option maxRecDepth 100000 in
set_option maxHeartbeats 4000000 in
theorem implCanActivate_any (vs : Array Value) (x : TReg) (F : List Nat) (A : Value) (used : List Int) (G : List Nat) (w : World) (h : cReg.rep w vs.toList x F) (_hn : cReg.sz x ≤ 1048576) (h2 : cIS.rep w [A] used G) (_hn2 : cIS.sz used ≤ 1048576) :
    Calls Try.prog 30 #[.agg vs, A] w (Gives w (.bool (canActivate x used))) := by
  obtain ⟨A, cp, rfl⟩ := cL_form h2
  have hok := (TReg.out h).2.2
  rw [TReg.val_of h]
  clear h
  have hs := hok.h0
  have HOK := Lib.hid hok
  clear hok
  have HE := Lib.hid (show canActivate x used = (isReg x && x.wai != 0 && !hasInt used x.act) from rfl)
  obtain ⟨s, a, b, c⟩ := x
  simp only [TReg.val]
  simp only at hs
  cases h1 : isReg ⟨s, a, b, c⟩
  all_goals cases h3 : (b != 0)
  all_goals
    have H1 := Lib.hid h1
    have H3 := Lib.hid h3
    go_enter Try.func30, Try.ntmps30
    go_wp2_with (first | (go_at_call 33; refine (implRegCells _ _ _ _ _ hs).mono ?_; rintro e w1 ⟨rfl, hb1⟩; obtain ⟨hc1, hf1, hz1⟩ := bcell hb1; (try simp at hz1); have hs0 : w.heap.size < w1.heap.size := (by omega); have hB1 : Below w.heap.size w w1 := (bel_then (by repeat (first | with_reducible exact Below.refl _ _ | with_reducible assumption | with_reducible refine bel_alloc ?_ _ | with_reducible refine bel_drew ?_ | with_reducible refine bel_drewN ?_ _ | (with_reducible refine bel_set ?_ ?_ _; rotate_left; ((try simp); (try omega))))) hb1); clear hb1) | (go_at_call 87; refine (containsInt_any _ used _ _ _ (by exact Cod.bel h2 (by repeat (first | with_reducible exact Below.refl _ _ | with_reducible assumption | with_reducible refine bel_alloc ?_ _ | with_reducible refine bel_drew ?_ | with_reducible refine bel_drewN ?_ _ | (with_reducible refine bel_set ?_ ?_ _; rotate_left; ((try simp); (try omega))))))).mono ?_; rintro e w1 ⟨rfl, rfl⟩))
    all_goals go_ret
    all_goals exact ⟨ret_bool (by rw [HE.out]; simp [*]), (by repeat (first | with_reducible exact Below.refl _ _ | with_reducible assumption | with_reducible refine bel_alloc ?_ _ | with_reducible refine bel_drew ?_ | with_reducible refine bel_drewN ?_ _ | (with_reducible refine bel_set ?_ ?_ _; rotate_left; ((try simp); (try omega)))))⟩
theorem eqI_comm (a b : Int) : eqI a b = eqI b a := by unfold eqI; exact BEq.comm
set_option maxRecDepth 100000 in
set_option maxHeartbeats 4000000 in
theorem specCanActivate_any (vs : Array Value) (x : TReg) (F : List Nat) (A : Value) (used : List Int) (G : List Nat) (w : World) (h : cReg.rep w vs.toList x F) (_hn : cReg.sz x ≤ 1048576) (h2 : cIS.rep w [A] used G) (_hn2 : cIS.sz used ≤ 1048576) :
    Calls Try.prog 31 #[.agg vs, A] w (Gives w (.bool (canActivate x used))) := by
  obtain ⟨A, cp, rfl⟩ := cL_form h2
  obtain ⟨-, hcp, hm⟩ := cL_len h2
  obtain ⟨n, hxn⟩ : ∃ n, used.length = n := ⟨_, rfl⟩
  have HN := Lib.hid hxn
  rw [hxn] at hcp ⊢
  clear hxn
  unfold maxLen at hm
  have hok := (TReg.out h).2.2
  rw [TReg.val_of h]
  clear h
  have hs := hok.h0
  have HOK := Lib.hid hok
  clear hok
  have HE := Lib.hid (show canActivate x used = (isReg x && x.wai != 0 && !hasInt used x.act) from rfl)
  obtain ⟨s, a, b, c⟩ := x
  simp only [TReg.val]
  simp only at hs
  go_enter Try.func31, Try.ntmps31
  go_wp2
  generalize hW : World.alloc _ _ = W
  have hWs : W.heap.size = w.heap.size + 1 := by rw [← hW]; clear hW; simp
  have hbW : Below w.heap.size w W := by rw [← hW]; exact (by repeat (first | with_reducible exact Below.refl _ _ | with_reducible assumption | with_reducible refine bel_alloc ?_ _ | with_reducible refine bel_drew ?_ | with_reducible refine bel_drewN ?_ _ | (with_reducible refine bel_set ?_ ?_ _; rotate_left; ((try simp); (try omega)))))
  have HK := Lib.hid (show W.cell? ⟨w.heap.size, 0, none⟩ = some (.string s) ∧ W.cell? ⟨w.heap.size, 1, none⟩ = some (.int .i64 a) ∧ W.cell? ⟨w.heap.size, 2, none⟩ = some (.int .i64 b) ∧ W.cell? ⟨w.heap.size, 3, none⟩ = some (.int .i64 c) from by refine ⟨?_, ?_, ?_, ?_⟩ <;> (rw [← hW]; clear hW; go_simp))
  clear hW
  go_loopw [5] (fun i wr => ∃ k : Nat, k ≤ n ∧ i = .int .i64 k ∧ noneTo (fun y => eqI c y) used k = true ∧ Below W.heap.size W wr) (fun i _ => n - (intOf i).toNat)
  case atStart => exact ⟨0, Nat.zero_le _, rfl, noneTo_zero _ _, Below.refl _ _⟩
  case round =>
    obtain ⟨k, hk, rfl, hno, hB⟩ := hrel
    have HO := Lib.hid hno
    clear hno
    have hws_wr : w.heap.size < wr.heap.size := by have := hB.size; omega
    have hbw : Below w.heap.size w wr := bel_then hbW hB
    have k0_wr : wr.cell? ⟨w.heap.size, 0, none⟩ = some (.string s) := (hB.cell (p := ⟨w.heap.size, 0, none⟩) (by (try simp); (try omega))).trans HK.out.1
    have k1_wr : wr.cell? ⟨w.heap.size, 1, none⟩ = some (.int .i64 a) := (hB.cell (p := ⟨w.heap.size, 1, none⟩) (by (try simp); (try omega))).trans HK.out.2.1
    have k2_wr : wr.cell? ⟨w.heap.size, 2, none⟩ = some (.int .i64 b) := (hB.cell (p := ⟨w.heap.size, 2, none⟩) (by (try simp); (try omega))).trans HK.out.2.2.1
    have k3_wr : wr.cell? ⟨w.heap.size, 3, none⟩ = some (.int .i64 c) := (hB.cell (p := ⟨w.heap.size, 3, none⟩) (by (try simp); (try omega))).trans HK.out.2.2.2
    by_cases hlt : k < n
    · have hkx : k < used.length := by rw [HN.out]; exact hlt
      obtain ⟨g, o, vs, F1, rfl, hgF, hx, -, hc⟩ := cL_get (hw := by decide) (hw2 := by decide) (Cod.bel h2 hbw) hkx
      obtain ⟨rfl, -, hk1⟩ := hx
      have q0 : wr.cell? ⟨g, o + k, none⟩ = some _ := (by have h1 := (hc 0 _ rfl).1; rwa [show (cI).wd = 1 from rfl, Nat.mul_one, Nat.add_zero] at h1)
      clear hc hk1
      have hki : ((k : Int) < (n : Int)) := by omega
      by_cases he : (used[k] == c) = true
      · have hh : hasInt used c = true := any_hit (fun y => eqI c y) used k hkx (by rw [eqI_comm]; exact he)
        have HH := Lib.hid hh
        clear hh
        go_wp2
        go_quiet (fail)
        go_wp2
        go_ret
        exact ⟨ret_bool (by rw [HE.out]; simp [HH.out]), (by repeat (first | with_reducible exact Below.refl _ _ | with_reducible assumption | with_reducible refine bel_alloc ?_ _ | with_reducible refine bel_drew ?_ | with_reducible refine bel_drewN ?_ _ | (with_reducible refine bel_set ?_ ?_ _; rotate_left; ((try simp); (try omega)))))⟩
      · rw [Bool.not_eq_true] at he
        go_wp2
        go_quiet (fail)
        go_wp2
        go_roundw
        case rel => exact ⟨k + 1, by omega, by go_num, noneTo_succ _ used k hkx HO.out (by rw [eqI_comm]; exact he), bel_drewN hB _⟩
        case measure => simp [intOf]; omega
    · obtain rfl : k = n := by omega
      have HH := Lib.hid (show hasInt used c = false from any_miss _ used (by rw [HN.out]; exact HO.out))
      cases h1 : isReg ⟨s, a, b, c⟩
      all_goals cases h3 : (b != 0)
      all_goals
        have H1 := Lib.hid h1
        have H3 := Lib.hid h3
        go_wp2_with fail
        refine (specRegCells _ _ _ _ _ hs).mono ?_
        rintro e w1 ⟨rfl, hb1⟩
        obtain ⟨hc1, hf1, hz1⟩ := bcell hb1
        have hbw1 : Below w.heap.size w w1 := bel_then hbw hb1
        clear hb1
        go_wp2_with fail
        go_ret
        exact ⟨ret_bool (by rw [HE.out]; simp [HH.out, *]), (by repeat (first | with_reducible exact Below.refl _ _ | with_reducible assumption | with_reducible refine bel_alloc ?_ _ | with_reducible refine bel_drew ?_ | with_reducible refine bel_drewN ?_ _ | (with_reducible refine bel_set ?_ ?_ _; rotate_left; ((try simp); (try omega)))))⟩

def activate (x : TReg) (used : List Int) : TReg × Int × Bool :=
  bif canActivate x used then (⟨x.site, x.ins, 0, x.wai⟩, x.act, true) else (x, 0, false)
end Go.Proofs.Yteipaolcmjfhdaa
