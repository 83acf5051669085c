/-
  HasFile of the program and of the reference; slices.Index and slices.Contains at strings. No conditions.
-/
import Derived.Test.YtlicnppfgfjkgaaZA
import Derived.LoopTactic
namespace Go.Proofs.Ytlicnppfgfjkgaa
open Go.ChangeShapes Go.WideShapes Go.RowKit
set_option linter.unusedVariables false

def idxStr (xs : List ByteArray) (v : ByteArray) : Int := idxP (fun y => strEq v y) xs
def hasStr (xs : List ByteArray) (v : ByteArray) : Bool := xs.any fun y => strEq v y

set_option maxHeartbeats 4000000 in
theorem indexStr_any (A : Value) (xs : List ByteArray) (v : ByteArray) (F : List Nat) (w : World) (h : cStS.rep w [A] xs F) :
    Calls Try.prog 161 #[A, .string v] w fun e w' => e = .returned (.int .i64 (idxStr xs v)) ∧ w = w' := by
  obtain ⟨A, cp, rfl⟩ := cL_form h
  obtain ⟨-, hcp, hm⟩ := cL_len h
  obtain ⟨n, hxn⟩ : ∃ n, xs.length = n := ⟨_, rfl⟩
  have HN := Lib.hid hxn
  rw [hxn] at hcp ⊢
  clear hxn
  unfold maxLen at hm
  go_enter Try.func161, Try.ntmps161
  go_wp2
  go_loop [8] (fun i => ∃ k : Nat, k ≤ n ∧ i = .int .i64 k ∧ noneTo (fun y => strEq v y) xs k = true) (fun i => n - (intOf i).toNat)
  case atStart => exact ⟨0, Nat.zero_le _, rfl, noneTo_zero _ _⟩
  case round =>
    obtain ⟨k, hk, rfl, hno⟩ := hrel
    have HO := Lib.hid hno
    clear hno
    by_cases hlt : k < n
    · have hkx : k < xs.length := by rw [HN.out]; exact hlt
      obtain ⟨g, o, vs, F1, rfl, hgF, hx, -, hc⟩ := cL_get (hw := by decide) (hw2 := by decide) h hkx
      obtain ⟨rfl, -, hk1⟩ := hx
      have q0 : w.cell? ⟨g, o + k, none⟩ = some _ := (by have h1 := (hc 0 _ rfl).1; rwa [show (cS).wd = 1 from rfl, Nat.mul_one, Nat.add_zero] at h1)
      clear hc
      by_cases he : (v.toList == xs[k].toList) = true
      · go_wp2
        go_ret
        exact ⟨ret_int (idxP_hit (fun y => strEq v y) xs k hkx HO.out he).symm, rfl⟩
      · rw [Bool.not_eq_true] at he
        go_wp2
        go_round
        case rel => exact ⟨k + 1, by omega, by go_num, noneTo_succ _ xs k hkx HO.out he⟩
        case measure => simp [intOf]; omega
    · obtain rfl : k = n := by omega
      go_wp2
      go_ret
      exact ⟨ret_int (idxP_miss _ xs (by rw [HN.out]; exact HO.out)).symm, rfl⟩
theorem containsStr_any (A : Value) (xs : List ByteArray) (v : ByteArray) (F : List Nat) (w : World) (h : cStS.rep w [A] xs F) :
    Calls Try.prog 132 #[A, .string v] w fun e w' => e = .returned (.bool (hasStr xs v)) ∧ w = w' := by
  have HA := Lib.hid (idxP_any (fun y => strEq v y) xs)
  go_enter Try.func132, Try.ntmps132
  go_wp2_with fail
  refine (indexStr_any _ xs v _ _ h).mono ?_
  rintro e w1 ⟨rfl, rfl⟩
  go_wp2_with fail
  go_ret
  exact ⟨ret_bool HA.out.symm, rfl⟩
theorem implHasFile_any (vs : Array Value) (x : TSite) (F : List Nat) (path : ByteArray) (w : World) (h : cSite.rep w vs.toList x F) (hn : cSite.sz x ≤ 1048576) (hp : path.size ≤ 1048576) :
    Calls Try.prog 79 #[.agg vs, .string path] w (Gives w (.bool (hasStr x.files path))) := by
  obtain ⟨v2, F2, rfl, -, -, m2⟩ := TSite.outA h
  clear h
  obtain ⟨A2, c2, e2⟩ := cL_form m2
  subst e2
  go_enter Try.func79, Try.ntmps79
  go_wp2_with fail
  refine (containsStr_any _ x.files path _ _ (by exact Cod.bel m2 (by repeat (first | with_reducible exact Below.refl _ _ | with_reducible assumption | with_reducible refine bel_alloc ?_ _ | with_reducible refine bel_drew ?_ | with_reducible refine bel_drewN ?_ _ | (with_reducible refine bel_set ?_ ?_ _; rotate_left; ((try simp); (try omega))))))).mono ?_
  rintro e w1 ⟨rfl, rfl⟩
  go_wp2_with fail
  go_ret
  exact ⟨rfl, (by repeat (first | with_reducible exact Below.refl _ _ | with_reducible assumption | with_reducible refine bel_alloc ?_ _ | with_reducible refine bel_drew ?_ | with_reducible refine bel_drewN ?_ _ | (with_reducible refine bel_set ?_ ?_ _; rotate_left; ((try simp); (try omega)))))⟩
set_option maxHeartbeats 4000000 in
theorem specHasFile_any (vs : Array Value) (x : TSite) (F : List Nat) (path : ByteArray) (w : World) (h : cSite.rep w vs.toList x F) (hn : cSite.sz x ≤ 1048576) (hp : path.size ≤ 1048576) :
    Calls Try.prog 31 #[.agg vs, .string path] w (Gives w (.bool (hasStr x.files path))) := by
  obtain ⟨v2, F2, rfl, -, -, m2⟩ := TSite.outA h
  clear h
  obtain ⟨A, cp, e2⟩ := cL_form m2
  subst e2
  obtain ⟨-, hcp, hm⟩ := cL_len m2
  obtain ⟨n, hxn⟩ : ∃ n, x.files.length = n := ⟨_, rfl⟩
  have HN := Lib.hid hxn
  rw [hxn] at hcp ⊢
  clear hxn
  unfold maxLen at hm
  go_enter Try.func31, Try.ntmps31
  go_wp2
  go_loop [5] (fun i => ∃ k : Nat, k ≤ n ∧ i = .int .i64 k ∧ noneTo (fun y => strEq path y) x.files k = true) (fun i => n - (intOf i).toNat)
  case atStart => exact ⟨0, Nat.zero_le _, rfl, noneTo_zero _ _⟩
  case round =>
    obtain ⟨k, hk, rfl, hno⟩ := hrel
    have HO := Lib.hid hno
    clear hno
    by_cases hlt : k < n
    · have hkx : k < x.files.length := by rw [HN.out]; exact hlt
      obtain ⟨g, o, vs, F1, rfl, hgF, hx, -, hc⟩ := cL_get (hw := by decide) (hw2 := by decide) m2 hkx
      have hgw : g < w.heap.size := Cod.lt _ m2 g hgF
      obtain ⟨rfl, -, hk1⟩ := hx
      have q0 : w.cell? ⟨g, o + k, none⟩ = some _ := (by have h1 := (hc 0 _ rfl).1; rwa [show (cS).wd = 1 from rfl, Nat.mul_one, Nat.add_zero] at h1)
      have hne : ¬ g = w.heap.size := by omega
      clear hc
      by_cases he : (x.files[k].toList == path.toList) = true
      · go_wp2
        go_ret
        exact ⟨ret_bool (any_hit (fun y => strEq path y) x.files k hkx (by rw [strEq_comm]; exact he)).symm, (by repeat (first | with_reducible exact Below.refl _ _ | with_reducible assumption | with_reducible refine bel_alloc ?_ _ | with_reducible refine bel_drew ?_ | with_reducible refine bel_drewN ?_ _ | (with_reducible refine bel_set ?_ ?_ _; rotate_left; ((try simp); (try omega)))))⟩
      · rw [Bool.not_eq_true] at he
        go_wp2
        go_round
        case rel => exact ⟨k + 1, by omega, by go_num, noneTo_succ _ x.files k hkx HO.out (by rw [strEq_comm]; exact he)⟩
        case measure => simp [intOf]; omega
    · obtain rfl : k = n := by omega
      go_wp2
      go_ret
      exact ⟨ret_bool (any_miss _ x.files (by rw [HN.out]; exact HO.out)).symm, (by repeat (first | with_reducible exact Below.refl _ _ | with_reducible assumption | with_reducible refine bel_alloc ?_ _ | with_reducible refine bel_drew ?_ | with_reducible refine bel_drewN ?_ _ | (with_reducible refine bel_set ?_ ?_ _; rotate_left; ((try simp); (try omega)))))⟩
end Go.Proofs.Ytlicnppfgfjkgaa
