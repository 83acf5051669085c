/-
  CountWrites of the program and of the reference. No conditions.
-/
import Derived.Test.YtlicnppfgfjkgaaDoorZTSIns
import Derived.LoopTactic
namespace Go.Proofs.YtlicnppfgfjkgaaDoor
open Go.ChangeShapes Go.WideShapes Go.RowKit

def isWriteK (k : Int) : Bool := k == 7 || k == 8
def countWrites (l : List TIns) : Int := (l.countP fun x => isWriteK x.kind : Nat)
theorem countWrites_succ (l : List TIns) (k : Nat) (h : k < l.length) : countWrites (l.take (k + 1)) = countWrites (l.take k) + if isWriteK l[k].kind = true then 1 else 0 := by
  unfold countWrites
  rw [List.take_succ_eq_append_getElem h, List.countP_append]
  by_cases hc : isWriteK l[k].kind = true <;> simp [hc]
theorem countWrites_le (l : List TIns) : 0 ≤ countWrites l ∧ countWrites l ≤ l.length := by
  unfold countWrites
  have := List.countP_le_length (p := fun x : TIns => isWriteK x.kind) (l := l)
  omega
theorem countWrites_take (l : List TIns) (k : Nat) : 0 ≤ countWrites (l.take k) ∧ countWrites (l.take k) ≤ k := by
  have := countWrites_le (l.take k)
  have : (l.take k).length ≤ k := List.length_take_le _ _
  omega

set_option maxHeartbeats 4000000 in
theorem implCountWrites_any (v : Value) (xs : List TIns) (F : List Nat) (w : World) (h : cInsS.rep w [v] xs F) (hn : cInsS.sz xs ≤ 1048576) : Calls Tryd.prog 18 #[v] w (Gives w (.int .i64 (countWrites xs))) := by
  have hn1 : xs.length ≤ 1048576 := Nat.le_trans (Cod.len_le cIns xs) hn
  obtain ⟨A, cp, rfl⟩ := cL_form h
  obtain ⟨-, hcp, hm⟩ := cL_len h
  obtain ⟨n, hxn⟩ : ∃ n, xs.length = n := ⟨_, rfl⟩
  have HN := Lib.hid hxn
  rw [hxn] at hcp hn1 ⊢
  clear hxn
  go_enter Tryd.func18, Tryd.ntmps18
  go_wp2
  go_loopw [3, 8] (fun c i wr => ∃ k : Nat, k ≤ n ∧ i = .int .i64 k ∧ (∃ cv : Int, c = .int .i64 cv ∧ 0 ≤ cv ∧ cv ≤ k ∧ cv = countWrites (xs.take k)) ∧ Below w.heap.size w wr) (fun _ i _ => n - (intOf i).toNat)
  case atStart => exact ⟨0, Nat.zero_le _, rfl, ⟨_, rfl, by simp, by simp, by simp [countWrites]⟩, Below.refl _ _⟩
  case round =>
    obtain ⟨k, hk, rfl, ⟨cv, rfl, hc0, hc1, he⟩, hB⟩ := hrel
    have hkb : (k : Int) ≤ 1048576 := by omega
    by_cases hlt : k < n
    · have hkx : k < xs.length := by rw [HN.out]; exact hlt
      obtain ⟨g, o, vs, F1, rfl, hgF, hx, -, hc⟩ := cL_get (hw := by decide) (hw2 := by decide) (Cod.bel h hB) hkx
      obtain ⟨rfl, -, -⟩ := TIns.out hx
      have hsucc := countWrites_succ xs k hkx
      have htk := countWrites_take xs (k + 1)
      have HE := Lib.hid (And.intro he (And.intro hsucc htk))
      clear he hsucc htk
      have q0 : wr.cell? ⟨g, o + k * 4, none⟩ = some _ := (hc 0 _ rfl).1
      have q1 : wr.cell? ⟨g, o + k * 4 + 1, none⟩ = some _ := (hc 1 _ rfl).1
      have q2 : wr.cell? ⟨g, o + k * 4 + 2, none⟩ = some _ := (hc 2 _ rfl).1
      have q3 : wr.cell? ⟨g, o + k * 4 + 3, none⟩ = some _ := (hc 3 _ rfl).1
      clear hc hx
      by_cases b7 : (xs[k].kind == 7) = true
      · have hw7 : isWriteK xs[k].kind = true := by simp [isWriteK, b7]
        go_wp2
        go_roundw
        case rel => exact ⟨k + 1, by omega, by go_num, ⟨_, rfl, by omega, by omega, by have hh := HE.out; rw [if_pos hw7] at hh; omega⟩, (by repeat (first | with_reducible exact Below.refl _ _ | with_reducible assumption | with_reducible refine bel_alloc ?_ _ | with_reducible refine bel_drew ?_ | with_reducible refine bel_drewN ?_ _ | (with_reducible refine bel_set ?_ ?_ _; rotate_left; ((try simp); (try omega)))))⟩
        case measure => simp [intOf]; omega
      · rw [Bool.not_eq_true] at b7
        by_cases b8 : (xs[k].kind == 8) = true
        · have hw7 : isWriteK xs[k].kind = true := by simp [isWriteK, b8]
          go_wp2
          go_roundw
          case rel => exact ⟨k + 1, by omega, by go_num, ⟨_, rfl, by omega, by omega, by have hh := HE.out; rw [if_pos hw7] at hh; omega⟩, (by repeat (first | with_reducible exact Below.refl _ _ | with_reducible assumption | with_reducible refine bel_alloc ?_ _ | with_reducible refine bel_drew ?_ | with_reducible refine bel_drewN ?_ _ | (with_reducible refine bel_set ?_ ?_ _; rotate_left; ((try simp); (try omega)))))⟩
          case measure => simp [intOf]; omega
        · rw [Bool.not_eq_true] at b8
          have hw7 : ¬ isWriteK xs[k].kind = true := by simp [isWriteK, b7, b8]
          go_wp2
          go_roundw
          case rel => exact ⟨k + 1, by omega, by go_num, ⟨_, rfl, by omega, by omega, by have hh := HE.out; rw [if_neg hw7] at hh; omega⟩, (by repeat (first | with_reducible exact Below.refl _ _ | with_reducible assumption | with_reducible refine bel_alloc ?_ _ | with_reducible refine bel_drew ?_ | with_reducible refine bel_drewN ?_ _ | (with_reducible refine bel_set ?_ ?_ _; rotate_left; ((try simp); (try omega)))))⟩
          case measure => simp [intOf]; omega
    · obtain rfl : k = n := by omega
      have HE := Lib.hid he
      clear he
      go_wp2
      go_ret
      exact ⟨ret_int (by have hh := HE.out; rw [List.take_of_length_le (by rw [HN.out]; exact Nat.le_refl _)] at hh; exact hh), (by repeat (first | with_reducible exact Below.refl _ _ | with_reducible assumption | with_reducible refine bel_alloc ?_ _ | with_reducible refine bel_drew ?_ | with_reducible refine bel_drewN ?_ _ | (with_reducible refine bel_set ?_ ?_ _; rotate_left; ((try simp); (try omega)))))⟩
end Go.Proofs.YtlicnppfgfjkgaaDoor
