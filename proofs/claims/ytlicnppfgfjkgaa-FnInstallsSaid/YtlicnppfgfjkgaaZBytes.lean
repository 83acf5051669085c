/-
  Bytes compared: EqualBytes of the program and of the reference. No conditions.
-/
import Derived.Test.YtlicnppfgfjkgaaZA
import Derived.Test.YtlicnppfgfjkgaaZEqBy
import Derived.LoopTactic
import Derived.Laws.IdiomStrings
import Derived.Laws.BytesArg
namespace Go.Proofs.Ytlicnppfgfjkgaa
open Go.ChangeShapes Go.WideShapes Go.RowKit
set_option linter.unusedVariables false


def eqU8 (a b : UInt8) : Bool := (a.toNat : Int) == (b.toNat : Int)
def bytesEq (xs ys : List UInt8) : Bool := eqBy eqU8 xs ys
theorem eqU8_eq (a b : UInt8) : eqU8 a b = (a == b) := by
  unfold eqU8
  rw [Bool.eq_iff_iff, beq_iff_eq, beq_iff_eq]
  exact ⟨fun h => UInt8.toNat_inj.1 (by exact_mod_cast h), fun h => by rw [h]⟩
theorem bytesEq_eq : ∀ xs ys : List UInt8, bytesEq xs ys = (xs == ys)
  | [], [] => rfl
  | [], _ :: _ => rfl
  | _ :: _, [] => rfl
  | x :: xs, y :: ys => by
    have := bytesEq_eq xs ys
    unfold bytesEq at this ⊢
    simp only [eqBy, eqU8_eq, this, List.cons_beq_cons]

theorem conv_bytes {w : World} {A : Option Addr} {n cp : Nat} {xs : List UInt8} {F : List Nat} (h : cUS.rep w [.slice A n cp] xs F) :
    Sem.run Try.prog (convert 22 9 (.slice A n cp)) w = .ok (.string ⟨xs.toArray⟩) w := by
  obtain ⟨hn, -, -⟩ := cL_len h
  subst hn
  cases A with
  | none =>
    cases xs with
    | nil => exact run_convert_bytes_nil (P := Try.prog) w _ 5 Try.underlying22 Try.underlying5 _ _ _ Try.underlying9
    | cons x xs =>
      obtain ⟨g, o, vs, F1, hA, -⟩ := cL_get (hw := by decide) (hw2 := by decide) h (k := 0) (by simp)
      simp at hA
  | some a =>
    refine run_convert_bytes_back (P := Try.prog) w _ _ 5 a _ xs Try.underlying22 Try.underlying5 Try.underlying9 (fun j hj => ?_)
    obtain ⟨g, o, vs, F1, hA, -, hx, -, hc⟩ := cL_get (hw := by decide) (hw2 := by decide) h hj
    simp only [Option.some.injEq] at hA
    subst hA
    obtain ⟨rfl, -⟩ := hx
    have h1 := (hc 0 _ rfl).1
    rw [show (cU).wd = 1 from rfl, Nat.mul_one, Nat.add_zero] at h1
    rw [Addr.add_lit]; exact h1


set_option maxHeartbeats 1000000 in
theorem equalBytes_any (v1 v2 : Value) (xs ys : List UInt8) (F1 F2 : List Nat) (w : World) (h1 : cUS.rep w [v1] xs F1) (h2 : cUS.rep w [v2] ys F2) :
    Calls Try.prog 133 #[v1, v2] w (Gives w (.bool (bytesEq xs ys))) := by
  obtain ⟨A, cp, rfl⟩ := cL_form h1
  obtain ⟨B, cq, rfl⟩ := cL_form h2
  obtain ⟨-, hcp, hm⟩ := cL_len h1
  obtain ⟨-, hcp2, hm2⟩ := cL_len h2
  obtain ⟨n, hxn⟩ : ∃ n, xs.length = n := ⟨_, rfl⟩
  obtain ⟨m, hxm⟩ : ∃ m, ys.length = m := ⟨_, rfl⟩
  have HN := Lib.hid hxn
  have HM := Lib.hid hxm
  rw [hxn] at hcp ⊢
  rw [hxm] at hcp2 ⊢
  clear hxn hxm
  unfold maxLen at hm hm2
  by_cases hnm : n = m
  · have HE := Lib.hid hnm
    subst hnm
    go_enter Try.func133, Try.ntmps133
    go_wp2
    go_loopw [13] (fun i wr => ∃ k : Nat, k ≤ n ∧ i = .int .i64 k ∧ sameTo eqU8 xs ys k ∧ Below w.heap.size w wr) (fun i _ => n - (intOf i).toNat)
    case atStart => exact ⟨0, Nat.zero_le _, rfl, sameTo_zero _ _ _, Below.refl _ _⟩
    case round =>
      obtain ⟨k, hk, rfl, hsm, hB⟩ := hrel
      have HS := Lib.hid hsm
      clear hsm
      by_cases hlt : k < n
      · have hkx : k < xs.length := by rw [HN.out]; exact hlt
        have hky : k < ys.length := by rw [HM.out]; exact hlt
        obtain ⟨g, o, vs, G1, rfl, -, hx, -, hc⟩ := cL_get (hw := by decide) (hw2 := by decide) (Cod.bel h1 hB) hkx
        obtain ⟨g2, o2, vs2, G2, rfl, -, hx2, -, hc2⟩ := cL_get (hw := by decide) (hw2 := by decide) (Cod.bel h2 hB) hky
        obtain ⟨rfl, rfl⟩ := hx
        obtain ⟨rfl, rfl⟩ := hx2
        have q0 : wr.cell? ⟨g, o + k, none⟩ = some _ := (by have h1 := (hc 0 _ rfl).1; rwa [show (cU).wd = 1 from rfl, Nat.mul_one, Nat.add_zero] at h1)
        have r0 : wr.cell? ⟨g2, o2 + k, none⟩ = some _ := (by have h1 := (hc2 0 _ rfl).1; rwa [show (cU).wd = 1 from rfl, Nat.mul_one, Nat.add_zero] at h1)
        clear hc hc2
        have hki : ((k : Int) < (n : Int)) := by omega
        cases he : eqU8 xs[k] ys[k]
        · have hne : ((xs[k].toNat : Int) != (ys[k].toNat : Int)) = true := by have := he; unfold eqU8 at this; simpa using this
          go_wp2
          go_quiet (fail)
          go_wp2
          go_ret
          exact ⟨ret_bool (eqBy_miss eqU8 xs ys k hkx hky he).symm, (by repeat (first | with_reducible exact Below.refl _ _ | with_reducible assumption | with_reducible refine bel_alloc ?_ _ | with_reducible refine bel_drew ?_ | with_reducible refine bel_drewN ?_ _ | (with_reducible refine bel_set ?_ ?_ _; rotate_left; ((try simp); (try omega)))))⟩
        · have hne : ((xs[k].toNat : Int) != (ys[k].toNat : Int)) = false := by have := he; unfold eqU8 at this; simpa using this
          go_wp2
          go_quiet (fail)
          go_wp2
          go_roundw
          case rel => exact ⟨k + 1, by omega, by go_num, sameTo_succ _ _ _ _ hkx hky HS.out he, bel_drewN hB _⟩
          case measure => simp [intOf]; omega
      · obtain rfl : k = n := by omega
        go_wp2
        go_ret
        exact ⟨ret_bool (eqBy_hit eqU8 xs ys (by rw [HN.out, HM.out]) (by rw [HN.out]; exact HS.out)).symm, hB⟩
  · have hne : ((n : Int) != (m : Int)) = true := by simp; omega
    go_enter Try.func133, Try.ntmps133
    go_wp2
    go_ret
    exact ⟨ret_bool (eqBy_len eqU8 xs ys (by rw [HN.out, HM.out]; exact hnm)).symm, (by repeat (first | with_reducible exact Below.refl _ _ | with_reducible assumption | with_reducible refine bel_alloc ?_ _ | with_reducible refine bel_drew ?_ | with_reducible refine bel_drewN ?_ _ | (with_reducible refine bel_set ?_ ?_ _; rotate_left; ((try simp); (try omega)))))⟩

theorem implEqualBytes_any (v1 v2 : Value) (xs ys : List UInt8) (F1 F2 : List Nat) (w : World) (h1 : cUS.rep w [v1] xs F1) (h2 : cUS.rep w [v2] ys F2) :
    Calls Try.prog 80 #[v1, v2] w (Gives w (.bool (bytesEq xs ys))) := by
  obtain ⟨A, cp, rfl⟩ := cL_form h1
  obtain ⟨B, cq, rfl⟩ := cL_form h2
  go_enter Try.func80, Try.ntmps80
  go_wp2_with fail
  refine (equalBytes_any _ _ xs ys _ _ _ (by exact Cod.bel h1 (by repeat (first | with_reducible exact Below.refl _ _ | with_reducible assumption | with_reducible refine bel_alloc ?_ _ | with_reducible refine bel_drew ?_ | with_reducible refine bel_drewN ?_ _ | (with_reducible refine bel_set ?_ ?_ _; rotate_left; ((try simp); (try omega)))))) (by exact Cod.bel h2 (by repeat (first | with_reducible exact Below.refl _ _ | with_reducible assumption | with_reducible refine bel_alloc ?_ _ | with_reducible refine bel_drew ?_ | with_reducible refine bel_drewN ?_ _ | (with_reducible refine bel_set ?_ ?_ _; rotate_left; ((try simp); (try omega))))))).mono ?_
  rintro e w1 ⟨rfl, hb⟩
  go_wp2_with fail
  go_ret
  exact ⟨rfl, (by repeat (first | with_reducible exact Below.refl _ _ | with_reducible assumption | with_reducible refine bel_alloc ?_ _ | with_reducible refine bel_drew ?_ | with_reducible refine bel_drewN ?_ _ | (with_reducible refine bel_set ?_ ?_ _; rotate_left; ((try simp); (try omega)))))⟩

end Go.Proofs.Ytlicnppfgfjkgaa
