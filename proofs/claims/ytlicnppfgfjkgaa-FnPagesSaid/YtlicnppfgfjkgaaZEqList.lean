/-
  slices.Equal at ints and at instructions; EqualInts of the reference. No conditions.
-/
import Derived.Test.YtlicnppfgfjkgaaZA
import Derived.Test.YtlicnppfgfjkgaaZEqBy
import Derived.LoopTactic
import Derived.Test.YtlicnppfgfjkgaaZStructEq
import Derived.StillTailTactics
namespace Go.Proofs.Ytlicnppfgfjkgaa
open Go.ChangeShapes Go.WideShapes Go.RowKit
set_option linter.unusedVariables false

def eqInt (a b : Int) : Bool := a == b
def intsEq (xs ys : List Int) : Bool := eqBy eqInt xs ys

set_option maxHeartbeats 1000000 in
theorem equalInts_any (v1 v2 : Value) (xs ys : List Int) (F1 F2 : List Nat) (w : World) (h1 : cIS.rep w [v1] xs F1) (h2 : cIS.rep w [v2] ys F2) :
    Calls Try.prog 160 #[v1, v2] w (Gives w (.bool (intsEq xs ys))) := by
  obtain ⟨A, cp, rfl⟩ := cL_form h1
  obtain ⟨B, cq, rfl⟩ := cL_form h2
  obtain ⟨-, hcp, hm⟩ := cL_len h1
  obtain ⟨-, hcp2, hm2⟩ := cL_len h2
  obtain ⟨n, hxn⟩ : ∃ n, xs.length = n := ⟨_, rfl⟩
  obtain ⟨m, hxm⟩ : ∃ m, ys.length = m := ⟨_, rfl⟩
  have HN := Lib.hid hxn
  have HM := Lib.hid hxm
  rw [hxn] at hcp ⊢
  rw [hxm] at hcp2 ⊢
  clear hxn hxm
  unfold maxLen at hm hm2
  by_cases hnm : n = m
  · have HE := Lib.hid hnm
    subst hnm
    go_enter Try.func160, Try.ntmps160
    go_wp2
    go_loopw [13] (fun i wr => ∃ k : Nat, k ≤ n ∧ i = .int .i64 k ∧ sameTo eqInt xs ys k ∧ Below w.heap.size w wr) (fun i _ => n - (intOf i).toNat)
    case atStart => exact ⟨0, Nat.zero_le _, rfl, sameTo_zero _ _ _, Below.refl _ _⟩
    case round =>
      obtain ⟨k, hk, rfl, hsm, hB⟩ := hrel
      have HS := Lib.hid hsm
      clear hsm
      by_cases hlt : k < n
      · have hkx : k < xs.length := by rw [HN.out]; exact hlt
        have hky : k < ys.length := by rw [HM.out]; exact hlt
        obtain ⟨g, o, vs, G1, rfl, -, hx, -, hc⟩ := cL_get (hw := by decide) (hw2 := by decide) (Cod.bel h1 hB) hkx
        obtain ⟨g2, o2, vs2, G2, rfl, -, hx2, -, hc2⟩ := cL_get (hw := by decide) (hw2 := by decide) (Cod.bel h2 hB) hky
        obtain ⟨rfl, rfl, -⟩ := hx
        obtain ⟨rfl, rfl, -⟩ := hx2
        have q0 : wr.cell? ⟨g, o + k, none⟩ = some _ := (by have h1 := (hc 0 _ rfl).1; rwa [show (cI).wd = 1 from rfl, Nat.mul_one, Nat.add_zero] at h1)
        have r0 : wr.cell? ⟨g2, o2 + k, none⟩ = some _ := (by have h1 := (hc2 0 _ rfl).1; rwa [show (cI).wd = 1 from rfl, Nat.mul_one, Nat.add_zero] at h1)
        clear hc hc2
        have hki : ((k : Int) < (n : Int)) := by omega
        cases he : eqInt xs[k] ys[k]
        · have hne : (xs[k] != ys[k]) = true := by have := he; unfold eqInt at this; simpa using this
          go_wp2
          go_quiet (fail)
          go_wp2
          go_ret
          exact ⟨ret_bool (eqBy_miss eqInt xs ys k hkx hky he).symm, (by repeat (first | with_reducible exact Below.refl _ _ | with_reducible assumption | with_reducible refine bel_alloc ?_ _ | with_reducible refine bel_drew ?_ | with_reducible refine bel_drewN ?_ _ | (with_reducible refine bel_set ?_ ?_ _; rotate_left; ((try simp); (try omega)))))⟩
        · have hne : (xs[k] != ys[k]) = false := by have := he; unfold eqInt at this; simpa using this
          go_wp2
          go_quiet (fail)
          go_wp2
          go_roundw
          case rel => exact ⟨k + 1, by omega, by go_num, sameTo_succ _ _ _ _ hkx hky HS.out he, bel_drewN hB _⟩
          case measure => simp [intOf]; omega
      · obtain rfl : k = n := by omega
        go_wp2
        go_ret
        exact ⟨ret_bool (eqBy_hit eqInt xs ys (by rw [HN.out, HM.out]) (by rw [HN.out]; exact HS.out)).symm, hB⟩
  · have hne : ((n : Int) != (m : Int)) = true := by simp; omega
    go_enter Try.func160, Try.ntmps160
    go_wp2
    go_ret
    exact ⟨ret_bool (eqBy_len eqInt xs ys (by rw [HN.out, HM.out]; exact hnm)).symm, (by repeat (first | with_reducible exact Below.refl _ _ | with_reducible assumption | with_reducible refine bel_alloc ?_ _ | with_reducible refine bel_drew ?_ | with_reducible refine bel_drewN ?_ _ | (with_reducible refine bel_set ?_ ?_ _; rotate_left; ((try simp); (try omega)))))⟩

def eqIns (a b : TIns) : Bool := a.kind == b.kind && a.r == b.r && a.n == b.n && strEq a.text b.text
theorem eqIns_and (a b : TIns) : eqIns a b = (a.kind == b.kind && (a.r == b.r && (a.n == b.n && (a.text.toList == b.text.toList && true)))) := by
  unfold eqIns strEq; rw [Bool.and_true, Bool.and_assoc, Bool.and_assoc]
def inssEq (xs ys : List TIns) : Bool := eqBy eqIns xs ys
theorem insFields : (Try.prog.fieldsOf 35).toList.map (fun f => (f.type, f.offset, f.name == "_")) = [(3, 0, false), (3, 1, false), (3, 2, false), (9, 3, false)] := by kernel_rfl
theorem insPlain : Try.prog.stoodInHeld 35 = false := by kernel_rfl
theorem insGuard : Try.prog.eqGuardType Try.prog.depth 35 = false := by kernel_rfl
theorem insStruct : Try.prog.underlying 35 = some (.struct (Try.prog.fieldsOf 35)) := by kernel_rfl
theorem insEqualIn (kind kind' : Int) (r r' : Int) (n n' : Int) (text text' : ByteArray) (w : World) :
    (Op.equalIn 10000 35 (.agg #[.int .i64 kind, .int .i64 r, .int .i64 n, .string text]) (.agg #[.int .i64 kind', .int .i64 r', .int .i64 n', .string text'])).run Try.prog w = .ok (kind == kind' && (r == r' && (n == n' && (text.toList == text'.toList && (true))))) w := by
  rw [run_equalIn_agg (P := Try.prog) w 9999 _ _ _ insStruct insPlain]
  have hM := insFields
  generalize (Try.prog.fieldsOf 35).toList = fs at hM
  obtain ⟨f0, fs, rfl, h0, hM⟩ := List.map_eq_cons_iff.1 hM
  obtain ⟨f1, fs, rfl, h1, hM⟩ := List.map_eq_cons_iff.1 hM
  obtain ⟨f2, fs, rfl, h2, hM⟩ := List.map_eq_cons_iff.1 hM
  obtain ⟨f3, fs, rfl, h3, hM⟩ := List.map_eq_cons_iff.1 hM
  obtain rfl := List.map_eq_nil_iff.1 hM
  exact eqFields_cons h0 (part_int Try.underlying3) rfl rfl (run_equalIn_int (P := Try.prog) w _ _ _ _ _ _ Try.underlying3) (eqFields_cons h1 (part_int Try.underlying3) rfl rfl (run_equalIn_int (P := Try.prog) w _ _ _ _ _ _ Try.underlying3) (eqFields_cons h2 (part_int Try.underlying3) rfl rfl (run_equalIn_int (P := Try.prog) w _ _ _ _ _ _ Try.underlying3) (eqFields_cons h3 (part_string Try.underlying9) rfl rfl (run_equalIn_string (P := Try.prog) w _ _ _ _ Try.underlying9) (eqFields_nil))))
theorem run_eql_ins (kind kind' : Int) (r r' : Int) (n n' : Int) (text text' : ByteArray) (w : World) :
    (binOp .eql 35 (.agg #[.int .i64 kind, .int .i64 r, .int .i64 n, .string text]) (.agg #[.int .i64 kind', .int .i64 r', .int .i64 n', .string text'])).run Try.prog w = .ok (.bool (kind == kind' && (r == r' && (n == n' && (text.toList == text'.toList && (true)))))) w := by
  rw [run_eql_struct, insEqualIn]; rfl
theorem run_neq_ins (kind kind' : Int) (r r' : Int) (n n' : Int) (text text' : ByteArray) (w : World) :
    (binOp .neq 35 (.agg #[.int .i64 kind, .int .i64 r, .int .i64 n, .string text]) (.agg #[.int .i64 kind', .int .i64 r', .int .i64 n', .string text'])).run Try.prog w = .ok (.bool (!(kind == kind' && (r == r' && (n == n' && (text.toList == text'.toList && (true))))))) w := by
  rw [run_neq_struct, insEqualIn]; rfl
set_option maxHeartbeats 1000000 in
theorem equalInss_any (v1 v2 : Value) (xs ys : List TIns) (F1 F2 : List Nat) (w : World) (h1 : cInsS.rep w [v1] xs F1) (h2 : cInsS.rep w [v2] ys F2) :
    Calls Try.prog 159 #[v1, v2] w (Gives w (.bool (inssEq xs ys))) := by
  obtain ⟨A, cp, rfl⟩ := cL_form h1
  obtain ⟨B, cq, rfl⟩ := cL_form h2
  obtain ⟨-, hcp, hm⟩ := cL_len h1
  obtain ⟨-, hcp2, hm2⟩ := cL_len h2
  obtain ⟨n, hxn⟩ : ∃ n, xs.length = n := ⟨_, rfl⟩
  obtain ⟨m, hxm⟩ : ∃ m, ys.length = m := ⟨_, rfl⟩
  have HN := Lib.hid hxn
  have HM := Lib.hid hxm
  rw [hxn] at hcp ⊢
  rw [hxm] at hcp2 ⊢
  clear hxn hxm
  unfold maxLen at hm hm2
  by_cases hnm : n = m
  · have HE := Lib.hid hnm
    subst hnm
    go_enter Try.func159, Try.ntmps159
    go_wp2
    go_loopw [13] (fun i wr => ∃ k : Nat, k ≤ n ∧ i = .int .i64 k ∧ sameTo eqIns xs ys k ∧ Below w.heap.size w wr) (fun i _ => n - (intOf i).toNat)
    case atStart => exact ⟨0, Nat.zero_le _, rfl, sameTo_zero _ _ _, Below.refl _ _⟩
    case round =>
      obtain ⟨k, hk, rfl, hsm, hB⟩ := hrel
      have HS := Lib.hid hsm
      clear hsm
      by_cases hlt : k < n
      · have hkx : k < xs.length := by rw [HN.out]; exact hlt
        have hky : k < ys.length := by rw [HM.out]; exact hlt
        obtain ⟨g, o, vs, G1, rfl, -, hx, -, hc⟩ := cL_get (hw := by decide) (hw2 := by decide) (Cod.bel h1 hB) hkx
        obtain ⟨g2, o2, vs2, G2, rfl, -, hx2, -, hc2⟩ := cL_get (hw := by decide) (hw2 := by decide) (Cod.bel h2 hB) hky
        obtain ⟨rfl, -, hok⟩ := TIns.out hx
        obtain ⟨rfl, -, hok2⟩ := TIns.out hx2
        have q0 : wr.cell? ⟨g, o + k * 4, none⟩ = some _ := (hc 0 _ rfl).1
        have q1 : wr.cell? ⟨g, o + k * 4 + 1, none⟩ = some _ := (hc 1 _ rfl).1
        have q2 : wr.cell? ⟨g, o + k * 4 + 2, none⟩ = some _ := (hc 2 _ rfl).1
        have q3 : wr.cell? ⟨g, o + k * 4 + 3, none⟩ = some _ := (hc 3 _ rfl).1
        have r0 : wr.cell? ⟨g2, o2 + k * 4, none⟩ = some _ := (hc2 0 _ rfl).1
        have r1 : wr.cell? ⟨g2, o2 + k * 4 + 1, none⟩ = some _ := (hc2 1 _ rfl).1
        have r2 : wr.cell? ⟨g2, o2 + k * 4 + 2, none⟩ = some _ := (hc2 2 _ rfl).1
        have r3 : wr.cell? ⟨g2, o2 + k * 4 + 3, none⟩ = some _ := (hc2 3 _ rfl).1
        clear hc hc2 hx hx2
        have hki : ((k : Int) < (n : Int)) := by omega
        have hng := fun W => run_neq_ins xs[k].kind ys[k].kind xs[k].r ys[k].r xs[k].n ys[k].n xs[k].text ys[k].text W
        have hgu := insGuard
        cases he : eqIns xs[k] ys[k]
        · rw [show (xs[k].kind == ys[k].kind && (xs[k].r == ys[k].r && (xs[k].n == ys[k].n && (xs[k].text.toList == ys[k].text.toList && true)))) = false by rw [← eqIns_and]; exact he] at hng
          go_wp2
          go_quiet (fail)
          go_wp2
          go_ret
          exact ⟨ret_bool (eqBy_miss eqIns xs ys k hkx hky he).symm, (by repeat (first | with_reducible exact Below.refl _ _ | with_reducible assumption | with_reducible refine bel_alloc ?_ _ | with_reducible refine bel_drew ?_ | with_reducible refine bel_drewN ?_ _ | (with_reducible refine bel_set ?_ ?_ _; rotate_left; ((try simp); (try omega)))))⟩
        · rw [show (xs[k].kind == ys[k].kind && (xs[k].r == ys[k].r && (xs[k].n == ys[k].n && (xs[k].text.toList == ys[k].text.toList && true)))) = true by rw [← eqIns_and]; exact he] at hng
          go_wp2
          go_quiet (fail)
          go_wp2
          go_roundw
          case rel => exact ⟨k + 1, by omega, by go_num, sameTo_succ _ _ _ _ hkx hky HS.out he, bel_drewN hB _⟩
          case measure => simp [intOf]; omega
      · obtain rfl : k = n := by omega
        go_wp2
        go_ret
        exact ⟨ret_bool (eqBy_hit eqIns xs ys (by rw [HN.out, HM.out]) (by rw [HN.out]; exact HS.out)).symm, hB⟩
  · have hne : ((n : Int) != (m : Int)) = true := by simp; omega
    go_enter Try.func159, Try.ntmps159
    go_wp2
    go_ret
    exact ⟨ret_bool (eqBy_len eqIns xs ys (by rw [HN.out, HM.out]; exact hnm)).symm, (by repeat (first | with_reducible exact Below.refl _ _ | with_reducible assumption | with_reducible refine bel_alloc ?_ _ | with_reducible refine bel_drew ?_ | with_reducible refine bel_drewN ?_ _ | (with_reducible refine bel_set ?_ ?_ _; rotate_left; ((try simp); (try omega)))))⟩
end Go.Proofs.Ytlicnppfgfjkgaa
