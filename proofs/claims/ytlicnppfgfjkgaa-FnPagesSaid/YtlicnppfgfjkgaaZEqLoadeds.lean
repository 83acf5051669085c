/-
  slices.Equal at loaded files. No conditions.
-/
import Derived.Test.YtlicnppfgfjkgaaZA
import Derived.Test.YtlicnppfgfjkgaaZEqBy
import Derived.LoopTactic
import Derived.Test.YtlicnppfgfjkgaaZStructEq
import Derived.StillTailTactics
namespace Go.Proofs.Ytlicnppfgfjkgaa
open Go.ChangeShapes Go.WideShapes Go.RowKit
set_option linter.unusedVariables false

def eqLoaded (a b : TLoaded) : Bool := strEq a.path b.path && a.ver == b.ver
theorem eqLoaded_and (a b : TLoaded) : eqLoaded a b = (a.path.toList == b.path.toList && (a.ver == b.ver && true)) := by
  unfold eqLoaded strEq; rw [Bool.and_true]
def loadedsEq (xs ys : List TLoaded) : Bool := eqBy eqLoaded xs ys
theorem loadedFields : (Try.prog.fieldsOf 51).toList.map (fun f => (f.type, f.offset, f.name == "_")) = [(9, 0, false), (3, 1, false)] := by kernel_rfl
theorem loadedPlain : Try.prog.stoodInHeld 51 = false := by kernel_rfl
theorem loadedGuard : Try.prog.eqGuardType Try.prog.depth 51 = false := by kernel_rfl
theorem loadedStruct : Try.prog.underlying 51 = some (.struct (Try.prog.fieldsOf 51)) := by kernel_rfl
theorem loadedEqualIn (path path' : ByteArray) (ver ver' : Int) (w : World) :
    (Op.equalIn 10000 51 (.agg #[.string path, .int .i64 ver]) (.agg #[.string path', .int .i64 ver'])).run Try.prog w = .ok (path.toList == path'.toList && (ver == ver' && (true))) w := by
  rw [run_equalIn_agg (P := Try.prog) w 9999 _ _ _ loadedStruct loadedPlain]
  have hM := loadedFields
  generalize (Try.prog.fieldsOf 51).toList = fs at hM
  obtain ⟨f0, fs, rfl, h0, hM⟩ := List.map_eq_cons_iff.1 hM
  obtain ⟨f1, fs, rfl, h1, hM⟩ := List.map_eq_cons_iff.1 hM
  obtain rfl := List.map_eq_nil_iff.1 hM
  exact eqFields_cons h0 (part_string Try.underlying9) rfl rfl (run_equalIn_string (P := Try.prog) w _ _ _ _ Try.underlying9) (eqFields_cons h1 (part_int Try.underlying3) rfl rfl (run_equalIn_int (P := Try.prog) w _ _ _ _ _ _ Try.underlying3) (eqFields_nil))
theorem run_eql_loaded (path path' : ByteArray) (ver ver' : Int) (w : World) :
    (binOp .eql 51 (.agg #[.string path, .int .i64 ver]) (.agg #[.string path', .int .i64 ver'])).run Try.prog w = .ok (.bool (path.toList == path'.toList && (ver == ver' && (true)))) w := by
  rw [run_eql_struct, loadedEqualIn]; rfl
theorem run_neq_loaded (path path' : ByteArray) (ver ver' : Int) (w : World) :
    (binOp .neq 51 (.agg #[.string path, .int .i64 ver]) (.agg #[.string path', .int .i64 ver'])).run Try.prog w = .ok (.bool (!(path.toList == path'.toList && (ver == ver' && (true))))) w := by
  rw [run_neq_struct, loadedEqualIn]; rfl
set_option maxHeartbeats 1000000 in
theorem equalLoadeds_any (v1 v2 : Value) (xs ys : List TLoaded) (F1 F2 : List Nat) (w : World) (h1 : cLoadedS.rep w [v1] xs F1) (h2 : cLoadedS.rep w [v2] ys F2) :
    Calls Try.prog 127 #[v1, v2] w (Gives w (.bool (loadedsEq xs ys))) := by
  obtain ⟨A, cp, rfl⟩ := cL_form h1
  obtain ⟨B, cq, rfl⟩ := cL_form h2
  obtain ⟨-, hcp, hm⟩ := cL_len h1
  obtain ⟨-, hcp2, hm2⟩ := cL_len h2
  obtain ⟨n, hxn⟩ : ∃ n, xs.length = n := ⟨_, rfl⟩
  obtain ⟨m, hxm⟩ : ∃ m, ys.length = m := ⟨_, rfl⟩
  have HN := Lib.hid hxn
  have HM := Lib.hid hxm
  rw [hxn] at hcp ⊢
  rw [hxm] at hcp2 ⊢
  clear hxn hxm
  unfold maxLen at hm hm2
  by_cases hnm : n = m
  · have HE := Lib.hid hnm
    subst hnm
    go_enter Try.func127, Try.ntmps127
    go_wp2
    go_loopw [13] (fun i wr => ∃ k : Nat, k ≤ n ∧ i = .int .i64 k ∧ sameTo eqLoaded xs ys k ∧ Below w.heap.size w wr) (fun i _ => n - (intOf i).toNat)
    case atStart => exact ⟨0, Nat.zero_le _, rfl, sameTo_zero _ _ _, Below.refl _ _⟩
    case round =>
      obtain ⟨k, hk, rfl, hsm, hB⟩ := hrel
      have HS := Lib.hid hsm
      clear hsm
      by_cases hlt : k < n
      · have hkx : k < xs.length := by rw [HN.out]; exact hlt
        have hky : k < ys.length := by rw [HM.out]; exact hlt
        obtain ⟨g, o, vs, G1, rfl, -, hx, -, hc⟩ := cL_get (hw := by decide) (hw2 := by decide) (Cod.bel h1 hB) hkx
        obtain ⟨g2, o2, vs2, G2, rfl, -, hx2, -, hc2⟩ := cL_get (hw := by decide) (hw2 := by decide) (Cod.bel h2 hB) hky
        obtain ⟨rfl, -, hok⟩ := TLoaded.out hx
        obtain ⟨rfl, -, hok2⟩ := TLoaded.out hx2
        have q0 : wr.cell? ⟨g, o + k * 2, none⟩ = some _ := (hc 0 _ rfl).1
        have q1 : wr.cell? ⟨g, o + k * 2 + 1, none⟩ = some _ := (hc 1 _ rfl).1
        have r0 : wr.cell? ⟨g2, o2 + k * 2, none⟩ = some _ := (hc2 0 _ rfl).1
        have r1 : wr.cell? ⟨g2, o2 + k * 2 + 1, none⟩ = some _ := (hc2 1 _ rfl).1
        clear hc hc2 hx hx2
        have hki : ((k : Int) < (n : Int)) := by omega
        have hng := fun W => run_neq_loaded xs[k].path ys[k].path xs[k].ver ys[k].ver W
        have hgu := loadedGuard
        cases he : eqLoaded xs[k] ys[k]
        · rw [show (xs[k].path.toList == ys[k].path.toList && (xs[k].ver == ys[k].ver && true)) = false by rw [← eqLoaded_and]; exact he] at hng
          go_wp2
          go_quiet (fail)
          go_wp2
          go_ret
          exact ⟨ret_bool (eqBy_miss eqLoaded xs ys k hkx hky he).symm, (by repeat (first | with_reducible exact Below.refl _ _ | with_reducible assumption | with_reducible refine bel_alloc ?_ _ | with_reducible refine bel_drew ?_ | with_reducible refine bel_drewN ?_ _ | (with_reducible refine bel_set ?_ ?_ _; rotate_left; ((try simp); (try omega)))))⟩
        · rw [show (xs[k].path.toList == ys[k].path.toList && (xs[k].ver == ys[k].ver && true)) = true by rw [← eqLoaded_and]; exact he] at hng
          go_wp2
          go_quiet (fail)
          go_wp2
          go_roundw
          case rel => exact ⟨k + 1, by omega, by go_num, sameTo_succ _ _ _ _ hkx hky HS.out he, bel_drewN hB _⟩
          case measure => simp [intOf]; omega
      · obtain rfl : k = n := by omega
        go_wp2
        go_ret
        exact ⟨ret_bool (eqBy_hit eqLoaded xs ys (by rw [HN.out, HM.out]) (by rw [HN.out]; exact HS.out)).symm, hB⟩
  · have hne : ((n : Int) != (m : Int)) = true := by simp; omega
    go_enter Try.func127, Try.ntmps127
    go_wp2
    go_ret
    exact ⟨ret_bool (eqBy_len eqLoaded xs ys (by rw [HN.out, HM.out]; exact hnm)).symm, (by repeat (first | with_reducible exact Below.refl _ _ | with_reducible assumption | with_reducible refine bel_alloc ?_ _ | with_reducible refine bel_drew ?_ | with_reducible refine bel_drewN ?_ _ | (with_reducible refine bel_set ?_ ?_ _; rotate_left; ((try simp); (try omega)))))⟩
end Go.Proofs.Ytlicnppfgfjkgaa
