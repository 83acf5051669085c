/-
  The law FnWorkers: a version is activated only where the one before it is in use no more, and an install begins with a newer version. No conditions.
-/
import Derived.Test.YteipaolcmjfhdaaRows
import Derived.Test.YteipaolcmjfhdaaAtFn
import Derived.Test.YteipaolcmjfhdaaDrawWork
import Derived.Test.YteipaolcmjfhdaaWorkVal
import Derived.Test.YteipaolcmjfhdaaStructEq
namespace Go.Proofs.Yteipaolcmjfhdaa
open Go.ChangeShapes Go.WideShapes Go.RowKit
set_option linter.unusedVariables false

theorem regiFields : (Try.prog.fieldsOf 58).toList.map (fun f => (f.type, f.offset, f.name == "_")) = [(9, 0, false), (3, 1, false), (3, 2, false), (3, 3, false)] := by kernel_rfl
theorem regiPlain : Try.prog.stoodInHeld 58 = false := by kernel_rfl
theorem regiGuard : Try.prog.eqGuardType Try.prog.depth 58 = false := by kernel_rfl
theorem regiStruct : Try.prog.underlying 58 = some (.struct (Try.prog.fieldsOf 58)) := by kernel_rfl
theorem regiEqualIn (site site' : ByteArray) (ins ins' : Int) (wai wai' : Int) (act act' : Int) (w : World) :
    (Op.equalIn 10000 58 (.agg #[.string site, .int .i64 ins, .int .i64 wai, .int .i64 act]) (.agg #[.string site', .int .i64 ins', .int .i64 wai', .int .i64 act'])).run Try.prog w = .ok (site.toList == site'.toList && (ins == ins' && (wai == wai' && (act == act' && (true))))) w := by
  rw [run_equalIn_agg (P := Try.prog) w 9999 _ _ _ regiStruct regiPlain]
  have hM := regiFields
  generalize (Try.prog.fieldsOf 58).toList = fs at hM
  obtain ⟨f0, fs, rfl, h0, hM⟩ := List.map_eq_cons_iff.1 hM
  obtain ⟨f1, fs, rfl, h1, hM⟩ := List.map_eq_cons_iff.1 hM
  obtain ⟨f2, fs, rfl, h2, hM⟩ := List.map_eq_cons_iff.1 hM
  obtain ⟨f3, fs, rfl, h3, hM⟩ := List.map_eq_cons_iff.1 hM
  obtain rfl := List.map_eq_nil_iff.1 hM
  exact eqFields_cons h0 (part_string Try.underlying9) rfl rfl (run_equalIn_string (P := Try.prog) w _ _ _ _ Try.underlying9) (eqFields_cons h1 (part_int Try.underlying3) rfl rfl (run_equalIn_int (P := Try.prog) w _ _ _ _ _ _ Try.underlying3) (eqFields_cons h2 (part_int Try.underlying3) rfl rfl (run_equalIn_int (P := Try.prog) w _ _ _ _ _ _ Try.underlying3) (eqFields_cons h3 (part_int Try.underlying3) rfl rfl (run_equalIn_int (P := Try.prog) w _ _ _ _ _ _ Try.underlying3) (eqFields_nil))))
theorem run_eql_regi (site site' : ByteArray) (ins ins' : Int) (wai wai' : Int) (act act' : Int) (w : World) :
    (binOp .eql 58 (.agg #[.string site, .int .i64 ins, .int .i64 wai, .int .i64 act]) (.agg #[.string site', .int .i64 ins', .int .i64 wai', .int .i64 act'])).run Try.prog w = .ok (.bool (site.toList == site'.toList && (ins == ins' && (wai == wai' && (act == act' && (true)))))) w := by
  rw [run_eql_struct, regiEqualIn]; rfl
theorem run_neq_regi (site site' : ByteArray) (ins ins' : Int) (wai wai' : Int) (act act' : Int) (w : World) :
    (binOp .neq 58 (.agg #[.string site, .int .i64 ins, .int .i64 wai, .int .i64 act]) (.agg #[.string site', .int .i64 ins', .int .i64 wai', .int .i64 act'])).run Try.prog w = .ok (.bool (!(site.toList == site'.toList && (ins == ins' && (wai == wai' && (act == act' && (true))))))) w := by
  rw [run_neq_struct, regiEqualIn]; rfl
theorem Ok4 {s : ByteArray} {a b c : Int} (h : (⟨s, a, b, c⟩ : TReg).Ok) {a' b' c' : Int} (h1 : -9223372036854775808 ≤ a' ∧ a' ≤ 9223372036854775807) (h2 : -9223372036854775808 ≤ b' ∧ b' ≤ 9223372036854775807) (h3 : -9223372036854775808 ≤ c' ∧ c' ≤ 9223372036854775807) : (⟨s, a', b', c'⟩ : TReg).Ok := ⟨h.h0, h1, h2, h3⟩
/-- the part behind the activation: the begin and the end of an install -/
theorem workers_box {W w1 : World} {n : Nat} {s : ByteArray} {a b c : Int} {ty : TypeId} (hb : Below n (W.alloc (.cells #[.string s, .int .i64 a, .int .i64 b, .int .i64 c] ty)) w1) (hn : W.heap.size < n) :
    w1.cell? ⟨W.heap.size, 0, none⟩ = some (.string s) ∧ w1.cell? ⟨W.heap.size, 1, none⟩ = some (.int .i64 a) ∧ w1.cell? ⟨W.heap.size, 2, none⟩ = some (.int .i64 b) ∧ w1.cell? ⟨W.heap.size, 3, none⟩ = some (.int .i64 c) := by
  refine ⟨(hb.cell (p := ⟨W.heap.size, 0, none⟩) hn).trans (by go_simp), (hb.cell (p := ⟨W.heap.size, 1, none⟩) hn).trans (by go_simp), (hb.cell (p := ⟨W.heap.size, 2, none⟩) hn).trans (by go_simp), (hb.cell (p := ⟨W.heap.size, 3, none⟩) hn).trans (by go_simp)⟩
set_option maxRecDepth 100000 in
set_option maxHeartbeats 8000000 in
theorem lawWorkers_any (v : Value) (xs : List UInt8) (F0 : List Nat) (w : World) (h : cUS.rep w [v] xs F0) :
    Calls Try.prog 6 #[v] w (Gives w (.bool true)) := by
  obtain ⟨A, cp, rfl⟩ := cL_form h
  obtain ⟨-, hcp, hm⟩ := cL_len h
  unfold maxLen at hm
  cases hbig : decide ((1048576 : Int) < xs.length) with
  | true =>
    go_enter Try.func6, Try.ntmps6
    go_wp2_with (go_at_call 11; refine (big_any _ _ _ _).mono ?_; rw [hbig]; rintro e w1 ⟨rfl, rfl⟩)
    go_ret
    exact ⟨rfl, (by repeat (first | with_reducible exact Below.refl _ _ | with_reducible assumption | with_reducible refine bel_alloc ?_ _ | with_reducible refine bel_drew ?_ | with_reducible refine bel_drewN ?_ _ | (with_reducible refine bel_set ?_ ?_ _; rotate_left; ((try simp); (try omega)))))⟩
  | false =>
    have hnl : xs.length ≤ 1048576 := by simp at hbig; omega
    go_enter Try.func6, Try.ntmps6
    go_wp2_with (go_at_call 11; refine (big_any _ _ _ _).mono ?_; rw [hbig]; rintro e w1 ⟨rfl, rfl⟩)
    refine (drawActivate_any _ xs _ _ (by exact Cod.bel h (by repeat (first | with_reducible exact Below.refl _ _ | with_reducible assumption | with_reducible refine bel_alloc ?_ _ | with_reducible refine bel_drew ?_ | with_reducible refine bel_drewN ?_ _ | (with_reducible refine bel_set ?_ ?_ _; rotate_left; ((try simp); (try omega)))))) hnl).mono ?_
    rintro e w1 ⟨⟨s, a, b, c⟩, u, us, G, rfl, ⟨hok, hs⟩, hu, hul, hb1⟩
    obtain ⟨U, cu, rfl⟩ := cL_form hu
    have hB1 : Below w.heap.size w w1 := bel_then (by repeat (first | with_reducible exact Below.refl _ _ | with_reducible assumption | with_reducible refine bel_alloc ?_ _ | with_reducible refine bel_drew ?_ | with_reducible refine bel_drewN ?_ _ | (with_reducible refine bel_set ?_ ?_ _; rotate_left; ((try simp); (try omega))))) hb1
    have hz1 := hB1.size
    clear hb1
    simp only [TReg.val]
    go_wp2_with fail
    refine (actV s a b c _ us _ _ hok hs (by exact Cod.bel hu (by repeat (first | with_reducible exact Below.refl _ _ | with_reducible assumption | with_reducible refine bel_alloc ?_ _ | with_reducible refine bel_drew ?_ | with_reducible refine bel_drewN ?_ _ | (with_reducible refine bel_set ?_ ?_ _; rotate_left; ((try simp); (try omega)))))) hul).mono ?_
    rintro e w2 ⟨rfl, hb2⟩
    obtain ⟨r0, r1, r2, r3⟩ := workers_box hb2 (by simp)
    have hz2 := hb2.size
    (try simp at hz2)
    have hs2 : w1.heap.size < w2.heap.size := by omega
    have hB2 : Below w.heap.size w w2 := bel_then (by repeat (first | with_reducible exact Below.refl _ _ | with_reducible assumption | with_reducible refine bel_alloc ?_ _ | with_reducible refine bel_drew ?_ | with_reducible refine bel_drewN ?_ _ | (with_reducible refine bel_set ?_ ?_ _; rotate_left; ((try simp); (try omega))))) hb2
    have hu2 : cIS.rep w2 [.slice U us.length cu] us G := Cod.bel hu (bel_then (by repeat (first | with_reducible exact Below.refl _ _ | with_reducible assumption | with_reducible refine bel_alloc ?_ _ | with_reducible refine bel_drew ?_ | with_reducible refine bel_drewN ?_ _ | (with_reducible refine bel_set ?_ ?_ _; rotate_left; ((try simp); (try omega))))) hb2)
    clear hb2 hu
    have hng := fun W => run_neq_regi s s a a b b c c W
    have hgu := regiGuard
    cases hA : canActivate ⟨s, a, b, c⟩ us
    focus
      rw [activate_no hA]
      simp only [TReg.val]
      go_wp2_with (first
        | (go_at_call 30; refine (implCanV s a b c _ us _ _ hok hs (by exact Cod.bel hu2 (by repeat (first | with_reducible exact Below.refl _ _ | with_reducible assumption | with_reducible refine bel_alloc ?_ _ | with_reducible refine bel_drew ?_ | with_reducible refine bel_drewN ?_ _ | (with_reducible refine bel_set ?_ ?_ _; rotate_left; ((try simp); (try omega)))))) hul).mono ?_; rw [hA]; rintro e wk ⟨rfl, hb⟩; obtain ⟨hcc, hff, hzz⟩ := bcell hb; (try simp at hzz); have hx1 : w1.heap.size < wk.heap.size := (by omega); have hx2 : w2.heap.size < wk.heap.size := (by omega); have hB : Below w.heap.size w wk := (bel_then (by repeat (first | with_reducible exact Below.refl _ _ | with_reducible assumption | with_reducible refine bel_alloc ?_ _ | with_reducible refine bel_drew ?_ | with_reducible refine bel_drewN ?_ _ | (with_reducible refine bel_set ?_ ?_ _; rotate_left; ((try simp); (try omega))))) hb); have hW2 : Below w2.heap.size w2 wk := (bel_then (by repeat (first | with_reducible exact Below.refl _ _ | with_reducible assumption | with_reducible refine bel_alloc ?_ _ | with_reducible refine bel_drew ?_ | with_reducible refine bel_drewN ?_ _ | (with_reducible refine bel_set ?_ ?_ _; rotate_left; ((try simp); (try omega))))) hb); clear hb)
        | (go_at_call 31; refine (specCanV s a b c _ us _ _ hok hs (by exact Cod.bel hu2 (by repeat (first | with_reducible exact Below.refl _ _ | with_reducible assumption | with_reducible refine bel_alloc ?_ _ | with_reducible refine bel_drew ?_ | with_reducible refine bel_drewN ?_ _ | (with_reducible refine bel_set ?_ ?_ _; rotate_left; ((try simp); (try omega)))))) hul).mono ?_; rw [hA]; rintro e wk ⟨rfl, hb⟩; obtain ⟨hcc, hff, hzz⟩ := bcell hb; (try simp at hzz); have hx1 : w1.heap.size < wk.heap.size := (by omega); have hx2 : w2.heap.size < wk.heap.size := (by omega); have hB : Below w.heap.size w wk := (bel_then (by repeat (first | with_reducible exact Below.refl _ _ | with_reducible assumption | with_reducible refine bel_alloc ?_ _ | with_reducible refine bel_drew ?_ | with_reducible refine bel_drewN ?_ _ | (with_reducible refine bel_set ?_ ?_ _; rotate_left; ((try simp); (try omega))))) hb); have hW2 : Below w2.heap.size w2 wk := (bel_then (by repeat (first | with_reducible exact Below.refl _ _ | with_reducible assumption | with_reducible refine bel_alloc ?_ _ | with_reducible refine bel_drew ?_ | with_reducible refine bel_drewN ?_ _ | (with_reducible refine bel_set ?_ ?_ _; rotate_left; ((try simp); (try omega))))) hb); clear hb))
    rotate_left 1
    focus
      obtain ⟨hact, hno, hlt, hreg⟩ := activate_yes hA
      rw [hact]
      simp only [TReg.val]
      have hlt' : ¬ b ≤ c := by omega
      go_wp2_with (first
        | (go_at_call 30; refine (implCanV s a b c _ us _ _ hok hs (by exact Cod.bel hu2 (by repeat (first | with_reducible exact Below.refl _ _ | with_reducible assumption | with_reducible refine bel_alloc ?_ _ | with_reducible refine bel_drew ?_ | with_reducible refine bel_drewN ?_ _ | (with_reducible refine bel_set ?_ ?_ _; rotate_left; ((try simp); (try omega)))))) hul).mono ?_; rw [hA]; rintro e wk ⟨rfl, hb⟩; obtain ⟨hcc, hff, hzz⟩ := bcell hb; (try simp at hzz); have hx1 : w1.heap.size < wk.heap.size := (by omega); have hx2 : w2.heap.size < wk.heap.size := (by omega); have hB : Below w.heap.size w wk := (bel_then (by repeat (first | with_reducible exact Below.refl _ _ | with_reducible assumption | with_reducible refine bel_alloc ?_ _ | with_reducible refine bel_drew ?_ | with_reducible refine bel_drewN ?_ _ | (with_reducible refine bel_set ?_ ?_ _; rotate_left; ((try simp); (try omega))))) hb); have hW2 : Below w2.heap.size w2 wk := (bel_then (by repeat (first | with_reducible exact Below.refl _ _ | with_reducible assumption | with_reducible refine bel_alloc ?_ _ | with_reducible refine bel_drew ?_ | with_reducible refine bel_drewN ?_ _ | (with_reducible refine bel_set ?_ ?_ _; rotate_left; ((try simp); (try omega))))) hb); clear hb)
        | (go_at_call 31; refine (specCanV s a b c _ us _ _ hok hs (by exact Cod.bel hu2 (by repeat (first | with_reducible exact Below.refl _ _ | with_reducible assumption | with_reducible refine bel_alloc ?_ _ | with_reducible refine bel_drew ?_ | with_reducible refine bel_drewN ?_ _ | (with_reducible refine bel_set ?_ ?_ _; rotate_left; ((try simp); (try omega)))))) hul).mono ?_; rw [hA]; rintro e wk ⟨rfl, hb⟩; obtain ⟨hcc, hff, hzz⟩ := bcell hb; (try simp at hzz); have hx1 : w1.heap.size < wk.heap.size := (by omega); have hx2 : w2.heap.size < wk.heap.size := (by omega); have hB : Below w.heap.size w wk := (bel_then (by repeat (first | with_reducible exact Below.refl _ _ | with_reducible assumption | with_reducible refine bel_alloc ?_ _ | with_reducible refine bel_drew ?_ | with_reducible refine bel_drewN ?_ _ | (with_reducible refine bel_set ?_ ?_ _; rotate_left; ((try simp); (try omega))))) hb); have hW2 : Below w2.heap.size w2 wk := (bel_then (by repeat (first | with_reducible exact Below.refl _ _ | with_reducible assumption | with_reducible refine bel_alloc ?_ _ | with_reducible refine bel_drew ?_ | with_reducible refine bel_drewN ?_ _ | (with_reducible refine bel_set ?_ ?_ _; rotate_left; ((try simp); (try omega))))) hb); clear hb)
        | (go_at_call 32; refine (lawContains_any _ us _ _ _ (by exact Cod.bel hu2 (by repeat (first | with_reducible exact Below.refl _ _ | with_reducible assumption | with_reducible refine bel_alloc ?_ _ | with_reducible refine bel_drew ?_ | with_reducible refine bel_drewN ?_ _ | (with_reducible refine bel_set ?_ ?_ _; rotate_left; ((try simp); (try omega))))))).mono ?_; rw [hno]; rintro e wk ⟨rfl, rfl⟩)
        | (go_at_call 33; refine (implRegOk_any ⟨s, a, 0, b⟩ _ hok.h0).mono ?_; rw [hreg]; rintro e wk ⟨rfl, hb⟩; obtain ⟨hcc, hff, hzz⟩ := bcell hb; (try simp at hzz); have hx1 : w1.heap.size < wk.heap.size := (by omega); have hx2 : w2.heap.size < wk.heap.size := (by omega); have hB : Below w.heap.size w wk := (bel_then (by repeat (first | with_reducible exact Below.refl _ _ | with_reducible assumption | with_reducible refine bel_alloc ?_ _ | with_reducible refine bel_drew ?_ | with_reducible refine bel_drewN ?_ _ | (with_reducible refine bel_set ?_ ?_ _; rotate_left; ((try simp); (try omega))))) hb); have hW2 : Below w2.heap.size w2 wk := (bel_then (by repeat (first | with_reducible exact Below.refl _ _ | with_reducible assumption | with_reducible refine bel_alloc ?_ _ | with_reducible refine bel_drew ?_ | with_reducible refine bel_drewN ?_ _ | (with_reducible refine bel_set ?_ ?_ _; rotate_left; ((try simp); (try omega))))) hb); clear hb))
    all_goals
      refine (drawBeginInstall_any _ xs _ _ (by exact Cod.bel h (by repeat (first | with_reducible exact Below.refl _ _ | with_reducible assumption | with_reducible refine bel_alloc ?_ _ | with_reducible refine bel_drew ?_ | with_reducible refine bel_drewN ?_ _ | (with_reducible refine bel_set ?_ ?_ _; rotate_left; ((try simp); (try omega)))))) hnl).mono ?_
      rintro e w3 ⟨⟨s2, a2, b2, c2⟩, vv, rfl, ⟨hok2, hsy2⟩, hv0, hv1, hb3⟩
      have hB3 : Below w.heap.size w w3 := bel_then (by repeat (first | with_reducible exact Below.refl _ _ | with_reducible assumption | with_reducible refine bel_alloc ?_ _ | with_reducible refine bel_drew ?_ | with_reducible refine bel_drewN ?_ _ | (with_reducible refine bel_set ?_ ?_ _; rotate_left; ((try simp); (try omega))))) hb3
      have hz3 := hB3.size
      clear hb3 hng hgu
      simp only [TReg.val]
      go_wp2_with fail
      refine (implBeginV s2 a2 b2 c2 vv _ hok2 hsy2 (by omega)).mono ?_
      rintro e w4 ⟨rfl, hb4⟩
      obtain ⟨q0, q1, q2, q3⟩ := workers_box hb4 (by simp)
      have hz4 := hb4.size
      (try simp at hz4)
      have hs4 : w3.heap.size < w4.heap.size := by omega
      have hB4 : Below w.heap.size w w4 := bel_then (by repeat (first | with_reducible exact Below.refl _ _ | with_reducible assumption | with_reducible refine bel_alloc ?_ _ | with_reducible refine bel_drew ?_ | with_reducible refine bel_drewN ?_ _ | (with_reducible refine bel_set ?_ ?_ _; rotate_left; ((try simp); (try omega))))) hb4
      clear hb4
      have heq := fun W => run_eql_regi s2 s2 a2 a2 b2 b2 c2 c2 W
      have hgu := regiGuard
      cases hBg : (beginInstall ⟨s2, a2, b2, c2⟩ vv).2
      · rw [begin_no hBg]
        simp only [TReg.val]
        go_wp2_with (first
          | (go_at_call 36; refine (specBeginV s2 a2 b2 c2 vv _ hok2 hsy2 (by omega)).mono ?_; rw [begin_no hBg]; simp only [TReg.val]; rintro e wk ⟨rfl, hb⟩; obtain ⟨hcc, hff, hzz⟩ := bcell hb; (try simp at hzz); have hx3 : w3.heap.size < wk.heap.size := (by omega); have hx4 : w4.heap.size < wk.heap.size := (by omega); have hB : Below w.heap.size w wk := (bel_then (by repeat (first | with_reducible exact Below.refl _ _ | with_reducible assumption | with_reducible refine bel_alloc ?_ _ | with_reducible refine bel_drew ?_ | with_reducible refine bel_drewN ?_ _ | (with_reducible refine bel_set ?_ ?_ _; rotate_left; ((try simp); (try omega))))) hb); clear hb))
        go_ret
        exact ⟨rfl, (by repeat (first | with_reducible exact Below.refl _ _ | with_reducible assumption | with_reducible refine bel_alloc ?_ _ | with_reducible refine bel_drew ?_ | with_reducible refine bel_drewN ?_ _ | (with_reducible refine bel_set ?_ ?_ _; rotate_left; ((try simp); (try omega)))))⟩
      · obtain ⟨ha, hbe, h1, h2, h3, he1, he2, hrg⟩ := begin_yes hBg
        subst ha
        rw [hbe]
        simp only [TReg.val]
        have hnw : ¬ vv ≤ max c2 (max b2 0) := by omega
        have hokv : (⟨s2, vv, b2, c2⟩ : TReg).Ok := Ok4 hok2 (by omega) hok2.h2 hok2.h3
        clear hBg
        go_wp2_with (first
          | (go_at_call 36; refine (specBeginV s2 0 b2 c2 vv _ hok2 hsy2 (by omega)).mono ?_; rw [hbe]; simp only [TReg.val]; rintro e wk ⟨rfl, hb⟩; obtain ⟨hcc, hff, hzz⟩ := bcell hb; (try simp at hzz); have hx3 : w3.heap.size < wk.heap.size := (by omega); have hx4 : w4.heap.size < wk.heap.size := (by omega); have hB : Below w.heap.size w wk := (bel_then (by repeat (first | with_reducible exact Below.refl _ _ | with_reducible assumption | with_reducible refine bel_alloc ?_ _ | with_reducible refine bel_drew ?_ | with_reducible refine bel_drewN ?_ _ | (with_reducible refine bel_set ?_ ?_ _; rotate_left; ((try simp); (try omega))))) hb); clear hb)
          | (go_at_call 37; refine (implNewest_any s2 0 b2 c2 _).mono ?_; rintro e wk ⟨rfl, hb⟩; obtain ⟨hcc, hff, hzz⟩ := bcell hb; (try simp at hzz); have hx3 : w3.heap.size < wk.heap.size := (by omega); have hx4 : w4.heap.size < wk.heap.size := (by omega); have hB : Below w.heap.size w wk := (bel_then (by repeat (first | with_reducible exact Below.refl _ _ | with_reducible assumption | with_reducible refine bel_alloc ?_ _ | with_reducible refine bel_drew ?_ | with_reducible refine bel_drewN ?_ _ | (with_reducible refine bel_set ?_ ?_ _; rotate_left; ((try simp); (try omega))))) hb); clear hb))
        refine (endV s2 vv b2 c2 true _ hokv hsy2).mono ?_
        rw [he1]
        rintro e w5 ⟨rfl, hb5⟩
        have hz5 := hb5.size
        (try simp at hz5)
        have hs35 : w3.heap.size < w5.heap.size := by omega
        have hs45 : w4.heap.size < w5.heap.size := by omega
        have hB5 : Below w.heap.size w w5 := bel_then (by repeat (first | with_reducible exact Below.refl _ _ | with_reducible assumption | with_reducible refine bel_alloc ?_ _ | with_reducible refine bel_drew ?_ | with_reducible refine bel_drewN ?_ _ | (with_reducible refine bel_set ?_ ?_ _; rotate_left; ((try simp); (try omega))))) hb5
        obtain ⟨hcc5, hff5, -⟩ := bcell hb5
        clear hb5
        simp only [TReg.val]
        go_wp2_with fail
        refine (endV s2 vv b2 c2 false _ hokv hsy2).mono ?_
        rw [he2]
        rintro e w6 ⟨rfl, hb6⟩
        obtain ⟨k0, k1, k2, k3⟩ := workers_box hb6 (by simp)
        have hz6 := hb6.size
        (try simp at hz6)
        have hs36 : w3.heap.size < w6.heap.size := by omega
        have hs46 : w4.heap.size < w6.heap.size := by omega
        have hs56 : w5.heap.size < w6.heap.size := by omega
        have hB6 : Below w.heap.size w w6 := bel_then (by repeat (first | with_reducible exact Below.refl _ _ | with_reducible assumption | with_reducible refine bel_alloc ?_ _ | with_reducible refine bel_drew ?_ | with_reducible refine bel_drewN ?_ _ | (with_reducible refine bel_set ?_ ?_ _; rotate_left; ((try simp); (try omega))))) hb6
        obtain ⟨hcc6, hff6, -⟩ := bcell hb6
        clear hb6
        simp only [TReg.val]
        go_wp2_with (go_at_call 33; refine (implRegOk_any ⟨s2, 0, vv, c2⟩ _ hok2.h0).mono ?_; rw [hrg]; rintro e wk ⟨rfl, hb⟩; have hB : Below w.heap.size w wk := (bel_then (by repeat (first | with_reducible exact Below.refl _ _ | with_reducible assumption | with_reducible refine bel_alloc ?_ _ | with_reducible refine bel_drew ?_ | with_reducible refine bel_drewN ?_ _ | (with_reducible refine bel_set ?_ ?_ _; rotate_left; ((try simp); (try omega))))) hb); clear hb)
        go_ret
        exact ⟨rfl, (by repeat (first | with_reducible exact Below.refl _ _ | with_reducible assumption | with_reducible refine bel_alloc ?_ _ | with_reducible refine bel_drew ?_ | with_reducible refine bel_drewN ?_ _ | (with_reducible refine bel_set ?_ ?_ _; rotate_left; ((try simp); (try omega)))))⟩

set_option maxRecDepth 100000 in
theorem lawWorkers_walk (H : Type) (enc : TypeId × Value → H) (W : World) (base : Nat) (args : Array Value) (ds : List (DataW H)) (p : List MemPlace)
    (hval : ∀ (j : Nat) t v, Try.f6.params[j]? = some t → args[j]? = some v → Value.okWide Try.prog W .any base t v)
    (hA : DataW.TrodAll enc Try.prog W 0 (fun _ => true) true Try.f6.params.toList args.toList ds p) (hf : W.noneFrozen p) :
    Calls Try.prog 6 args W (Gives W (.bool true)) := by
  rw [Try.params6] at hA hval
  obtain ⟨v0, vs0, d0, ds0, q0, s0, hargs, rfl, rfl, k0, t0⟩ := trodAll_cons hA
  obtain ⟨rfl, rfl, rfl⟩ := trodAll_nil t0
  obtain rfl : args = #[v0] := by cases args; simp_all
  obtain ⟨x0, F0, hx0⟩ := opens_US.slice_ Try.underlying22 (hval 0 _ _ rfl rfl) k0 (noneFrozen_mono hf fun y hy => by simp [hy])
  exact lawWorkers_any v0 x0 F0 W hx0

set_option maxRecDepth 100000 in
theorem lawWorkers_lifted (os : Os) (started : os.Started) (H : Type) (enc : TypeId × Value → H) :
    ReturnsInHanded {} Try.checked os 6 .any (Rows.fnWorkersSpec.pre6 enc Try.prog Try.f6 Rows.fnWorkersRow.domain false) (Rows.fnWorkersSpec.post enc Try.prog Try.f6 false true false false) := by
  refine returnsInHanded_of_change (C := Try.checked) (by kernel_rfl) started (by kernel_rfl) Try.func6
    (ChangeSpec.witness6 (enc := enc) (C := Try.checked) false ⟨#[], #[.slice none 0 0], []⟩ 16 (by kernel_rfl) (by kernel_rfl) (by kernel_rfl) (by kernel_rfl)) ?_
  intro W base args ds gs before hval hW _ _
  have hW' := hW
  obtain ⟨p, q, hA, hV, rfl, hfz, hnd⟩ := hW
  refine (lawWorkers_walk H enc W base args ds p hval hA (noneFrozen_mono hfz fun y hy => by simp [hy])).mono fun e W' ⟨he, hb⟩ => ⟨_, he, ?_⟩
  exact law_post (by kernel_rfl) rfl (by kernel_rfl) Try.underlying4 (by kernel_rfl) (fun ds h => by
    match ds, h with
    | [d0], _ => exact ⟨rfl, rfl, rfl⟩) hW' hb
theorem lawWorkers_over : Rows.fnWorkersRow.holds Try.pinned (OpenSpec.ofChange Rows.fnWorkersSpec) :=
  OpenClaim.holds_of_wide 6 Try.f6 rfl rfl rfl rfl rfl rfl rfl ⟨rfl, rfl, rfl, rfl, rfl⟩ rfl rfl rfl rfl rfl (by kernel_rfl) Try.func6 (by kernel_rfl)
    (of_decide_eq_true (by kernel_rfl)) (by unfold Func.isWrapper; rw [if_neg (of_decide_eq_false (by kernel_rfl))]; exact ⟨rfl, rfl⟩)
    (fun os started H enc _ => lawWorkers_lifted os started H enc)
/-- THE STATEMENT -/
theorem lawWorkers_holds : Rows.FnWorkersSaid := lawWorkers_over

end Go.Proofs.Yteipaolcmjfhdaa
