/-
  The law FnExactParseInstr: for all arguments the program's ParseInstr returns what the reference's returns. The row's condition: the library's variables hold what their text lays.
-/
import Derived.Test.YtlicnppfgfjkgaaDoorZA
import Derived.Test.YtlicnppfgfjkgaaDoorZParseI
import Derived.Test.YtlicnppfgfjkgaaDoorZEqIns
namespace Go.Proofs.YtlicnppfgfjkgaaDoor
open Go.ChangeShapes Go.WideShapes Go.RowKit
open Go.ChangeMaps (open_string shut_string)
set_option linter.unusedVariables false

theorem parse_ok {l : List UInt8} (h : l.length ≤ 1048576) : (parseInstr l).1.Ok := by
  by_cases hp : fmtL (specCore (cut 32 l)) = l ∧ l ≠ []
  · have e : parseInstr l = (specCore (cut 32 l), true) := by unfold parseInstr; rw [if_pos hp]
    have hi := instr_of_fmt (x := specCore (cut 32 l)) (by rw [hp.1]; exact hp.2)
    have hg := good_of hi
    rw [e]
    show TIns.Ok (specCore (cut 32 l))
    clear e hp
    generalize specCore (cut 32 l) = x at *
    have h1 := hg.kind; have h2 := hg.r0; have h3 := hg.r3; have h4 := hg.n0; have h5 := hg.n1
    refine ⟨by omega, by omega, by omega, ?_⟩
    by_cases hk : x.kind = 5 ∨ x.kind = 6 ∨ x.kind = 7 ∨ x.kind = 8
    · have := (isName_size (hg.named hk)).2; unfold maxLen; omega
    · have := hg.bare hk; rw [Lib.size_eq, this]; decide
  · have e : parseInstr l = (insZero, false) := by unfold parseInstr; rw [if_neg hp]
    rw [e]
    exact ⟨by decide, by decide, by decide, by decide⟩
set_option maxRecDepth 100000 in
set_option maxHeartbeats 4000000 in
theorem lawParseInstr_any (s : ByteArray) (w : World) (hs : s.size ≤ maxLen) (hG : Gd w) : Calls Tryd.prog 5 #[.string s] w (Gives w (.bool true)) := by
  have HG := Lib.hid hG
  clear hG
  by_cases hl : (1048576 : Int) < s.size
  · go_enter Tryd.func5, Tryd.ntmps5
    go_wp2_with fail
    go_ret
    exact ⟨rfl, (by repeat (first | with_reducible exact Below.refl _ _ | with_reducible assumption | with_reducible refine bel_alloc ?_ _ | with_reducible refine bel_drew ?_ | with_reducible refine bel_drewN ?_ _ | (with_reducible refine bel_set ?_ ?_ _; rotate_left; ((try simp); (try omega)))))⟩
  · have hs2 : s.size ≤ 1048576 := by omega
    have hok := parse_ok (l := s.data.toList) (by rw [← Lib.size_eq]; exact hs2)
    have hI := fun W (hb : Below w.heap.size w W) => implParseInstr_any s W hs2 (HG.out.bel hb)
    have hS := fun W => specParseInstr_any s W hs2
    generalize hr : (parseInstr s.data.toList).1 = x at hok hI hS
    generalize hr2 : (parseInstr s.data.toList).2 = ok at hI hS
    clear hr hr2
    have hE : ∀ W, Calls Tryd.prog 22 #[.agg #[Value.int .i64 x.kind, .int .i64 x.r, .int .i64 x.n, .string x.text], .agg #[Value.int .i64 x.kind, .int .i64 x.r, .int .i64 x.n, .string x.text]] W (Gives W (.bool true)) := fun W => eqInstr_any _ _ x [] [] W (TIns.mk_ hok) (TIns.mk_ hok)
    unfold TIns.val at hI hS
    obtain ⟨kd, r, n, t⟩ := x
    simp only at hI hS hE
    clear hok
    go_enter Tryd.func5, Tryd.ntmps5
    go_wp2_with fail
    refine (hS _).mono ?_
    rintro e w1 ⟨rfl, hb1⟩
    have hB1 : Below w.heap.size w w1 := bel_then (by repeat (first | with_reducible exact Below.refl _ _ | with_reducible assumption | with_reducible refine bel_alloc ?_ _ | with_reducible refine bel_drew ?_ | with_reducible refine bel_drewN ?_ _ | (with_reducible refine bel_set ?_ ?_ _; rotate_left; ((try simp); (try omega))))) hb1
    have hz1 := hb1.size
    clear hb1
    go_wp2_with fail
    refine (hI _ (by repeat (first | with_reducible exact Below.refl _ _ | with_reducible assumption | with_reducible refine bel_alloc ?_ _ | with_reducible refine bel_drew ?_ | with_reducible refine bel_drewN ?_ _ | (with_reducible refine bel_set ?_ ?_ _; rotate_left; ((try simp); (try omega)))))).mono ?_
    rintro e w2 ⟨rfl, hb2⟩
    obtain ⟨hcc2, hff2, hzz2⟩ := bcell hb2
    (try simp at hzz2)
    have hs1 : w1.heap.size < w2.heap.size := by omega
    have hB2 : Below w.heap.size w w2 := bel_then (by repeat (first | with_reducible exact Below.refl _ _ | with_reducible assumption | with_reducible refine bel_alloc ?_ _ | with_reducible refine bel_drew ?_ | with_reducible refine bel_drewN ?_ _ | (with_reducible refine bel_set ?_ ?_ _; rotate_left; ((try simp); (try omega))))) hb2
    clear hb2
    go_wp2_with fail
    refine (hE _).mono ?_
    rintro e w3 ⟨rfl, hb3⟩
    have hB3 : Below w.heap.size w w3 := bel_then (by repeat (first | with_reducible exact Below.refl _ _ | with_reducible assumption | with_reducible refine bel_alloc ?_ _ | with_reducible refine bel_drew ?_ | with_reducible refine bel_drewN ?_ _ | (with_reducible refine bel_set ?_ ?_ _; rotate_left; ((try simp); (try omega))))) hb3
    go_wp2_with fail
    go_ret
    exact ⟨rfl, (by repeat (first | with_reducible exact Below.refl _ _ | with_reducible assumption | with_reducible refine bel_alloc ?_ _ | with_reducible refine bel_drew ?_ | with_reducible refine bel_drewN ?_ _ | (with_reducible refine bel_set ?_ ?_ _; rotate_left; ((try simp); (try omega)))))⟩

set_option maxRecDepth 100000 in
theorem lawParseInstr_walk (H : Type) (enc : TypeId × Value → H) (W : World) (base : Nat) (args : Array Value) (ds : List (DataW H)) (p : List MemPlace)
    (hval : ∀ (j : Nat) t v, Tryd.f5.params[j]? = some t → args[j]? = some v → Value.okWide Tryd.prog W .any base t v)
    (hA : DataW.TrodAll enc Tryd.prog W 0 (fun _ => true) true Tryd.f5.params.toList args.toList ds p) (hf : W.noneFrozen p)
    (hL : laidMetH Tryd.prog Rows.fnExactParseInstrRow.laid W) (hsh : W.ShapedOpen Tryd.prog) :
    Calls Tryd.prog 5 args W (Gives W (.bool true)) := by
  rw [Tryd.params5] at hA hval
  obtain ⟨v0, vs0, d0, ds0, q0, s0, hargs, rfl, rfl, k0, t0⟩ := trodAll_cons hA
  obtain ⟨rfl, rfl, rfl⟩ := trodAll_nil t0
  obtain rfl : args = #[v0] := by cases args; simp_all
  obtain ⟨x0, rfl, rfl, rfl, hx0⟩ := open_string Tryd.underlying9 (hval 0 _ _ rfl rfl) k0
  rw [MakeChecks.laidMetH_plain _ _ _ (by kernel_rfl)] at hL
  exact lawParseInstr_any x0 W hx0 (gd_of hL hsh)

set_option maxRecDepth 100000 in
theorem lawParseInstr_lifted (os : Os) (started : os.Started) (H : Type) (enc : TypeId × Value → H) :
    ReturnsInHanded {} Tryd.checked os 5 .any (fun w args => (Rows.fnExactParseInstrSpec.pre enc Tryd.prog Tryd.f5 Rows.fnExactParseInstrRow.domain false w args ∧ laidMetH Tryd.prog Rows.fnExactParseInstrRow.laid w) ∧ sizedMet enc Tryd.prog Tryd.f5 (OpenSpec.ofChange Rows.fnExactParseInstrSpec) false w args)
      (Rows.fnExactParseInstrSpec.post enc Tryd.prog Tryd.f5 false true false false) := by
  refine door_lift (C := Tryd.checked) (X := fun w _ => laidMetH Tryd.prog Rows.fnExactParseInstrRow.laid w) (fun _ _ _ hh h => h.of_heap hh) door_own started (by kernel_rfl) Tryd.func5
    (ChangeSpec.witness_shaped (enc := enc) (C := Tryd.checked) (os := os) (X := fun w _ => laidMetH Tryd.prog Rows.fnExactParseInstrRow.laid w) false (World.laidAll Tryd.prog os Rows.fnExactParseInstrRow.laid) #[.string ByteArray.empty] 16 (World.laidAll_os _ _ _)
      (World.shaped_of_ZipB (by kernel_rfl) (by kernel_rfl)) (by kernel_rfl) (by kernel_rfl) (by kernel_rfl)
      (by rw [MakeChecks.laidMetH_plain _ _ _ (by kernel_rfl)]; exact laidMet_laidAll _ (by kernel_rfl) (by kernel_rfl))) ?_
  intro W base args ds gs before hval hW hL hsh
  have hW' := hW
  obtain ⟨p, q, hA, hV, rfl, hfz, hnd⟩ := hW
  refine (lawParseInstr_walk H enc W base args ds p hval hA (noneFrozen_mono hfz fun y hy => by simp [hy]) hL hsh).mono fun e W' ⟨he, hb⟩ => ⟨_, he, ?_⟩
  exact law_post (by kernel_rfl) rfl (by kernel_rfl) Tryd.underlying4 (by kernel_rfl) (fun ds h => by
    match ds, h with
    | [d0], _ => exact ⟨rfl, rfl, rfl⟩) hW' hb
theorem lawParseInstr_over : Rows.fnExactParseInstrRow.holds Tryd.pinned (OpenSpec.ofChange Rows.fnExactParseInstrSpec) :=
  OpenClaim.holds_of_wide 5 Tryd.f5 rfl rfl rfl rfl rfl rfl rfl ⟨rfl, rfl, rfl, rfl, rfl⟩ rfl rfl rfl rfl rfl (by kernel_rfl) Tryd.func5 (by kernel_rfl)
    (of_decide_eq_true (by kernel_rfl)) (by unfold Func.isWrapper; first | (rw [if_neg (of_decide_eq_false (by kernel_rfl))]; exact ⟨rfl, rfl⟩) | (rw [if_pos (of_decide_eq_true (by kernel_rfl))]; kernel_rfl))
    (fun os started H enc _ => lawParseInstr_lifted os started H enc)
/-- THE STATEMENT -/
theorem lawParseInstr_holds : Rows.FnExactParseInstrCardSaid :=
  Claim7.holds_tied_plain_at .later [] [.data, .data, .data, .data, .sentinel, .sentinel, .pinned] true Rows.fnExactParseInstrCard.stood.harness true lawParseInstr_over (fun _ h => by cases h) (by kernel_rfl) (fun _ h => by cases h) fnExactParseInstr_row_tie rfl ⟨rfl, rfl⟩ (by kernel_rfl) rfl
    (fun f fn hf hfn => by
      obtain rfl : f = 5 := Option.some.inj ((show Tryd.prog.funcNamed Rows.fnExactParseInstrRow.func = some 5 by kernel_rfl).symm.trans hf) |>.symm
      obtain rfl : fn = Tryd.f5 := (Option.some.inj (Tryd.func5.symm.trans hfn)).symm
      exact ⟨by kernel_rfl, fun j t ht => by
        have hm : t ∈ Tryd.f5.params.toList := by simpa using Array.mem_of_getElem? ht
        have hall : (Tryd.f5.params.toList.all fun u => !Tryd.prog.wantsStandIn u) = true := by kernel_rfl
        exact (show Tryd.prog.wantsStandIn t = false by simpa using List.all_eq_true.1 hall t hm)⟩)
    (by kernel_rfl)

end Go.Proofs.YtlicnppfgfjkgaaDoor
