/-
  The law FnExactParseLines: for all arguments the program's ParseLines returns what the reference's returns. The row's condition: the library's variables hold what their text lays.
-/
import Derived.Test.YtlicnppfgfjkgaaDoorZA
import Derived.Deep.RegionHeld3
import Derived.Test.YtlicnppfgfjkgaaDoorZLinesI
import Derived.Test.YtlicnppfgfjkgaaDoorZLinesS
import Derived.Test.YtlicnppfgfjkgaaDoorZLinesSz
import Derived.Test.YtlicnppfgfjkgaaDoorZMkSIns
namespace Go.Proofs.YtlicnppfgfjkgaaDoor
open Go.ChangeShapes Go.WideShapes Go.RowKit
open Go.ChangeMaps (open_string shut_string)
set_option linter.unusedVariables false

set_option maxRecDepth 100000 in
set_option maxHeartbeats 4000000 in
theorem lawParseLines_any (p0 : ByteArray) (w : World) (h0 : p0.size ≤ maxLen) (hG : Gd w) :
    Calls Tryd.prog 6 #[.string p0] w (Gives w (.bool true)) := by
  have HG := Lib.hid hG
  clear hG
  by_cases z0 : (1048576 : Int) < p0.size
  · go_enter Tryd.func6, Tryd.ntmps6
    go_wp2_with fail
    go_ret
    exact ⟨rfl, (by repeat (first | with_reducible exact Below.refl _ _ | with_reducible assumption | with_reducible refine bel_alloc ?_ _ | with_reducible refine bel_drew ?_ | with_reducible refine bel_drewN ?_ _ | (with_reducible refine bel_set ?_ ?_ _; rotate_left; ((try simp); (try omega)))))⟩
  · have z0 : p0.size ≤ 1048576 := by omega
    go_enter Tryd.func6, Tryd.ntmps6
    go_wp2_with fail
    refine (specParseLines_any p0 _ (by omega)).mono ?_
    rintro e w1 ⟨uw1, Gw1, rfl, hbw1, hrw1, hfw1⟩
    obtain ⟨Arw1, crw1, erw1⟩ := cL_form hrw1
    subst erw1
    have hsw1 := hbw1.size
    (try simp at hsw1)
    have hBw1 : Below w.heap.size w w1 := bel_then (by repeat (first | with_reducible exact Below.refl _ _ | with_reducible assumption | with_reducible refine bel_alloc ?_ _ | with_reducible refine bel_drew ?_ | with_reducible refine bel_drewN ?_ _ | (with_reducible refine bel_set ?_ ?_ _; rotate_left; ((try simp); (try omega))))) hbw1
    have hlrw1 : ∀ b, b ∈ Gw1 → b < w1.heap.size := fun b hb => Cod.lt _ hrw1 b hb
    obtain ⟨hcw1, hfzw1, -⟩ := bcell hbw1
    clear hbw1
    go_wp2_with fail
    refine (implParseLines_any p0 _ (by omega) (HG.out.bel (by repeat (first | with_reducible exact Below.refl _ _ | with_reducible assumption | with_reducible refine bel_alloc ?_ _ | with_reducible refine bel_drew ?_ | with_reducible refine bel_drewN ?_ _ | (with_reducible refine bel_set ?_ ?_ _; rotate_left; ((try simp); (try omega))))))).mono ?_
    rintro e w2 ⟨uw2, Gw2, rfl, hbw2, hrw2, hfw2⟩
    obtain ⟨Arw2, crw2, erw2⟩ := cL_form hrw2
    subst erw2
    have hsw2 := hbw2.size
    (try simp at hsw2)
    have hBw2 : Below w.heap.size w w2 := bel_then (by repeat (first | with_reducible exact Below.refl _ _ | with_reducible assumption | with_reducible refine bel_alloc ?_ _ | with_reducible refine bel_drew ?_ | with_reducible refine bel_drewN ?_ _ | (with_reducible refine bel_set ?_ ?_ _; rotate_left; ((try simp); (try omega))))) hbw2
    replace hrw1 := Cod.bel hrw1 (show Below _ _ w2 from bel_then (by repeat (first | with_reducible exact Below.refl _ _ | with_reducible assumption | with_reducible refine bel_alloc ?_ _ | with_reducible refine bel_drew ?_ | with_reducible refine bel_drewN ?_ _ | (with_reducible refine bel_set ?_ ?_ _; rotate_left; ((try simp); (try omega))))) hbw2)
    have hlrw2 : ∀ b, b ∈ Gw2 → b < w2.heap.size := fun b hb => Cod.lt _ hrw2 b hb
    have zr : cInsS.sz ((parseLines p0.data.toList).1) ≤ 8000000 := (by have h := parseLines_sz p0; have := z0; omega)
    obtain ⟨hcw2, hfzw2, -⟩ := bcell hbw2
    clear hbw2
    go_wp2_with fail
    refine (eqInstrS_any _ _ ((parseLines p0.data.toList).1) _ _ _ (by exact Cod.bel hrw2 (by repeat (first | with_reducible exact Below.refl _ _ | with_reducible assumption | with_reducible refine bel_alloc ?_ _ | with_reducible refine bel_drew ?_ | with_reducible refine bel_drewN ?_ _ | (with_reducible refine bel_set ?_ ?_ _; rotate_left; ((try simp); (try omega)))))) (by exact Cod.bel hrw1 (by repeat (first | with_reducible exact Below.refl _ _ | with_reducible assumption | with_reducible refine bel_alloc ?_ _ | with_reducible refine bel_drew ?_ | with_reducible refine bel_drewN ?_ _ | (with_reducible refine bel_set ?_ ?_ _; rotate_left; ((try simp); (try omega))))))).mono ?_
    rintro e w3 ⟨rfl, hbw3⟩
    have hsw3 := hbw3.size
    (try simp at hsw3)
    have hBw3 : Below w.heap.size w w3 := bel_then (by repeat (first | with_reducible exact Below.refl _ _ | with_reducible assumption | with_reducible refine bel_alloc ?_ _ | with_reducible refine bel_drew ?_ | with_reducible refine bel_drewN ?_ _ | (with_reducible refine bel_set ?_ ?_ _; rotate_left; ((try simp); (try omega))))) hbw3
    replace hrw1 := Cod.bel hrw1 (show Below _ _ w3 from bel_then (by repeat (first | with_reducible exact Below.refl _ _ | with_reducible assumption | with_reducible refine bel_alloc ?_ _ | with_reducible refine bel_drew ?_ | with_reducible refine bel_drewN ?_ _ | (with_reducible refine bel_set ?_ ?_ _; rotate_left; ((try simp); (try omega))))) hbw3)
    replace hrw2 := Cod.bel hrw2 (show Below _ _ w3 from bel_then (by repeat (first | with_reducible exact Below.refl _ _ | with_reducible assumption | with_reducible refine bel_alloc ?_ _ | with_reducible refine bel_drew ?_ | with_reducible refine bel_drewN ?_ _ | (with_reducible refine bel_set ?_ ?_ _; rotate_left; ((try simp); (try omega))))) hbw3)
    obtain ⟨hcw3, hfzw3, -⟩ := bcell hbw3
    clear hbw3
    go_wp2_with fail
    have ctw4 : ((cInsS.cn ((parseLines p0.data.toList).1) : Nat) : Int) ≤ 449999999 := (by have h1 := Cod.cns_le cIns (by decide) ((parseLines p0.data.toList).1); have h2 := zr; have h3 : cInsS.cn ((parseLines p0.data.toList).1) = Cod.cns cIns ((parseLines p0.data.toList).1) := rfl; have h4 : cInsS.sz ((parseLines p0.data.toList).1) = Cod.szs cIns ((parseLines p0.data.toList).1) := rfl; omega)
    refine (markInstrS_any _ ((parseLines p0.data.toList).1) _ _ _ (by exact Cod.bel hrw2 (by repeat (first | with_reducible exact Below.refl _ _ | with_reducible assumption | with_reducible refine bel_alloc ?_ _ | with_reducible refine bel_drew ?_ | with_reducible refine bel_drewN ?_ _ | (with_reducible refine bel_set ?_ ?_ _; rotate_left; ((try simp); (try omega)))))) hfw2.2 (by omega) (by omega)).mono ?_
    rintro e w4 ⟨rfl, how4, hmw4⟩
    have hsw4 := how4.size
    (try simp at hsw4)
    have hBw4 : Below w.heap.size w w4 := Below.trans (show Below w.heap.size w _ from (by repeat (first | with_reducible exact Below.refl _ _ | with_reducible assumption | with_reducible refine bel_alloc ?_ _ | with_reducible refine bel_drew ?_ | with_reducible refine bel_drewN ?_ _ | (with_reducible refine bel_set ?_ ?_ _; rotate_left; ((try simp); (try omega)))))) (how4.bel _ (by have := hBw3.size; (try simp); (try omega)) (fun b hb => by have h1 := hfw2.1 _ hb; have := hBw3.size; (try simp at h1); omega))
    replace hrw1 := Cod.only (Cod.bel hrw1 (by repeat (first | with_reducible exact Below.refl _ _ | with_reducible assumption | with_reducible refine bel_alloc ?_ _ | with_reducible refine bel_drew ?_ | with_reducible refine bel_drewN ?_ _ | (with_reducible refine bel_set ?_ ?_ _; rotate_left; ((try simp); (try omega)))))) how4 (fun b h1 h2 => by have e1 := hlrw1 b h1; have e2 := hfw2.1 b h2; (try simp at e2); omega)
    clear hrw2
    have hrw2 := hmw4
    clear how4
    go_wp2_with fail
    refine (heldInstrS_any _ ((parseLines p0.data.toList).1) _ _ _ (by exact Cod.bel hrw2 (by repeat (first | with_reducible exact Below.refl _ _ | with_reducible assumption | with_reducible refine bel_alloc ?_ _ | with_reducible refine bel_drew ?_ | with_reducible refine bel_drewN ?_ _ | (with_reducible refine bel_set ?_ ?_ _; rotate_left; ((try simp); (try omega)))))) (by omega) (by omega)).mono ?_
    rintro e w5 ⟨rfl, hbw5⟩
    have hsw5 := hbw5.size
    (try simp at hsw5)
    have hBw5 : Below w.heap.size w w5 := bel_then (by repeat (first | with_reducible exact Below.refl _ _ | with_reducible assumption | with_reducible refine bel_alloc ?_ _ | with_reducible refine bel_drew ?_ | with_reducible refine bel_drewN ?_ _ | (with_reducible refine bel_set ?_ ?_ _; rotate_left; ((try simp); (try omega))))) hbw5
    replace hrw1 := Cod.bel hrw1 (show Below _ _ w5 from bel_then (by repeat (first | with_reducible exact Below.refl _ _ | with_reducible assumption | with_reducible refine bel_alloc ?_ _ | with_reducible refine bel_drew ?_ | with_reducible refine bel_drewN ?_ _ | (with_reducible refine bel_set ?_ ?_ _; rotate_left; ((try simp); (try omega))))) hbw5)
    replace hrw2 := Cod.bel hrw2 (show Below _ _ w5 from bel_then (by repeat (first | with_reducible exact Below.refl _ _ | with_reducible assumption | with_reducible refine bel_alloc ?_ _ | with_reducible refine bel_drew ?_ | with_reducible refine bel_drewN ?_ _ | (with_reducible refine bel_set ?_ ?_ _; rotate_left; ((try simp); (try omega))))) hbw5)
    obtain ⟨hcw5, hfzw5, -⟩ := bcell hbw5
    clear hbw5
    go_wp2_with fail
    refine (implParseLines_any p0 _ (by omega) (HG.out.bel (by repeat (first | with_reducible exact Below.refl _ _ | with_reducible assumption | with_reducible refine bel_alloc ?_ _ | with_reducible refine bel_drew ?_ | with_reducible refine bel_drewN ?_ _ | (with_reducible refine bel_set ?_ ?_ _; rotate_left; ((try simp); (try omega))))))).mono ?_
    rintro e w6 ⟨uw6, Gw6, rfl, hbw6, hrw6, hfw6⟩
    obtain ⟨Arw6, crw6, erw6⟩ := cL_form hrw6
    subst erw6
    have hsw6 := hbw6.size
    (try simp at hsw6)
    have hBw6 : Below w.heap.size w w6 := bel_then (by repeat (first | with_reducible exact Below.refl _ _ | with_reducible assumption | with_reducible refine bel_alloc ?_ _ | with_reducible refine bel_drew ?_ | with_reducible refine bel_drewN ?_ _ | (with_reducible refine bel_set ?_ ?_ _; rotate_left; ((try simp); (try omega))))) hbw6
    replace hrw1 := Cod.bel hrw1 (show Below _ _ w6 from bel_then (by repeat (first | with_reducible exact Below.refl _ _ | with_reducible assumption | with_reducible refine bel_alloc ?_ _ | with_reducible refine bel_drew ?_ | with_reducible refine bel_drewN ?_ _ | (with_reducible refine bel_set ?_ ?_ _; rotate_left; ((try simp); (try omega))))) hbw6)
    replace hrw2 := Cod.bel hrw2 (show Below _ _ w6 from bel_then (by repeat (first | with_reducible exact Below.refl _ _ | with_reducible assumption | with_reducible refine bel_alloc ?_ _ | with_reducible refine bel_drew ?_ | with_reducible refine bel_drewN ?_ _ | (with_reducible refine bel_set ?_ ?_ _; rotate_left; ((try simp); (try omega))))) hbw6)
    have hlrw6 : ∀ b, b ∈ Gw6 → b < w6.heap.size := fun b hb => Cod.lt _ hrw6 b hb
    obtain ⟨hcw6, hfzw6, -⟩ := bcell hbw6
    clear hbw6
    go_wp2_with fail
    refine (eqInstrS_any _ _ ((parseLines p0.data.toList).1) _ _ _ (by exact Cod.bel hrw6 (by repeat (first | with_reducible exact Below.refl _ _ | with_reducible assumption | with_reducible refine bel_alloc ?_ _ | with_reducible refine bel_drew ?_ | with_reducible refine bel_drewN ?_ _ | (with_reducible refine bel_set ?_ ?_ _; rotate_left; ((try simp); (try omega)))))) (by exact Cod.bel hrw1 (by repeat (first | with_reducible exact Below.refl _ _ | with_reducible assumption | with_reducible refine bel_alloc ?_ _ | with_reducible refine bel_drew ?_ | with_reducible refine bel_drewN ?_ _ | (with_reducible refine bel_set ?_ ?_ _; rotate_left; ((try simp); (try omega))))))).mono ?_
    rintro e w7 ⟨rfl, hbw7⟩
    have hsw7 := hbw7.size
    (try simp at hsw7)
    have hBw7 : Below w.heap.size w w7 := bel_then (by repeat (first | with_reducible exact Below.refl _ _ | with_reducible assumption | with_reducible refine bel_alloc ?_ _ | with_reducible refine bel_drew ?_ | with_reducible refine bel_drewN ?_ _ | (with_reducible refine bel_set ?_ ?_ _; rotate_left; ((try simp); (try omega))))) hbw7
    replace hrw1 := Cod.bel hrw1 (show Below _ _ w7 from bel_then (by repeat (first | with_reducible exact Below.refl _ _ | with_reducible assumption | with_reducible refine bel_alloc ?_ _ | with_reducible refine bel_drew ?_ | with_reducible refine bel_drewN ?_ _ | (with_reducible refine bel_set ?_ ?_ _; rotate_left; ((try simp); (try omega))))) hbw7)
    replace hrw2 := Cod.bel hrw2 (show Below _ _ w7 from bel_then (by repeat (first | with_reducible exact Below.refl _ _ | with_reducible assumption | with_reducible refine bel_alloc ?_ _ | with_reducible refine bel_drew ?_ | with_reducible refine bel_drewN ?_ _ | (with_reducible refine bel_set ?_ ?_ _; rotate_left; ((try simp); (try omega))))) hbw7)
    replace hrw6 := Cod.bel hrw6 (show Below _ _ w7 from bel_then (by repeat (first | with_reducible exact Below.refl _ _ | with_reducible assumption | with_reducible refine bel_alloc ?_ _ | with_reducible refine bel_drew ?_ | with_reducible refine bel_drewN ?_ _ | (with_reducible refine bel_set ?_ ?_ _; rotate_left; ((try simp); (try omega))))) hbw7)
    obtain ⟨hcw7, hfzw7, -⟩ := bcell hbw7
    clear hbw7
    go_wp2_with fail
    refine (heldInstrS_any _ ((parseLines p0.data.toList).1) _ _ _ (by exact Cod.bel hrw2 (by repeat (first | with_reducible exact Below.refl _ _ | with_reducible assumption | with_reducible refine bel_alloc ?_ _ | with_reducible refine bel_drew ?_ | with_reducible refine bel_drewN ?_ _ | (with_reducible refine bel_set ?_ ?_ _; rotate_left; ((try simp); (try omega)))))) (by omega) (by omega)).mono ?_
    rintro e w8 ⟨rfl, hbw8⟩
    have hsw8 := hbw8.size
    (try simp at hsw8)
    have hBw8 : Below w.heap.size w w8 := bel_then (by repeat (first | with_reducible exact Below.refl _ _ | with_reducible assumption | with_reducible refine bel_alloc ?_ _ | with_reducible refine bel_drew ?_ | with_reducible refine bel_drewN ?_ _ | (with_reducible refine bel_set ?_ ?_ _; rotate_left; ((try simp); (try omega))))) hbw8
    replace hrw1 := Cod.bel hrw1 (show Below _ _ w8 from bel_then (by repeat (first | with_reducible exact Below.refl _ _ | with_reducible assumption | with_reducible refine bel_alloc ?_ _ | with_reducible refine bel_drew ?_ | with_reducible refine bel_drewN ?_ _ | (with_reducible refine bel_set ?_ ?_ _; rotate_left; ((try simp); (try omega))))) hbw8)
    replace hrw2 := Cod.bel hrw2 (show Below _ _ w8 from bel_then (by repeat (first | with_reducible exact Below.refl _ _ | with_reducible assumption | with_reducible refine bel_alloc ?_ _ | with_reducible refine bel_drew ?_ | with_reducible refine bel_drewN ?_ _ | (with_reducible refine bel_set ?_ ?_ _; rotate_left; ((try simp); (try omega))))) hbw8)
    replace hrw6 := Cod.bel hrw6 (show Below _ _ w8 from bel_then (by repeat (first | with_reducible exact Below.refl _ _ | with_reducible assumption | with_reducible refine bel_alloc ?_ _ | with_reducible refine bel_drew ?_ | with_reducible refine bel_drewN ?_ _ | (with_reducible refine bel_set ?_ ?_ _; rotate_left; ((try simp); (try omega))))) hbw8)
    obtain ⟨hcw8, hfzw8, -⟩ := bcell hbw8
    clear hbw8
    go_wp2_with fail
    go_ret
    exact ⟨rfl, (by repeat (first | with_reducible exact Below.refl _ _ | with_reducible assumption | with_reducible refine bel_alloc ?_ _ | with_reducible refine bel_drew ?_ | with_reducible refine bel_drewN ?_ _ | (with_reducible refine bel_set ?_ ?_ _; rotate_left; ((try simp); (try omega)))))⟩

set_option maxRecDepth 100000 in
theorem lawParseLines_walk (H : Type) (enc : TypeId × Value → H) (W : World) (base : Nat) (args : Array Value) (ds : List (DataW H)) (p : List MemPlace)
    (hval : ∀ (j : Nat) t v, Tryd.f6.params[j]? = some t → args[j]? = some v → Value.okWide Tryd.prog W .any base t v)
    (hA : DataW.TrodAll enc Tryd.prog W 0 (fun _ => true) true Tryd.f6.params.toList args.toList ds p) (hf : W.noneFrozen p)
    (hL : laidMetH Tryd.prog Rows.fnExactParseLinesRow.laid W) (hsh : W.ShapedOpen Tryd.prog) :
    Calls Tryd.prog 6 args W (Gives W (.bool true)) := by
  rw [Tryd.params6] at hA hval
  obtain ⟨v0, vs0, d0, ds0, q0, s0, hargs, rfl, rfl, k0, t0⟩ := trodAll_cons hA
  obtain ⟨rfl, rfl, rfl⟩ := trodAll_nil t0
  obtain rfl : args = #[v0] := by cases args; simp_all
  obtain ⟨x0, rfl, rfl, rfl, hx0⟩ := open_string Tryd.underlying9 (hval 0 _ _ rfl rfl) k0
  rw [MakeChecks.laidMetH_plain _ _ _ (by kernel_rfl)] at hL
  exact lawParseLines_any x0 W hx0 (gd_of hL hsh)

set_option maxRecDepth 100000 in
theorem lawParseLines_lifted (os : Os) (started : os.Started) (H : Type) (enc : TypeId × Value → H) :
    ReturnsInHanded {} Tryd.checked os 6 .any (fun w args => (Rows.fnExactParseLinesSpec.pre enc Tryd.prog Tryd.f6 Rows.fnExactParseLinesRow.domain false w args ∧ laidMetH Tryd.prog Rows.fnExactParseLinesRow.laid w) ∧ sizedMet enc Tryd.prog Tryd.f6 (OpenSpec.ofChange Rows.fnExactParseLinesSpec) false w args)
      (Rows.fnExactParseLinesSpec.post enc Tryd.prog Tryd.f6 false true false false) := by
  refine door_lift (C := Tryd.checked) (X := fun w _ => laidMetH Tryd.prog Rows.fnExactParseLinesRow.laid w) (fun _ _ _ hh h => h.of_heap hh) door_own started (by kernel_rfl) Tryd.func6
    (ChangeSpec.witness_shaped (enc := enc) (C := Tryd.checked) (os := os) (X := fun w _ => laidMetH Tryd.prog Rows.fnExactParseLinesRow.laid w) false (World.laidAll Tryd.prog os Rows.fnExactParseLinesRow.laid) #[.string ByteArray.empty] 16 (World.laidAll_os _ _ _)
      (World.shaped_of_ZipB (by kernel_rfl) (by kernel_rfl)) (by kernel_rfl) (by kernel_rfl) (by kernel_rfl)
      (by rw [MakeChecks.laidMetH_plain _ _ _ (by kernel_rfl)]; exact laidMet_laidAll _ (by kernel_rfl) (by kernel_rfl))) ?_
  intro W base args ds gs before hval hW hL hsh
  have hW' := hW
  obtain ⟨p, q, hA, hV, rfl, hfz, hnd⟩ := hW
  refine (lawParseLines_walk H enc W base args ds p hval hA (noneFrozen_mono hfz fun y hy => by simp [hy]) hL hsh).mono fun e W' ⟨he, hb⟩ => ⟨_, he, ?_⟩
  exact law_post (by kernel_rfl) rfl (by kernel_rfl) Tryd.underlying4 (by kernel_rfl) (fun ds h => by
    match ds, h with
    | [d0], _ => exact ⟨rfl, rfl, rfl⟩) hW' hb
theorem lawParseLines_over : Rows.fnExactParseLinesRow.holds Tryd.pinned (OpenSpec.ofChange Rows.fnExactParseLinesSpec) :=
  OpenClaim.holds_of_wide 6 Tryd.f6 rfl rfl rfl rfl rfl rfl rfl ⟨rfl, rfl, rfl, rfl, rfl⟩ rfl rfl rfl rfl rfl (by kernel_rfl) Tryd.func6 (by kernel_rfl)
    (of_decide_eq_true (by kernel_rfl)) (by unfold Func.isWrapper; first | (rw [if_neg (of_decide_eq_false (by kernel_rfl))]; exact ⟨rfl, rfl⟩) | (rw [if_pos (of_decide_eq_true (by kernel_rfl))]; kernel_rfl))
    (fun os started H enc _ => lawParseLines_lifted os started H enc)
/-- THE STATEMENT -/
theorem lawParseLines_holds : Rows.FnExactParseLinesCardSaid :=
  Claim7.holds_tied_plain_at .later [] [.data, .data, .data, .data, .sentinel, .sentinel, .pinned] true Rows.fnExactParseLinesCard.stood.harness true lawParseLines_over (fun _ h => by cases h) (by kernel_rfl) (fun _ h => by cases h) fnExactParseLines_row_tie rfl ⟨rfl, rfl⟩ (by kernel_rfl) rfl
    (fun f fn hf hfn => by
      obtain rfl : f = 6 := Option.some.inj ((show Tryd.prog.funcNamed Rows.fnExactParseLinesRow.func = some 6 by kernel_rfl).symm.trans hf) |>.symm
      obtain rfl : fn = Tryd.f6 := (Option.some.inj (Tryd.func6.symm.trans hfn)).symm
      exact ⟨by kernel_rfl, fun j t ht => by
        have hm : t ∈ Tryd.f6.params.toList := by simpa using Array.mem_of_getElem? ht
        have hall : (Tryd.f6.params.toList.all fun u => !Tryd.prog.wantsStandIn u) = true := by kernel_rfl
        exact (show Tryd.prog.wantsStandIn t = false by simpa using List.all_eq_true.1 hall t hm)⟩)
    (by kernel_rfl)

end Go.Proofs.YtlicnppfgfjkgaaDoor
