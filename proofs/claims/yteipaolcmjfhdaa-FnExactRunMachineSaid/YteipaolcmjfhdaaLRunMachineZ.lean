/-
  The law FnExactRunMachine: for all arguments the program's RunMachine returns what the reference's returns. No conditions.
-/
import Derived.Test.YteipaolcmjfhdaaRows
import Derived.Deep.RegionHeld3
import Derived.Test.YteipaolcmjfhdaaEqMach
import Derived.Test.YteipaolcmjfhdaaMkMach
import Derived.Test.YteipaolcmjfhdaaRunI
import Derived.Test.YteipaolcmjfhdaaRunS
import Derived.Test.YteipaolcmjfhdaaToMach
import Derived.Test.YteipaolcmjfhdaaMem
import Derived.LoopTactic
import Derived.Test.YteipaolcmjfhdaaTAsk
import Derived.Test.YteipaolcmjfhdaaRunPlain
namespace Go.Proofs.Yteipaolcmjfhdaa
open Go.ChangeShapes Go.WideShapes Go.RowKit
open Go.ChangeMaps (open_string shut_string)
set_option linter.unusedVariables false

set_option maxHeartbeats 1000000 in
theorem eqAsk_any (vs1 vs2 : Array Value) (x : TAsk) (F1 F2 : List Nat) (w : World) (h1 : cAsk.rep w vs1.toList x F1) (h2 : cAsk.rep w vs2.toList x F2) :
    Calls Try.prog 64 #[.agg vs1, .agg vs2] w (Gives w (.bool true)) := by
  obtain ⟨e1, rfl, hok⟩ := TAsk.out h1
  obtain rfl : vs1 = #[Value.int .i64 x.kind, .int .i64 x.r, .int .i64 x.n, .string x.text, .int .i64 x.value] := Array.toList_inj.1 e1
  obtain ⟨e2, rfl, -⟩ := TAsk.out h2
  obtain rfl : vs2 = #[Value.int .i64 x.kind, .int .i64 x.r, .int .i64 x.n, .string x.text, .int .i64 x.value] := Array.toList_inj.1 e2
  go_enter Try.func64, Try.ntmps64
  go_wp2_with fail
  go_ret
  exact ⟨rfl, (by repeat (first | with_reducible exact Below.refl _ _ | with_reducible assumption | with_reducible refine bel_alloc ?_ _ | with_reducible refine bel_drew ?_ | with_reducible refine bel_drewN ?_ _ | (with_reducible refine bel_set ?_ ?_ _; rotate_left; ((try simp); (try omega)))))⟩
def In64 (n : Int) : Prop := -9223372036854775808 ≤ n ∧ n ≤ 9223372036854775807
theorem ask0_ok : ask0.Ok := ⟨by decide, by decide, by decide, by decide, by decide⟩
theorem zero64 : -9223372036854775808 ≤ (0 : Int) ∧ (0 : Int) ≤ 9223372036854775807 := by decide
theorem regAt_64 {rg : List Int} (h : ∀ v, v ∈ rg → In64 v) (i : Int) : In64 (regAt rg i) := by
  unfold regAt
  cases hg : rg[i.toNat]? with
  | none => exact zero64
  | some v => exact h v (List.mem_of_getElem? hg)
theorem set_64 {rg : List Int} (h : ∀ v, v ∈ rg → In64 v) (i : Nat) {n : Int} (hn : In64 n) : ∀ v, v ∈ rg.set i n → In64 v := by
  intro v hv
  rcases List.mem_or_eq_of_mem_set hv with hv | rfl
  · exact h v hv
  · exact hn
/-- the machine's form is kept -/
def Like (sc : List TIns) (rg : List Int) (r : TMach × TAsk) : Prop := r.1.script = sc ∧ r.1.regs.length = rg.length ∧ r.2.Ok
theorem runStep_ok {sc : List TIns} {pc : Int} {rg : List Int} {st : Int} {x : TIns} (hx : x.Ok) (hr : ∀ v, v ∈ rg → In64 v) :
    (∀ r, runStep sc pc rg st x = .inl r → Like sc rg r) ∧ (∀ y, runStep sc pc rg st x = .inr y → y.2.length = rg.length ∧ ∀ v, v ∈ y.2 → In64 v) := by
  have hc := clampI_range (clampI (regAt rg x.r) + clampI (regAt rg x.n))
  have hg := regAt_64 hr x.r
  unfold runStep
  refine ⟨fun r h => ?_, fun y h => ?_⟩
  · repeat' split at h
    all_goals first
      | (injection h with h; subst h; exact ⟨rfl, rfl, ⟨by constructor <;> simp, hx.h1, zero64, hx.h3, zero64⟩⟩)
      | (injection h with h; subst h; exact ⟨rfl, rfl, ⟨by constructor <;> simp, hx.h1, hx.h2, hx.h3, zero64⟩⟩)
      | (injection h with h; subst h; exact ⟨rfl, rfl, ⟨by constructor <;> simp, zero64, hx.h2, hx.h3, hg⟩⟩)
      | (injection h with h; subst h; exact ⟨rfl, rfl, ask0_ok⟩)
      | (exact absurd h (by simp))
  · repeat' split at h
    all_goals first
      | (injection h with h; subst h; exact ⟨by simp, set_64 hr _ hx.h2⟩)
      | (injection h with h; subst h; exact ⟨by simp, set_64 hr _ ⟨by omega, by omega⟩⟩)
      | (injection h with h; subst h; exact ⟨rfl, hr⟩)
      | (exact absurd h (by simp))
theorem runLoop_ok {sc : List TIns} (hs : ∀ y, y ∈ sc → y.Ok) : ∀ (f : Nat) (pc : Int) (rg : List Int) (st : Int), (∀ v, v ∈ rg → In64 v) → Like sc rg (runLoop sc f pc rg st)
  | 0, _, _, _, _ => ⟨rfl, rfl, ask0_ok⟩
  | f + 1, pc, rg, st, hr => by
    simp only [runLoop]
    cases hx : (if 0 ≤ pc then sc[pc.toNat]? else none) with
    | none => exact ⟨rfl, rfl, ask0_ok⟩
    | some x =>
      have hm : x ∈ sc := by
        split at hx
        · exact List.mem_of_getElem? hx
        · cases hx
      simp only
      cases isInstr x sc.length with
      | false => exact ⟨rfl, rfl, ask0_ok⟩
      | true =>
        simp only [Bool.not_true, cond_false]
        obtain ⟨h1, h2⟩ := runStep_ok (sc := sc) (pc := pc) (st := st) (hs x hm) hr
        cases hq : runStep sc pc rg st x with
        | inl r => exact h1 r hq
        | inr y =>
          obtain ⟨h3, h4⟩ := h2 y hq
          obtain ⟨k1, k2, k3⟩ := runLoop_ok hs f y.1 y.2 (st + 1) h4
          exact ⟨k1, k2.trans h3, k3⟩
theorem script_oks {w : World} {v : Value} {sc : List TIns} {F : List Nat} (h : cInsS.rep w [v] sc F) : ∀ y, y ∈ sc → y.Ok := by
  intro y hy
  obtain ⟨A, cp, rfl⟩ := cL_form h
  obtain ⟨i, hi, rfl⟩ := List.mem_iff_getElem.1 hy
  obtain ⟨g, o, vs, F1, -, -, hx, -⟩ := cL_get (hw := by decide) (hw2 := by decide) h hi
  exact (TIns.out hx).2.2
theorem regs_64 {w : World} {v : Value} {rg : List Int} {F : List Nat} (h : cIS.rep w [v] rg F) : ∀ y, y ∈ rg → In64 y := by
  intro y hy
  obtain ⟨A, cp, rfl⟩ := cL_form h
  obtain ⟨i, hi, rfl⟩ := List.mem_iff_getElem.1 hy
  obtain ⟨g, o, vs, F1, -, -, hx, -⟩ := cL_get (hw := by decide) (hw2 := by decide) h hi
  exact hx.2.2
theorem runMachine_like {w : World} {vs : List Value} {x : TMach} {F : List Nat} (h : cMach.rep w vs x F) : Like x.script x.regs (runMachine x) := by
  obtain ⟨v0, v2, F0, F2, -, -, -, t0, t2⟩ := TMach.out h
  unfold runMachine
  cases (x.done || x.wait || !decide (x.regs.length = 4) || decide (x.steps < 0)) with
  | true => exact ⟨rfl, rfl, ask0_ok⟩
  | false => exact runLoop_ok (script_oks t0) _ _ _ _ (regs_64 t2)
theorem runMachine_ok {w : World} {vs : List Value} {x : TMach} {F : List Nat} (h : cMach.rep w vs x F) : (runMachine x).2.Ok := (runMachine_like h).2.2
theorem runLoop_form (sc : List TIns) : ∀ (f : Nat) (pc : Int) (rg : List Int) (st : Int), (runLoop sc f pc rg st).1.script = sc ∧ (runLoop sc f pc rg st).1.regs.length = rg.length
  | 0, _, _, _ => ⟨rfl, rfl⟩
  | f + 1, pc, rg, st => by
    simp only [runLoop]
    cases (if 0 ≤ pc then sc[pc.toNat]? else none) with
    | none => exact ⟨rfl, rfl⟩
    | some x =>
      simp only
      cases isInstr x sc.length with
      | false => exact ⟨rfl, rfl⟩
      | true =>
        simp only [Bool.not_true, cond_false]
        cases hq : runStep sc pc rg st x with
        | inl r =>
          unfold runStep at hq
          repeat' split at hq
          all_goals first
            | (injection hq with hq; subst hq; exact ⟨rfl, rfl⟩)
            | (exact absurd hq (by simp))
        | inr y =>
          have h3 : y.2.length = rg.length := by
            unfold runStep at hq
            repeat' split at hq
            all_goals first
              | (injection hq with hq; subst hq; simp)
              | (exact absurd hq (by simp))
          obtain ⟨k1, k2⟩ := runLoop_form sc f y.1 y.2 (st + 1)
          exact ⟨k1, k2.trans h3⟩
theorem runMachine_sz (x : TMach) : cMach.sz (runMachine x).1 = cMach.sz x := by
  have key : (runMachine x).1.script = x.script ∧ (runMachine x).1.regs.length = x.regs.length := by
    unfold runMachine
    cases (x.done || x.wait || !decide (x.regs.length = 4) || decide (x.steps < 0)) with
    | true => exact ⟨rfl, rfl⟩
    | false => exact runLoop_form _ _ _ _ _
  have e : ∀ y : TMach, cMach.sz y = cInsS.sz y.script + (0 + (cI.szs y.regs + (0 + (0 + 0)))) := fun y => rfl
  rw [e, e, key.1, Cod.szs_flat (c := cI) (fun _ => rfl), Cod.szs_flat (c := cI) (fun _ => rfl), key.2]

set_option maxRecDepth 100000 in
set_option maxHeartbeats 4000000 in
theorem lawRunMachine_any (a0 : Array Value) (p0 : TMach) (F0 : List Nat) (w : World) (h0 : cMach.rep w a0.toList p0 F0) :
    Calls Try.prog 10 #[.agg a0] w (Gives w (.bool true)) := by
  have r0 := h0
  obtain ⟨v0_0, v0_2, E0_0, E0_2, rfl, -, -, m0_0, m0_2⟩ := TMach.outA r0
  obtain ⟨A0_0, c0_0, e0_0⟩ := cL_form m0_0
  subst e0_0
  obtain ⟨A0_2, c0_2, e0_2⟩ := cL_form m0_2
  subst e0_2
  clear m0_0 m0_2
  clear r0
  obtain ⟨Yv, hYv⟩ : ∃ Yv, (runMachine p0).2 = Yv := ⟨_, rfl⟩
  have HOKV := Lib.hid (show Yv.Ok from by rw [← hYv]; exact runMachine_ok h0)
  have HYV := Lib.hid hYv
  clear hYv
  go_enter Try.func10, Try.ntmps10
  go_wp2_with fail
  by_cases l0 : (1048576 - (cMach.sz p0 : Nat) : Int) < 0
  · have HV := Lib.hid (leftOf_neg l0)
    refine (szMachine_any _ p0 _ _ _ (by exact Cod.bel h0 (by repeat (first | with_reducible exact Below.refl _ _ | with_reducible assumption | with_reducible refine bel_alloc ?_ _ | with_reducible refine bel_drew ?_ | with_reducible refine bel_drewN ?_ _ | (with_reducible refine bel_set ?_ ?_ _; rotate_left; ((try simp); (try omega)))))) (by omega) (by omega)).mono ?_
    rintro e w1 ⟨rfl, hbw1⟩
    rw [HV.out]
    have hBw1 : Below w.heap.size w w1 := bel_then (by repeat (first | with_reducible exact Below.refl _ _ | with_reducible assumption | with_reducible refine bel_alloc ?_ _ | with_reducible refine bel_drew ?_ | with_reducible refine bel_drewN ?_ _ | (with_reducible refine bel_set ?_ ?_ _; rotate_left; ((try simp); (try omega))))) hbw1
    go_wp2_with fail
    go_ret
    exact ⟨rfl, hBw1⟩
  · have HV := Lib.hid (leftOf_pos l0)
    have pz0 : 0 ≤ (1048576 - (cMach.sz p0 : Nat) : Int) := by omega
    have z0 : cMach.sz p0 ≤ 1048576 := by omega
    refine (szMachine_any _ p0 _ _ _ (by exact Cod.bel h0 (by repeat (first | with_reducible exact Below.refl _ _ | with_reducible assumption | with_reducible refine bel_alloc ?_ _ | with_reducible refine bel_drew ?_ | with_reducible refine bel_drewN ?_ _ | (with_reducible refine bel_set ?_ ?_ _; rotate_left; ((try simp); (try omega)))))) (by omega) (by omega)).mono ?_
    rintro e w1 ⟨rfl, hbw1⟩
    rw [HV.out]
    clear HV
    have hsw1 := hbw1.size
    (try simp at hsw1)
    have hzw1_0 : w.heap.size < w1.heap.size := by omega
    have hBw1 : Below w.heap.size w w1 := bel_then (by repeat (first | with_reducible exact Below.refl _ _ | with_reducible assumption | with_reducible refine bel_alloc ?_ _ | with_reducible refine bel_drew ?_ | with_reducible refine bel_drewN ?_ _ | (with_reducible refine bel_set ?_ ?_ _; rotate_left; ((try simp); (try omega))))) hbw1
    obtain ⟨hcw1, hfzw1, -⟩ := bcell hbw1
    clear hbw1
    go_wp2_with fail
    refine (toMachine_any _ p0 _ _ (by exact Cod.bel h0 (by repeat (first | with_reducible exact Below.refl _ _ | with_reducible assumption | with_reducible refine bel_alloc ?_ _ | with_reducible refine bel_drew ?_ | with_reducible refine bel_drewN ?_ _ | (with_reducible refine bel_set ?_ ?_ _; rotate_left; ((try simp); (try omega)))))) z0).mono ?_
    rintro e w2 ⟨uw2, Gw2, rfl, hbw2, hrw2, hfw2⟩
    have drw2 := hrw2
    obtain ⟨vrw2_0, vrw2_2, Erw2_0, Erw2_2, rfl, -, -, mrw2_0, mrw2_2⟩ := TMach.outA drw2
    obtain ⟨Arw2_0, crw2_0, erw2_0⟩ := cL_form mrw2_0
    subst erw2_0
    obtain ⟨Arw2_2, crw2_2, erw2_2⟩ := cL_form mrw2_2
    subst erw2_2
    clear mrw2_0 mrw2_2 drw2
    have hsw2 := hbw2.size
    (try simp at hsw2)
    have hzw2_0 : w.heap.size < w2.heap.size := by omega
    have hBw2 : Below w.heap.size w w2 := bel_then (by repeat (first | with_reducible exact Below.refl _ _ | with_reducible assumption | with_reducible refine bel_alloc ?_ _ | with_reducible refine bel_drew ?_ | with_reducible refine bel_drewN ?_ _ | (with_reducible refine bel_set ?_ ?_ _; rotate_left; ((try simp); (try omega))))) hbw2
    have hlrw2 : ∀ b, b ∈ Gw2 → b < w2.heap.size := fun b hb => Cod.lt _ hrw2 b hb
    obtain ⟨hcw2, hfzw2, -⟩ := bcell hbw2
    clear hbw2
    go_wp2_with fail
    refine (specRunMachine_any _ p0 _ _ (by exact Cod.bel hrw2 (by repeat (first | with_reducible exact Below.refl _ _ | with_reducible assumption | with_reducible refine bel_alloc ?_ _ | with_reducible refine bel_drew ?_ | with_reducible refine bel_drewN ?_ _ | (with_reducible refine bel_set ?_ ?_ _; rotate_left; ((try simp); (try omega)))))) z0).mono ?_
    rw [HYV.out]
    simp only [TAsk.val]
    rintro e w3 ⟨uw3, Gw3, rfl, hbw3, hrw3, hfw3⟩
    have drw3 := hrw3
    obtain ⟨vrw3_0, vrw3_2, Erw3_0, Erw3_2, rfl, -, -, mrw3_0, mrw3_2⟩ := TMach.outA drw3
    obtain ⟨Arw3_0, crw3_0, erw3_0⟩ := cL_form mrw3_0
    subst erw3_0
    obtain ⟨Arw3_2, crw3_2, erw3_2⟩ := cL_form mrw3_2
    subst erw3_2
    clear mrw3_0 mrw3_2 drw3
    have hsw3 := hbw3.size
    (try simp at hsw3)
    have hzw3_0 : w.heap.size < w3.heap.size := by omega
    have hBw3 : Below w.heap.size w w3 := bel_then (by repeat (first | with_reducible exact Below.refl _ _ | with_reducible assumption | with_reducible refine bel_alloc ?_ _ | with_reducible refine bel_drew ?_ | with_reducible refine bel_drewN ?_ _ | (with_reducible refine bel_set ?_ ?_ _; rotate_left; ((try simp); (try omega))))) hbw3
    replace hrw2 := Cod.bel hrw2 (show Below _ _ w3 from bel_then (by repeat (first | with_reducible exact Below.refl _ _ | with_reducible assumption | with_reducible refine bel_alloc ?_ _ | with_reducible refine bel_drew ?_ | with_reducible refine bel_drewN ?_ _ | (with_reducible refine bel_set ?_ ?_ _; rotate_left; ((try simp); (try omega))))) hbw3)
    have hlrw3 : ∀ b, b ∈ Gw3 → b < w3.heap.size := fun b hb => Cod.lt _ hrw3 b hb
    have hzqw3_0 : w.heap.size < w3.heap.size + 1 + 1 := by omega
    have hzqw3_1 : w3.heap.size < w3.heap.size + 1 + 1 := by omega
    have hzqw3_2 : w3.heap.size + 1 < w3.heap.size + 1 + 1 := by omega
    obtain ⟨hcw3, hfzw3, -⟩ := bcell hbw3
    clear hbw3
    go_wp2_with fail
    refine (toMachine_any _ p0 _ _ (by exact Cod.bel h0 (by repeat (first | with_reducible exact Below.refl _ _ | with_reducible assumption | with_reducible refine bel_alloc ?_ _ | with_reducible refine bel_drew ?_ | with_reducible refine bel_drewN ?_ _ | (with_reducible refine bel_set ?_ ?_ _; rotate_left; ((try simp); (try omega)))))) z0).mono ?_
    rintro e w4 ⟨uw4, Gw4, rfl, hbw4, hrw4, hfw4⟩
    have drw4 := hrw4
    obtain ⟨vrw4_0, vrw4_2, Erw4_0, Erw4_2, rfl, -, -, mrw4_0, mrw4_2⟩ := TMach.outA drw4
    obtain ⟨Arw4_0, crw4_0, erw4_0⟩ := cL_form mrw4_0
    subst erw4_0
    obtain ⟨Arw4_2, crw4_2, erw4_2⟩ := cL_form mrw4_2
    subst erw4_2
    clear mrw4_0 mrw4_2 drw4
    have hsw4 := hbw4.size
    (try simp at hsw4)
    have hzw4_0 : w.heap.size < w4.heap.size := by omega
    have hzw4_1 : w3.heap.size < w4.heap.size := by omega
    have hzw4_2 : w3.heap.size + 1 < w4.heap.size := by omega
    have hBw4 : Below w.heap.size w w4 := bel_then (by repeat (first | with_reducible exact Below.refl _ _ | with_reducible assumption | with_reducible refine bel_alloc ?_ _ | with_reducible refine bel_drew ?_ | with_reducible refine bel_drewN ?_ _ | (with_reducible refine bel_set ?_ ?_ _; rotate_left; ((try simp); (try omega))))) hbw4
    replace hrw2 := Cod.bel hrw2 (show Below _ _ w4 from bel_then (by repeat (first | with_reducible exact Below.refl _ _ | with_reducible assumption | with_reducible refine bel_alloc ?_ _ | with_reducible refine bel_drew ?_ | with_reducible refine bel_drewN ?_ _ | (with_reducible refine bel_set ?_ ?_ _; rotate_left; ((try simp); (try omega))))) hbw4)
    replace hrw3 := Cod.bel hrw3 (show Below _ _ w4 from bel_then (by repeat (first | with_reducible exact Below.refl _ _ | with_reducible assumption | with_reducible refine bel_alloc ?_ _ | with_reducible refine bel_drew ?_ | with_reducible refine bel_drewN ?_ _ | (with_reducible refine bel_set ?_ ?_ _; rotate_left; ((try simp); (try omega))))) hbw4)
    have hlrw4 : ∀ b, b ∈ Gw4 → b < w4.heap.size := fun b hb => Cod.lt _ hrw4 b hb
    obtain ⟨hcw4, hfzw4, -⟩ := bcell hbw4
    clear hbw4
    go_wp2_with fail
    refine (implRunMachine_any _ p0 _ _ (by exact Cod.bel hrw4 (by repeat (first | with_reducible exact Below.refl _ _ | with_reducible assumption | with_reducible refine bel_alloc ?_ _ | with_reducible refine bel_drew ?_ | with_reducible refine bel_drewN ?_ _ | (with_reducible refine bel_set ?_ ?_ _; rotate_left; ((try simp); (try omega)))))) z0).mono ?_
    rw [HYV.out]
    simp only [TAsk.val]
    rintro e w5 ⟨uw5, Gw5, rfl, hbw5, hrw5, hfw5⟩
    have drw5 := hrw5
    obtain ⟨vrw5_0, vrw5_2, Erw5_0, Erw5_2, rfl, -, -, mrw5_0, mrw5_2⟩ := TMach.outA drw5
    obtain ⟨Arw5_0, crw5_0, erw5_0⟩ := cL_form mrw5_0
    subst erw5_0
    obtain ⟨Arw5_2, crw5_2, erw5_2⟩ := cL_form mrw5_2
    subst erw5_2
    clear mrw5_0 mrw5_2 drw5
    have hsw5 := hbw5.size
    (try simp at hsw5)
    have hzw5_0 : w.heap.size < w5.heap.size := by omega
    have hzw5_1 : w3.heap.size < w5.heap.size := by omega
    have hzw5_2 : w3.heap.size + 1 < w5.heap.size := by omega
    have hzw5_3 : w4.heap.size < w5.heap.size := by omega
    have hBw5 : Below w.heap.size w w5 := bel_then (by repeat (first | with_reducible exact Below.refl _ _ | with_reducible assumption | with_reducible refine bel_alloc ?_ _ | with_reducible refine bel_drew ?_ | with_reducible refine bel_drewN ?_ _ | (with_reducible refine bel_set ?_ ?_ _; rotate_left; ((try simp); (try omega))))) hbw5
    replace hrw2 := Cod.bel hrw2 (show Below _ _ w5 from bel_then (by repeat (first | with_reducible exact Below.refl _ _ | with_reducible assumption | with_reducible refine bel_alloc ?_ _ | with_reducible refine bel_drew ?_ | with_reducible refine bel_drewN ?_ _ | (with_reducible refine bel_set ?_ ?_ _; rotate_left; ((try simp); (try omega))))) hbw5)
    replace hrw3 := Cod.bel hrw3 (show Below _ _ w5 from bel_then (by repeat (first | with_reducible exact Below.refl _ _ | with_reducible assumption | with_reducible refine bel_alloc ?_ _ | with_reducible refine bel_drew ?_ | with_reducible refine bel_drewN ?_ _ | (with_reducible refine bel_set ?_ ?_ _; rotate_left; ((try simp); (try omega))))) hbw5)
    replace hrw4 := Cod.bel hrw4 (show Below _ _ w5 from bel_then (by repeat (first | with_reducible exact Below.refl _ _ | with_reducible assumption | with_reducible refine bel_alloc ?_ _ | with_reducible refine bel_drew ?_ | with_reducible refine bel_drewN ?_ _ | (with_reducible refine bel_set ?_ ?_ _; rotate_left; ((try simp); (try omega))))) hbw5)
    have hlrw5 : ∀ b, b ∈ Gw5 → b < w5.heap.size := fun b hb => Cod.lt _ hrw5 b hb
    have zr : cMach.sz ((runMachine p0).1) ≤ 8000000 := (by have h := runMachine_sz p0; have := z0; omega)
    have hzqw5_0 : w.heap.size < w5.heap.size + 1 + 1 := by omega
    have hzqw5_1 : w3.heap.size < w5.heap.size + 1 + 1 := by omega
    have hzqw5_2 : w3.heap.size + 1 < w5.heap.size + 1 + 1 := by omega
    have hzqw5_3 : w4.heap.size < w5.heap.size + 1 + 1 := by omega
    have hzqw5_4 : w5.heap.size < w5.heap.size + 1 + 1 := by omega
    have hzqw5_5 : w5.heap.size + 1 < w5.heap.size + 1 + 1 := by omega
    obtain ⟨hcw5, hfzw5, -⟩ := bcell hbw5
    clear hbw5
    go_wp2_with fail
    refine (eqMachine_any _ _ ((runMachine p0).1) _ _ _ (by exact Cod.bel hrw5 (by repeat (first | with_reducible exact Below.refl _ _ | with_reducible assumption | with_reducible refine bel_alloc ?_ _ | with_reducible refine bel_drew ?_ | with_reducible refine bel_drewN ?_ _ | (with_reducible refine bel_set ?_ ?_ _; rotate_left; ((try simp); (try omega)))))) (by exact Cod.bel hrw3 (by repeat (first | with_reducible exact Below.refl _ _ | with_reducible assumption | with_reducible refine bel_alloc ?_ _ | with_reducible refine bel_drew ?_ | with_reducible refine bel_drewN ?_ _ | (with_reducible refine bel_set ?_ ?_ _; rotate_left; ((try simp); (try omega))))))).mono ?_
    rintro e w6 ⟨rfl, hbw6⟩
    have hsw6 := hbw6.size
    (try simp at hsw6)
    have hzw6_0 : w.heap.size < w6.heap.size := by omega
    have hzw6_1 : w3.heap.size < w6.heap.size := by omega
    have hzw6_2 : w3.heap.size + 1 < w6.heap.size := by omega
    have hzw6_3 : w4.heap.size < w6.heap.size := by omega
    have hzw6_4 : w5.heap.size < w6.heap.size := by omega
    have hzw6_5 : w5.heap.size + 1 < w6.heap.size := by omega
    have hBw6 : Below w.heap.size w w6 := bel_then (by repeat (first | with_reducible exact Below.refl _ _ | with_reducible assumption | with_reducible refine bel_alloc ?_ _ | with_reducible refine bel_drew ?_ | with_reducible refine bel_drewN ?_ _ | (with_reducible refine bel_set ?_ ?_ _; rotate_left; ((try simp); (try omega))))) hbw6
    replace hrw2 := Cod.bel hrw2 (show Below _ _ w6 from bel_then (by repeat (first | with_reducible exact Below.refl _ _ | with_reducible assumption | with_reducible refine bel_alloc ?_ _ | with_reducible refine bel_drew ?_ | with_reducible refine bel_drewN ?_ _ | (with_reducible refine bel_set ?_ ?_ _; rotate_left; ((try simp); (try omega))))) hbw6)
    replace hrw3 := Cod.bel hrw3 (show Below _ _ w6 from bel_then (by repeat (first | with_reducible exact Below.refl _ _ | with_reducible assumption | with_reducible refine bel_alloc ?_ _ | with_reducible refine bel_drew ?_ | with_reducible refine bel_drewN ?_ _ | (with_reducible refine bel_set ?_ ?_ _; rotate_left; ((try simp); (try omega))))) hbw6)
    replace hrw4 := Cod.bel hrw4 (show Below _ _ w6 from bel_then (by repeat (first | with_reducible exact Below.refl _ _ | with_reducible assumption | with_reducible refine bel_alloc ?_ _ | with_reducible refine bel_drew ?_ | with_reducible refine bel_drewN ?_ _ | (with_reducible refine bel_set ?_ ?_ _; rotate_left; ((try simp); (try omega))))) hbw6)
    replace hrw5 := Cod.bel hrw5 (show Below _ _ w6 from bel_then (by repeat (first | with_reducible exact Below.refl _ _ | with_reducible assumption | with_reducible refine bel_alloc ?_ _ | with_reducible refine bel_drew ?_ | with_reducible refine bel_drewN ?_ _ | (with_reducible refine bel_set ?_ ?_ _; rotate_left; ((try simp); (try omega))))) hbw6)
    obtain ⟨hcw6, hfzw6, -⟩ := bcell hbw6
    clear hbw6
    go_wp2_with fail
    refine (eqAsk_any _ _ Yv [] [] _ (by exact TAsk.mk_ HOKV.out) (by exact TAsk.mk_ HOKV.out)).mono ?_
    rintro e w7 ⟨rfl, hbw7⟩
    have hsw7 := hbw7.size
    (try simp at hsw7)
    have hzw7_0 : w.heap.size < w7.heap.size := by omega
    have hzw7_1 : w3.heap.size < w7.heap.size := by omega
    have hzw7_2 : w3.heap.size + 1 < w7.heap.size := by omega
    have hzw7_3 : w4.heap.size < w7.heap.size := by omega
    have hzw7_4 : w5.heap.size < w7.heap.size := by omega
    have hzw7_5 : w5.heap.size + 1 < w7.heap.size := by omega
    have hBw7 : Below w.heap.size w w7 := bel_then (by repeat (first | with_reducible exact Below.refl _ _ | with_reducible assumption | with_reducible refine bel_alloc ?_ _ | with_reducible refine bel_drew ?_ | with_reducible refine bel_drewN ?_ _ | (with_reducible refine bel_set ?_ ?_ _; rotate_left; ((try simp); (try omega))))) hbw7
    replace hrw2 := Cod.bel hrw2 (show Below _ _ w7 from bel_then (by repeat (first | with_reducible exact Below.refl _ _ | with_reducible assumption | with_reducible refine bel_alloc ?_ _ | with_reducible refine bel_drew ?_ | with_reducible refine bel_drewN ?_ _ | (with_reducible refine bel_set ?_ ?_ _; rotate_left; ((try simp); (try omega))))) hbw7)
    replace hrw3 := Cod.bel hrw3 (show Below _ _ w7 from bel_then (by repeat (first | with_reducible exact Below.refl _ _ | with_reducible assumption | with_reducible refine bel_alloc ?_ _ | with_reducible refine bel_drew ?_ | with_reducible refine bel_drewN ?_ _ | (with_reducible refine bel_set ?_ ?_ _; rotate_left; ((try simp); (try omega))))) hbw7)
    replace hrw4 := Cod.bel hrw4 (show Below _ _ w7 from bel_then (by repeat (first | with_reducible exact Below.refl _ _ | with_reducible assumption | with_reducible refine bel_alloc ?_ _ | with_reducible refine bel_drew ?_ | with_reducible refine bel_drewN ?_ _ | (with_reducible refine bel_set ?_ ?_ _; rotate_left; ((try simp); (try omega))))) hbw7)
    replace hrw5 := Cod.bel hrw5 (show Below _ _ w7 from bel_then (by repeat (first | with_reducible exact Below.refl _ _ | with_reducible assumption | with_reducible refine bel_alloc ?_ _ | with_reducible refine bel_drew ?_ | with_reducible refine bel_drewN ?_ _ | (with_reducible refine bel_set ?_ ?_ _; rotate_left; ((try simp); (try omega))))) hbw7)
    obtain ⟨hcw7, hfzw7, -⟩ := bcell hbw7
    clear hbw7
    go_wp2_with fail
    have kw9_0 : w7.cell? ⟨w4.heap.size, 0, none⟩ = some (.slice Arw4_0 p0.script.length crw4_0) := by go_simp
    have kw9_1 : w7.cell? ⟨w4.heap.size, 1, none⟩ = some (.int .i64 p0.pc) := by go_simp
    have kw9_2 : w7.cell? ⟨w4.heap.size, 2, none⟩ = some (.slice Arw4_2 p0.regs.length crw4_2) := by go_simp
    have kw9_3 : w7.cell? ⟨w4.heap.size, 3, none⟩ = some (.int .i64 p0.steps) := by go_simp
    have kw9_4 : w7.cell? ⟨w4.heap.size, 4, none⟩ = some (.bool p0.done) := by go_simp
    have kw9_5 : w7.cell? ⟨w4.heap.size, 5, none⟩ = some (.bool p0.wait) := by go_simp
    have kw9_6 : w7.cell? ⟨w.heap.size, 0, none⟩ = some (.slice A0_0 p0.script.length c0_0) := by go_simp
    have kw9_7 : w7.cell? ⟨w.heap.size, 1, none⟩ = some (.int .i64 p0.pc) := by go_simp
    have kw9_8 : w7.cell? ⟨w.heap.size, 2, none⟩ = some (.slice A0_2 p0.regs.length c0_2) := by go_simp
    have kw9_9 : w7.cell? ⟨w.heap.size, 3, none⟩ = some (.int .i64 p0.steps) := by go_simp
    have kw9_10 : w7.cell? ⟨w.heap.size, 4, none⟩ = some (.bool p0.done) := by go_simp
    have kw9_11 : w7.cell? ⟨w.heap.size, 5, none⟩ = some (.bool p0.wait) := by go_simp
    have hS : ∀ wS, Below w7.heap.size w7 wS → Below w7.heap.size w7 wS ∧ wS.cell? ⟨w4.heap.size, 0, none⟩ = some (.slice Arw4_0 p0.script.length crw4_0) ∧ wS.cell? ⟨w4.heap.size, 1, none⟩ = some (.int .i64 p0.pc) ∧ wS.cell? ⟨w4.heap.size, 2, none⟩ = some (.slice Arw4_2 p0.regs.length crw4_2) ∧ wS.cell? ⟨w4.heap.size, 3, none⟩ = some (.int .i64 p0.steps) ∧ wS.cell? ⟨w4.heap.size, 4, none⟩ = some (.bool p0.done) ∧ wS.cell? ⟨w4.heap.size, 5, none⟩ = some (.bool p0.wait) ∧ wS.cell? ⟨w.heap.size, 0, none⟩ = some (.slice A0_0 p0.script.length c0_0) ∧ wS.cell? ⟨w.heap.size, 1, none⟩ = some (.int .i64 p0.pc) ∧ wS.cell? ⟨w.heap.size, 2, none⟩ = some (.slice A0_2 p0.regs.length c0_2) ∧ wS.cell? ⟨w.heap.size, 3, none⟩ = some (.int .i64 p0.steps) ∧ wS.cell? ⟨w.heap.size, 4, none⟩ = some (.bool p0.done) ∧ wS.cell? ⟨w.heap.size, 5, none⟩ = some (.bool p0.wait) := fun wS hb => ⟨hb, (hb.cell (p := ⟨w4.heap.size, 0, none⟩) (by simpa using hzw7_3)).trans kw9_0, (hb.cell (p := ⟨w4.heap.size, 1, none⟩) (by simpa using hzw7_3)).trans kw9_1, (hb.cell (p := ⟨w4.heap.size, 2, none⟩) (by simpa using hzw7_3)).trans kw9_2, (hb.cell (p := ⟨w4.heap.size, 3, none⟩) (by simpa using hzw7_3)).trans kw9_3, (hb.cell (p := ⟨w4.heap.size, 4, none⟩) (by simpa using hzw7_3)).trans kw9_4, (hb.cell (p := ⟨w4.heap.size, 5, none⟩) (by simpa using hzw7_3)).trans kw9_5, (hb.cell (p := ⟨w.heap.size, 0, none⟩) (by simpa using hzw7_0)).trans kw9_6, (hb.cell (p := ⟨w.heap.size, 1, none⟩) (by simpa using hzw7_0)).trans kw9_7, (hb.cell (p := ⟨w.heap.size, 2, none⟩) (by simpa using hzw7_0)).trans kw9_8, (hb.cell (p := ⟨w.heap.size, 3, none⟩) (by simpa using hzw7_0)).trans kw9_9, (hb.cell (p := ⟨w.heap.size, 4, none⟩) (by simpa using hzw7_0)).trans kw9_10, (hb.cell (p := ⟨w.heap.size, 5, none⟩) (by simpa using hzw7_0)).trans kw9_11⟩
    have hwb : Below w7.heap.size w7 w7 := Below.refl _ _
    clear kw9_0 kw9_1 kw9_2 kw9_3 kw9_4 kw9_5 kw9_6 kw9_7 kw9_8 kw9_9 kw9_10 kw9_11
    go_region_held3 (fun wS => Below w7.heap.size w7 wS ∧ wS.cell? ⟨w4.heap.size, 0, none⟩ = some (.slice Arw4_0 p0.script.length crw4_0) ∧ wS.cell? ⟨w4.heap.size, 1, none⟩ = some (.int .i64 p0.pc) ∧ wS.cell? ⟨w4.heap.size, 2, none⟩ = some (.slice Arw4_2 p0.regs.length crw4_2) ∧ wS.cell? ⟨w4.heap.size, 3, none⟩ = some (.int .i64 p0.steps) ∧ wS.cell? ⟨w4.heap.size, 4, none⟩ = some (.bool p0.done) ∧ wS.cell? ⟨w4.heap.size, 5, none⟩ = some (.bool p0.wait) ∧ wS.cell? ⟨w.heap.size, 0, none⟩ = some (.slice A0_0 p0.script.length c0_0) ∧ wS.cell? ⟨w.heap.size, 1, none⟩ = some (.int .i64 p0.pc) ∧ wS.cell? ⟨w.heap.size, 2, none⟩ = some (.slice A0_2 p0.regs.length c0_2) ∧ wS.cell? ⟨w.heap.size, 3, none⟩ = some (.int .i64 p0.steps) ∧ wS.cell? ⟨w.heap.size, 4, none⟩ = some (.bool p0.done) ∧ wS.cell? ⟨w.heap.size, 5, none⟩ = some (.bool p0.wait)) (exact hS _ (by repeat (first | with_reducible exact Below.refl _ _ | with_reducible assumption | with_reducible refine bel_alloc ?_ _ | with_reducible refine bel_drew ?_ | with_reducible refine bel_drewN ?_ _ | (with_reducible refine bel_set ?_ ?_ _; rotate_left; ((try simp); (try omega)))))) (first | (go_at_call 62; refine (toMachine_any _ p0 _ _ (by exact Cod.bel h0 (bel_then hBw7 (by repeat (first | with_reducible exact Below.refl _ _ | with_reducible assumption | with_reducible refine bel_alloc ?_ _ | with_reducible refine bel_drew ?_ | with_reducible refine bel_drewN ?_ _ | (with_reducible refine bel_set ?_ ?_ _; rotate_left; ((try simp); (try omega))))))) z0).mono ?_; rintro e w8 ⟨uw8, Gw8, rfl, hbw8, hrw8, hfw8⟩; have hbww8 : Below w7.heap.size w7 w8 := bel_then (by repeat (first | with_reducible exact Below.refl _ _ | with_reducible assumption | with_reducible refine bel_alloc ?_ _ | with_reducible refine bel_drew ?_ | with_reducible refine bel_drewN ?_ _ | (with_reducible refine bel_set ?_ ?_ _; rotate_left; ((try simp); (try omega))))) hbw8; clear hfw8) | (go_at_call 63; refine (eqMachine_any _ _ p0 _ _ _ (by exact Cod.bel hrw4 (by repeat (first | with_reducible exact Below.refl _ _ | with_reducible assumption | with_reducible refine bel_alloc ?_ _ | with_reducible refine bel_drew ?_ | with_reducible refine bel_drewN ?_ _ | (with_reducible refine bel_set ?_ ?_ _; rotate_left; ((try simp); (try omega)))))) (by exact Cod.bel hrw8 (by repeat (first | with_reducible exact Below.refl _ _ | with_reducible assumption | with_reducible refine bel_alloc ?_ _ | with_reducible refine bel_drew ?_ | with_reducible refine bel_drewN ?_ _ | (with_reducible refine bel_set ?_ ?_ _; rotate_left; ((try simp); (try omega))))))).mono ?_; rintro e w9 ⟨rfl, hbw9⟩; have hbww9 : Below w7.heap.size w7 w9 := bel_then (by repeat (first | with_reducible exact Below.refl _ _ | with_reducible assumption | with_reducible refine bel_alloc ?_ _ | with_reducible refine bel_drew ?_ | with_reducible refine bel_drewN ?_ _ | (with_reducible refine bel_set ?_ ?_ _; rotate_left; ((try simp); (try omega))))) hbw9))
    have hbZw9 := hbww9
    have hsw9 := hbZw9.size
    (try simp at hsw9)
    have hzw9_0 : w.heap.size < w9.heap.size := by omega
    have hzw9_1 : w3.heap.size < w9.heap.size := by omega
    have hzw9_2 : w3.heap.size + 1 < w9.heap.size := by omega
    have hzw9_3 : w4.heap.size < w9.heap.size := by omega
    have hzw9_4 : w5.heap.size < w9.heap.size := by omega
    have hzw9_5 : w5.heap.size + 1 < w9.heap.size := by omega
    have hBw9 : Below w.heap.size w w9 := bel_then (by repeat (first | with_reducible exact Below.refl _ _ | with_reducible assumption | with_reducible refine bel_alloc ?_ _ | with_reducible refine bel_drew ?_ | with_reducible refine bel_drewN ?_ _ | (with_reducible refine bel_set ?_ ?_ _; rotate_left; ((try simp); (try omega))))) hbZw9
    replace hrw2 := Cod.bel hrw2 (show Below _ _ w9 from bel_then (by repeat (first | with_reducible exact Below.refl _ _ | with_reducible assumption | with_reducible refine bel_alloc ?_ _ | with_reducible refine bel_drew ?_ | with_reducible refine bel_drewN ?_ _ | (with_reducible refine bel_set ?_ ?_ _; rotate_left; ((try simp); (try omega))))) hbZw9)
    replace hrw3 := Cod.bel hrw3 (show Below _ _ w9 from bel_then (by repeat (first | with_reducible exact Below.refl _ _ | with_reducible assumption | with_reducible refine bel_alloc ?_ _ | with_reducible refine bel_drew ?_ | with_reducible refine bel_drewN ?_ _ | (with_reducible refine bel_set ?_ ?_ _; rotate_left; ((try simp); (try omega))))) hbZw9)
    replace hrw4 := Cod.bel hrw4 (show Below _ _ w9 from bel_then (by repeat (first | with_reducible exact Below.refl _ _ | with_reducible assumption | with_reducible refine bel_alloc ?_ _ | with_reducible refine bel_drew ?_ | with_reducible refine bel_drewN ?_ _ | (with_reducible refine bel_set ?_ ?_ _; rotate_left; ((try simp); (try omega))))) hbZw9)
    replace hrw5 := Cod.bel hrw5 (show Below _ _ w9 from bel_then (by repeat (first | with_reducible exact Below.refl _ _ | with_reducible assumption | with_reducible refine bel_alloc ?_ _ | with_reducible refine bel_drew ?_ | with_reducible refine bel_drewN ?_ _ | (with_reducible refine bel_set ?_ ?_ _; rotate_left; ((try simp); (try omega))))) hbZw9)
    obtain ⟨hcw9, hfzw9, -⟩ := bcell hbZw9
    clear hbZw9
    go_wp2_with fail
    have ctw10 : ((TMach.tcn p0 : Nat) : Int) ≤ 449999999 := (by have h1 := TMach.tcn_le p0; have h2 := z0; omega)
    refine (markMachine_any _ p0 _ _ _ (by exact Cod.bel hrw4 (by repeat (first | with_reducible exact Below.refl _ _ | with_reducible assumption | with_reducible refine bel_alloc ?_ _ | with_reducible refine bel_drew ?_ | with_reducible refine bel_drewN ?_ _ | (with_reducible refine bel_set ?_ ?_ _; rotate_left; ((try simp); (try omega)))))) hfw4.2 (by omega) (by omega)).mono ?_
    rintro e w10 ⟨rfl, how10, hmw10⟩
    have hsw10 := how10.size
    (try simp at hsw10)
    have hzw10_0 : w.heap.size < w10.heap.size := by omega
    have hzw10_1 : w3.heap.size < w10.heap.size := by omega
    have hzw10_2 : w3.heap.size + 1 < w10.heap.size := by omega
    have hzw10_3 : w4.heap.size < w10.heap.size := by omega
    have hzw10_4 : w5.heap.size < w10.heap.size := by omega
    have hzw10_5 : w5.heap.size + 1 < w10.heap.size := by omega
    have hnw10_0 : w.heap.size ∉ Gw4 := fun hm => by have h1 := hfw4.1 _ hm; have h2 := hlrw4 _ hm; (try simp at h1); omega
    have hcw10_0 : ∀ o : Nat, w10.cell? ⟨w.heap.size, o, none⟩ = _ := fun o => World.cell?_of_block (a := ⟨w.heap.size, o, none⟩) (how10.block (w.heap.size) (by (try simp); (try omega)) hnw10_0)
    clear hnw10_0
    have hnw10_1 : w3.heap.size ∉ Gw4 := fun hm => by have h1 := hfw4.1 _ hm; have h2 := hlrw4 _ hm; (try simp at h1); omega
    have hcw10_1 : ∀ o : Nat, w10.cell? ⟨w3.heap.size, o, none⟩ = _ := fun o => World.cell?_of_block (a := ⟨w3.heap.size, o, none⟩) (how10.block (w3.heap.size) (by (try simp); (try omega)) hnw10_1)
    clear hnw10_1
    have hnw10_2 : w3.heap.size + 1 ∉ Gw4 := fun hm => by have h1 := hfw4.1 _ hm; have h2 := hlrw4 _ hm; (try simp at h1); omega
    have hcw10_2 : ∀ o : Nat, w10.cell? ⟨w3.heap.size + 1, o, none⟩ = _ := fun o => World.cell?_of_block (a := ⟨w3.heap.size + 1, o, none⟩) (how10.block (w3.heap.size + 1) (by (try simp); (try omega)) hnw10_2)
    clear hnw10_2
    have hnw10_3 : w4.heap.size ∉ Gw4 := fun hm => by have h1 := hfw4.1 _ hm; have h2 := hlrw4 _ hm; (try simp at h1); omega
    have hcw10_3 : ∀ o : Nat, w10.cell? ⟨w4.heap.size, o, none⟩ = _ := fun o => World.cell?_of_block (a := ⟨w4.heap.size, o, none⟩) (how10.block (w4.heap.size) (by (try simp); (try omega)) hnw10_3)
    clear hnw10_3
    have hnw10_4 : w5.heap.size ∉ Gw4 := fun hm => by have h1 := hfw4.1 _ hm; have h2 := hlrw4 _ hm; (try simp at h1); omega
    have hcw10_4 : ∀ o : Nat, w10.cell? ⟨w5.heap.size, o, none⟩ = _ := fun o => World.cell?_of_block (a := ⟨w5.heap.size, o, none⟩) (how10.block (w5.heap.size) (by (try simp); (try omega)) hnw10_4)
    clear hnw10_4
    have hnw10_5 : w5.heap.size + 1 ∉ Gw4 := fun hm => by have h1 := hfw4.1 _ hm; have h2 := hlrw4 _ hm; (try simp at h1); omega
    have hcw10_5 : ∀ o : Nat, w10.cell? ⟨w5.heap.size + 1, o, none⟩ = _ := fun o => World.cell?_of_block (a := ⟨w5.heap.size + 1, o, none⟩) (how10.block (w5.heap.size + 1) (by (try simp); (try omega)) hnw10_5)
    clear hnw10_5
    have hBw10 : Below w.heap.size w w10 := Below.trans (show Below w.heap.size w _ from (by repeat (first | with_reducible exact Below.refl _ _ | with_reducible assumption | with_reducible refine bel_alloc ?_ _ | with_reducible refine bel_drew ?_ | with_reducible refine bel_drewN ?_ _ | (with_reducible refine bel_set ?_ ?_ _; rotate_left; ((try simp); (try omega)))))) (how10.bel _ (by have := hBw9.size; (try simp); (try omega)) (fun b hb => by have h1 := hfw4.1 _ hb; have := hBw9.size; (try simp at h1); omega))
    replace hrw2 := Cod.only (Cod.bel hrw2 (by repeat (first | with_reducible exact Below.refl _ _ | with_reducible assumption | with_reducible refine bel_alloc ?_ _ | with_reducible refine bel_drew ?_ | with_reducible refine bel_drewN ?_ _ | (with_reducible refine bel_set ?_ ?_ _; rotate_left; ((try simp); (try omega)))))) how10 (fun b h1 h2 => by have e1 := hlrw2 b h1; have e2 := hfw4.1 b h2; (try simp at e2); omega)
    replace hrw3 := Cod.only (Cod.bel hrw3 (by repeat (first | with_reducible exact Below.refl _ _ | with_reducible assumption | with_reducible refine bel_alloc ?_ _ | with_reducible refine bel_drew ?_ | with_reducible refine bel_drewN ?_ _ | (with_reducible refine bel_set ?_ ?_ _; rotate_left; ((try simp); (try omega)))))) how10 (fun b h1 h2 => by have e1 := hlrw3 b h1; have e2 := hfw4.1 b h2; (try simp at e2); omega)
    replace hrw5 := Cod.only (Cod.bel hrw5 (by repeat (first | with_reducible exact Below.refl _ _ | with_reducible assumption | with_reducible refine bel_alloc ?_ _ | with_reducible refine bel_drew ?_ | with_reducible refine bel_drewN ?_ _ | (with_reducible refine bel_set ?_ ?_ _; rotate_left; ((try simp); (try omega)))))) how10 (fun b h1 h2 => by have e1 := hlrw4 b h2; have e2 := hfw5.1 b h1; (try simp at e2); omega)
    clear hrw4
    have hrw4 := hmw10
    clear how10
    go_wp2_with fail
    refine (eqMachine_any _ _ ((runMachine p0).1) _ _ _ (by exact Cod.bel hrw5 (by repeat (first | with_reducible exact Below.refl _ _ | with_reducible assumption | with_reducible refine bel_alloc ?_ _ | with_reducible refine bel_drew ?_ | with_reducible refine bel_drewN ?_ _ | (with_reducible refine bel_set ?_ ?_ _; rotate_left; ((try simp); (try omega)))))) (by exact Cod.bel hrw3 (by repeat (first | with_reducible exact Below.refl _ _ | with_reducible assumption | with_reducible refine bel_alloc ?_ _ | with_reducible refine bel_drew ?_ | with_reducible refine bel_drewN ?_ _ | (with_reducible refine bel_set ?_ ?_ _; rotate_left; ((try simp); (try omega))))))).mono ?_
    rintro e w11 ⟨rfl, hbw11⟩
    have hsw11 := hbw11.size
    (try simp at hsw11)
    have hzw11_0 : w.heap.size < w11.heap.size := by omega
    have hzw11_1 : w3.heap.size < w11.heap.size := by omega
    have hzw11_2 : w3.heap.size + 1 < w11.heap.size := by omega
    have hzw11_3 : w4.heap.size < w11.heap.size := by omega
    have hzw11_4 : w5.heap.size < w11.heap.size := by omega
    have hzw11_5 : w5.heap.size + 1 < w11.heap.size := by omega
    have hBw11 : Below w.heap.size w w11 := bel_then (by repeat (first | with_reducible exact Below.refl _ _ | with_reducible assumption | with_reducible refine bel_alloc ?_ _ | with_reducible refine bel_drew ?_ | with_reducible refine bel_drewN ?_ _ | (with_reducible refine bel_set ?_ ?_ _; rotate_left; ((try simp); (try omega))))) hbw11
    replace hrw2 := Cod.bel hrw2 (show Below _ _ w11 from bel_then (by repeat (first | with_reducible exact Below.refl _ _ | with_reducible assumption | with_reducible refine bel_alloc ?_ _ | with_reducible refine bel_drew ?_ | with_reducible refine bel_drewN ?_ _ | (with_reducible refine bel_set ?_ ?_ _; rotate_left; ((try simp); (try omega))))) hbw11)
    replace hrw3 := Cod.bel hrw3 (show Below _ _ w11 from bel_then (by repeat (first | with_reducible exact Below.refl _ _ | with_reducible assumption | with_reducible refine bel_alloc ?_ _ | with_reducible refine bel_drew ?_ | with_reducible refine bel_drewN ?_ _ | (with_reducible refine bel_set ?_ ?_ _; rotate_left; ((try simp); (try omega))))) hbw11)
    replace hrw4 := Cod.bel hrw4 (show Below _ _ w11 from bel_then (by repeat (first | with_reducible exact Below.refl _ _ | with_reducible assumption | with_reducible refine bel_alloc ?_ _ | with_reducible refine bel_drew ?_ | with_reducible refine bel_drewN ?_ _ | (with_reducible refine bel_set ?_ ?_ _; rotate_left; ((try simp); (try omega))))) hbw11)
    replace hrw5 := Cod.bel hrw5 (show Below _ _ w11 from bel_then (by repeat (first | with_reducible exact Below.refl _ _ | with_reducible assumption | with_reducible refine bel_alloc ?_ _ | with_reducible refine bel_drew ?_ | with_reducible refine bel_drewN ?_ _ | (with_reducible refine bel_set ?_ ?_ _; rotate_left; ((try simp); (try omega))))) hbw11)
    obtain ⟨hcw11, hfzw11, -⟩ := bcell hbw11
    clear hbw11
    go_wp2_with fail
    refine (eqAsk_any _ _ Yv [] [] _ (by exact TAsk.mk_ HOKV.out) (by exact TAsk.mk_ HOKV.out)).mono ?_
    rintro e w12 ⟨rfl, hbw12⟩
    have hsw12 := hbw12.size
    (try simp at hsw12)
    have hzw12_0 : w.heap.size < w12.heap.size := by omega
    have hzw12_1 : w3.heap.size < w12.heap.size := by omega
    have hzw12_2 : w3.heap.size + 1 < w12.heap.size := by omega
    have hzw12_3 : w4.heap.size < w12.heap.size := by omega
    have hzw12_4 : w5.heap.size < w12.heap.size := by omega
    have hzw12_5 : w5.heap.size + 1 < w12.heap.size := by omega
    have hBw12 : Below w.heap.size w w12 := bel_then (by repeat (first | with_reducible exact Below.refl _ _ | with_reducible assumption | with_reducible refine bel_alloc ?_ _ | with_reducible refine bel_drew ?_ | with_reducible refine bel_drewN ?_ _ | (with_reducible refine bel_set ?_ ?_ _; rotate_left; ((try simp); (try omega))))) hbw12
    replace hrw2 := Cod.bel hrw2 (show Below _ _ w12 from bel_then (by repeat (first | with_reducible exact Below.refl _ _ | with_reducible assumption | with_reducible refine bel_alloc ?_ _ | with_reducible refine bel_drew ?_ | with_reducible refine bel_drewN ?_ _ | (with_reducible refine bel_set ?_ ?_ _; rotate_left; ((try simp); (try omega))))) hbw12)
    replace hrw3 := Cod.bel hrw3 (show Below _ _ w12 from bel_then (by repeat (first | with_reducible exact Below.refl _ _ | with_reducible assumption | with_reducible refine bel_alloc ?_ _ | with_reducible refine bel_drew ?_ | with_reducible refine bel_drewN ?_ _ | (with_reducible refine bel_set ?_ ?_ _; rotate_left; ((try simp); (try omega))))) hbw12)
    replace hrw4 := Cod.bel hrw4 (show Below _ _ w12 from bel_then (by repeat (first | with_reducible exact Below.refl _ _ | with_reducible assumption | with_reducible refine bel_alloc ?_ _ | with_reducible refine bel_drew ?_ | with_reducible refine bel_drewN ?_ _ | (with_reducible refine bel_set ?_ ?_ _; rotate_left; ((try simp); (try omega))))) hbw12)
    replace hrw5 := Cod.bel hrw5 (show Below _ _ w12 from bel_then (by repeat (first | with_reducible exact Below.refl _ _ | with_reducible assumption | with_reducible refine bel_alloc ?_ _ | with_reducible refine bel_drew ?_ | with_reducible refine bel_drewN ?_ _ | (with_reducible refine bel_set ?_ ?_ _; rotate_left; ((try simp); (try omega))))) hbw12)
    obtain ⟨hcw12, hfzw12, -⟩ := bcell hbw12
    clear hbw12
    go_wp2_with fail
    have ctw13 : ((TMach.tcn ((runMachine p0).1) : Nat) : Int) ≤ 449999999 := (by have h1 := TMach.tcn_le ((runMachine p0).1); have h2 := zr; omega)
    refine (markMachine_any _ ((runMachine p0).1) _ _ _ (by exact Cod.bel hrw5 (by repeat (first | with_reducible exact Below.refl _ _ | with_reducible assumption | with_reducible refine bel_alloc ?_ _ | with_reducible refine bel_drew ?_ | with_reducible refine bel_drewN ?_ _ | (with_reducible refine bel_set ?_ ?_ _; rotate_left; ((try simp); (try omega)))))) hfw5.2 (by omega) (by omega)).mono ?_
    rintro e w13 ⟨rfl, how13, hmw13⟩
    have hsw13 := how13.size
    (try simp at hsw13)
    have hzw13_0 : w.heap.size < w13.heap.size := by omega
    have hzw13_1 : w3.heap.size < w13.heap.size := by omega
    have hzw13_2 : w3.heap.size + 1 < w13.heap.size := by omega
    have hzw13_3 : w4.heap.size < w13.heap.size := by omega
    have hzw13_4 : w5.heap.size < w13.heap.size := by omega
    have hzw13_5 : w5.heap.size + 1 < w13.heap.size := by omega
    have hnw13_0 : w.heap.size ∉ Gw5 := fun hm => by have h1 := hfw5.1 _ hm; have h2 := hlrw5 _ hm; (try simp at h1); omega
    have hcw13_0 : ∀ o : Nat, w13.cell? ⟨w.heap.size, o, none⟩ = _ := fun o => World.cell?_of_block (a := ⟨w.heap.size, o, none⟩) (how13.block (w.heap.size) (by (try simp); (try omega)) hnw13_0)
    clear hnw13_0
    have hnw13_1 : w3.heap.size ∉ Gw5 := fun hm => by have h1 := hfw5.1 _ hm; have h2 := hlrw5 _ hm; (try simp at h1); omega
    have hcw13_1 : ∀ o : Nat, w13.cell? ⟨w3.heap.size, o, none⟩ = _ := fun o => World.cell?_of_block (a := ⟨w3.heap.size, o, none⟩) (how13.block (w3.heap.size) (by (try simp); (try omega)) hnw13_1)
    clear hnw13_1
    have hnw13_2 : w3.heap.size + 1 ∉ Gw5 := fun hm => by have h1 := hfw5.1 _ hm; have h2 := hlrw5 _ hm; (try simp at h1); omega
    have hcw13_2 : ∀ o : Nat, w13.cell? ⟨w3.heap.size + 1, o, none⟩ = _ := fun o => World.cell?_of_block (a := ⟨w3.heap.size + 1, o, none⟩) (how13.block (w3.heap.size + 1) (by (try simp); (try omega)) hnw13_2)
    clear hnw13_2
    have hnw13_3 : w4.heap.size ∉ Gw5 := fun hm => by have h1 := hfw5.1 _ hm; have h2 := hlrw5 _ hm; (try simp at h1); omega
    have hcw13_3 : ∀ o : Nat, w13.cell? ⟨w4.heap.size, o, none⟩ = _ := fun o => World.cell?_of_block (a := ⟨w4.heap.size, o, none⟩) (how13.block (w4.heap.size) (by (try simp); (try omega)) hnw13_3)
    clear hnw13_3
    have hnw13_4 : w5.heap.size ∉ Gw5 := fun hm => by have h1 := hfw5.1 _ hm; have h2 := hlrw5 _ hm; (try simp at h1); omega
    have hcw13_4 : ∀ o : Nat, w13.cell? ⟨w5.heap.size, o, none⟩ = _ := fun o => World.cell?_of_block (a := ⟨w5.heap.size, o, none⟩) (how13.block (w5.heap.size) (by (try simp); (try omega)) hnw13_4)
    clear hnw13_4
    have hnw13_5 : w5.heap.size + 1 ∉ Gw5 := fun hm => by have h1 := hfw5.1 _ hm; have h2 := hlrw5 _ hm; (try simp at h1); omega
    have hcw13_5 : ∀ o : Nat, w13.cell? ⟨w5.heap.size + 1, o, none⟩ = _ := fun o => World.cell?_of_block (a := ⟨w5.heap.size + 1, o, none⟩) (how13.block (w5.heap.size + 1) (by (try simp); (try omega)) hnw13_5)
    clear hnw13_5
    have hBw13 : Below w.heap.size w w13 := Below.trans (show Below w.heap.size w _ from (by repeat (first | with_reducible exact Below.refl _ _ | with_reducible assumption | with_reducible refine bel_alloc ?_ _ | with_reducible refine bel_drew ?_ | with_reducible refine bel_drewN ?_ _ | (with_reducible refine bel_set ?_ ?_ _; rotate_left; ((try simp); (try omega)))))) (how13.bel _ (by have := hBw12.size; (try simp); (try omega)) (fun b hb => by have h1 := hfw5.1 _ hb; have := hBw12.size; (try simp at h1); omega))
    replace hrw2 := Cod.only (Cod.bel hrw2 (by repeat (first | with_reducible exact Below.refl _ _ | with_reducible assumption | with_reducible refine bel_alloc ?_ _ | with_reducible refine bel_drew ?_ | with_reducible refine bel_drewN ?_ _ | (with_reducible refine bel_set ?_ ?_ _; rotate_left; ((try simp); (try omega)))))) how13 (fun b h1 h2 => by have e1 := hlrw2 b h1; have e2 := hfw5.1 b h2; (try simp at e2); omega)
    replace hrw3 := Cod.only (Cod.bel hrw3 (by repeat (first | with_reducible exact Below.refl _ _ | with_reducible assumption | with_reducible refine bel_alloc ?_ _ | with_reducible refine bel_drew ?_ | with_reducible refine bel_drewN ?_ _ | (with_reducible refine bel_set ?_ ?_ _; rotate_left; ((try simp); (try omega)))))) how13 (fun b h1 h2 => by have e1 := hlrw3 b h1; have e2 := hfw5.1 b h2; (try simp at e2); omega)
    replace hrw4 := Cod.only (Cod.bel hrw4 (by repeat (first | with_reducible exact Below.refl _ _ | with_reducible assumption | with_reducible refine bel_alloc ?_ _ | with_reducible refine bel_drew ?_ | with_reducible refine bel_drewN ?_ _ | (with_reducible refine bel_set ?_ ?_ _; rotate_left; ((try simp); (try omega)))))) how13 (fun b h1 h2 => by have e1 := hlrw4 b h1; have e2 := hfw5.1 b h2; (try simp at e2); omega)
    clear hrw5
    have hrw5 := hmw13
    clear how13
    go_wp2_with fail
    refine (heldMachine_any _ ((runMachine p0).1) _ _ _ (by exact Cod.bel hrw5 (by repeat (first | with_reducible exact Below.refl _ _ | with_reducible assumption | with_reducible refine bel_alloc ?_ _ | with_reducible refine bel_drew ?_ | with_reducible refine bel_drewN ?_ _ | (with_reducible refine bel_set ?_ ?_ _; rotate_left; ((try simp); (try omega)))))) (by omega) (by omega)).mono ?_
    rintro e w14 ⟨rfl, hbw14⟩
    have hsw14 := hbw14.size
    (try simp at hsw14)
    have hzw14_0 : w.heap.size < w14.heap.size := by omega
    have hzw14_1 : w3.heap.size < w14.heap.size := by omega
    have hzw14_2 : w3.heap.size + 1 < w14.heap.size := by omega
    have hzw14_3 : w4.heap.size < w14.heap.size := by omega
    have hzw14_4 : w5.heap.size < w14.heap.size := by omega
    have hzw14_5 : w5.heap.size + 1 < w14.heap.size := by omega
    have hBw14 : Below w.heap.size w w14 := bel_then (by repeat (first | with_reducible exact Below.refl _ _ | with_reducible assumption | with_reducible refine bel_alloc ?_ _ | with_reducible refine bel_drew ?_ | with_reducible refine bel_drewN ?_ _ | (with_reducible refine bel_set ?_ ?_ _; rotate_left; ((try simp); (try omega))))) hbw14
    replace hrw2 := Cod.bel hrw2 (show Below _ _ w14 from bel_then (by repeat (first | with_reducible exact Below.refl _ _ | with_reducible assumption | with_reducible refine bel_alloc ?_ _ | with_reducible refine bel_drew ?_ | with_reducible refine bel_drewN ?_ _ | (with_reducible refine bel_set ?_ ?_ _; rotate_left; ((try simp); (try omega))))) hbw14)
    replace hrw3 := Cod.bel hrw3 (show Below _ _ w14 from bel_then (by repeat (first | with_reducible exact Below.refl _ _ | with_reducible assumption | with_reducible refine bel_alloc ?_ _ | with_reducible refine bel_drew ?_ | with_reducible refine bel_drewN ?_ _ | (with_reducible refine bel_set ?_ ?_ _; rotate_left; ((try simp); (try omega))))) hbw14)
    replace hrw4 := Cod.bel hrw4 (show Below _ _ w14 from bel_then (by repeat (first | with_reducible exact Below.refl _ _ | with_reducible assumption | with_reducible refine bel_alloc ?_ _ | with_reducible refine bel_drew ?_ | with_reducible refine bel_drewN ?_ _ | (with_reducible refine bel_set ?_ ?_ _; rotate_left; ((try simp); (try omega))))) hbw14)
    replace hrw5 := Cod.bel hrw5 (show Below _ _ w14 from bel_then (by repeat (first | with_reducible exact Below.refl _ _ | with_reducible assumption | with_reducible refine bel_alloc ?_ _ | with_reducible refine bel_drew ?_ | with_reducible refine bel_drewN ?_ _ | (with_reducible refine bel_set ?_ ?_ _; rotate_left; ((try simp); (try omega))))) hbw14)
    obtain ⟨hcw14, hfzw14, -⟩ := bcell hbw14
    clear hbw14
    go_wp2_with fail
    refine (toMachine_any _ p0 _ _ (by exact Cod.bel h0 (by repeat (first | with_reducible exact Below.refl _ _ | with_reducible assumption | with_reducible refine bel_alloc ?_ _ | with_reducible refine bel_drew ?_ | with_reducible refine bel_drewN ?_ _ | (with_reducible refine bel_set ?_ ?_ _; rotate_left; ((try simp); (try omega)))))) z0).mono ?_
    rintro e w15 ⟨uw15, Gw15, rfl, hbw15, hrw15, hfw15⟩
    have drw15 := hrw15
    obtain ⟨vrw15_0, vrw15_2, Erw15_0, Erw15_2, rfl, -, -, mrw15_0, mrw15_2⟩ := TMach.outA drw15
    obtain ⟨Arw15_0, crw15_0, erw15_0⟩ := cL_form mrw15_0
    subst erw15_0
    obtain ⟨Arw15_2, crw15_2, erw15_2⟩ := cL_form mrw15_2
    subst erw15_2
    clear mrw15_0 mrw15_2 drw15
    have hsw15 := hbw15.size
    (try simp at hsw15)
    have hzw15_0 : w.heap.size < w15.heap.size := by omega
    have hzw15_1 : w3.heap.size < w15.heap.size := by omega
    have hzw15_2 : w3.heap.size + 1 < w15.heap.size := by omega
    have hzw15_3 : w4.heap.size < w15.heap.size := by omega
    have hzw15_4 : w5.heap.size < w15.heap.size := by omega
    have hzw15_5 : w5.heap.size + 1 < w15.heap.size := by omega
    have hBw15 : Below w.heap.size w w15 := bel_then (by repeat (first | with_reducible exact Below.refl _ _ | with_reducible assumption | with_reducible refine bel_alloc ?_ _ | with_reducible refine bel_drew ?_ | with_reducible refine bel_drewN ?_ _ | (with_reducible refine bel_set ?_ ?_ _; rotate_left; ((try simp); (try omega))))) hbw15
    replace hrw2 := Cod.bel hrw2 (show Below _ _ w15 from bel_then (by repeat (first | with_reducible exact Below.refl _ _ | with_reducible assumption | with_reducible refine bel_alloc ?_ _ | with_reducible refine bel_drew ?_ | with_reducible refine bel_drewN ?_ _ | (with_reducible refine bel_set ?_ ?_ _; rotate_left; ((try simp); (try omega))))) hbw15)
    replace hrw3 := Cod.bel hrw3 (show Below _ _ w15 from bel_then (by repeat (first | with_reducible exact Below.refl _ _ | with_reducible assumption | with_reducible refine bel_alloc ?_ _ | with_reducible refine bel_drew ?_ | with_reducible refine bel_drewN ?_ _ | (with_reducible refine bel_set ?_ ?_ _; rotate_left; ((try simp); (try omega))))) hbw15)
    replace hrw4 := Cod.bel hrw4 (show Below _ _ w15 from bel_then (by repeat (first | with_reducible exact Below.refl _ _ | with_reducible assumption | with_reducible refine bel_alloc ?_ _ | with_reducible refine bel_drew ?_ | with_reducible refine bel_drewN ?_ _ | (with_reducible refine bel_set ?_ ?_ _; rotate_left; ((try simp); (try omega))))) hbw15)
    replace hrw5 := Cod.bel hrw5 (show Below _ _ w15 from bel_then (by repeat (first | with_reducible exact Below.refl _ _ | with_reducible assumption | with_reducible refine bel_alloc ?_ _ | with_reducible refine bel_drew ?_ | with_reducible refine bel_drewN ?_ _ | (with_reducible refine bel_set ?_ ?_ _; rotate_left; ((try simp); (try omega))))) hbw15)
    have hlrw15 : ∀ b, b ∈ Gw15 → b < w15.heap.size := fun b hb => Cod.lt _ hrw15 b hb
    obtain ⟨hcw15, hfzw15, -⟩ := bcell hbw15
    clear hbw15
    go_wp2_with fail
    refine (implRunMachine_any _ p0 _ _ (by exact Cod.bel hrw15 (by repeat (first | with_reducible exact Below.refl _ _ | with_reducible assumption | with_reducible refine bel_alloc ?_ _ | with_reducible refine bel_drew ?_ | with_reducible refine bel_drewN ?_ _ | (with_reducible refine bel_set ?_ ?_ _; rotate_left; ((try simp); (try omega)))))) z0).mono ?_
    rw [HYV.out]
    simp only [TAsk.val]
    rintro e w16 ⟨uw16, Gw16, rfl, hbw16, hrw16, hfw16⟩
    have drw16 := hrw16
    obtain ⟨vrw16_0, vrw16_2, Erw16_0, Erw16_2, rfl, -, -, mrw16_0, mrw16_2⟩ := TMach.outA drw16
    obtain ⟨Arw16_0, crw16_0, erw16_0⟩ := cL_form mrw16_0
    subst erw16_0
    obtain ⟨Arw16_2, crw16_2, erw16_2⟩ := cL_form mrw16_2
    subst erw16_2
    clear mrw16_0 mrw16_2 drw16
    have hsw16 := hbw16.size
    (try simp at hsw16)
    have hzw16_0 : w.heap.size < w16.heap.size := by omega
    have hzw16_1 : w3.heap.size < w16.heap.size := by omega
    have hzw16_2 : w3.heap.size + 1 < w16.heap.size := by omega
    have hzw16_3 : w4.heap.size < w16.heap.size := by omega
    have hzw16_4 : w5.heap.size < w16.heap.size := by omega
    have hzw16_5 : w5.heap.size + 1 < w16.heap.size := by omega
    have hBw16 : Below w.heap.size w w16 := bel_then (by repeat (first | with_reducible exact Below.refl _ _ | with_reducible assumption | with_reducible refine bel_alloc ?_ _ | with_reducible refine bel_drew ?_ | with_reducible refine bel_drewN ?_ _ | (with_reducible refine bel_set ?_ ?_ _; rotate_left; ((try simp); (try omega))))) hbw16
    replace hrw2 := Cod.bel hrw2 (show Below _ _ w16 from bel_then (by repeat (first | with_reducible exact Below.refl _ _ | with_reducible assumption | with_reducible refine bel_alloc ?_ _ | with_reducible refine bel_drew ?_ | with_reducible refine bel_drewN ?_ _ | (with_reducible refine bel_set ?_ ?_ _; rotate_left; ((try simp); (try omega))))) hbw16)
    replace hrw3 := Cod.bel hrw3 (show Below _ _ w16 from bel_then (by repeat (first | with_reducible exact Below.refl _ _ | with_reducible assumption | with_reducible refine bel_alloc ?_ _ | with_reducible refine bel_drew ?_ | with_reducible refine bel_drewN ?_ _ | (with_reducible refine bel_set ?_ ?_ _; rotate_left; ((try simp); (try omega))))) hbw16)
    replace hrw4 := Cod.bel hrw4 (show Below _ _ w16 from bel_then (by repeat (first | with_reducible exact Below.refl _ _ | with_reducible assumption | with_reducible refine bel_alloc ?_ _ | with_reducible refine bel_drew ?_ | with_reducible refine bel_drewN ?_ _ | (with_reducible refine bel_set ?_ ?_ _; rotate_left; ((try simp); (try omega))))) hbw16)
    replace hrw5 := Cod.bel hrw5 (show Below _ _ w16 from bel_then (by repeat (first | with_reducible exact Below.refl _ _ | with_reducible assumption | with_reducible refine bel_alloc ?_ _ | with_reducible refine bel_drew ?_ | with_reducible refine bel_drewN ?_ _ | (with_reducible refine bel_set ?_ ?_ _; rotate_left; ((try simp); (try omega))))) hbw16)
    replace hrw15 := Cod.bel hrw15 (show Below _ _ w16 from bel_then (by repeat (first | with_reducible exact Below.refl _ _ | with_reducible assumption | with_reducible refine bel_alloc ?_ _ | with_reducible refine bel_drew ?_ | with_reducible refine bel_drewN ?_ _ | (with_reducible refine bel_set ?_ ?_ _; rotate_left; ((try simp); (try omega))))) hbw16)
    have hlrw16 : ∀ b, b ∈ Gw16 → b < w16.heap.size := fun b hb => Cod.lt _ hrw16 b hb
    have hzqw16_0 : w.heap.size < w16.heap.size + 1 + 1 := by omega
    have hzqw16_1 : w3.heap.size < w16.heap.size + 1 + 1 := by omega
    have hzqw16_2 : w3.heap.size + 1 < w16.heap.size + 1 + 1 := by omega
    have hzqw16_3 : w4.heap.size < w16.heap.size + 1 + 1 := by omega
    have hzqw16_4 : w5.heap.size < w16.heap.size + 1 + 1 := by omega
    have hzqw16_5 : w5.heap.size + 1 < w16.heap.size + 1 + 1 := by omega
    have hzqw16_6 : w16.heap.size < w16.heap.size + 1 + 1 := by omega
    have hzqw16_7 : w16.heap.size + 1 < w16.heap.size + 1 + 1 := by omega
    obtain ⟨hcw16, hfzw16, -⟩ := bcell hbw16
    clear hbw16
    go_wp2_with fail
    refine (eqMachine_any _ _ ((runMachine p0).1) _ _ _ (by exact Cod.bel hrw16 (by repeat (first | with_reducible exact Below.refl _ _ | with_reducible assumption | with_reducible refine bel_alloc ?_ _ | with_reducible refine bel_drew ?_ | with_reducible refine bel_drewN ?_ _ | (with_reducible refine bel_set ?_ ?_ _; rotate_left; ((try simp); (try omega)))))) (by exact Cod.bel hrw3 (by repeat (first | with_reducible exact Below.refl _ _ | with_reducible assumption | with_reducible refine bel_alloc ?_ _ | with_reducible refine bel_drew ?_ | with_reducible refine bel_drewN ?_ _ | (with_reducible refine bel_set ?_ ?_ _; rotate_left; ((try simp); (try omega))))))).mono ?_
    rintro e w17 ⟨rfl, hbw17⟩
    have hsw17 := hbw17.size
    (try simp at hsw17)
    have hzw17_0 : w.heap.size < w17.heap.size := by omega
    have hzw17_1 : w3.heap.size < w17.heap.size := by omega
    have hzw17_2 : w3.heap.size + 1 < w17.heap.size := by omega
    have hzw17_3 : w4.heap.size < w17.heap.size := by omega
    have hzw17_4 : w5.heap.size < w17.heap.size := by omega
    have hzw17_5 : w5.heap.size + 1 < w17.heap.size := by omega
    have hzw17_6 : w16.heap.size < w17.heap.size := by omega
    have hzw17_7 : w16.heap.size + 1 < w17.heap.size := by omega
    have hBw17 : Below w.heap.size w w17 := bel_then (by repeat (first | with_reducible exact Below.refl _ _ | with_reducible assumption | with_reducible refine bel_alloc ?_ _ | with_reducible refine bel_drew ?_ | with_reducible refine bel_drewN ?_ _ | (with_reducible refine bel_set ?_ ?_ _; rotate_left; ((try simp); (try omega))))) hbw17
    replace hrw2 := Cod.bel hrw2 (show Below _ _ w17 from bel_then (by repeat (first | with_reducible exact Below.refl _ _ | with_reducible assumption | with_reducible refine bel_alloc ?_ _ | with_reducible refine bel_drew ?_ | with_reducible refine bel_drewN ?_ _ | (with_reducible refine bel_set ?_ ?_ _; rotate_left; ((try simp); (try omega))))) hbw17)
    replace hrw3 := Cod.bel hrw3 (show Below _ _ w17 from bel_then (by repeat (first | with_reducible exact Below.refl _ _ | with_reducible assumption | with_reducible refine bel_alloc ?_ _ | with_reducible refine bel_drew ?_ | with_reducible refine bel_drewN ?_ _ | (with_reducible refine bel_set ?_ ?_ _; rotate_left; ((try simp); (try omega))))) hbw17)
    replace hrw4 := Cod.bel hrw4 (show Below _ _ w17 from bel_then (by repeat (first | with_reducible exact Below.refl _ _ | with_reducible assumption | with_reducible refine bel_alloc ?_ _ | with_reducible refine bel_drew ?_ | with_reducible refine bel_drewN ?_ _ | (with_reducible refine bel_set ?_ ?_ _; rotate_left; ((try simp); (try omega))))) hbw17)
    replace hrw5 := Cod.bel hrw5 (show Below _ _ w17 from bel_then (by repeat (first | with_reducible exact Below.refl _ _ | with_reducible assumption | with_reducible refine bel_alloc ?_ _ | with_reducible refine bel_drew ?_ | with_reducible refine bel_drewN ?_ _ | (with_reducible refine bel_set ?_ ?_ _; rotate_left; ((try simp); (try omega))))) hbw17)
    replace hrw15 := Cod.bel hrw15 (show Below _ _ w17 from bel_then (by repeat (first | with_reducible exact Below.refl _ _ | with_reducible assumption | with_reducible refine bel_alloc ?_ _ | with_reducible refine bel_drew ?_ | with_reducible refine bel_drewN ?_ _ | (with_reducible refine bel_set ?_ ?_ _; rotate_left; ((try simp); (try omega))))) hbw17)
    replace hrw16 := Cod.bel hrw16 (show Below _ _ w17 from bel_then (by repeat (first | with_reducible exact Below.refl _ _ | with_reducible assumption | with_reducible refine bel_alloc ?_ _ | with_reducible refine bel_drew ?_ | with_reducible refine bel_drewN ?_ _ | (with_reducible refine bel_set ?_ ?_ _; rotate_left; ((try simp); (try omega))))) hbw17)
    obtain ⟨hcw17, hfzw17, -⟩ := bcell hbw17
    clear hbw17
    go_wp2_with fail
    refine (eqAsk_any _ _ Yv [] [] _ (by exact TAsk.mk_ HOKV.out) (by exact TAsk.mk_ HOKV.out)).mono ?_
    rintro e w18 ⟨rfl, hbw18⟩
    have hsw18 := hbw18.size
    (try simp at hsw18)
    have hzw18_0 : w.heap.size < w18.heap.size := by omega
    have hzw18_1 : w3.heap.size < w18.heap.size := by omega
    have hzw18_2 : w3.heap.size + 1 < w18.heap.size := by omega
    have hzw18_3 : w4.heap.size < w18.heap.size := by omega
    have hzw18_4 : w5.heap.size < w18.heap.size := by omega
    have hzw18_5 : w5.heap.size + 1 < w18.heap.size := by omega
    have hzw18_6 : w16.heap.size < w18.heap.size := by omega
    have hzw18_7 : w16.heap.size + 1 < w18.heap.size := by omega
    have hBw18 : Below w.heap.size w w18 := bel_then (by repeat (first | with_reducible exact Below.refl _ _ | with_reducible assumption | with_reducible refine bel_alloc ?_ _ | with_reducible refine bel_drew ?_ | with_reducible refine bel_drewN ?_ _ | (with_reducible refine bel_set ?_ ?_ _; rotate_left; ((try simp); (try omega))))) hbw18
    replace hrw2 := Cod.bel hrw2 (show Below _ _ w18 from bel_then (by repeat (first | with_reducible exact Below.refl _ _ | with_reducible assumption | with_reducible refine bel_alloc ?_ _ | with_reducible refine bel_drew ?_ | with_reducible refine bel_drewN ?_ _ | (with_reducible refine bel_set ?_ ?_ _; rotate_left; ((try simp); (try omega))))) hbw18)
    replace hrw3 := Cod.bel hrw3 (show Below _ _ w18 from bel_then (by repeat (first | with_reducible exact Below.refl _ _ | with_reducible assumption | with_reducible refine bel_alloc ?_ _ | with_reducible refine bel_drew ?_ | with_reducible refine bel_drewN ?_ _ | (with_reducible refine bel_set ?_ ?_ _; rotate_left; ((try simp); (try omega))))) hbw18)
    replace hrw4 := Cod.bel hrw4 (show Below _ _ w18 from bel_then (by repeat (first | with_reducible exact Below.refl _ _ | with_reducible assumption | with_reducible refine bel_alloc ?_ _ | with_reducible refine bel_drew ?_ | with_reducible refine bel_drewN ?_ _ | (with_reducible refine bel_set ?_ ?_ _; rotate_left; ((try simp); (try omega))))) hbw18)
    replace hrw5 := Cod.bel hrw5 (show Below _ _ w18 from bel_then (by repeat (first | with_reducible exact Below.refl _ _ | with_reducible assumption | with_reducible refine bel_alloc ?_ _ | with_reducible refine bel_drew ?_ | with_reducible refine bel_drewN ?_ _ | (with_reducible refine bel_set ?_ ?_ _; rotate_left; ((try simp); (try omega))))) hbw18)
    replace hrw15 := Cod.bel hrw15 (show Below _ _ w18 from bel_then (by repeat (first | with_reducible exact Below.refl _ _ | with_reducible assumption | with_reducible refine bel_alloc ?_ _ | with_reducible refine bel_drew ?_ | with_reducible refine bel_drewN ?_ _ | (with_reducible refine bel_set ?_ ?_ _; rotate_left; ((try simp); (try omega))))) hbw18)
    replace hrw16 := Cod.bel hrw16 (show Below _ _ w18 from bel_then (by repeat (first | with_reducible exact Below.refl _ _ | with_reducible assumption | with_reducible refine bel_alloc ?_ _ | with_reducible refine bel_drew ?_ | with_reducible refine bel_drewN ?_ _ | (with_reducible refine bel_set ?_ ?_ _; rotate_left; ((try simp); (try omega))))) hbw18)
    obtain ⟨hcw18, hfzw18, -⟩ := bcell hbw18
    clear hbw18
    go_wp2_with fail
    refine (heldMachine_any _ ((runMachine p0).1) _ _ _ (by exact Cod.bel hrw5 (by repeat (first | with_reducible exact Below.refl _ _ | with_reducible assumption | with_reducible refine bel_alloc ?_ _ | with_reducible refine bel_drew ?_ | with_reducible refine bel_drewN ?_ _ | (with_reducible refine bel_set ?_ ?_ _; rotate_left; ((try simp); (try omega)))))) (by omega) (by omega)).mono ?_
    rintro e w19 ⟨rfl, hbw19⟩
    have hsw19 := hbw19.size
    (try simp at hsw19)
    have hzw19_0 : w.heap.size < w19.heap.size := by omega
    have hzw19_1 : w3.heap.size < w19.heap.size := by omega
    have hzw19_2 : w3.heap.size + 1 < w19.heap.size := by omega
    have hzw19_3 : w4.heap.size < w19.heap.size := by omega
    have hzw19_4 : w5.heap.size < w19.heap.size := by omega
    have hzw19_5 : w5.heap.size + 1 < w19.heap.size := by omega
    have hzw19_6 : w16.heap.size < w19.heap.size := by omega
    have hzw19_7 : w16.heap.size + 1 < w19.heap.size := by omega
    have hBw19 : Below w.heap.size w w19 := bel_then (by repeat (first | with_reducible exact Below.refl _ _ | with_reducible assumption | with_reducible refine bel_alloc ?_ _ | with_reducible refine bel_drew ?_ | with_reducible refine bel_drewN ?_ _ | (with_reducible refine bel_set ?_ ?_ _; rotate_left; ((try simp); (try omega))))) hbw19
    replace hrw2 := Cod.bel hrw2 (show Below _ _ w19 from bel_then (by repeat (first | with_reducible exact Below.refl _ _ | with_reducible assumption | with_reducible refine bel_alloc ?_ _ | with_reducible refine bel_drew ?_ | with_reducible refine bel_drewN ?_ _ | (with_reducible refine bel_set ?_ ?_ _; rotate_left; ((try simp); (try omega))))) hbw19)
    replace hrw3 := Cod.bel hrw3 (show Below _ _ w19 from bel_then (by repeat (first | with_reducible exact Below.refl _ _ | with_reducible assumption | with_reducible refine bel_alloc ?_ _ | with_reducible refine bel_drew ?_ | with_reducible refine bel_drewN ?_ _ | (with_reducible refine bel_set ?_ ?_ _; rotate_left; ((try simp); (try omega))))) hbw19)
    replace hrw4 := Cod.bel hrw4 (show Below _ _ w19 from bel_then (by repeat (first | with_reducible exact Below.refl _ _ | with_reducible assumption | with_reducible refine bel_alloc ?_ _ | with_reducible refine bel_drew ?_ | with_reducible refine bel_drewN ?_ _ | (with_reducible refine bel_set ?_ ?_ _; rotate_left; ((try simp); (try omega))))) hbw19)
    replace hrw5 := Cod.bel hrw5 (show Below _ _ w19 from bel_then (by repeat (first | with_reducible exact Below.refl _ _ | with_reducible assumption | with_reducible refine bel_alloc ?_ _ | with_reducible refine bel_drew ?_ | with_reducible refine bel_drewN ?_ _ | (with_reducible refine bel_set ?_ ?_ _; rotate_left; ((try simp); (try omega))))) hbw19)
    replace hrw15 := Cod.bel hrw15 (show Below _ _ w19 from bel_then (by repeat (first | with_reducible exact Below.refl _ _ | with_reducible assumption | with_reducible refine bel_alloc ?_ _ | with_reducible refine bel_drew ?_ | with_reducible refine bel_drewN ?_ _ | (with_reducible refine bel_set ?_ ?_ _; rotate_left; ((try simp); (try omega))))) hbw19)
    replace hrw16 := Cod.bel hrw16 (show Below _ _ w19 from bel_then (by repeat (first | with_reducible exact Below.refl _ _ | with_reducible assumption | with_reducible refine bel_alloc ?_ _ | with_reducible refine bel_drew ?_ | with_reducible refine bel_drewN ?_ _ | (with_reducible refine bel_set ?_ ?_ _; rotate_left; ((try simp); (try omega))))) hbw19)
    obtain ⟨hcw19, hfzw19, -⟩ := bcell hbw19
    clear hbw19
    go_wp2_with fail
    go_ret
    exact ⟨rfl, (by repeat (first | with_reducible exact Below.refl _ _ | with_reducible assumption | with_reducible refine bel_alloc ?_ _ | with_reducible refine bel_drew ?_ | with_reducible refine bel_drewN ?_ _ | (with_reducible refine bel_set ?_ ?_ _; rotate_left; ((try simp); (try omega)))))⟩

set_option maxRecDepth 100000 in
theorem lawRunMachine_walk (H : Type) (enc : TypeId × Value → H) (W : World) (base : Nat) (args : Array Value) (ds : List (DataW H)) (p : List MemPlace)
    (hval : ∀ (j : Nat) t v, Try.f10.params[j]? = some t → args[j]? = some v → Value.okWide Try.prog W .any base t v)
    (hA : DataW.TrodAll enc Try.prog W 0 (fun _ => true) true Try.f10.params.toList args.toList ds p) (hf : W.noneFrozen p) :
    Calls Try.prog 10 args W (Gives W (.bool true)) := by
  rw [Try.params10] at hA hval
  obtain ⟨v0, vs0, d0, ds0, q0, s0, hargs, rfl, rfl, k0, t0⟩ := trodAll_cons hA
  obtain ⟨rfl, rfl, rfl⟩ := trodAll_nil t0
  obtain rfl : args = #[v0] := by cases args; simp_all
  obtain ⟨cs0, x0, F0, rfl, hx0⟩ := opens_lMach.struct_ Try.underlying93 (hval 0 _ _ rfl rfl) k0 (noneFrozen_mono hf fun y hy => by simp [hy])
  exact lawRunMachine_any cs0 x0 F0 W hx0

set_option maxRecDepth 100000 in
theorem lawRunMachine_lifted (os : Os) (started : os.Started) (H : Type) (enc : TypeId × Value → H) :
    ReturnsInHanded {} Try.checked os 10 .any (Rows.fnExactRunMachineSpec.pre6 enc Try.prog Try.f10 Rows.fnExactRunMachineRow.domain false) (Rows.fnExactRunMachineSpec.post enc Try.prog Try.f10 false true false false) := by
  refine returnsInHanded_of_change (C := Try.checked) (by kernel_rfl) started (by kernel_rfl) Try.func10
    (ChangeSpec.witness6 (enc := enc) (C := Try.checked) false ⟨#[], #[.agg #[.slice none 0 0, .int .i64 0, .slice none 0 0, .int .i64 0, .bool false, .bool false]], []⟩ 16 (by kernel_rfl) (by kernel_rfl) (by kernel_rfl) (by kernel_rfl)) ?_
  intro W base args ds gs before hval hW _ _
  have hW' := hW
  obtain ⟨p, q, hA, hV, rfl, hfz, hnd⟩ := hW
  refine (lawRunMachine_walk H enc W base args ds p hval hA (noneFrozen_mono hfz fun y hy => by simp [hy])).mono fun e W' ⟨he, hb⟩ => ⟨_, he, ?_⟩
  exact law_post (by kernel_rfl) rfl (by kernel_rfl) Try.underlying4 (by kernel_rfl) (fun ds h => by
    match ds, h with
    | [d0], _ => exact ⟨rfl, rfl, rfl⟩) hW' hb
theorem lawRunMachine_over : Rows.fnExactRunMachineRow.holds Try.pinned (OpenSpec.ofChange Rows.fnExactRunMachineSpec) :=
  OpenClaim.holds_of_wide 10 Try.f10 rfl rfl rfl rfl rfl rfl rfl ⟨rfl, rfl, rfl, rfl, rfl⟩ rfl rfl rfl rfl rfl (by kernel_rfl) Try.func10 (by kernel_rfl)
    (of_decide_eq_true (by kernel_rfl)) (by unfold Func.isWrapper; rw [if_neg (of_decide_eq_false (by kernel_rfl))]; exact ⟨rfl, rfl⟩)
    (fun os started H enc _ => lawRunMachine_lifted os started H enc)
/-- THE STATEMENT -/
theorem lawRunMachine_holds : Rows.FnExactRunMachineSaid := lawRunMachine_over

end Go.Proofs.Yteipaolcmjfhdaa
