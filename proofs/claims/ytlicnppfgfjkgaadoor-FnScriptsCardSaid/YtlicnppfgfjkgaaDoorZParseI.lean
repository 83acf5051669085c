/-
  ParseInstr of the program. The conditions: a length, and that the library's variables hold what its text lays.
-/
import Derived.Test.YtlicnppfgfjkgaaDoorZTake
import Derived.Deep.CutRange
namespace Go.Proofs.YtlicnppfgfjkgaaDoor
open Go.ChangeShapes Go.WideShapes Go.RowKit
set_option linter.unusedVariables false

/-- where the reading stands: the instruction's box xb, the words' box b7, the result's box -/
structure PSt (w0 : World) (xb b7 : Nat) (W : World) (qs : List (List UInt8)) (k r n : Int) (t : ByteArray) : Prop where
  x : InsBox W xb k r n t
  q : InsBox W w0.heap.size 0 0 0 ⟨#[]⟩
  rest : RestBox W b7 xb qs
  bel : Below w0.heap.size w0 W
  lt : w0.heap.size < xb ∧ xb < b7 ∧ b7 < W.heap.size
section
variable {w0 W W' : World} {xb b7 : Nat} {qs qs' : List (List UInt8)} {k r n : Int} {t : ByteArray}
theorem PSt.turn (h : PSt w0 xb b7 W qs k r n t) (hO : Only [b7] W W') (hr : RestBox W' b7 xb qs') : PSt w0 xb b7 W' qs' k r n t := by
  obtain ⟨l1, l2, l3⟩ := h.lt
  have hb : ∀ b, b < W.heap.size → b ≠ b7 → W'.heap[b]? = W.heap[b]? := fun b hb hne => hO.block b hb (by simpa using hne)
  exact ⟨h.x.block (hb xb (by omega) (by omega)), h.q.block (hb _ (by omega) (by omega)), hr, ⟨hO.os.trans h.bel.os, hO.tape.trans h.bel.tape, hO.output.trans h.bel.output, Nat.le_trans h.bel.size hO.size, fun b hb2 => (hb b (by omega) (by omega)).trans (h.bel.block b hb2)⟩, l1, l2, Nat.lt_of_lt_of_le l3 hO.size⟩
theorem PSt.on (h : PSt w0 xb b7 W qs k r n t) (hb : Below W.heap.size W W') : PSt w0 xb b7 W' qs k r n t := by
  obtain ⟨l1, l2, l3⟩ := h.lt
  exact ⟨h.x.block (hb.block _ (by omega)), h.q.block (hb.block _ (by omega)), h.rest.keep (hb.block _ l3) (fun x hx => hb.block _ (by omega)), bel_then h.bel hb, l1, l2, Nat.lt_of_lt_of_le l3 hb.size⟩
theorem PSt.put (h : PSt w0 xb b7 W qs k r n t) (i : Nat) (v : Value) {r' n' : Int} {t' : ByteArray} (hx : InsBox (W.setCell ⟨xb, i, none⟩ v) xb k r' n' t') : PSt w0 xb b7 (W.setCell ⟨xb, i, none⟩ v) qs k r' n' t' := by
  obtain ⟨l1, l2, l3⟩ := h.lt
  have hb : ∀ b, b ≠ xb → (W.setCell ⟨xb, i, none⟩ v).heap[b]? = W.heap[b]? := fun b hne => Below.heap_setCell W ⟨xb, i, none⟩ v b hne
  exact ⟨hx, h.q.block (hb _ (by omega)), h.rest.keep (hb _ (by omega)) (fun x hx => hb _ (by omega)), bel_set h.bel (show w0.heap.size ≤ xb by omega) _, l1, l2, by simpa using l3⟩
end
theorem numD_range (l : List UInt8) : 0 ≤ numD l ∧ numD l ≤ 1000000000000 := by
  unfold numD
  cases h : parseNum l with
  | none => simp
  | some m => have := (parseNum_some h).1; simp; omega
theorem parse_zero {s : List UInt8} (h : (implCore (cut 32 s)).kind = 0) : parseInstr s = (insZero, false) := by
  rw [parse_impl, if_neg (fun k => k.1 h)]
set_option maxRecDepth 100000 in
set_option maxHeartbeats 8000000 in
theorem implParseInstr_any (s : ByteArray) (w : World) (hs : s.size ≤ 1048576) (hG : Gd w) :
    Calls Tryd.prog 10 #[.string s] w fun e w' => e = .returned (.tuple #[(parseInstr s.data.toList).1.val, .bool (parseInstr s.data.toList).2]) ∧ Below w.heap.size w w' := by
  have HG := Lib.hid hG
  clear hG
  go_enter Tryd.func10, Tryd.ntmps10
  go_wp2_with fail
  refine (strSplit_any s 32 _ hs (HG.out.bel (by repeat (first | with_reducible exact Below.refl _ _ | with_reducible assumption | with_reducible refine bel_alloc ?_ _ | with_reducible refine bel_drew ?_ | with_reducible refine bel_drewN ?_ _ | (with_reducible refine bel_set ?_ ?_ _; rotate_left; ((try simp); (try omega))))))).mono ?_
  rintro e w1 ⟨v, F, rfl, hb1, hr1, hf1⟩
  have hlen := cut_len 32 s.data.toList
  have hp0 : ∀ p, p ∈ cut 32 s.data.toList → p.length ≤ 1048576 := fun p hp => by have := cut_piece 32 _ p hp; rw [← Lib.size_eq] at this; omega
  rw [← Lib.size_eq] at hlen
  have HC := Lib.hid (And.intro hp0 (show cut 32 s.data.toList ≠ [] from cut_ne 32 _))
  clear hp0
  obtain ⟨ps, hps⟩ : ∃ ps, cut 32 s.data.toList = ps := ⟨_, rfl⟩
  rw [hps] at hr1 HC hlen
  have HP := Lib.hid hps
  clear hps
  obtain ⟨A, cp, rfl⟩ := cL_form hr1
  have hz1 := hb1.size
  (try simp at hz1)
  have hs1 : w.heap.size < w1.heap.size := by omega
  have hB1 : Below w.heap.size w w1 := bel_then (by repeat (first | with_reducible exact Below.refl _ _ | with_reducible assumption | with_reducible refine bel_alloc ?_ _ | with_reducible refine bel_drew ?_ | with_reducible refine bel_drewN ?_ _ | (with_reducible refine bel_set ?_ ?_ _; rotate_left; ((try simp); (try omega))))) hb1
  have hr1l : ∀ b, b ∈ F → b < w1.heap.size := fun b hb => Cod.lt _ hr1 b hb
  have q0 : InsBox w1 w.heap.size 0 0 0 ⟨#[]⟩ := (InsBox.new w _ 0 0 0 ⟨#[]⟩).block (hb1.block w.heap.size (by simp))
  have HR := Lib.hid (And.intro hr1 (And.intro hr1l q0))
  clear hr1 hr1l q0 hb1 hf1
  go_wp2_with fail
  generalize hW : World.alloc w1 _ = w2
  have hb12 : Below w1.heap.size w1 w2 := by rw [← hW]; exact bel_alloc (Below.refl _ _) _
  have x2 : InsBox w2 w1.heap.size 0 0 0 ⟨#[]⟩ := by rw [← hW]; exact InsBox.new w1 _ 0 0 0 ⟨#[]⟩
  have hz2 : w2.heap.size = w1.heap.size + 1 := by rw [← hW]; simp
  clear hW
  have hB2 : Below w.heap.size w w2 := bel_then hB1 hb12
  have hs2 : w.heap.size < w2.heap.size ∧ w1.heap.size < w2.heap.size := by omega
  clear hz2
  have q2 : InsBox w2 w.heap.size 0 0 0 ⟨#[]⟩ := HR.out.2.2.block (hb12.block w.heap.size hs1)
  have hr2 := Cod.bel HR.out.1 hb12
  have hFl := HR.out.2.1
  have H2 := Lib.hid (And.intro x2 (And.intro q2 (And.intro hr2 hFl)))
  clear HR x2 q2 hr2 hFl hb12
  obtain ⟨p0, hp0⟩ : ∃ p0, ps.headD [] = p0 := ⟨_, rfl⟩
  have H0 := Lib.hid hp0
  clear hp0
  have hn0 : 0 < ps.length := by
    have := HC.out.2
    cases ps with
    | nil => exact absurd rfl this
    | cons a l => simp
  obtain ⟨np, hnp⟩ : ∃ np, ps.length = np := ⟨_, rfl⟩
  have HNP := Lib.hid hnp
  rw [hnp] at hn0 hlen ⊢
  clear hnp
  go_loopw [6] (fun i wr => ∃ k : Nat, i = .int .i64 k ∧ 1 ≤ k ∧ k ≤ 10 ∧ InsBox wr w1.heap.size (kindTo p0 (k - 1)) 0 0 ⟨#[]⟩ ∧ Only [w1.heap.size] w2 wr) (fun i _ => 10 - (intOf i).toNat)
  case atStart => exact ⟨1, rfl, by decide, by decide, H2.out.1, Only.refl _ _⟩
  case round =>
    obtain ⟨k, rfl, hk1, hk10, hx, hO⟩ := hrel
    have HX := Lib.hid hx
    clear hx
    have hszr := hO.size
    have hrr := Cod.only H2.out.2.2.1 hO (fun b hb hm => by have := H2.out.2.2.2 b hb; simp at hm; omega)
    by_cases hlt : k < 10
    · have hki : (k : Int) ≤ 9 := by omega
      obtain ⟨g, o, vs, F1, rfl, hgF, hxx, -, hc⟩ := cL_get (hw := by decide) (hw2 := by decide) hrr (show 0 < ps.length by rw [HNP.out]; exact hn0)
      obtain ⟨rfl, -, -⟩ := hxx
      have p0c : wr.cell? ⟨g, o, none⟩ = some _ := (by have h1 := (hc 0 _ rfl).1; simpa using h1)
      have hp00 : ps[0]'(by rw [HNP.out]; exact hn0) = p0 := by
        rw [← H0.out]; cases ps with
        | nil => exact absurd rfl HC.out.2
        | cons a l => rfl
      rw [hp00] at p0c
      have hglt := H2.out.2.2.2 g hgF
      clear hc hrr hp00
      obtain ⟨sw, hsw⟩ : ∃ q, baOf (wordL k) = q := ⟨_, rfl⟩
      obtain ⟨sp, hsp⟩ : ∃ q, baOf p0 = q := ⟨_, rfl⟩
      rw [hsp] at p0c
      have hWd : ∀ W, Calls Tryd.prog 28 #[.int .i64 k] W (Gives W (.string sw)) := fun W => by rw [← hsw]; exact implWord_any k (by omega) W
      have HSW := Lib.hid (And.intro hsw hsp)
      clear hsw hsp
      have hS : ∀ w9, Below wr.heap.size wr w9 → w9.cell? ⟨g, o, none⟩ = some (.string sp) := fun w9 hb => (hb.cell (p := ⟨g, o, none⟩) (show g < wr.heap.size by omega)).trans p0c
      go_wp2_with fail
      refine wp_region_held_drew (S := (fun w9 => w9.cell? ⟨g, o, none⟩ = some (.string sp))) (by kernel_rfl) (by (try dsimp only); exact hS _ (by repeat (first | with_reducible exact Below.refl _ _ | with_reducible assumption | with_reducible refine bel_alloc ?_ _ | with_reducible refine bel_drew ?_ | with_reducible refine bel_drewN ?_ _ | (with_reducible refine bel_set ?_ ?_ _; rotate_left; ((try simp); (try omega)))))) (fun hHeld => ?_)
      refine take_read (i := 0) 16 (v := ?v0) rfl rfl (by kernel_rfl) (by kernel_rfl) (by kernel_rfl) (fun _ _ _ h => h) (by rfl) ?hy0 (by assumption) ?rest0
      case hy0 => (intro w hSw; (try dsimp only at hSw); go_simp; (try with_reducible rfl))
      try simp only [Act.put, List.setIfInBounds_toArray, List.set_cons_zero, List.set_cons_succ]
      refine take_read (i := 2) 18 (v := ?v2) rfl rfl (by kernel_rfl) (by kernel_rfl) (by kernel_rfl) (fun _ _ _ h => h) (by rfl) ?hy2 (by assumption) ?rest2
      case hy2 => (intro w hSw; (try dsimp only at hSw); go_simp; (try with_reducible rfl))
      try simp only [Act.put, List.setIfInBounds_toArray, List.set_cons_zero, List.set_cons_succ]
      refine take_read (i := 3) 19 (v := ?v3) rfl rfl (by kernel_rfl) (by kernel_rfl) (by kernel_rfl) (fun _ _ _ h => h) (by rfl) ?hy3 (by assumption) ?rest3
      case hy3 => (intro w hSw; (try dsimp only at hSw); go_simp; (try with_reducible rfl))
      try simp only [Act.put, List.setIfInBounds_toArray, List.set_cons_zero, List.set_cons_succ]
      refine take_read (i := 4) 20 (v := ?v4) rfl rfl (by kernel_rfl) (by kernel_rfl) (by kernel_rfl) (fun _ _ _ h => h) (by rfl) ?hy4 (by assumption) ?rest4
      case hy4 => (intro w hSw; (try dsimp only at hSw); go_simp; (try with_reducible rfl))
      try simp only [Act.put, List.setIfInBounds_toArray, List.set_cons_zero, List.set_cons_succ]
      refine wpAnyH_ready (rs := [1]) (by kernel_rfl) (by simp) ?_
      refine AllReadyH.cons rfl (fun K hK => ?_) AllReadyH.nil
      go_simp
      (go_at_call 28; refine (hWd _).mono ?_; rintro e w4 ⟨rfl, hb1⟩; have hb4 : Below wr.heap.size wr w4 := (bel_then (by repeat (first | with_reducible exact Below.refl _ _ | with_reducible assumption | with_reducible refine bel_alloc ?_ _ | with_reducible refine bel_drew ?_ | with_reducible refine bel_drewN ?_ _ | (with_reducible refine bel_set ?_ ?_ _; rotate_left; ((try simp); (try omega))))) hb1); clear hb1)
      try go_wp2_with fail
      refine hK.out _ _ ?_ (fun hHeld => ?_)
      · (try dsimp only)
        exact hS _ (by repeat (first | with_reducible exact Below.refl _ _ | with_reducible assumption | with_reducible refine bel_alloc ?_ _ | with_reducible refine bel_drew ?_ | with_reducible refine bel_drewN ?_ _ | (with_reducible refine bel_set ?_ ?_ _; rotate_left; ((try simp); (try omega)))))
      clear hK K
      try simp only [Act.put, List.setIfInBounds_toArray, List.set_cons_zero, List.set_cons_succ]
      refine take_read (i := 5) 21 (v := ?v5) rfl rfl (by kernel_rfl) (by kernel_rfl) (by kernel_rfl) (fun _ _ _ h => h) (by rfl) ?hy5 (by assumption) ?rest5
      case hy5 => (intro w hSw; (try dsimp only at hSw); go_simp; (try with_reducible rfl))
      try simp only [Act.put, List.setIfInBounds_toArray, List.set_cons_zero, List.set_cons_succ]
      refine wpAnyH_done (by kernel_rfl) ?_ _
      have hx4 := HX.out.block (hb4.block w1.heap.size (by omega))
      have hO4 : Only [w1.heap.size] w2 w4 := hO.trans ⟨hb4.os, hb4.tape, hb4.output, hb4.size, fun b hb _ => hb4.block b hb⟩
      have HX4 := Lib.hid hx4
      have hx0 := hx4.c0
      have hf0 := hx4.f0
      clear hx4
      cases hq : (sw.toList == sp.toList)
      · go_wp2_with fail
        go_roundw
        case rel => exact ⟨k + 1, by go_num, by omega, by omega, by
          rw [kindTo_miss hk1 (fun e => by rw [← HSW.out.1, ← HSW.out.2, e] at hq; simp at hq)]
          exact HX4.out, hO4⟩
        case measure => simp [intOf]; omega
      · go_wp2_with fail
        go_roundw
        case rel => exact ⟨k + 1, by go_num, by omega, by omega, by
          rw [kindTo_hit hk1 (by rw [Lib.toList_data, Lib.toList_data, ← HSW.out.1, ← HSW.out.2] at hq; exact eq_of_beq hq)]
          exact HX4.out.set0 _, hO4.set_ (by simp) _⟩
        case measure => simp [intOf]; omega
    · have hki : ¬ ((k : Int) ≤ 9) := by omega
      obtain ⟨wx, rfl⟩ : ∃ q : World, q = wr := ⟨_, rfl⟩
      obtain ⟨kd, hkd⟩ : ∃ q, kindTo p0 9 = q := ⟨_, rfl⟩
      have hx9 : InsBox wx w1.heap.size kd 0 0 ⟨#[]⟩ := by rw [← hkd, show (9 : Nat) = k - 1 by omega]; exact HX.out
      have hkr := kindTo_range p0 9
      rw [hkd] at hkr
      have HKD := Lib.hid (show kindTo (ps.headD []) 9 = kd by rw [H0.out]; exact hkd)
      have q9 : InsBox wx w.heap.size 0 0 0 ⟨#[]⟩ := H2.out.2.1.block (hO.block w.heap.size (by omega) (by simp; omega))
      have hFl := H2.out.2.2.2
      have hBr : Below w.heap.size w wx := ⟨hO.os.trans hB2.os, hO.tape.trans hB2.tape, hO.output.trans hB2.output, by omega, fun b hb => (hO.block b (by omega) (by simp; omega)).trans (hB2.block b hb)⟩
      have hx0 := hx9.c0
      have H9 := Lib.hid (And.intro hx9 (And.intro q9 (And.intro hrr hFl)))
      clear hkd hx9 hrr hFl HX H2 q9
      by_cases h0 : kd = 0
      · have hk0 : (kd == 0) = true := by simp [h0]
        have HZ := Lib.hid (parse_zero (s := s.data.toList) (by rw [HP.out]; exact HKD.out.trans h0))
        clear h0
        have e0 := H9.out.2.1.c0; have e1 := H9.out.2.1.c1; have e2 := H9.out.2.1.c2; have e3 := H9.out.2.1.c3
        have g0 := H9.out.2.1.f0; have g1 := H9.out.2.1.f1; have g2 := H9.out.2.1.f2; have g3 := H9.out.2.1.f3
        go_wp2_with fail
        refine sets_ret4 (a' := .int .i64 0) (b' := .int .i64 0) (c' := .int .i64 0) (d' := .string ⟨#[]⟩) w.heap.size H9.out.2.1.c0 H9.out.2.1.c1 H9.out.2.1.c2 H9.out.2.1.c3 (fun W9 e9 c0 c1 c2 c3 => ?_)
        refine bodyPost_ret (v := .tuple #[.agg #[.int .i64 0, .int .i64 0, .int .i64 0, .string ⟨#[]⟩], .bool false]) (by simp [results, Tryd.results10, go_sem, c0, c1, c2, c3]) rfl ?_
        clear c0 c1 c2 c3
        subst e9
        refine ⟨?_, (by repeat (first | with_reducible exact Below.refl _ _ | with_reducible assumption | with_reducible refine bel_alloc ?_ _ | with_reducible refine bel_drew ?_ | with_reducible refine bel_drewN ?_ _ | (with_reducible refine bel_set ?_ ?_ _; rotate_left; ((try simp); (try omega)))))⟩
        rw [HZ.out]; rfl
      · have hk0 : (kd == 0) = false := by simp [h0]
        have HZ := Lib.hid h0
        clear h0
        obtain ⟨-, hcp, hm⟩ := cL_len H9.out.2.2.1
        rw [HNP.out] at hcp
        go_upto_region 10 with (fail)
        go_cut [7] from 28 to 29 (fun v wq => v = .pointer (some ⟨wx.heap.size, 0, none⟩) ∧ PSt w w1.heap.size wx.heap.size wq ps.tail kd 0 0 ⟨#[]⟩)
        case first =>
          obtain ⟨g, o, vs, F1, rfl, hgF, hxx, -, -⟩ := cL_get (hw := by decide) (hw2 := by decide) H9.out.2.2.1 (show 0 < ps.length by rw [HNP.out]; exact hn0)
          obtain ⟨cap, rfl⟩ : ∃ cap, cp = cap + 1 := ⟨cp - 1, by omega⟩
          unfold maxLen at hm
          obtain ⟨G, k1, k2, -⟩ := cL_cut H9.out.2.2.1 1 (by rw [HNP.out]; omega)
          have HR := Lib.hid (And.intro k1 k2)
          clear k1 k2 hxx
          have hone : 1 ≤ np := by omega
          by_cases hcap : cap = 0
          · subst hcap
            have hnp1 : np = 1 := by omega
            subst hnp1
            go_wp2_with fail
            go_meet
            case rel =>
              have k4 := HR.out.1
              have hl : ps.tail.length = 0 := by have := HNP.out; simp [this]
              replace k4 : cTS.rep wx [.slice (some ⟨g, o, none⟩) ps.tail.length 0] ps.tail G := by
                rw [hl]; rw [List.drop_one, HNP.out] at k4; simp at k4; exact k4
              refine ⟨rfl, H9.out.1.block (Below.block (bel_alloc (Below.refl _ _) _) _ (by omega)), H9.out.2.1.block (Below.block (bel_alloc (Below.refl _ _) _) _ (by omega)), ⟨some ⟨g, o, none⟩, 0, G, ?_, (Blk.new wx _ _).frozen 0, Cod.bel k4 (bel_alloc (Below.refl _ _) _), fun x hx => H9.out.2.2.2 x (HR.out.2 x hx)⟩, (by repeat (first | with_reducible exact Below.refl _ _ | with_reducible assumption | with_reducible refine bel_alloc ?_ _ | with_reducible refine bel_drew ?_ | with_reducible refine bel_drewN ?_ _ | (with_reducible refine bel_set ?_ ?_ _; rotate_left; ((try simp); (try omega))))), by omega, by omega, by simp⟩
              rw [(Blk.new wx _ _).cell 0, hl]; rfl
          · go_wp2_with fail
            go_meet
            case rel =>
              have k4 := HR.out.1
              have hl : ps.tail.length = np - 1 := by have := HNP.out; simp [this]
              replace k4 : cTS.rep wx [.slice (some ⟨g, o + 1, none⟩) ps.tail.length cap] ps.tail G := by
                rw [hl]; rw [List.drop_one, HNP.out] at k4; simp [Addr.add_lit, hcap, show (cT).wd = 1 from rfl] at k4; exact k4
              refine ⟨rfl, H9.out.1.block (Below.block (bel_alloc (Below.refl _ _) _) _ (by omega)), H9.out.2.1.block (Below.block (bel_alloc (Below.refl _ _) _) _ (by omega)), ⟨some ⟨g, o + 1, none⟩, cap, G, ?_, (Blk.new wx _ _).frozen 0, Cod.bel k4 (bel_alloc (Below.refl _ _) _), fun x hx => H9.out.2.2.2 x (HR.out.2 x hx)⟩, (by repeat (first | with_reducible exact Below.refl _ _ | with_reducible assumption | with_reducible refine bel_alloc ?_ _ | with_reducible refine bel_drew ?_ | with_reducible refine bel_drewN ?_ _ | (with_reducible refine bel_set ?_ ?_ _; rotate_left; ((try simp); (try omega))))), by omega, by omega, by simp⟩
              rw [(Blk.new wx _ _).cell 0, hl]; rfl
        case rest =>
          obtain ⟨rfl, hst⟩ := hcut
          have hlen2 : ps.length ≤ 1048577 := by rw [HNP.out]; omega
          have hall : ∀ q, q ∈ ps → q.length ≤ 1048576 := HC.out.1
          have hhd : ∀ l : List (List UInt8), (∀ q, q ∈ l → q.length ≤ 1048576) → (baOf (l.headD [])).size ≤ 1048576 := fun l h => by
            rw [baOf_size]; cases l with
            | nil => simp
            | cons a l => exact h a (by simp)
          have htl : ∀ l : List (List UInt8), (∀ q, q ∈ l → q.length ≤ 1048576) → ∀ q, q ∈ l.tail → q.length ≤ 1048576 := fun l h q hq => h q (List.mem_of_mem_tail hq)
          have hln : ∀ l : List (List UInt8), l.tail.length ≤ l.length := fun l => by simp
          have HB := Lib.hid (And.intro hhd (And.intro htl hln))
          have hq1 : ∀ q, q ∈ ps.tail → q.length ≤ 1048576 := htl _ hall
          have hl1 : ps.tail.length ≤ 1048577 := Nat.le_trans (hln _) hlen2
          have HQ1 := Lib.hid (And.intro hq1 hl1)
          obtain ⟨t1, ht1⟩ : ∃ t, ps.tail = t := ⟨_, rfl⟩
          rw [ht1] at HQ1 hst
          have HT1 := Lib.hid ht1
          clear ht1 hhd htl hln hall hlen2 hq1 hl1 H9
          have hlt3 := hst.lt
          have hx0 := hst.x.c0
          have HS := Lib.hid hst
          clear hst
          by_cases h4 : kd = 4
          · have b4 : (kd == 4) = true := by simp [h4]
            have n4 : (kd != 4) = false := by simp [h4]
            have b9 : (kd == 9) = false := by simp; omega
            have n9 : (kd != 9) = true := by simp; omega
            have b5 : (kd == 5) = false := by simp; omega
            have n5 : (kd != 5) = true := by simp; omega
            have HH := Lib.hid h4
            have HH9 : Hid (¬ kd = 9) := Lib.hid (by omega)
            have HH5 : Hid (¬ kd = 5) := Lib.hid (by omega)
            clear h4
            go_wp2_with fail
            refine (take_any wx.heap.size w1.heap.size t1 _ HS.out.rest (by omega) (by have := HQ1.out.2; omega)).mono ?_
            rintro e wa1 ⟨rfl, hra1, hOa1⟩
            have HA1 := Lib.hid (PSt.turn HS.out hOa1 hra1)
            have hza1 := hOa1.size
            clear hra1 hOa1
            obtain ⟨sq1, hsq1⟩ : ∃ q, baOf (t1.headD []) = q := ⟨_, rfl⟩
            rw [hsq1]
            obtain ⟨m1, hm1⟩ : ∃ z, numD (t1.headD []) = z := ⟨_, rfl⟩
            obtain ⟨ok1, hok1⟩ : ∃ z, (parseNum (t1.headD [])).isSome = z := ⟨_, rfl⟩
            have hI1 : ∀ W, Gd W → Calls Tryd.prog 32 #[.string sq1] W (Gives W (.tuple #[.int .i64 m1, .bool ok1])) := fun W hg => by rw [← hm1, ← hok1]; have := implParseInt_any sq1 W (by rw [← hsq1]; exact HB.out.1 _ HQ1.out.1) hg; rw [show sq1.data.toList = t1.headD [] by rw [← hsq1]; rfl] at this; exact this
            have HM1 := Lib.hid hm1
            have hr1 : -9223372036854775808 ≤ m1 ∧ m1 ≤ 9223372036854775807 := by rw [← hm1]; have := numD_range (t1.headD []); omega
            clear hm1 hok1 hsq1
            go_wp2_with fail
            refine (hI1 _ (HG.out.bel HA1.out.bel)).mono ?_
            rintro e wb1 ⟨rfl, hbb1⟩
            have HB1 := Lib.hid (PSt.on HA1.out hbb1)
            have hzb1 := hbb1.size
            clear hbb1
            have y10 := HB1.out.x.c0; have y11 := HB1.out.x.c1; have y12 := HB1.out.x.c2; have y13 := HB1.out.x.c3
            have y1z0 := HB1.out.x.f0; have y1z1 := HB1.out.x.f1; have y1z2 := HB1.out.x.f2; have y1z3 := HB1.out.x.f3
            have HC1 := Lib.hid (PSt.put HB1.out 2 (.int .i64 m1) (HB1.out.x.set2 m1))
            have hzc1 : (wb1.setCell ⟨w1.heap.size, 2, none⟩ (.int .i64 m1)).heap.size = wb1.heap.size := by simp
            obtain ⟨wc1, hwc1⟩ : ∃ q, q = wb1.setCell ⟨w1.heap.size, 2, none⟩ (.int .i64 m1) := ⟨_, rfl⟩
            obtain ⟨t2, ht2⟩ : ∃ q, t1.tail = q := ⟨_, rfl⟩
            have HQ2 := Lib.hid (And.intro (HB.out.2.1 _ HQ1.out.1) (Nat.le_trans (HB.out.2.2 _) HQ1.out.2))
            rw [ht2] at HC1 HQ2
            have HT2 := Lib.hid ht2
            clear ht2 hwc1
            go_wp2_with fail
            refine (take_any wx.heap.size w1.heap.size t2 _ HC1.out.rest (by omega) (by have := HQ2.out.2; omega)).mono ?_
            rintro e wt ⟨rfl, hrt, hOt⟩
            have HA9 := Lib.hid (PSt.turn HC1.out hOt hrt)
            have hzt := hOt.size
            clear hrt hOt
            obtain ⟨tb, htb⟩ : ∃ q, baOf (t2.headD []) = q := ⟨_, rfl⟩
            rw [htb]
            have htz : tb.size ≤ 1048576 := by rw [← htb]; exact HB.out.1 _ HQ2.out.1
            have hcore : implCore ps = ⟨kd, 0, m1, tb⟩ := by
              have e1 := HKD.out; have e2 := HT1.out
              have f1 := HM1.out; have g1 := HT2.out
              unfold implCore
              simp only [e1, e2]
              simp only [List.headD_eq_head?_getD] at htb f1
              simp [HH.out, f1, g1, htb]
            have HCO := Lib.hid hcore
            clear hcore htb
            have y90 := HA9.out.x.c0; have y91 := HA9.out.x.c1; have y92 := HA9.out.x.c2; have y93 := HA9.out.x.c3
            have y9z0 := HA9.out.x.f0; have y9z1 := HA9.out.x.f1; have y9z2 := HA9.out.x.f2; have y9z3 := HA9.out.x.f3
            obtain ⟨sf, hsf⟩ : ∃ q, baOf (fmtL ⟨kd, 0, m1, tb⟩) = q := ⟨_, rfl⟩
            have hF : ∀ W, Gd W → Calls Tryd.prog 9 #[.agg #[.int .i64 kd, .int .i64 0, .int .i64 m1, .string tb]] W (Gives W (.string sf)) := fun W hg => by rw [← hsf]; exact implFormatCells_any kd 0 m1 tb W (by unfold maxLen; omega) hg.tab
            have HSF := Lib.hid hsf
            clear hsf
            have HD9 := Lib.hid (PSt.put HA9.out 3 (.string tb) (HA9.out.x.set3 tb))
            go_wp2_with fail
            refine (hF _ (HG.out.bel HD9.out.bel)).mono ?_
            rintro e w4 ⟨rfl, hb4⟩
            have HE9 := Lib.hid (PSt.on HD9.out hb4)
            clear hb4
            have e0 := HE9.out.q.c0; have e1 := HE9.out.q.c1; have e2 := HE9.out.q.c2; have e3 := HE9.out.q.c3
            have g0 := HE9.out.q.f0; have g1 := HE9.out.q.f1; have g2 := HE9.out.q.f2; have g3 := HE9.out.q.f3
            have b0 := HE9.out.x.c0; have b1 := HE9.out.x.c1; have b2 := HE9.out.x.c2; have b3 := HE9.out.x.c3
            have hB4 := HE9.out.bel
            cases heq : (sf.toList == s.toList)
            · go_wp2_with fail
              refine sets_ret4 (a' := .int .i64 0) (b' := .int .i64 0) (c' := .int .i64 0) (d' := .string ⟨#[]⟩) w.heap.size HE9.out.q.c0 HE9.out.q.c1 HE9.out.q.c2 HE9.out.q.c3 (fun W9 e9 c0 c1 c2 c3 => ?_)
              refine bodyPost_ret (v := .tuple #[.agg #[.int .i64 0, .int .i64 0, .int .i64 0, .string ⟨#[]⟩], .bool false]) (by simp [results, Tryd.results10, go_sem, c0, c1, c2, c3]) rfl ?_
              clear c0 c1 c2 c3
              subst e9
              refine ⟨?_, (by repeat (first | with_reducible exact Below.refl _ _ | with_reducible assumption | with_reducible refine bel_alloc ?_ _ | with_reducible refine bel_drew ?_ | with_reducible refine bel_drewN ?_ _ | (with_reducible refine bel_set ?_ ?_ _; rotate_left; ((try simp); (try omega)))))⟩
              have hg : parseInstr s.data.toList = (insZero, false) := by
                rw [parse_impl, HP.out, HCO.out]
                exact if_neg (fun h => by
                  have e : sf = s := HSF.out.symm.trans ((congrArg baOf h.2).trans (baOf_of s))
                  rw [e] at heq; simp at heq)
              rw [hg]; rfl
            · go_wp2_with fail
              refine sets_ret4 (a' := .int .i64 0) (b' := .int .i64 0) (c' := .int .i64 0) (d' := .string ⟨#[]⟩) w.heap.size HE9.out.q.c0 HE9.out.q.c1 HE9.out.q.c2 HE9.out.q.c3 (fun W9 e9 c0 c1 c2 c3 => ?_)
              refine bodyPost_ret (v := .tuple #[.agg #[.int .i64 kd, .int .i64 0, .int .i64 m1, .string tb], .bool true]) (by simp [results, Tryd.results10, go_sem, c0, c1, c2, c3]) rfl ?_
              clear c0 c1 c2 c3
              subst e9
              refine ⟨?_, (by repeat (first | with_reducible exact Below.refl _ _ | with_reducible assumption | with_reducible refine bel_alloc ?_ _ | with_reducible refine bel_drew ?_ | with_reducible refine bel_drewN ?_ _ | (with_reducible refine bel_set ?_ ?_ _; rotate_left; ((try simp); (try omega)))))⟩
              have hg : parseInstr s.data.toList = (⟨kd, 0, m1, tb⟩, true) := by
                rw [parse_impl, HP.out, HCO.out]
                exact if_pos ⟨HZ.out, baOf_inj (HSF.out.trans (Eq.trans (b := s) (ba_ext (by rw [Lib.toList_data, Lib.toList_data] at heq; exact eq_of_beq heq)) (baOf_of s).symm))⟩
              rw [hg]; rfl
          · have b4 : (kd == 4) = false := by simp [h4]
            have n4 : (kd != 4) = true := by simp [h4]
            by_cases h9 : kd = 9
            · have b9 : (kd == 9) = true := by simp [h9]
              have n9 : (kd != 9) = false := by simp [h9]
              have b5 : (kd == 5) = false := by simp; omega
              have n5 : (kd != 5) = true := by simp; omega
              have HH := Lib.hid h9
              have HH4 : Hid (¬ kd = 4) := Lib.hid (by omega)
              have HH5 : Hid (¬ kd = 5) := Lib.hid (by omega)
              clear h9 h4
              go_wp2_with fail
              refine (take_any wx.heap.size w1.heap.size t1 _ HS.out.rest (by omega) (by have := HQ1.out.2; omega)).mono ?_
              rintro e wt ⟨rfl, hrt, hOt⟩
              have HA9 := Lib.hid (PSt.turn HS.out hOt hrt)
              have hzt := hOt.size
              clear hrt hOt
              obtain ⟨tb, htb⟩ : ∃ q, baOf (t1.headD []) = q := ⟨_, rfl⟩
              rw [htb]
              have htz : tb.size ≤ 1048576 := by rw [← htb]; exact HB.out.1 _ HQ1.out.1
              have hcore : implCore ps = ⟨kd, 0, 0, tb⟩ := by
                have e1 := HKD.out; have e2 := HT1.out
                unfold implCore
                simp only [e1, e2]
                simp only [List.headD_eq_head?_getD] at htb 
                simp [HH.out, htb]
              have HCO := Lib.hid hcore
              clear hcore htb
              have y90 := HA9.out.x.c0; have y91 := HA9.out.x.c1; have y92 := HA9.out.x.c2; have y93 := HA9.out.x.c3
              have y9z0 := HA9.out.x.f0; have y9z1 := HA9.out.x.f1; have y9z2 := HA9.out.x.f2; have y9z3 := HA9.out.x.f3
              obtain ⟨sf, hsf⟩ : ∃ q, baOf (fmtL ⟨kd, 0, 0, tb⟩) = q := ⟨_, rfl⟩
              have hF : ∀ W, Gd W → Calls Tryd.prog 9 #[.agg #[.int .i64 kd, .int .i64 0, .int .i64 0, .string tb]] W (Gives W (.string sf)) := fun W hg => by rw [← hsf]; exact implFormatCells_any kd 0 0 tb W (by unfold maxLen; omega) hg.tab
              have HSF := Lib.hid hsf
              clear hsf
              have HD9 := Lib.hid (PSt.put HA9.out 3 (.string tb) (HA9.out.x.set3 tb))
              go_wp2_with fail
              refine (hF _ (HG.out.bel HD9.out.bel)).mono ?_
              rintro e w4 ⟨rfl, hb4⟩
              have HE9 := Lib.hid (PSt.on HD9.out hb4)
              clear hb4
              have e0 := HE9.out.q.c0; have e1 := HE9.out.q.c1; have e2 := HE9.out.q.c2; have e3 := HE9.out.q.c3
              have g0 := HE9.out.q.f0; have g1 := HE9.out.q.f1; have g2 := HE9.out.q.f2; have g3 := HE9.out.q.f3
              have b0 := HE9.out.x.c0; have b1 := HE9.out.x.c1; have b2 := HE9.out.x.c2; have b3 := HE9.out.x.c3
              have hB4 := HE9.out.bel
              cases heq : (sf.toList == s.toList)
              · go_wp2_with fail
                refine sets_ret4 (a' := .int .i64 0) (b' := .int .i64 0) (c' := .int .i64 0) (d' := .string ⟨#[]⟩) w.heap.size HE9.out.q.c0 HE9.out.q.c1 HE9.out.q.c2 HE9.out.q.c3 (fun W9 e9 c0 c1 c2 c3 => ?_)
                refine bodyPost_ret (v := .tuple #[.agg #[.int .i64 0, .int .i64 0, .int .i64 0, .string ⟨#[]⟩], .bool false]) (by simp [results, Tryd.results10, go_sem, c0, c1, c2, c3]) rfl ?_
                clear c0 c1 c2 c3
                subst e9
                refine ⟨?_, (by repeat (first | with_reducible exact Below.refl _ _ | with_reducible assumption | with_reducible refine bel_alloc ?_ _ | with_reducible refine bel_drew ?_ | with_reducible refine bel_drewN ?_ _ | (with_reducible refine bel_set ?_ ?_ _; rotate_left; ((try simp); (try omega)))))⟩
                have hg : parseInstr s.data.toList = (insZero, false) := by
                  rw [parse_impl, HP.out, HCO.out]
                  exact if_neg (fun h => by
                    have e : sf = s := HSF.out.symm.trans ((congrArg baOf h.2).trans (baOf_of s))
                    rw [e] at heq; simp at heq)
                rw [hg]; rfl
              · go_wp2_with fail
                refine sets_ret4 (a' := .int .i64 0) (b' := .int .i64 0) (c' := .int .i64 0) (d' := .string ⟨#[]⟩) w.heap.size HE9.out.q.c0 HE9.out.q.c1 HE9.out.q.c2 HE9.out.q.c3 (fun W9 e9 c0 c1 c2 c3 => ?_)
                refine bodyPost_ret (v := .tuple #[.agg #[.int .i64 kd, .int .i64 0, .int .i64 0, .string tb], .bool true]) (by simp [results, Tryd.results10, go_sem, c0, c1, c2, c3]) rfl ?_
                clear c0 c1 c2 c3
                subst e9
                refine ⟨?_, (by repeat (first | with_reducible exact Below.refl _ _ | with_reducible assumption | with_reducible refine bel_alloc ?_ _ | with_reducible refine bel_drew ?_ | with_reducible refine bel_drewN ?_ _ | (with_reducible refine bel_set ?_ ?_ _; rotate_left; ((try simp); (try omega)))))⟩
                have hg : parseInstr s.data.toList = (⟨kd, 0, 0, tb⟩, true) := by
                  rw [parse_impl, HP.out, HCO.out]
                  exact if_pos ⟨HZ.out, baOf_inj (HSF.out.trans (Eq.trans (b := s) (ba_ext (by rw [Lib.toList_data, Lib.toList_data] at heq; exact eq_of_beq heq)) (baOf_of s).symm))⟩
                rw [hg]; rfl
            · have b9 : (kd == 9) = false := by simp [h9]
              have n9 : (kd != 9) = true := by simp [h9]
              by_cases h5 : kd = 5
              · have b5 : (kd == 5) = true := by simp [h5]
                have n5 : (kd != 5) = false := by simp [h5]
                have HH := Lib.hid h5
                have HH4 : Hid (¬ kd = 4) := Lib.hid (by omega)
                have HH9 : Hid (¬ kd = 9) := Lib.hid (by omega)
                clear h5 h4 h9
                go_wp2_with fail
                refine (take_any wx.heap.size w1.heap.size t1 _ HS.out.rest (by omega) (by have := HQ1.out.2; omega)).mono ?_
                rintro e wa1 ⟨rfl, hra1, hOa1⟩
                have HA1 := Lib.hid (PSt.turn HS.out hOa1 hra1)
                have hza1 := hOa1.size
                clear hra1 hOa1
                obtain ⟨sq1, hsq1⟩ : ∃ q, baOf (t1.headD []) = q := ⟨_, rfl⟩
                rw [hsq1]
                obtain ⟨m1, hm1⟩ : ∃ z, numD (t1.headD []) = z := ⟨_, rfl⟩
                obtain ⟨ok1, hok1⟩ : ∃ z, (parseNum (t1.headD [])).isSome = z := ⟨_, rfl⟩
                have hI1 : ∀ W, Gd W → Calls Tryd.prog 32 #[.string sq1] W (Gives W (.tuple #[.int .i64 m1, .bool ok1])) := fun W hg => by rw [← hm1, ← hok1]; have := implParseInt_any sq1 W (by rw [← hsq1]; exact HB.out.1 _ HQ1.out.1) hg; rw [show sq1.data.toList = t1.headD [] by rw [← hsq1]; rfl] at this; exact this
                have HM1 := Lib.hid hm1
                have hr1 : -9223372036854775808 ≤ m1 ∧ m1 ≤ 9223372036854775807 := by rw [← hm1]; have := numD_range (t1.headD []); omega
                clear hm1 hok1 hsq1
                go_wp2_with fail
                refine (hI1 _ (HG.out.bel HA1.out.bel)).mono ?_
                rintro e wb1 ⟨rfl, hbb1⟩
                have HB1 := Lib.hid (PSt.on HA1.out hbb1)
                have hzb1 := hbb1.size
                clear hbb1
                have y10 := HB1.out.x.c0; have y11 := HB1.out.x.c1; have y12 := HB1.out.x.c2; have y13 := HB1.out.x.c3
                have y1z0 := HB1.out.x.f0; have y1z1 := HB1.out.x.f1; have y1z2 := HB1.out.x.f2; have y1z3 := HB1.out.x.f3
                have HC1 := Lib.hid (PSt.put HB1.out 1 (.int .i64 m1) (HB1.out.x.set1 m1))
                have hzc1 : (wb1.setCell ⟨w1.heap.size, 1, none⟩ (.int .i64 m1)).heap.size = wb1.heap.size := by simp
                obtain ⟨wc1, hwc1⟩ : ∃ q, q = wb1.setCell ⟨w1.heap.size, 1, none⟩ (.int .i64 m1) := ⟨_, rfl⟩
                obtain ⟨t2, ht2⟩ : ∃ q, t1.tail = q := ⟨_, rfl⟩
                have HQ2 := Lib.hid (And.intro (HB.out.2.1 _ HQ1.out.1) (Nat.le_trans (HB.out.2.2 _) HQ1.out.2))
                rw [ht2] at HC1 HQ2
                have HT2 := Lib.hid ht2
                clear ht2 hwc1
                go_wp2_with fail
                refine (take_any wx.heap.size w1.heap.size t2 _ HC1.out.rest (by omega) (by have := HQ2.out.2; omega)).mono ?_
                rintro e wt ⟨rfl, hrt, hOt⟩
                have HA9 := Lib.hid (PSt.turn HC1.out hOt hrt)
                have hzt := hOt.size
                clear hrt hOt
                obtain ⟨tb, htb⟩ : ∃ q, baOf (t2.headD []) = q := ⟨_, rfl⟩
                rw [htb]
                have htz : tb.size ≤ 1048576 := by rw [← htb]; exact HB.out.1 _ HQ2.out.1
                have hcore : implCore ps = ⟨kd, m1, 0, tb⟩ := by
                  have e1 := HKD.out; have e2 := HT1.out
                  have f1 := HM1.out; have g1 := HT2.out
                  unfold implCore
                  simp only [e1, e2]
                  simp only [List.headD_eq_head?_getD] at htb f1
                  simp [HH.out, f1, g1, htb]
                have HCO := Lib.hid hcore
                clear hcore htb
                have y90 := HA9.out.x.c0; have y91 := HA9.out.x.c1; have y92 := HA9.out.x.c2; have y93 := HA9.out.x.c3
                have y9z0 := HA9.out.x.f0; have y9z1 := HA9.out.x.f1; have y9z2 := HA9.out.x.f2; have y9z3 := HA9.out.x.f3
                obtain ⟨sf, hsf⟩ : ∃ q, baOf (fmtL ⟨kd, m1, 0, tb⟩) = q := ⟨_, rfl⟩
                have hF : ∀ W, Gd W → Calls Tryd.prog 9 #[.agg #[.int .i64 kd, .int .i64 m1, .int .i64 0, .string tb]] W (Gives W (.string sf)) := fun W hg => by rw [← hsf]; exact implFormatCells_any kd m1 0 tb W (by unfold maxLen; omega) hg.tab
                have HSF := Lib.hid hsf
                clear hsf
                have HD9 := Lib.hid (PSt.put HA9.out 3 (.string tb) (HA9.out.x.set3 tb))
                go_wp2_with fail
                refine (hF _ (HG.out.bel HD9.out.bel)).mono ?_
                rintro e w4 ⟨rfl, hb4⟩
                have HE9 := Lib.hid (PSt.on HD9.out hb4)
                clear hb4
                have e0 := HE9.out.q.c0; have e1 := HE9.out.q.c1; have e2 := HE9.out.q.c2; have e3 := HE9.out.q.c3
                have g0 := HE9.out.q.f0; have g1 := HE9.out.q.f1; have g2 := HE9.out.q.f2; have g3 := HE9.out.q.f3
                have b0 := HE9.out.x.c0; have b1 := HE9.out.x.c1; have b2 := HE9.out.x.c2; have b3 := HE9.out.x.c3
                have hB4 := HE9.out.bel
                cases heq : (sf.toList == s.toList)
                · go_wp2_with fail
                  refine sets_ret4 (a' := .int .i64 0) (b' := .int .i64 0) (c' := .int .i64 0) (d' := .string ⟨#[]⟩) w.heap.size HE9.out.q.c0 HE9.out.q.c1 HE9.out.q.c2 HE9.out.q.c3 (fun W9 e9 c0 c1 c2 c3 => ?_)
                  refine bodyPost_ret (v := .tuple #[.agg #[.int .i64 0, .int .i64 0, .int .i64 0, .string ⟨#[]⟩], .bool false]) (by simp [results, Tryd.results10, go_sem, c0, c1, c2, c3]) rfl ?_
                  clear c0 c1 c2 c3
                  subst e9
                  refine ⟨?_, (by repeat (first | with_reducible exact Below.refl _ _ | with_reducible assumption | with_reducible refine bel_alloc ?_ _ | with_reducible refine bel_drew ?_ | with_reducible refine bel_drewN ?_ _ | (with_reducible refine bel_set ?_ ?_ _; rotate_left; ((try simp); (try omega)))))⟩
                  have hg : parseInstr s.data.toList = (insZero, false) := by
                    rw [parse_impl, HP.out, HCO.out]
                    exact if_neg (fun h => by
                      have e : sf = s := HSF.out.symm.trans ((congrArg baOf h.2).trans (baOf_of s))
                      rw [e] at heq; simp at heq)
                  rw [hg]; rfl
                · go_wp2_with fail
                  refine sets_ret4 (a' := .int .i64 0) (b' := .int .i64 0) (c' := .int .i64 0) (d' := .string ⟨#[]⟩) w.heap.size HE9.out.q.c0 HE9.out.q.c1 HE9.out.q.c2 HE9.out.q.c3 (fun W9 e9 c0 c1 c2 c3 => ?_)
                  refine bodyPost_ret (v := .tuple #[.agg #[.int .i64 kd, .int .i64 m1, .int .i64 0, .string tb], .bool true]) (by simp [results, Tryd.results10, go_sem, c0, c1, c2, c3]) rfl ?_
                  clear c0 c1 c2 c3
                  subst e9
                  refine ⟨?_, (by repeat (first | with_reducible exact Below.refl _ _ | with_reducible assumption | with_reducible refine bel_alloc ?_ _ | with_reducible refine bel_drew ?_ | with_reducible refine bel_drewN ?_ _ | (with_reducible refine bel_set ?_ ?_ _; rotate_left; ((try simp); (try omega)))))⟩
                  have hg : parseInstr s.data.toList = (⟨kd, m1, 0, tb⟩, true) := by
                    rw [parse_impl, HP.out, HCO.out]
                    exact if_pos ⟨HZ.out, baOf_inj (HSF.out.trans (Eq.trans (b := s) (ba_ext (by rw [Lib.toList_data, Lib.toList_data] at heq; exact eq_of_beq heq)) (baOf_of s).symm))⟩
                  rw [hg]; rfl
              · have b5 : (kd == 5) = false := by simp [h5]
                have n5 : (kd != 5) = true := by simp [h5]
                have HH4 := Lib.hid h4
                have HH9 := Lib.hid h9
                have HH5 := Lib.hid h5
                clear h4 h9 h5
                go_wp2_with fail
                refine (take_any wx.heap.size w1.heap.size t1 _ HS.out.rest (by omega) (by have := HQ1.out.2; omega)).mono ?_
                rintro e wa1 ⟨rfl, hra1, hOa1⟩
                have HA1 := Lib.hid (PSt.turn HS.out hOa1 hra1)
                have hza1 := hOa1.size
                clear hra1 hOa1
                obtain ⟨sq1, hsq1⟩ : ∃ q, baOf (t1.headD []) = q := ⟨_, rfl⟩
                rw [hsq1]
                obtain ⟨m1, hm1⟩ : ∃ z, numD (t1.headD []) = z := ⟨_, rfl⟩
                obtain ⟨ok1, hok1⟩ : ∃ z, (parseNum (t1.headD [])).isSome = z := ⟨_, rfl⟩
                have hI1 : ∀ W, Gd W → Calls Tryd.prog 32 #[.string sq1] W (Gives W (.tuple #[.int .i64 m1, .bool ok1])) := fun W hg => by rw [← hm1, ← hok1]; have := implParseInt_any sq1 W (by rw [← hsq1]; exact HB.out.1 _ HQ1.out.1) hg; rw [show sq1.data.toList = t1.headD [] by rw [← hsq1]; rfl] at this; exact this
                have HM1 := Lib.hid hm1
                have hr1 : -9223372036854775808 ≤ m1 ∧ m1 ≤ 9223372036854775807 := by rw [← hm1]; have := numD_range (t1.headD []); omega
                clear hm1 hok1 hsq1
                go_wp2_with fail
                refine (hI1 _ (HG.out.bel HA1.out.bel)).mono ?_
                rintro e wb1 ⟨rfl, hbb1⟩
                have HB1 := Lib.hid (PSt.on HA1.out hbb1)
                have hzb1 := hbb1.size
                clear hbb1
                have y10 := HB1.out.x.c0; have y11 := HB1.out.x.c1; have y12 := HB1.out.x.c2; have y13 := HB1.out.x.c3
                have y1z0 := HB1.out.x.f0; have y1z1 := HB1.out.x.f1; have y1z2 := HB1.out.x.f2; have y1z3 := HB1.out.x.f3
                have HC1 := Lib.hid (PSt.put HB1.out 1 (.int .i64 m1) (HB1.out.x.set1 m1))
                have hzc1 : (wb1.setCell ⟨w1.heap.size, 1, none⟩ (.int .i64 m1)).heap.size = wb1.heap.size := by simp
                obtain ⟨wc1, hwc1⟩ : ∃ q, q = wb1.setCell ⟨w1.heap.size, 1, none⟩ (.int .i64 m1) := ⟨_, rfl⟩
                obtain ⟨t2, ht2⟩ : ∃ q, t1.tail = q := ⟨_, rfl⟩
                have HQ2 := Lib.hid (And.intro (HB.out.2.1 _ HQ1.out.1) (Nat.le_trans (HB.out.2.2 _) HQ1.out.2))
                rw [ht2] at HC1 HQ2
                have HT2 := Lib.hid ht2
                clear ht2 hwc1
                go_wp2_with fail
                refine (take_any wx.heap.size w1.heap.size t2 _ HC1.out.rest (by omega) (by have := HQ2.out.2; omega)).mono ?_
                rintro e wa2 ⟨rfl, hra2, hOa2⟩
                have HA2 := Lib.hid (PSt.turn HC1.out hOa2 hra2)
                have hza2 := hOa2.size
                clear hra2 hOa2
                obtain ⟨sq2, hsq2⟩ : ∃ q, baOf (t2.headD []) = q := ⟨_, rfl⟩
                rw [hsq2]
                obtain ⟨m2, hm2⟩ : ∃ z, numD (t2.headD []) = z := ⟨_, rfl⟩
                obtain ⟨ok2, hok2⟩ : ∃ z, (parseNum (t2.headD [])).isSome = z := ⟨_, rfl⟩
                have hI2 : ∀ W, Gd W → Calls Tryd.prog 32 #[.string sq2] W (Gives W (.tuple #[.int .i64 m2, .bool ok2])) := fun W hg => by rw [← hm2, ← hok2]; have := implParseInt_any sq2 W (by rw [← hsq2]; exact HB.out.1 _ HQ2.out.1) hg; rw [show sq2.data.toList = t2.headD [] by rw [← hsq2]; rfl] at this; exact this
                have HM2 := Lib.hid hm2
                have hr2 : -9223372036854775808 ≤ m2 ∧ m2 ≤ 9223372036854775807 := by rw [← hm2]; have := numD_range (t2.headD []); omega
                clear hm2 hok2 hsq2
                go_wp2_with fail
                refine (hI2 _ (HG.out.bel HA2.out.bel)).mono ?_
                rintro e wb2 ⟨rfl, hbb2⟩
                have HB2 := Lib.hid (PSt.on HA2.out hbb2)
                have hzb2 := hbb2.size
                clear hbb2
                have y20 := HB2.out.x.c0; have y21 := HB2.out.x.c1; have y22 := HB2.out.x.c2; have y23 := HB2.out.x.c3
                have y2z0 := HB2.out.x.f0; have y2z1 := HB2.out.x.f1; have y2z2 := HB2.out.x.f2; have y2z3 := HB2.out.x.f3
                have HC2 := Lib.hid (PSt.put HB2.out 2 (.int .i64 m2) (HB2.out.x.set2 m2))
                have hzc2 : (wb2.setCell ⟨w1.heap.size, 2, none⟩ (.int .i64 m2)).heap.size = wb2.heap.size := by simp
                obtain ⟨wc2, hwc2⟩ : ∃ q, q = wb2.setCell ⟨w1.heap.size, 2, none⟩ (.int .i64 m2) := ⟨_, rfl⟩
                obtain ⟨t3, ht3⟩ : ∃ q, t2.tail = q := ⟨_, rfl⟩
                have HQ3 := Lib.hid (And.intro (HB.out.2.1 _ HQ2.out.1) (Nat.le_trans (HB.out.2.2 _) HQ2.out.2))
                rw [ht3] at HC2 HQ3
                have HT3 := Lib.hid ht3
                clear ht3 hwc2
                go_wp2_with fail
                refine (take_any wx.heap.size w1.heap.size t3 _ HC2.out.rest (by omega) (by have := HQ3.out.2; omega)).mono ?_
                rintro e wt ⟨rfl, hrt, hOt⟩
                have HA9 := Lib.hid (PSt.turn HC2.out hOt hrt)
                have hzt := hOt.size
                clear hrt hOt
                obtain ⟨tb, htb⟩ : ∃ q, baOf (t3.headD []) = q := ⟨_, rfl⟩
                rw [htb]
                have htz : tb.size ≤ 1048576 := by rw [← htb]; exact HB.out.1 _ HQ3.out.1
                have hcore : implCore ps = ⟨kd, m1, m2, tb⟩ := by
                  have e1 := HKD.out; have e2 := HT1.out
                  have f1 := HM1.out; have g1 := HT2.out
                  have f2 := HM2.out; have g2 := HT3.out
                  unfold implCore
                  simp only [e1, e2]
                  simp only [List.headD_eq_head?_getD] at htb f1 f2
                  simp [HH4.out, HH9.out, HH5.out, f1, f2, g1, g2, htb]
                have HCO := Lib.hid hcore
                clear hcore htb
                have y90 := HA9.out.x.c0; have y91 := HA9.out.x.c1; have y92 := HA9.out.x.c2; have y93 := HA9.out.x.c3
                have y9z0 := HA9.out.x.f0; have y9z1 := HA9.out.x.f1; have y9z2 := HA9.out.x.f2; have y9z3 := HA9.out.x.f3
                obtain ⟨sf, hsf⟩ : ∃ q, baOf (fmtL ⟨kd, m1, m2, tb⟩) = q := ⟨_, rfl⟩
                have hF : ∀ W, Gd W → Calls Tryd.prog 9 #[.agg #[.int .i64 kd, .int .i64 m1, .int .i64 m2, .string tb]] W (Gives W (.string sf)) := fun W hg => by rw [← hsf]; exact implFormatCells_any kd m1 m2 tb W (by unfold maxLen; omega) hg.tab
                have HSF := Lib.hid hsf
                clear hsf
                have HD9 := Lib.hid (PSt.put HA9.out 3 (.string tb) (HA9.out.x.set3 tb))
                go_wp2_with fail
                refine (hF _ (HG.out.bel HD9.out.bel)).mono ?_
                rintro e w4 ⟨rfl, hb4⟩
                have HE9 := Lib.hid (PSt.on HD9.out hb4)
                clear hb4
                have e0 := HE9.out.q.c0; have e1 := HE9.out.q.c1; have e2 := HE9.out.q.c2; have e3 := HE9.out.q.c3
                have g0 := HE9.out.q.f0; have g1 := HE9.out.q.f1; have g2 := HE9.out.q.f2; have g3 := HE9.out.q.f3
                have b0 := HE9.out.x.c0; have b1 := HE9.out.x.c1; have b2 := HE9.out.x.c2; have b3 := HE9.out.x.c3
                have hB4 := HE9.out.bel
                cases heq : (sf.toList == s.toList)
                · go_wp2_with fail
                  refine sets_ret4 (a' := .int .i64 0) (b' := .int .i64 0) (c' := .int .i64 0) (d' := .string ⟨#[]⟩) w.heap.size HE9.out.q.c0 HE9.out.q.c1 HE9.out.q.c2 HE9.out.q.c3 (fun W9 e9 c0 c1 c2 c3 => ?_)
                  refine bodyPost_ret (v := .tuple #[.agg #[.int .i64 0, .int .i64 0, .int .i64 0, .string ⟨#[]⟩], .bool false]) (by simp [results, Tryd.results10, go_sem, c0, c1, c2, c3]) rfl ?_
                  clear c0 c1 c2 c3
                  subst e9
                  refine ⟨?_, (by repeat (first | with_reducible exact Below.refl _ _ | with_reducible assumption | with_reducible refine bel_alloc ?_ _ | with_reducible refine bel_drew ?_ | with_reducible refine bel_drewN ?_ _ | (with_reducible refine bel_set ?_ ?_ _; rotate_left; ((try simp); (try omega)))))⟩
                  have hg : parseInstr s.data.toList = (insZero, false) := by
                    rw [parse_impl, HP.out, HCO.out]
                    exact if_neg (fun h => by
                      have e : sf = s := HSF.out.symm.trans ((congrArg baOf h.2).trans (baOf_of s))
                      rw [e] at heq; simp at heq)
                  rw [hg]; rfl
                · go_wp2_with fail
                  refine sets_ret4 (a' := .int .i64 0) (b' := .int .i64 0) (c' := .int .i64 0) (d' := .string ⟨#[]⟩) w.heap.size HE9.out.q.c0 HE9.out.q.c1 HE9.out.q.c2 HE9.out.q.c3 (fun W9 e9 c0 c1 c2 c3 => ?_)
                  refine bodyPost_ret (v := .tuple #[.agg #[.int .i64 kd, .int .i64 m1, .int .i64 m2, .string tb], .bool true]) (by simp [results, Tryd.results10, go_sem, c0, c1, c2, c3]) rfl ?_
                  clear c0 c1 c2 c3
                  subst e9
                  refine ⟨?_, (by repeat (first | with_reducible exact Below.refl _ _ | with_reducible assumption | with_reducible refine bel_alloc ?_ _ | with_reducible refine bel_drew ?_ | with_reducible refine bel_drewN ?_ _ | (with_reducible refine bel_set ?_ ?_ _; rotate_left; ((try simp); (try omega)))))⟩
                  have hg : parseInstr s.data.toList = (⟨kd, m1, m2, tb⟩, true) := by
                    rw [parse_impl, HP.out, HCO.out]
                    exact if_pos ⟨HZ.out, baOf_inj (HSF.out.trans (Eq.trans (b := s) (ba_ext (by rw [Lib.toList_data, Lib.toList_data] at heq; exact eq_of_beq heq)) (baOf_of s).symm))⟩
                  rw [hg]; rfl
end Go.Proofs.YtlicnppfgfjkgaaDoor
