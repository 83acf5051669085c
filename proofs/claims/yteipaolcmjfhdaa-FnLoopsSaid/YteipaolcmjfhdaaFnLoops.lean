/-
  The law FnLoops: tasks come in their order, and all microtasks before the next task. No conditions.
-/
import Derived.Test.YteipaolcmjfhdaaRows
import Derived.Test.YteipaolcmjfhdaaAtFn
import Derived.Test.YteipaolcmjfhdaaPostFn
import Derived.Test.YteipaolcmjfhdaaNextFn
import Derived.Test.YteipaolcmjfhdaaUpd
namespace Go.Proofs.Yteipaolcmjfhdaa
open Go.ChangeShapes Go.WideShapes Go.RowKit
set_option linter.unusedVariables false

def evenAt (xs : List UInt8) (i : Nat) : Bool := (atC xs i).tmod 2 == 0
/-! ### Plain: the queue filled, then emptied -/
def lpost (b : Nat → Bool) : Nat → TLoop
  | 0 => ⟨[], []⟩
  | i + 1 => ⟨(lpost b i).tasks ++ [(i : Int)], bif b i then (lpost b i).micro ++ [100 + (i : Int)] else (lpost b i).micro⟩
def tf (j : Nat) : List Int := (List.range' j (6 - j)).map Int.ofNat
theorem tf_end : tf 6 = [] := rfl
theorem tf_step {j : Nat} (h : j < 6) : tf j = (j : Int) :: tf (j + 1) := by
  unfold tf
  obtain ⟨k, hk⟩ : ∃ k, 6 - j = k + 1 := ⟨5 - j, by omega⟩
  rw [hk, List.range'_succ, show 6 - (j + 1) = k by omega]; rfl
theorem tf_len (j : Nat) : (tf j).length = 6 - j := by simp [tf]
theorem lpost_tasks (b : Nat → Bool) : ∀ i, (lpost b i).tasks.length = i
  | 0 => rfl
  | i + 1 => by simp [lpost, lpost_tasks b i]
theorem lpost_micro_le (b : Nat → Bool) : ∀ i, (lpost b i).micro.length ≤ i
  | 0 => Nat.le_refl _
  | i + 1 => by
    have := lpost_micro_le b i
    simp only [lpost]
    cases b i <;> simp <;> omega
theorem lpost_six (b : Nat → Bool) : (lpost b 6).tasks = tf 0 := rfl
theorem lpost_micro (b : Nat → Bool) : ∀ i, (∀ m, m ∈ (lpost b i).micro → 100 ≤ m ∧ m < 100 + (i : Int)) ∧ (lpost b i).micro.Pairwise (· < ·)
  | 0 => by simp [lpost]
  | i + 1 => by
    obtain ⟨h1, h2⟩ := lpost_micro b i
    simp only [lpost]
    cases b i with
    | false => exact ⟨fun m hm => by have := h1 m hm; omega, h2⟩
    | true =>
      refine ⟨fun m hm => ?_, List.pairwise_append.2 ⟨h2, by simp, fun a ha c hc => ?_⟩⟩
      · rcases List.mem_append.1 hm with hm | hm
        · have := h1 m hm; omega
        · rw [List.mem_singleton.1 hm]; omega
      · have := h1 a ha; rw [List.mem_singleton.1 hc]; omega
/-- what holds while the queue is emptied -/
structure Inv (x : TLoop) (j : Nat) (mi : Int) : Prop where
  j6 : j ≤ 6
  tasks : x.tasks = tf j
  micro : ∀ m, m ∈ x.micro → mi < m ∧ 100 ≤ m ∧ m ≤ 1000
  pw : x.micro.Pairwise (· < ·)
  first : x.micro ≠ [] → j = 0
  mi : 99 ≤ mi ∧ mi ≤ 1000
  len : x.micro.length ≤ 6
theorem Inv.start (b : Nat → Bool) : Inv (lpost b 6) 0 99 :=
  ⟨by omega, lpost_six b, fun m hm => by have := (lpost_micro b 6).1 m hm; omega, (lpost_micro b 6).2, fun _ => rfl, by omega, lpost_micro_le b 6⟩
theorem Inv.micro_ {ts ms : List Int} {m mi : Int} {j : Nat} (h : Inv ⟨ts, m :: ms⟩ j mi) : Inv ⟨ts, ms⟩ j m :=
  ⟨h.j6, h.tasks, fun k hk => ⟨(List.pairwise_cons.1 h.pw).1 k hk, (h.micro k (by simp [hk])).2⟩, (List.pairwise_cons.1 h.pw).2, fun _ => h.first (by simp), by have := h.micro m (by simp); omega, by have := h.len; simp at this ⊢; omega⟩
theorem Inv.task {ts : List Int} {mi : Int} {j : Nat} (h : Inv ⟨ts, []⟩ j mi) (hj : j < 6) : ts = (j : Int) :: tf (j + 1) ∧ Inv ⟨tf (j + 1), []⟩ (j + 1) mi :=
  ⟨h.tasks.trans (tf_step hj), by omega, rfl, by simp, by simp, by simp, h.mi, by simp⟩

/-- the box b holds this queue -/
structure QBox (w wr : World) (b : Nat) (x : TLoop) : Prop where
  rep : ∃ A0 c0 A1 c1 F, wr.cell? ⟨b, 0, none⟩ = some (.slice A0 x.tasks.length c0) ∧ wr.cell? ⟨b, 1, none⟩ = some (.slice A1 x.micro.length c1) ∧ cLoop.rep wr [.slice A0 x.tasks.length c0, .slice A1 x.micro.length c1] x F ∧ ∀ y, y ∈ F → y ≠ b
  lt : b < wr.heap.size
  f0 : wr.frozen? ⟨b, 0, none⟩ = false
  f1 : wr.frozen? ⟨b, 1, none⟩ = false
  bel : Below w.heap.size w wr
theorem q_post {x : TLoop} {i : Nat} (h : x.tasks.length = i) (hi : i < 6) : postTask x i = (⟨x.tasks ++ [(i : Int)], x.micro⟩, true) := by
  unfold postTask; rw [decide_eq_false (by omega)]; rfl
theorem q_micro {x : TLoop} {m : Int} (h : x.micro.length < 16) : postMicro x m = (⟨x.tasks, x.micro ++ [m]⟩, true) := by
  unfold postMicro; rw [decide_eq_false (by omega)]; rfl
theorem q_set {w wr : World} {b : Nat} {x : TLoop} {A0 A1 : Option Addr} {c0 c1 : Nat} {F : List Nat} {u0 u1 : Value} (h0 : wr.cell? ⟨b, 0, none⟩ = some u0) (h1 : wr.cell? ⟨b, 1, none⟩ = some u1)
    (hr : cLoop.rep wr [.slice A0 x.tasks.length c0, .slice A1 x.micro.length c1] x F) (hF : ∀ y, y ∈ F → y ≠ b) (hb : w.heap.size ≤ b) (hbl : b < wr.heap.size) (f0 : wr.frozen? ⟨b, 0, none⟩ = false) (f1 : wr.frozen? ⟨b, 1, none⟩ = false) (hB : Below w.heap.size w wr) :
    QBox w ((wr.setCell ⟨b, 0, none⟩ (.slice A0 x.tasks.length c0)).setCell ⟨b, 1, none⟩ (.slice A1 x.micro.length c1)) b x := by
  have k1 : (wr.setCell ⟨b, 0, none⟩ (.slice A0 x.tasks.length c0)).cell? ⟨b, 1, none⟩ = some u1 := by
    rw [World.cell?_setCell_other wr ⟨b, 0, none⟩ ⟨b, 1, none⟩ _ (fun e => by injection e with _ e; omega)]; exact h1
  refine ⟨⟨A0, c0, A1, c1, F, ?_, cell?_set_same k1, Cod.set_ (Cod.set_ hr (fun hm => hF b hm rfl) 0 _) (fun hm => hF b hm rfl) 1 _, hF⟩, by simpa using hbl, ?_, ?_, bel_set (bel_set hB hb _) hb _⟩
  · rw [World.cell?_setCell_other _ ⟨b, 1, none⟩ ⟨b, 0, none⟩ _ (fun e => by injection e with _ e; omega)]
    exact cell?_set_same h0
  · rw [frozen?_set, frozen?_set]; exact f0
  · rw [frozen?_set, frozen?_set]; exact f1

theorem QBox.bel_ {w wr wr' : World} {b : Nat} {x : TLoop} (h : QBox w wr b x) (hb : Below wr.heap.size wr wr') : QBox w wr' b x := by
  obtain ⟨A0, c0, A1, c1, F, h0, h1, hr, hF⟩ := h.rep
  exact ⟨⟨A0, c0, A1, c1, F, (hb.cell (p := ⟨b, 0, none⟩) h.lt).trans h0, (hb.cell (p := ⟨b, 1, none⟩) h.lt).trans h1, Cod.bel hr hb, hF⟩, Nat.lt_of_lt_of_le h.lt hb.size, (hb.frozen (p := ⟨b, 0, none⟩) h.lt).trans h.f0, (hb.frozen (p := ⟨b, 1, none⟩) h.lt).trans h.f1, bel_then h.bel hb⟩
set_option maxRecDepth 100000 in
set_option maxHeartbeats 4000000 in
theorem lawLoops_any (v : Value) (xs : List UInt8) (F0 : List Nat) (w : World) (h : cUS.rep w [v] xs F0) :
    Calls Try.prog 3 #[v] w (Gives w (.bool true)) := by
  obtain ⟨A, cp, rfl⟩ := cL_form h
  obtain ⟨-, hcp, hm⟩ := cL_len h
  unfold maxLen at hm
  obtain ⟨n, hxn⟩ : ∃ n, xs.length = n := ⟨_, rfl⟩
  have HN := Lib.hid hxn
  rw [hxn] at h hcp ⊢
  clear hxn
  cases hbig : decide ((1048576 : Int) < n) with
  | true =>
    go_enter Try.func3, Try.ntmps3
    go_wp2_with (go_at_call 11; refine (big_any _ _ _ _).mono ?_; rw [hbig]; rintro e w1 ⟨rfl, rfl⟩)
    go_ret
    exact ⟨rfl, (by repeat (first | with_reducible exact Below.refl _ _ | with_reducible assumption | with_reducible refine bel_alloc ?_ _ | with_reducible refine bel_drew ?_ | with_reducible refine bel_drewN ?_ _ | (with_reducible refine bel_set ?_ ?_ _; rotate_left; ((try simp); (try omega)))))⟩
  | false =>
    have hnl : n ≤ 1048576 := by simp at hbig; omega
    go_enter Try.func3, Try.ntmps3
    go_wp2_with (go_at_call 11; refine (big_any _ _ _ _).mono ?_; rw [hbig]; rintro e w1 ⟨rfl, rfl⟩)
    generalize hW : World.alloc _ _ = W
    have hWs : W.heap.size = w.heap.size + 1 := by rw [← hW]; clear hW; simp
    have hbW : Below w.heap.size w W := by rw [← hW]; exact (by repeat (first | with_reducible exact Below.refl _ _ | with_reducible assumption | with_reducible refine bel_alloc ?_ _ | with_reducible refine bel_drew ?_ | with_reducible refine bel_drewN ?_ _ | (with_reducible refine bel_set ?_ ?_ _; rotate_left; ((try simp); (try omega)))))
    have HK := Lib.hid (show W.cell? ⟨w.heap.size, 0, none⟩ = some (.slice none 0 0) ∧ W.cell? ⟨w.heap.size, 1, none⟩ = some (.slice none 0 0) from by refine ⟨?_, ?_⟩ <;> (rw [← hW]; clear hW; go_simp))
    have HZ0 : W.frozen? ⟨w.heap.size, 0, none⟩ = false := by rw [← hW]; clear hW; go_simp
    have HZ1 : W.frozen? ⟨w.heap.size, 1, none⟩ = false := by rw [← hW]; clear hW; go_simp
    clear hW
    go_loopw [4] (fun i wr => ∃ k : Nat, k ≤ 6 ∧ i = .int .i64 k ∧ QBox w wr w.heap.size (lpost (evenAt xs) k)) (fun i _ => 6 - (intOf i).toNat)
    case atStart => exact ⟨0, by omega, rfl, ⟨none, 0, none, 0, [], HK.out.1, HK.out.2, TLoop.mk_ (x := ⟨[], []⟩) (F0 := []) (F1 := []) trivial ⟨none, 0, rfl, Nat.le_refl _, by decide, .inl ⟨rfl, rfl⟩⟩ ⟨none, 0, rfl, Nat.le_refl _, by decide, .inl ⟨rfl, rfl⟩⟩, by simp⟩, by omega, HZ0, HZ1, hbW⟩
    case round =>
      obtain ⟨k, hk, rfl, ⟨A0, c0, A1, c1, F, q0, q1, hrep, hF⟩, hlt, f0, f1, hB⟩ := hrel
      by_cases hk6 : k < 6
      · have hlen := lpost_tasks (evenAt xs) k
        have hml := lpost_micro_le (evenAt xs) k
        have hsz : cLoop.sz (lpost (evenAt xs) k) ≤ 1048576 := by rw [cLoop_sz]; omega
        have hpt := q_post hlen hk6
        obtain ⟨x1, hx1⟩ : ∃ x1 : TLoop, (⟨(lpost (evenAt xs) k).tasks ++ [(k : Int)], (lpost (evenAt xs) k).micro⟩ : TLoop) = x1 := ⟨_, rfl⟩
        rw [hx1] at hpt
        have hx1m : x1.micro.length ≤ 6 := by rw [← hx1]; exact Nat.le_trans hml hk
        have hx1t : x1.tasks.length ≤ 6 := by rw [← hx1]; simp; omega
        have hkk : (k : Int) < 6 := by omega
        clear hlen hml
        go_wp2_with fail
        refine (implPostTask_any _ (lpost (evenAt xs) k) _ _ _ (by exact Cod.bel hrep (by repeat (first | with_reducible exact Below.refl _ _ | with_reducible assumption | with_reducible refine bel_alloc ?_ _ | with_reducible refine bel_drew ?_ | with_reducible refine bel_drewN ?_ _ | (with_reducible refine bel_set ?_ ?_ _; rotate_left; ((try simp); (try omega)))))) hsz (by omega)).mono ?_
        rw [hpt]
        rintro e w1 ⟨vs1, G1, rfl, hb1, hrep1, hf1⟩
        replace hrep1 : cLoop.rep w1 vs1.toList x1 G1 := hrep1
        obtain ⟨u0, u1, H0, H1, rfl, rfl, -, n0, n1⟩ := TLoop.outA hrep1
        obtain ⟨B0, d0, rfl⟩ := cL_form n0
        obtain ⟨B1, d1, rfl⟩ := cL_form n1
        have hz1 := hb1.size
        have hl1 : w.heap.size < w1.heap.size := by omega
        obtain ⟨hc1, hff1, -⟩ := bcell hb1
        have hB1 : Below w.heap.size w w1 := bel_then hB hb1
        have hF1 : ∀ y, y ∈ H0 ++ H1 → y ≠ w.heap.size := fun y hy => by have := hf1.1 y hy; omega
        have g0 : w1.cell? ⟨w.heap.size, 0, none⟩ = some (.slice A0 (lpost (evenAt xs) k).tasks.length c0) := (hc1 _ _ hlt).trans q0
        have g1 : w1.cell? ⟨w.heap.size, 1, none⟩ = some (.slice A1 (lpost (evenAt xs) k).micro.length c1) := (hc1 _ _ hlt).trans q1
        have y0 : w1.frozen? ⟨w.heap.size, 0, none⟩ = false := (hff1 _ _ hlt).trans f0
        have y1 : w1.frozen? ⟨w.heap.size, 1, none⟩ = false := (hff1 _ _ hlt).trans f1
        have hlt1 : ∀ y, y ∈ H0 ++ H1 → y < w1.heap.size := Cod.lt _ hrep1
        have hne1 : ¬ w1.heap.size = w.heap.size := by omega
        have hne2 : ¬ w.heap.size = w1.heap.size := by omega
        have HQ := Lib.hid (q_set (w := w) (wr := w1) (x := x1) g0 g1 hrep1 hF1 (Nat.le_refl _) hl1 y0 y1 hB1)
        have HP1 := Lib.hid hrep1
        clear hb1 hrep1 hf1 hc1 hff1 q0 q1 f0 f1 hrep hF n0 n1
        cases hev : evenAt xs k with
        | false =>
          have hx2 : lpost (evenAt xs) (k + 1) = x1 := by rw [← hx1]; simp [lpost, hev]
          have hev' : ((atC xs k).tmod 2 == 0) = false := hev
          go_wp2_with (go_at_call 13; refine (at_any _ _ _ xs _ k _ (by exact Cod.bel h (by repeat (first | with_reducible exact Below.refl _ _ | with_reducible assumption | with_reducible refine bel_alloc ?_ _ | with_reducible refine bel_drew ?_ | with_reducible refine bel_drewN ?_ _ | (with_reducible refine bel_set ?_ ?_ _; rotate_left; ((try simp); (try omega)))))) hnl (by omega)).mono ?_; rintro e w9 ⟨rfl, rfl⟩)
          go_roundw
          case rel => exact ⟨k + 1, by omega, by go_num, by rw [hx2]; exact HQ.out.bel_ (bel_alloc (Below.refl _ _) _)⟩
          case measure => simp [intOf]; omega
        | true =>
          have hx2 : lpost (evenAt xs) (k + 1) = ⟨x1.tasks, x1.micro ++ [100 + (k : Int)]⟩ := by rw [← hx1]; simp [lpost, hev]
          have hev' : ((atC xs k).tmod 2 == 0) = true := hev
          have hpm := q_micro (x := x1) (m := 100 + (k : Int)) (by omega)
          have hszm : cLoop.sz x1 ≤ 1048576 := by rw [cLoop_sz]; omega
          go_wp2_with (go_at_call 13; refine (at_any _ _ _ xs _ k _ (by exact Cod.bel h (by repeat (first | with_reducible exact Below.refl _ _ | with_reducible assumption | with_reducible refine bel_alloc ?_ _ | with_reducible refine bel_drew ?_ | with_reducible refine bel_drewN ?_ _ | (with_reducible refine bel_set ?_ ?_ _; rotate_left; ((try simp); (try omega)))))) hnl (by omega)).mono ?_; rintro e w9 ⟨rfl, rfl⟩)
          refine (implPostMicro_any _ x1 _ _ _ (by exact Cod.bel (Cod.set_ (Cod.set_ HP1.out (fun hm => hF1 _ hm rfl) 0 _) (fun hm => hF1 _ hm rfl) 1 _) (bel_alloc (Below.refl _ _) _)) hszm (by omega)).mono ?_
          rw [hpm]
          rintro e w2 ⟨vs2, G2, rfl, hb2, hrep2, hf2⟩
          replace hrep2 : cLoop.rep w2 vs2.toList ⟨x1.tasks, x1.micro ++ [100 + (k : Int)]⟩ G2 := hrep2
          obtain ⟨u0, u1, H2, H3, rfl, rfl, -, n2, n3⟩ := TLoop.outA hrep2
          obtain ⟨B2, d2, rfl⟩ := cL_form n2
          obtain ⟨B3, d3, rfl⟩ := cL_form n3
          obtain ⟨⟨a0, e0, a1, e1, F', k0, k1, -, -⟩, hl, r0, r1, hBW⟩ := HQ.out.bel_ (bel_alloc (Below.refl _ _) (.cells #[.slice B0 x1.tasks.length d0, .slice B1 x1.micro.length d1] 26))
          have s0 : w2.cell? ⟨w.heap.size, 0, none⟩ = some _ := (hb2.cell (p := ⟨w.heap.size, 0, none⟩) hl).trans k0
          have s1 : w2.cell? ⟨w.heap.size, 1, none⟩ = some _ := (hb2.cell (p := ⟨w.heap.size, 1, none⟩) hl).trans k1
          have z0 : w2.frozen? ⟨w.heap.size, 0, none⟩ = false := (hb2.frozen (p := ⟨w.heap.size, 0, none⟩) hl).trans r0
          have z1 : w2.frozen? ⟨w.heap.size, 1, none⟩ = false := (hb2.frozen (p := ⟨w.heap.size, 1, none⟩) hl).trans r1
          have hB2 : Below w.heap.size w w2 := bel_then hBW hb2
          have hz2 := hb2.size
          have hl2 : w.heap.size < w2.heap.size := Nat.lt_of_lt_of_le hl hz2
          have hr9 := q_set (x := ⟨x1.tasks, x1.micro ++ [100 + (k : Int)]⟩) s0 s1 hrep2 (fun y hy => by have h8 := hf2.1 y hy; have h9 : w.heap.size < _ := hl; omega) (Nat.le_refl _) hl2 z0 z1 hB2
          simp only [List.length_append, List.length_singleton] at hr9
          have HR := Lib.hid hr9
          clear hr9
          clear hb2 hrep2 hf2 n2 n3 k0 k1 r0 r1 hBW hl
          go_wp2_with fail
          go_roundw
          case rel => exact ⟨k + 1, by omega, by go_num, by rw [hx2]; exact HR.out⟩
          case measure => simp [intOf]; omega
      · obtain rfl : k = 6 := by omega
        have hi0 := Inv.start (evenAt xs)
        have hlen := lpost_tasks (evenAt xs) 6
        have hml := lpost_micro_le (evenAt xs) 6
        obtain ⟨x, hx⟩ : ∃ x, lpost (evenAt xs) 6 = x := ⟨_, rfl⟩
        rw [hx] at hi0 hlen hml q0 q1 hrep
        clear hx
        have HX := Lib.hid hlen
        have hmx : x.tasks.length ≤ 6 := by omega
        clear hlen
        have hq0 : QBox w wr w.heap.size x := ⟨⟨A0, c0, A1, c1, F, q0, q1, hrep, hF⟩, hlt, f0, f1, hB⟩
        have HQ0 := Lib.hid hq0
        have hsw : IntKind.i64.wrap ((x.tasks.length : Int) + x.micro.length) = (x.tasks.length : Int) + x.micro.length := IntWalk.i64_in _ (by omega)
        clear hq0 hrep hF
        go_wp2_with fail
        go_loopw [7, 8, 9] (fun a b c wr => ∃ (y : TLoop) (j : Nat) (mi tk cc : Int), a = .int .i64 tk ∧ tk = (j : Int) - 1 ∧ b = .int .i64 mi ∧ c = .int .i64 cc ∧ cc = (y.tasks.length : Int) + y.micro.length ∧ Inv y j mi ∧ QBox w wr w.heap.size y) (fun _ _ c _ => (intOf c).toNat)
        case atStart => exact ⟨x, 0, 99, -1, _, by simp, by omega, rfl, rfl, by simp, hi0, HQ0.out⟩
        case round =>
          obtain ⟨y, j, mi, tk, cc, rfl, htk, rfl, rfl, hcc, hI, ⟨A0, c0, A1, c1, F, q0, q1, hrep, hF⟩, hlt, f0, f1, hB⟩ := hrel
          have hjl := tf_len j
          have htl : y.tasks.length = 6 - j := by rw [hI.tasks]; exact hjl
          have hml2 := hI.len
          have hj6 := hI.j6
          have hmi := hI.mi
          have hsz : cLoop.sz y ≤ 1048576 := by rw [cLoop_sz]; omega
          have hccb : 0 ≤ cc ∧ cc ≤ 12 := by omega
          have hlt' := hlt
          obtain ⟨ts, ms⟩ := y
          match ms, ts with
          | m :: ms, ts =>
            obtain rfl : j = 0 := hI.first (by simp)
            obtain rfl : tk = -1 := by omega
            have hI2 := hI.micro_
            have hm9 := hI.micro m (by simp)
            have hcp1 : 0 < cc := by simp at hcc; omega
            have hcc2 : cc - 1 = (ts.length : Int) + ms.length := by simp at hcc; omega
            have h1 : (100 : Int) ≤ m := hm9.2.1
            have h2 : ¬ m ≤ mi := by omega
            have hmb : m ≤ 1000 := hm9.2.2
            have HI := Lib.hid hI2
            have HC := Lib.hid hcc2
            clear hI hI2 hcc hcc2 hm9 htl hjl hml2 htk hlt'
            go_wp2_with fail
            refine (implNextTask_any _ ⟨ts, m :: ms⟩ _ _ (by exact Cod.bel hrep (by repeat (first | with_reducible exact Below.refl _ _ | with_reducible assumption | with_reducible refine bel_alloc ?_ _ | with_reducible refine bel_drew ?_ | with_reducible refine bel_drewN ?_ _ | (with_reducible refine bel_set ?_ ?_ _; rotate_left; ((try simp); (try omega)))))) hsz).mono ?_
            rw [show nextTask ⟨ts, m :: ms⟩ = (⟨ts, ms⟩, m, true) from rfl]
            rintro e w1 ⟨vs1, G1, rfl, hb1, hrep1, hf1⟩
            replace hrep1 : cLoop.rep w1 vs1.toList ⟨ts, ms⟩ G1 := hrep1
            obtain ⟨u0, u1, H0, H1, rfl, rfl, -, n0, n1⟩ := TLoop.outA hrep1
            obtain ⟨B0, d0, rfl⟩ := cL_form n0
            obtain ⟨B1, d1, rfl⟩ := cL_form n1
            have g0 := (hb1.cell (p := ⟨w.heap.size, 0, none⟩) hlt).trans q0
            have g1 := (hb1.cell (p := ⟨w.heap.size, 1, none⟩) hlt).trans q1
            have y0 : w1.frozen? ⟨w.heap.size, 0, none⟩ = false := (hb1.frozen (p := ⟨w.heap.size, 0, none⟩) hlt).trans f0
            have y1 : w1.frozen? ⟨w.heap.size, 1, none⟩ = false := (hb1.frozen (p := ⟨w.heap.size, 1, none⟩) hlt).trans f1
            have hz1 := hb1.size
            have hl1 : w.heap.size < w1.heap.size := by omega
            have hne1 : ¬ w1.heap.size = w.heap.size := by omega
            have hne2 : ¬ w.heap.size = w1.heap.size := by omega
            have HQ := Lib.hid (q_set (w := w) (x := ⟨ts, ms⟩) g0 g1 hrep1 (fun y hy => by have := hf1.1 y hy; omega) (Nat.le_refl _) hl1 y0 y1 (bel_then hB hb1))
            clear hb1 hrep1 hf1 q0 q1 f0 f1 hrep hF n0 n1
            go_wp2_with fail
            go_roundw
            case rel => exact ⟨_, _, _, _, ⟨⟨ts, ms⟩, 0, m, -1, rfl, by omega, rfl, cc - 1, rfl, HC.out, HI.out, HQ.out.bel_ (bel_alloc (Below.refl _ _) _)⟩, rfl, rfl, rfl, rfl⟩
            case measure => simp [intOf]; omega
          | [], t :: ts =>
            have hj : j < 6 := by simp at htl; omega
            obtain ⟨hts, hI2⟩ := hI.task hj
            simp only [List.cons.injEq] at hts
            obtain ⟨rfl, rfl⟩ := hts
            have hcp1 : 0 < cc := by simp at hcc; omega
            have hcc2 : cc - 1 = ((tf (j + 1)).length : Int) + (([] : List Int).length : Int) := by simp at hcc ⊢; omega
            have h1 : ¬ (100 : Int) ≤ j := by omega
            have h4 : (j : Int) < 100 := by omega
            have h5 : ((j : Int) != tk + 1) = false := by simp; omega
            have htkb : -1 ≤ tk ∧ tk ≤ 5 := by omega
            have HI := Lib.hid hI2
            have HC := Lib.hid (And.intro hcc2 htk)
            clear hI hI2 hcc hcc2 htl hjl htk hlt'
            go_wp2_with fail
            refine (implNextTask_any _ ⟨(j : Int) :: tf (j + 1), []⟩ _ _ (by exact Cod.bel hrep (by repeat (first | with_reducible exact Below.refl _ _ | with_reducible assumption | with_reducible refine bel_alloc ?_ _ | with_reducible refine bel_drew ?_ | with_reducible refine bel_drewN ?_ _ | (with_reducible refine bel_set ?_ ?_ _; rotate_left; ((try simp); (try omega)))))) hsz).mono ?_
            rw [show nextTask ⟨(j : Int) :: tf (j + 1), []⟩ = (⟨tf (j + 1), []⟩, (j : Int), true) from rfl]
            rintro e w1 ⟨vs1, G1, rfl, hb1, hrep1, hf1⟩
            replace hrep1 : cLoop.rep w1 vs1.toList ⟨tf (j + 1), []⟩ G1 := hrep1
            obtain ⟨u0, u1, H0, H1, rfl, rfl, -, n0, n1⟩ := TLoop.outA hrep1
            obtain ⟨B0, d0, rfl⟩ := cL_form n0
            obtain ⟨B1, d1, rfl⟩ := cL_form n1
            have g0 := (hb1.cell (p := ⟨w.heap.size, 0, none⟩) hlt).trans q0
            have g1 := (hb1.cell (p := ⟨w.heap.size, 1, none⟩) hlt).trans q1
            have y0 : w1.frozen? ⟨w.heap.size, 0, none⟩ = false := (hb1.frozen (p := ⟨w.heap.size, 0, none⟩) hlt).trans f0
            have y1 : w1.frozen? ⟨w.heap.size, 1, none⟩ = false := (hb1.frozen (p := ⟨w.heap.size, 1, none⟩) hlt).trans f1
            have hz1 := hb1.size
            have hl1 : w.heap.size < w1.heap.size := by omega
            have hne1 : ¬ w1.heap.size = w.heap.size := by omega
            have hne2 : ¬ w.heap.size = w1.heap.size := by omega
            have HQ := Lib.hid (q_set (w := w) (x := ⟨tf (j + 1), []⟩) g0 g1 hrep1 (fun y hy => by have := hf1.1 y hy; omega) (Nat.le_refl _) hl1 y0 y1 (bel_then hB hb1))
            clear hb1 hrep1 hf1 q0 q1 f0 f1 hrep hF n0 n1
            go_wp2_with fail
            go_roundw
            case rel => exact ⟨_, _, _, _, ⟨⟨tf (j + 1), []⟩, j + 1, mi, j, rfl, by omega, rfl, cc - 1, rfl, HC.out.1, HI.out, HQ.out.bel_ (bel_alloc (Below.refl _ _) _)⟩, rfl, rfl, rfl, rfl⟩
            case measure => simp [intOf]; omega
          | [], [] =>
            have hj : j = 6 := by simp at htl; omega
            obtain rfl : tk = 5 := by omega
            obtain rfl : cc = 0 := by simpa using hcc
            clear hI htl hjl htk hcc
            go_wp2_with fail
            refine (implNextTask_any _ ⟨[], []⟩ _ _ (by exact Cod.bel hrep (by repeat (first | with_reducible exact Below.refl _ _ | with_reducible assumption | with_reducible refine bel_alloc ?_ _ | with_reducible refine bel_drew ?_ | with_reducible refine bel_drewN ?_ _ | (with_reducible refine bel_set ?_ ?_ _; rotate_left; ((try simp); (try omega)))))) hsz).mono ?_
            rw [show nextTask ⟨[], []⟩ = (⟨[], []⟩, 0, false) from rfl]
            rintro e w1 ⟨vs1, G1, rfl, hb1, hrep1, hf1⟩
            replace hrep1 : cLoop.rep w1 vs1.toList ⟨[], []⟩ G1 := hrep1
            obtain ⟨u0, u1, H0, H1, rfl, rfl, -, n0, n1⟩ := TLoop.outA hrep1
            obtain ⟨B0, d0, rfl⟩ := cL_form n0
            obtain ⟨B1, d1, rfl⟩ := cL_form n1
            have hB1 : Below w.heap.size w w1 := bel_then hB hb1
            clear hb1 hrep1 hf1
            go_wp2_with fail
            go_ret
            exact ⟨rfl, (by repeat (first | with_reducible exact Below.refl _ _ | with_reducible assumption | with_reducible refine bel_alloc ?_ _ | with_reducible refine bel_drew ?_ | with_reducible refine bel_drewN ?_ _ | (with_reducible refine bel_set ?_ ?_ _; rotate_left; ((try simp); (try omega)))))⟩

set_option maxRecDepth 100000 in
theorem lawLoops_walk (H : Type) (enc : TypeId × Value → H) (W : World) (base : Nat) (args : Array Value) (ds : List (DataW H)) (p : List MemPlace)
    (hval : ∀ (j : Nat) t v, Try.f3.params[j]? = some t → args[j]? = some v → Value.okWide Try.prog W .any base t v)
    (hA : DataW.TrodAll enc Try.prog W 0 (fun _ => true) true Try.f3.params.toList args.toList ds p) (hf : W.noneFrozen p) :
    Calls Try.prog 3 args W (Gives W (.bool true)) := by
  rw [Try.params3] at hA hval
  obtain ⟨v0, vs0, d0, ds0, q0, s0, hargs, rfl, rfl, k0, t0⟩ := trodAll_cons hA
  obtain ⟨rfl, rfl, rfl⟩ := trodAll_nil t0
  obtain rfl : args = #[v0] := by cases args; simp_all
  obtain ⟨x0, F0, hx0⟩ := opens_US.slice_ Try.underlying22 (hval 0 _ _ rfl rfl) k0 (noneFrozen_mono hf fun y hy => by simp [hy])
  exact lawLoops_any v0 x0 F0 W hx0

set_option maxRecDepth 100000 in
theorem lawLoops_lifted (os : Os) (started : os.Started) (H : Type) (enc : TypeId × Value → H) :
    ReturnsInHanded {} Try.checked os 3 .any (Rows.fnLoopsSpec.pre6 enc Try.prog Try.f3 Rows.fnLoopsRow.domain false) (Rows.fnLoopsSpec.post enc Try.prog Try.f3 false true false false) := by
  refine returnsInHanded_of_change (C := Try.checked) (by kernel_rfl) started (by kernel_rfl) Try.func3
    (ChangeSpec.witness6 (enc := enc) (C := Try.checked) false ⟨#[], #[.slice none 0 0], []⟩ 16 (by kernel_rfl) (by kernel_rfl) (by kernel_rfl) (by kernel_rfl)) ?_
  intro W base args ds gs before hval hW _ _
  have hW' := hW
  obtain ⟨p, q, hA, hV, rfl, hfz, hnd⟩ := hW
  refine (lawLoops_walk H enc W base args ds p hval hA (noneFrozen_mono hfz fun y hy => by simp [hy])).mono fun e W' ⟨he, hb⟩ => ⟨_, he, ?_⟩
  exact law_post (by kernel_rfl) rfl (by kernel_rfl) Try.underlying4 (by kernel_rfl) (fun ds h => by
    match ds, h with
    | [d0], _ => exact ⟨rfl, rfl, rfl⟩) hW' hb
theorem lawLoops_over : Rows.fnLoopsRow.holds Try.pinned (OpenSpec.ofChange Rows.fnLoopsSpec) :=
  OpenClaim.holds_of_wide 3 Try.f3 rfl rfl rfl rfl rfl rfl rfl ⟨rfl, rfl, rfl, rfl, rfl⟩ rfl rfl rfl rfl rfl (by kernel_rfl) Try.func3 (by kernel_rfl)
    (of_decide_eq_true (by kernel_rfl)) (by unfold Func.isWrapper; rw [if_neg (of_decide_eq_false (by kernel_rfl))]; exact ⟨rfl, rfl⟩)
    (fun os started H enc _ => lawLoops_lifted os started H enc)
/-- THE STATEMENT -/
theorem lawLoops_holds : Rows.FnLoopsSaid := lawLoops_over

end Go.Proofs.Yteipaolcmjfhdaa
