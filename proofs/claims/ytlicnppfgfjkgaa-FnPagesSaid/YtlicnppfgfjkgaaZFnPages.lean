/-
  The law FnPages: a page gets files of its own version only. No conditions.
-/
import Derived.Test.YtlicnppfgfjkgaaRows
import Derived.Test.YtlicnppfgfjkgaaZDrawUsedPg
import Derived.Test.YtlicnppfgfjkgaaZSetAt
import Derived.Test.YtlicnppfgfjkgaaZAtFn
import Derived.Test.YtlicnppfgfjkgaaZPageEq
namespace Go.Proofs.Ytlicnppfgfjkgaa
open Go.ChangeShapes Go.WideShapes Go.RowKit
set_option linter.unusedVariables false

structure PageAt (W : World) (b : Nat) (x : TPage) (A4 : Option Addr) (c4 : Nat) (A5 : Option Addr) (c5 : Nat) (A7 : Option Addr) (c7 : Nat) (G : List Nat) : Prop where
  b : Blk W b 41 #[.int .i64 x.id, .string x.site, .string x.top, .int .i64 x.ver, .slice A4 x.loaded.length c4, .slice A5 x.mach.script.length c5, .int .i64 x.mach.pc, .slice A7 x.mach.regs.length c7, .int .i64 x.mach.steps, .bool x.mach.done, .bool x.mach.wait]
  r : cPage.rep W [.int .i64 x.id, .string x.site, .string x.top, .int .i64 x.ver, .slice A4 x.loaded.length c4, .slice A5 x.mach.script.length c5, .int .i64 x.mach.pc, .slice A7 x.mach.regs.length c7, .int .i64 x.mach.steps, .bool x.mach.done, .bool x.mach.wait] x G
theorem PageAt.bel {W W' : World} {b : Nat} {x : TPage} {A4 : Option Addr} {c4 : Nat} {A5 : Option Addr} {c5 : Nat} {A7 : Option Addr} {c7 : Nat} {G : List Nat} (h : PageAt W b x A4 c4 A5 c5 A7 c7 G) (hb : Below W.heap.size W W') : PageAt W' b x A4 c4 A5 c5 A7 c7 G :=
  ⟨h.b.bel hb, Cod.bel h.r hb⟩
theorem PageAt.new {w : World} {x : TPage} {A4 : Option Addr} {c4 : Nat} {A5 : Option Addr} {c5 : Nat} {A7 : Option Addr} {c7 : Nat} {G : List Nat} (h : cPage.rep w [.int .i64 x.id, .string x.site, .string x.top, .int .i64 x.ver, .slice A4 x.loaded.length c4, .slice A5 x.mach.script.length c5, .int .i64 x.mach.pc, .slice A7 x.mach.regs.length c7, .int .i64 x.mach.steps, .bool x.mach.done, .bool x.mach.wait] x G) : PageAt (w.alloc (.cells #[.int .i64 x.id, .string x.site, .string x.top, .int .i64 x.ver, .slice A4 x.loaded.length c4, .slice A5 x.mach.script.length c5, .int .i64 x.mach.pc, .slice A7 x.mach.regs.length c7, .int .i64 x.mach.steps, .bool x.mach.done, .bool x.mach.wait] 41)) w.heap.size x A4 c4 A5 c5 A7 c7 G :=
  ⟨Blk.new w _ _, Cod.bel h (bel_alloc (Below.refl _ _) _)⟩
theorem eqBySelf {α : Type} (f : α → α → Bool) (h : ∀ x, f x x = true) : ∀ xs : List α, eqBy f xs xs = true
  | [] => rfl
  | x :: xs => by simp [eqBy, h x, eqBySelf f h xs]
theorem pageEq_self (x : TPage) : pageEq x x = true := by
  have h1 : loadedsEq x.loaded x.loaded = true := eqBySelf _ (fun a => by simp [eqLoaded, strEq]) _
  have h3 : inssEq x.mach.script x.mach.script = true := eqBySelf _ (fun a => by simp [eqIns, strEq]) _
  have h4 : intsEq x.mach.regs x.mach.regs = true := eqBySelf _ (fun a => by simp [eqInt]) _
  have h2 : machEq x.mach x.mach = true := by simp [machEq, h3, h4]
  simp [pageEq, strEq, h1, h2]
theorem loadFile_true {x : TPage} {pa : ByteArray} {y : TResp} (h : (loadFile x pa y).2 = true) : y.ver = x.ver ∧ (loadFile x pa y).1.loaded.length = x.loaded.length + 1 ∧ isPage (loadFile x pa y).1 = true ∧ ∀ (k : Nat) (hk : k < (loadFile x pa y).1.loaded.length), (loadFile x pa y).1.loaded[k].ver = x.ver := by
  unfold loadFile at h ⊢
  cases hc : (y.status == 200 && y.ver == x.ver && isPage x && isPage (loadOut x pa y.ver)) with
  | false => rw [hc] at h; cases h
  | true =>
    simp only [Bool.and_eq_true, beq_iff_eq] at hc
    refine ⟨hc.1.1.2, by simp [loadOut], hc.2, fun k hk => ?_⟩
    have h1 := hc.2
    unfold isPage at h1
    simp only [Bool.and_eq_true] at h1
    have h2 := h1.1.1.1.1.1
    simp only [Bool.not_eq_true', List.any_eq_false] at h2
    have h3 := h2 _ (List.getElem_mem hk)
    have h4 : loadedOk (loadOut x pa y.ver).ver (loadOut x pa y.ver).loaded[k] = true := by simpa using h3
    unfold loadedOk at h4
    simp only [Bool.and_eq_true, beq_iff_eq] at h4
    exact h4.2
theorem loadFile_false {x : TPage} {pa : ByteArray} {y : TResp} (h : (loadFile x pa y).2 = false) : (loadFile x pa y).1 = x := by
  unfold loadFile at h ⊢
  cases hc : (y.status == 200 && y.ver == x.ver && isPage x && isPage (loadOut x pa y.ver)) with
  | false => rfl
  | true => rw [hc] at h; cases h
set_option maxRecDepth 100000 in
set_option maxHeartbeats 16000000 in
theorem lawPages_any (v0 : Value) (xs : List UInt8) (F0 : List Nat) (w : World) (h : cUS.rep w [v0] xs F0) :
    Calls Try.prog 4 #[v0] w (Gives w (.bool true)) := by
  obtain ⟨A0, cp0, rfl⟩ := cL_form h
  have HR := Lib.hid h
  clear h
  by_cases hbig : (1048576 : Int) < xs.length
  · have hd : decide ((1048576 : Int) < xs.length) = true := by simpa using hbig
    go_enter Try.func4, Try.ntmps4
    go_wp2_with (go_at_call 10; refine (big_any _ _ _ _).mono ?_; rw [hd]; rintro e w1 ⟨rfl, rfl⟩)
    go_ret
    exact ⟨rfl, (by repeat (first | with_reducible exact Below.refl _ _ | with_reducible assumption | with_reducible refine bel_alloc ?_ _ | with_reducible refine bel_drew ?_ | with_reducible refine bel_drewN ?_ _ | (with_reducible refine bel_set ?_ ?_ _; rotate_left; ((try simp); (try omega)))))⟩
  · have hn : xs.length ≤ 1048576 := by omega
    have hd : decide ((1048576 : Int) < xs.length) = false := by simpa using hbig
    go_enter Try.func4, Try.ntmps4
    go_wp2_with (go_at_call 10; refine (big_any _ _ _ _).mono ?_; rw [hd]; rintro e w1 ⟨rfl, rfl⟩)
    clear hbig hd
    refine (drawLoadFile_any _ xs F0 _ (Cod.bel HR.out (by repeat (first | with_reducible exact Below.refl _ _ | with_reducible assumption | with_reducible refine bel_alloc ?_ _ | with_reducible refine bel_drew ?_ | with_reducible refine bel_drewN ?_ _ | (with_reducible refine bel_set ?_ ?_ _; rotate_left; ((try simp); (try omega)))))) hn).mono ?_
    rintro e w1 ⟨x, A4, c4, A5, c5, A7, c7, pa, st, vr, rfl, hb1, ⟨F1, hpv⟩, hsz, hv0, hv1, hpa, hst, hvr⟩
    obtain ⟨G1, hr1, -, -⟩ := hpv.rep
    have hB1 : Below w.heap.size w w1 := bel_then (by repeat (first | with_reducible exact Below.refl _ _ | with_reducible assumption | with_reducible refine bel_alloc ?_ _ | with_reducible refine bel_drew ?_ | with_reducible refine bel_drewN ?_ _ | (with_reducible refine bel_set ?_ ?_ _; rotate_left; ((try simp); (try omega))))) hb1
    clear hb1 hpv
    go_upto_region 4 with (fail)
    generalize hX : World.alloc w1 _ = X
    generalize hW : World.alloc X _ = W
    have hbX : Below w1.heap.size w1 X := by rw [← hX]; exact bel_one _ _
    have hbW : Below X.heap.size X W := by rw [← hW]; exact bel_one _ _
    have hXs : X.heap.size = w1.heap.size + 1 := by rw [← hX]; clear hX; simp
    have hA : PageAt X w1.heap.size x A4 c4 A5 c5 A7 c7 G1 := by rw [← hX]; exact PageAt.new hr1
    have hyo : (⟨1, st, vr, [], false⟩ : TResp).Ok := ⟨(by decide : (-9223372036854775808 : Int) ≤ 1 ∧ (1 : Int) ≤ 9223372036854775807), by simp only; omega, by simp only; omega⟩
    have hY : RespAt W X.heap.size ⟨1, st, vr, [], false⟩ none 0 [] := by rw [← hW]; exact RespAt.new (y := ⟨1, st, vr, [], false⟩) _ (TResp.mk_ hyo (rows_nil _))
    rw [hXs] at hY
    obtain ⟨sb, hsb⟩ : ∃ sb, w1.heap.size = sb := ⟨_, rfl⟩
    have hBW : Below w.heap.size w W := bel_then (bel_then hB1 hbX) hbW
    rw [hsb] at hA hY ⊢
    have HA := Lib.hid (hA.bel hbW)
    have HY := Lib.hid hY
    clear hX hW hbX hXs hA hY hbW hB1 hr1 hsb hyo
    have p0 : W.cell? ⟨sb, 0, none⟩ = some (.int .i64 x.id) := HA.out.b.cell 0
    have p1 : W.cell? ⟨sb, 1, none⟩ = some (.string x.site) := HA.out.b.cell 1
    have p2 : W.cell? ⟨sb, 2, none⟩ = some (.string x.top) := HA.out.b.cell 2
    have p3 : W.cell? ⟨sb, 3, none⟩ = some (.int .i64 x.ver) := HA.out.b.cell 3
    have p4 : W.cell? ⟨sb, 4, none⟩ = some (.slice A4 x.loaded.length c4) := HA.out.b.cell 4
    have p5 : W.cell? ⟨sb, 5, none⟩ = some (.slice A5 x.mach.script.length c5) := HA.out.b.cell 5
    have p6 : W.cell? ⟨sb, 6, none⟩ = some (.int .i64 x.mach.pc) := HA.out.b.cell 6
    have p7 : W.cell? ⟨sb, 7, none⟩ = some (.slice A7 x.mach.regs.length c7) := HA.out.b.cell 7
    have p8 : W.cell? ⟨sb, 8, none⟩ = some (.int .i64 x.mach.steps) := HA.out.b.cell 8
    have p9 : W.cell? ⟨sb, 9, none⟩ = some (.bool x.mach.done) := HA.out.b.cell 9
    have p10 : W.cell? ⟨sb, 10, none⟩ = some (.bool x.mach.wait) := HA.out.b.cell 10
    have y0 : W.cell? ⟨sb + 1, 0, none⟩ = some (.int .i64 1) := HY.out.c0
    have y1 : W.cell? ⟨sb + 1, 1, none⟩ = some (.int .i64 st) := HY.out.c1
    have y2 : W.cell? ⟨sb + 1, 2, none⟩ = some (.int .i64 vr) := HY.out.c2
    have y3 : W.cell? ⟨sb + 1, 3, none⟩ = some (.slice none 0 0) := HY.out.c3
    have y4 : W.cell? ⟨sb + 1, 4, none⟩ = some (.bool false) := HY.out.c4
    have hzs := loadFile_sz x pa ⟨1, st, vr, [], false⟩
    have hci := fun W9 (hb : Below W.heap.size W W9) => implLoadFile_any _ x G1 pa _ ⟨1, st, vr, [], false⟩ [] W9 (by exact (HA.out.bel hb).r) (by omega) (by omega) (by exact (HY.out.bel hb).r)
    have hcs := fun W9 (hb : Below W.heap.size W W9) => specLoadFile_any _ x G1 pa _ ⟨1, st, vr, [], false⟩ [] W9 (by exact (HA.out.bel hb).r) (by omega) (by omega) (by exact (HY.out.bel hb).r)
    have hT := fun h9 => loadFile_true (x := x) (pa := pa) (y := ⟨1, st, vr, [], false⟩) h9
    have hF := fun h9 => loadFile_false (x := x) (pa := pa) (y := ⟨1, st, vr, [], false⟩) h9
    obtain ⟨z, hz⟩ : ∃ z, (loadFile x pa ⟨1, st, vr, [], false⟩).1 = z := ⟨_, rfl⟩
    obtain ⟨ok, hok⟩ : ∃ ok, (loadFile x pa ⟨1, st, vr, [], false⟩).2 = ok := ⟨_, rfl⟩
    rw [hz, hok] at hci hcs hT hF
    rw [hz] at hzs
    have HC := Lib.hid (And.intro hci hcs)
    have HL := Lib.hid (And.intro hT hF)
    clear hci hcs hT hF hz hok
    go_wp2_with fail
    refine (HC.out.1 _ (Below.refl _ _)).mono ?_
    rintro e w2 ⟨B4, d4, B5, d5, B7, d7, F2, rfl, hb2, hpv2⟩
    obtain ⟨G2, hr2, -, -⟩ := hpv2.rep
    go_upto_region 5 with (fail)
    generalize hX : World.alloc w2 _ = X
    have hbX : Below w2.heap.size w2 X := by rw [← hX]; exact bel_one _ _
    have hZ : PageAt X w2.heap.size z B4 d4 B5 d5 B7 d7 G2 := by rw [← hX]; exact PageAt.new hr2
    obtain ⟨zb, hzb⟩ : ∃ zb, w2.heap.size = zb := ⟨_, rfl⟩
    have hbWX : Below W.heap.size W X := bel_then hb2 hbX
    rw [hzb] at hZ ⊢
    have HZ := Lib.hid hZ
    have HA2 := Lib.hid (HA.out.bel hbWX)
    have HY2 := Lib.hid (HY.out.bel hbWX)
    clear hX hZ hr2 hb2 hzb hbX hpv2 p0 p1 p2 p3 p4 p5 p6 p7 p8 p9 p10 y0 y1 y2 y3 y4
    have p0 : X.cell? ⟨sb, 0, none⟩ = some (.int .i64 x.id) := HA2.out.b.cell 0
    have p1 : X.cell? ⟨sb, 1, none⟩ = some (.string x.site) := HA2.out.b.cell 1
    have p2 : X.cell? ⟨sb, 2, none⟩ = some (.string x.top) := HA2.out.b.cell 2
    have p3 : X.cell? ⟨sb, 3, none⟩ = some (.int .i64 x.ver) := HA2.out.b.cell 3
    have p4 : X.cell? ⟨sb, 4, none⟩ = some (.slice A4 x.loaded.length c4) := HA2.out.b.cell 4
    have p5 : X.cell? ⟨sb, 5, none⟩ = some (.slice A5 x.mach.script.length c5) := HA2.out.b.cell 5
    have p6 : X.cell? ⟨sb, 6, none⟩ = some (.int .i64 x.mach.pc) := HA2.out.b.cell 6
    have p7 : X.cell? ⟨sb, 7, none⟩ = some (.slice A7 x.mach.regs.length c7) := HA2.out.b.cell 7
    have p8 : X.cell? ⟨sb, 8, none⟩ = some (.int .i64 x.mach.steps) := HA2.out.b.cell 8
    have p9 : X.cell? ⟨sb, 9, none⟩ = some (.bool x.mach.done) := HA2.out.b.cell 9
    have p10 : X.cell? ⟨sb, 10, none⟩ = some (.bool x.mach.wait) := HA2.out.b.cell 10
    have y0 : X.cell? ⟨sb + 1, 0, none⟩ = some (.int .i64 1) := HY2.out.c0
    have y1 : X.cell? ⟨sb + 1, 1, none⟩ = some (.int .i64 st) := HY2.out.c1
    have y2 : X.cell? ⟨sb + 1, 2, none⟩ = some (.int .i64 vr) := HY2.out.c2
    have y3 : X.cell? ⟨sb + 1, 3, none⟩ = some (.slice none 0 0) := HY2.out.c3
    have y4 : X.cell? ⟨sb + 1, 4, none⟩ = some (.bool false) := HY2.out.c4
    go_wp2_with fail
    refine (HC.out.2 _ hbWX).mono ?_
    rintro e w3 ⟨D4, g4, D5, g5, D7, g7, F3, rfl, hb3, hpv3⟩
    go_upto_region 6 with (fail)
    generalize hW3 : World.alloc w3 _ = W3
    have hbW3 : Below X.heap.size X W3 := by rw [← hW3]; exact bel_alloc hb3 _
    have hBW3 : Below w.heap.size w W3 := bel_then (bel_then hBW hbWX) hbW3
    have HA3 := Lib.hid (HA2.out.bel hbW3)
    have HY3 := Lib.hid (HY2.out.bel hbW3)
    have HZ3 := Lib.hid (HZ.out.bel hbW3)
    clear HA HY HA2 HY2 HZ hb3 hpv3 hW3 HC hbWX hbW3 hBW p0 p1 p2 p3 p4 p5 p6 p7 p8 p9 p10 y0 y1 y2 y3 y4
    have p0 : W3.cell? ⟨sb, 0, none⟩ = some (.int .i64 x.id) := HA3.out.b.cell 0
    have p1 : W3.cell? ⟨sb, 1, none⟩ = some (.string x.site) := HA3.out.b.cell 1
    have p2 : W3.cell? ⟨sb, 2, none⟩ = some (.string x.top) := HA3.out.b.cell 2
    have p3 : W3.cell? ⟨sb, 3, none⟩ = some (.int .i64 x.ver) := HA3.out.b.cell 3
    have p4 : W3.cell? ⟨sb, 4, none⟩ = some (.slice A4 x.loaded.length c4) := HA3.out.b.cell 4
    have p5 : W3.cell? ⟨sb, 5, none⟩ = some (.slice A5 x.mach.script.length c5) := HA3.out.b.cell 5
    have p6 : W3.cell? ⟨sb, 6, none⟩ = some (.int .i64 x.mach.pc) := HA3.out.b.cell 6
    have p7 : W3.cell? ⟨sb, 7, none⟩ = some (.slice A7 x.mach.regs.length c7) := HA3.out.b.cell 7
    have p8 : W3.cell? ⟨sb, 8, none⟩ = some (.int .i64 x.mach.steps) := HA3.out.b.cell 8
    have p9 : W3.cell? ⟨sb, 9, none⟩ = some (.bool x.mach.done) := HA3.out.b.cell 9
    have p10 : W3.cell? ⟨sb, 10, none⟩ = some (.bool x.mach.wait) := HA3.out.b.cell 10
    have q0 : W3.cell? ⟨zb, 0, none⟩ = some (.int .i64 z.id) := HZ3.out.b.cell 0
    have q1 : W3.cell? ⟨zb, 1, none⟩ = some (.string z.site) := HZ3.out.b.cell 1
    have q2 : W3.cell? ⟨zb, 2, none⟩ = some (.string z.top) := HZ3.out.b.cell 2
    have q3 : W3.cell? ⟨zb, 3, none⟩ = some (.int .i64 z.ver) := HZ3.out.b.cell 3
    have q4 : W3.cell? ⟨zb, 4, none⟩ = some (.slice B4 z.loaded.length d4) := HZ3.out.b.cell 4
    have q5 : W3.cell? ⟨zb, 5, none⟩ = some (.slice B5 z.mach.script.length d5) := HZ3.out.b.cell 5
    have q6 : W3.cell? ⟨zb, 6, none⟩ = some (.int .i64 z.mach.pc) := HZ3.out.b.cell 6
    have q7 : W3.cell? ⟨zb, 7, none⟩ = some (.slice B7 z.mach.regs.length d7) := HZ3.out.b.cell 7
    have q8 : W3.cell? ⟨zb, 8, none⟩ = some (.int .i64 z.mach.steps) := HZ3.out.b.cell 8
    have q9 : W3.cell? ⟨zb, 9, none⟩ = some (.bool z.mach.done) := HZ3.out.b.cell 9
    have q10 : W3.cell? ⟨zb, 10, none⟩ = some (.bool z.mach.wait) := HZ3.out.b.cell 10
    have y2 : W3.cell? ⟨sb + 1, 2, none⟩ = some (.int .i64 vr) := HY3.out.c2
    have hnb : ∀ b : Bool, (b != b) = false := fun b => by cases b <;> rfl
    cases ok
    · have hzx := HL.out.2 rfl
      subst hzx
      go_wp2_with (go_at_call 19; refine (implEqualPages_any _ z _ _ z _ _ (by exact HZ3.out.r) (by omega) (by exact HA3.out.r) (by omega)).mono ?_; rw [pageEq_self]; rintro e w4 ⟨rfl, hb4⟩)
      clear p0 p1 p2 p3 p4 p5 p6 p7 p8 p9 p10 q0 q1 q2 q3 q4 q5 q6 q7 q8 q9 q10 y2
      go_loopw [10] (fun i wr => ∃ k : Nat, i = .int .i64 k ∧ k ≤ 3000 ∧ Below W3.heap.size W3 wr) (fun i _ => 3000 - (intOf i).toNat)
      case atStart => exact ⟨0, rfl, by omega, hb4⟩
      case round =>
        obtain ⟨k, rfl, hk, hB⟩ := hrel
        have q4 : wr.cell? ⟨zb, 4, none⟩ = some (.slice B4 z.loaded.length d4) := (HZ3.out.bel hB).b.cell 4
        by_cases hlt : (k : Int) < (z.loaded.length : Int)
        ·
          have hBw : Below w.heap.size w wr := bel_then hBW3 hB
          go_wp2_with fail
          refine (drawUsedVersions_any _ xs F0 _ (Cod.bel HR.out hBw) hn).mono ?_
          rintro e u1 ⟨o, st2, rfl, hbu, hst2, ps, Gp, hrp, hpl⟩
          obtain ⟨Ap, cpp, rfl⟩ := cL_form hrp
          have hsm : st2.size ≤ maxLen := by unfold maxLen; omega
          go_wp2_with fail
          refine (implUsedVersions_any _ ps st2 _ _ (by exact hrp) (by omega) hsm).mono ?_
          rintro e u2 ⟨v1, G1, rfl, hb2, hr1, -⟩
          go_wp2_with fail
          refine (specUsedVersions_any _ ps st2 _ _ (by exact Cod.bel hrp hb2) (by omega) hsm).mono ?_
          rintro e u3 ⟨v2, G2, rfl, hb3, hr2, -⟩
          go_wp2_with fail
          refine (sameInts_any _ _ _ _ _ _ (by exact Cod.bel hr1 hb3) (by exact hr2)).mono ?_
          rintro e u4 ⟨rfl, hb4⟩
          go_wp2_with fail
          go_ret
          exact ⟨rfl, bel_then hBw (bel_then hbu (bel_then hb2 (bel_then hb3 hb4)))⟩
        ·
          have hBw : Below w.heap.size w wr := bel_then hBW3 hB
          go_wp2_with fail
          refine (drawUsedVersions_any _ xs F0 _ (Cod.bel HR.out hBw) hn).mono ?_
          rintro e u1 ⟨o, st2, rfl, hbu, hst2, ps, Gp, hrp, hpl⟩
          obtain ⟨Ap, cpp, rfl⟩ := cL_form hrp
          have hsm : st2.size ≤ maxLen := by unfold maxLen; omega
          go_wp2_with fail
          refine (implUsedVersions_any _ ps st2 _ _ (by exact hrp) (by omega) hsm).mono ?_
          rintro e u2 ⟨v1, G1, rfl, hb2, hr1, -⟩
          go_wp2_with fail
          refine (specUsedVersions_any _ ps st2 _ _ (by exact Cod.bel hrp hb2) (by omega) hsm).mono ?_
          rintro e u3 ⟨v2, G2, rfl, hb3, hr2, -⟩
          go_wp2_with fail
          refine (sameInts_any _ _ _ _ _ _ (by exact Cod.bel hr1 hb3) (by exact hr2)).mono ?_
          rintro e u4 ⟨rfl, hb4⟩
          go_wp2_with fail
          go_ret
          exact ⟨rfl, bel_then hBw (bel_then hbu (bel_then hb2 (bel_then hb3 hb4)))⟩
    · obtain ⟨hvx, hln, hpg, hvs⟩ := HL.out.1 rfl
      (try simp only at hvx)
      subst hvx
      obtain ⟨n, hxn⟩ : ∃ n, x.loaded.length = n := ⟨_, rfl⟩
      have hnl : n ≤ 1048576 := by rw [← hxn]; have h1 := page_sz x; have h2 : x.loaded.length ≤ cLoadedS.sz x.loaded := Cod.len_le cLoaded x.loaded; omega
      have HM := Lib.hid hln
      rw [hxn] at p4 hln
      rw [hln] at q4
      have hwl : IntKind.i64.wrap ((n : Int) + 1) = (n : Int) + 1 := IntWalk.i64_in _ (by omega)
      have hcl : ((n + 1 : Nat) : Int) = (n : Int) + 1 := by omega
      have HVS := Lib.hid hvs
      have HZR := Lib.hid (show ∀ W9, Below W3.heap.size W3 W9 → cPage.rep W9 [.int .i64 z.id, .string z.site, .string z.top, .int .i64 z.ver, .slice B4 (n + 1) d4, .slice B5 z.mach.script.length d5, .int .i64 z.mach.pc, .slice B7 z.mach.regs.length d7, .int .i64 z.mach.steps, .bool z.mach.done, .bool z.mach.wait] z G2 from fun W9 hb => by have h9 := (HZ3.out.bel hb).r; rw [hln] at h9; exact h9)
      have HLN := Lib.hid hln
      clear hxn HL hvs hln HM
      have hszz : cPage.sz z ≤ 1048576 := by omega
      go_wp2_with (go_at_call 20; refine (implIsPage_any _ z _ _ (by exact HZR.out _ (Below.refl _ _)) hszz).mono ?_; rw [hpg]; rintro e w4 ⟨rfl, hb4⟩)
      clear p0 p1 p2 p3 p4 p5 p6 p7 p8 p9 p10 q0 q1 q2 q3 q4 q5 q6 q7 q8 q9 q10 y2
      go_loopw [10] (fun i wr => ∃ k : Nat, i = .int .i64 k ∧ k ≤ n + 1 ∧ Below W3.heap.size W3 wr) (fun i _ => (n + 1) - (intOf i).toNat)
      case atStart => exact ⟨0, rfl, by omega, hb4⟩
      case round =>
        obtain ⟨k, rfl, hk, hB⟩ := hrel
        have q4 : wr.cell? ⟨zb, 4, none⟩ = some (.slice B4 (n + 1) d4) := by have h9 := (HZ3.out.bel hB).b.cell 4; rw [HLN.out] at h9; exact h9
        by_cases hlt : k < n + 1
        · have hki : (k : Int) < (n : Int) + 1 := by omega
          have hk0 : (0 : Int) ≤ (k : Int) := by omega
          have hkx : k < z.loaded.length := by rw [HLN.out]; exact hlt
          obtain ⟨v4, v5, v7, F4, F5, F7, e9, -, -, m4, -, -⟩ := TPage.out (HZR.out _ hB)
          obtain rfl : v4 = .slice B4 (n + 1) d4 := by simp at e9; exact e9.1.symm
          obtain ⟨g, o, vs, G9, rfl, hg, hx, -, hc⟩ := cL_get (hw := by decide) (hw2 := by decide) m4 hkx
          obtain ⟨rfl, -, -⟩ := TLoaded.out hx
          have k1 : wr.cell? ⟨g, o + k * 2 + 1, none⟩ = some (.int .i64 z.loaded[k].ver) := (hc 1 _ rfl).1
          rw [HVS.out k hkx] at k1
          have x3 : wr.cell? ⟨sb, 3, none⟩ = some (.int .i64 x.ver) := (HA3.out.bel hB).b.cell 3
          clear hc hx m4 e9 hg
          have hne : (x.ver != x.ver) = false := by simp
          go_upto_region 13 with (fail)
          go_quiet (fail)
          go_wp2_with fail
          go_roundw
          case rel => exact ⟨k + 1, by go_num, by omega, bel_drewN hB _⟩
          case measure => simp [intOf]; omega
        · have hki : ¬ (k : Int) < (n : Int) + 1 := by omega
          have hBw : Below w.heap.size w wr := bel_then hBW3 hB
          go_wp2_with fail
          refine (drawUsedVersions_any _ xs F0 _ (Cod.bel HR.out hBw) hn).mono ?_
          rintro e u1 ⟨o, st2, rfl, hbu, hst2, ps, Gp, hrp, hpl⟩
          obtain ⟨Ap, cpp, rfl⟩ := cL_form hrp
          have hsm : st2.size ≤ maxLen := by unfold maxLen; omega
          go_wp2_with fail
          refine (implUsedVersions_any _ ps st2 _ _ (by exact hrp) (by omega) hsm).mono ?_
          rintro e u2 ⟨v1, G1, rfl, hb2, hr1, -⟩
          go_wp2_with fail
          refine (specUsedVersions_any _ ps st2 _ _ (by exact Cod.bel hrp hb2) (by omega) hsm).mono ?_
          rintro e u3 ⟨v2, G2, rfl, hb3, hr2, -⟩
          go_wp2_with fail
          refine (sameInts_any _ _ _ _ _ _ (by exact Cod.bel hr1 hb3) (by exact hr2)).mono ?_
          rintro e u4 ⟨rfl, hb4⟩
          go_wp2_with fail
          go_ret
          exact ⟨rfl, bel_then hBw (bel_then hbu (bel_then hb2 (bel_then hb3 hb4)))⟩

set_option maxRecDepth 100000 in
theorem lawPages_walk (H : Type) (enc : TypeId × Value → H) (W : World) (base : Nat) (args : Array Value) (ds : List (DataW H)) (p : List MemPlace)
    (hval : ∀ (j : Nat) t v, Try.f4.params[j]? = some t → args[j]? = some v → Value.okWide Try.prog W .any base t v)
    (hA : DataW.TrodAll enc Try.prog W 0 (fun _ => true) true Try.f4.params.toList args.toList ds p) (hf : W.noneFrozen p) :
    Calls Try.prog 4 args W (Gives W (.bool true)) := by
  rw [Try.params4] at hA hval
  obtain ⟨v0, vs0, d0, ds0, q0, s0, hargs, rfl, rfl, k0, t0⟩ := trodAll_cons hA
  obtain ⟨rfl, rfl, rfl⟩ := trodAll_nil t0
  obtain rfl : args = #[v0] := by cases args; simp_all
  obtain ⟨x0, F0, hx0⟩ := opens_US.slice_ Try.underlying22 (hval 0 _ _ rfl rfl) k0 (noneFrozen_mono hf fun y hy => by simp [hy])
  exact lawPages_any v0 x0 F0 W hx0

set_option maxRecDepth 100000 in
theorem lawPages_lifted (os : Os) (started : os.Started) (H : Type) (enc : TypeId × Value → H) :
    ReturnsInHanded {} Try.checked os 4 .any (Rows.fnPagesSpec.pre6 enc Try.prog Try.f4 Rows.fnPagesRow.domain false) (Rows.fnPagesSpec.post enc Try.prog Try.f4 false true false false) := by
  refine returnsInHanded_of_change (C := Try.checked) (by kernel_rfl) started (by kernel_rfl) Try.func4
    (ChangeSpec.witness6 (enc := enc) (C := Try.checked) false ⟨#[], #[.slice none 0 0], []⟩ 16 (by kernel_rfl) (by kernel_rfl) (by kernel_rfl) (by kernel_rfl)) ?_
  intro W base args ds gs before hval hW _ _
  have hW' := hW
  obtain ⟨p, q, hA, hV, rfl, hfz, hnd⟩ := hW
  refine (lawPages_walk H enc W base args ds p hval hA (noneFrozen_mono hfz fun y hy => by simp [hy])).mono fun e W' ⟨he, hb⟩ => ⟨_, he, ?_⟩
  exact law_post (by kernel_rfl) rfl (by kernel_rfl) Try.underlying4 (by kernel_rfl) (fun ds h => by
    match ds, h with
    | [d0], _ => exact ⟨rfl, rfl, rfl⟩) hW' hb
theorem lawPages_over : Rows.fnPagesRow.holds Try.pinned (OpenSpec.ofChange Rows.fnPagesSpec) :=
  OpenClaim.holds_of_wide 4 Try.f4 rfl rfl rfl rfl rfl rfl rfl ⟨rfl, rfl, rfl, rfl, rfl⟩ rfl rfl rfl rfl rfl (by kernel_rfl) Try.func4 (by kernel_rfl)
    (of_decide_eq_true (by kernel_rfl)) (by unfold Func.isWrapper; rw [if_neg (of_decide_eq_false (by kernel_rfl))]; exact ⟨rfl, rfl⟩)
    (fun os started H enc _ => lawPages_lifted os started H enc)
/-- THE STATEMENT -/
theorem lawPages_holds : Rows.FnPagesSaid := lawPages_over

end Go.Proofs.Ytlicnppfgfjkgaa
