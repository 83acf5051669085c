/-
  DrawLoadFile: what it hands out. No conditions but the input's length.
-/
import Derived.Test.YtlicnppfgfjkgaaZDrawPage3
namespace Go.Proofs.Ytlicnppfgfjkgaa
open Go.ChangeShapes Go.WideShapes Go.RowKit
set_option linter.unusedVariables false

theorem Blk.all5 {W : World} {q : Nat} {T : TypeId} {v0 v1 v2 v3 v4 : Value} (h : Blk W q T #[v0, v1, v2, v3, v4]) : (W.cell? ⟨q, 0, none⟩ = some (v0) ∧ W.cell? ⟨q, 1, none⟩ = some (v1) ∧ W.cell? ⟨q, 2, none⟩ = some (v2) ∧ W.cell? ⟨q, 3, none⟩ = some (v3) ∧ W.cell? ⟨q, 4, none⟩ = some (v4)) ∧ ∀ j, W.frozen? ⟨q, j, none⟩ = false :=
  ⟨⟨h.cell 0, h.cell 1, h.cell 2, h.cell 3, h.cell 4⟩, fun j => h.frozen j⟩
theorem Blk.set5 {W : World} {r : Nat} {T : TypeId} {ds : Array Value} (hb : Blk W r T ds) (hs : ds.size = 5) (b0 b1 b2 b3 b4 : Value) : Blk (((((W.setCell ⟨r, 0, none⟩ b0).setCell ⟨r, 1, none⟩ b1).setCell ⟨r, 2, none⟩ b2).setCell ⟨r, 3, none⟩ b3).setCell ⟨r, 4, none⟩ b4) r T #[b0, b1, b2, b3, b4] := by
  obtain ⟨l⟩ := ds
  have hl : l.length = 5 := by simpa using hs
  obtain ⟨v0, l, rfl⟩ := List.exists_cons_of_length_eq_add_one (n := 4) (by simpa using hl)
  obtain ⟨v1, l, rfl⟩ := List.exists_cons_of_length_eq_add_one (n := 3) (by simpa using hl)
  obtain ⟨v2, l, rfl⟩ := List.exists_cons_of_length_eq_add_one (n := 2) (by simpa using hl)
  obtain ⟨v3, l, rfl⟩ := List.exists_cons_of_length_eq_add_one (n := 1) (by simpa using hl)
  obtain ⟨v4, l, rfl⟩ := List.exists_cons_of_length_eq_add_one (n := 0) (by simpa using hl)
  obtain rfl : l = [] := List.eq_nil_of_length_eq_zero (by simpa using hl)
  have h := ((((hb.set_ 0 b0).set_ 1 b1).set_ 2 b2).set_ 3 b3).set_ 4 b4
  simp only [List.setIfInBounds_toArray, List.set_cons_zero, List.set_cons_succ] at h
  exact h
theorem sets_ret11_5 {P : Program} {fn : Func} {Q : Ending → World → Prop} {A : Act} {W : World} {q r : Nat} {T T2 : TypeId} {cs ds : Array Value} (hb : Blk W q T cs) (hs : cs.size = 11) (hd : Blk W r T2 ds) (hs2 : ds.size = 5) (hqr : q ≠ r) {a0 a1 a2 a3 a4 a5 a6 a7 a8 a9 a10 b0 b1 b2 b3 b4 : Value}
    (h : ∀ W9, ((((((((((((((((W.setCell ⟨q, 0, none⟩ a0).setCell ⟨q, 1, none⟩ a1).setCell ⟨q, 2, none⟩ a2).setCell ⟨q, 3, none⟩ a3).setCell ⟨q, 4, none⟩ a4).setCell ⟨q, 5, none⟩ a5).setCell ⟨q, 6, none⟩ a6).setCell ⟨q, 7, none⟩ a7).setCell ⟨q, 8, none⟩ a8).setCell ⟨q, 9, none⟩ a9).setCell ⟨q, 10, none⟩ a10).setCell ⟨r, 0, none⟩ b0).setCell ⟨r, 1, none⟩ b1).setCell ⟨r, 2, none⟩ b2).setCell ⟨r, 3, none⟩ b3).setCell ⟨r, 4, none⟩ b4) = W9 → Blk W9 q T #[a0, a1, a2, a3, a4, a5, a6, a7, a8, a9, a10] → Blk W9 r T2 #[b0, b1, b2, b3, b4] → bodyPost P fn Q .ret A W9) : bodyPost P fn Q .ret A ((((((((((((((((W.setCell ⟨q, 0, none⟩ a0).setCell ⟨q, 1, none⟩ a1).setCell ⟨q, 2, none⟩ a2).setCell ⟨q, 3, none⟩ a3).setCell ⟨q, 4, none⟩ a4).setCell ⟨q, 5, none⟩ a5).setCell ⟨q, 6, none⟩ a6).setCell ⟨q, 7, none⟩ a7).setCell ⟨q, 8, none⟩ a8).setCell ⟨q, 9, none⟩ a9).setCell ⟨q, 10, none⟩ a10).setCell ⟨r, 0, none⟩ b0).setCell ⟨r, 1, none⟩ b1).setCell ⟨r, 2, none⟩ b2).setCell ⟨r, 3, none⟩ b3).setCell ⟨r, 4, none⟩ b4) := by
  have h1 := hb.set11 hs a0 a1 a2 a3 a4 a5 a6 a7 a8 a9 a10
  have h2 : Blk (((((((((((W.setCell ⟨q, 0, none⟩ a0).setCell ⟨q, 1, none⟩ a1).setCell ⟨q, 2, none⟩ a2).setCell ⟨q, 3, none⟩ a3).setCell ⟨q, 4, none⟩ a4).setCell ⟨q, 5, none⟩ a5).setCell ⟨q, 6, none⟩ a6).setCell ⟨q, 7, none⟩ a7).setCell ⟨q, 8, none⟩ a8).setCell ⟨q, 9, none⟩ a9).setCell ⟨q, 10, none⟩ a10) r T2 ds := by
    unfold Blk
    repeat (rw [Below.heap_setCell _ _ _ _ (show r ≠ q from fun e => hqr e.symm)])
    exact hd
  refine h _ rfl ?_ (h2.set5 hs2 b0 b1 b2 b3 b4)
  unfold Blk at h1 ⊢
  generalize (((((((((((W.setCell ⟨q, 0, none⟩ a0).setCell ⟨q, 1, none⟩ a1).setCell ⟨q, 2, none⟩ a2).setCell ⟨q, 3, none⟩ a3).setCell ⟨q, 4, none⟩ a4).setCell ⟨q, 5, none⟩ a5).setCell ⟨q, 6, none⟩ a6).setCell ⟨q, 7, none⟩ a7).setCell ⟨q, 8, none⟩ a8).setCell ⟨q, 9, none⟩ a9).setCell ⟨q, 10, none⟩ a10) = Y at h1 ⊢
  rw [Below.heap_setCell _ _ _ _ (show q ≠ r from hqr), Below.heap_setCell _ _ _ _ (show q ≠ r from hqr), Below.heap_setCell _ _ _ _ (show q ≠ r from hqr), Below.heap_setCell _ _ _ _ (show q ≠ r from hqr), Below.heap_setCell _ _ _ _ (show q ≠ r from hqr)]
  exact h1
/-- what DrawLoadFile hands out -/
def DrawnLoad (w : World) (e : Ending) (w' : World) : Prop := ∃ (x : TPage) (A4 : Option Addr) (c4 : Nat) (A5 : Option Addr) (c5 : Nat) (A7 : Option Addr) (c7 : Nat) (pa : ByteArray) (st vr : Int), e = .returned (.tuple #[.agg #[.int .i64 x.id, .string x.site, .string x.top, .int .i64 x.ver, .slice A4 x.loaded.length c4, .slice A5 x.mach.script.length c5, .int .i64 x.mach.pc, .slice A7 x.mach.regs.length c7, .int .i64 x.mach.steps, .bool x.mach.done, .bool x.mach.wait], .string pa, .agg #[.int .i64 1, .int .i64 st, .int .i64 vr, .slice none 0 0, .bool false]]) ∧ Below w.heap.size w w' ∧
  PageW w.heap.size w' x A4 c4 A5 c5 A7 c7 ∧ cPage.sz x ≤ 3000 ∧ 0 ≤ x.ver ∧ x.ver ≤ 1000000000001 ∧ pa.size ≤ 100 ∧ (0 ≤ st ∧ st ≤ 1000) ∧ (0 ≤ vr ∧ vr ≤ 1000000000002)
set_option maxRecDepth 100000 in
set_option maxHeartbeats 16000000 in
theorem drawLoadFile_any (v : Value) (xs : List UInt8) (F : List Nat) (w : World) (h : cUS.rep w [v] xs F) (hn : xs.length ≤ 1048576) :
    Calls Try.prog 16 #[v] w (DrawnLoad w) := by
  go_enter Try.func16, Try.ntmps16
  go_wp2_with fail
  refine (l1New_any v xs _ _ (by exact Cod.bel h (by repeat (first | with_reducible exact Below.refl _ _ | with_reducible assumption | with_reducible refine bel_alloc ?_ _ | with_reducible refine bel_drew ?_ | with_reducible refine bel_drewN ?_ _ | (with_reducible refine bel_set ?_ ?_ _; rotate_left; ((try simp); (try omega)))))) hn).mono ?_
  rintro e w1 ⟨rfl, hb1, hc1⟩
  (try simp at hc1)
  have hz1 := hb1.size
  (try simp at hz1)
  have hB1 : Below w.heap.size w w1 := bel_then (by repeat (first | with_reducible exact Below.refl _ _ | with_reducible assumption | with_reducible refine bel_alloc ?_ _ | with_reducible refine bel_drew ?_ | with_reducible refine bel_drewN ?_ _ | (with_reducible refine bel_set ?_ ?_ _; rotate_left; ((try simp); (try omega))))) hb1
  have hpl := hc1.lt
  have hr0 := Blk.new (w.alloc (.cells #[.int .i64 0, .string ⟨#[]⟩, .string ⟨#[]⟩, .int .i64 0, .slice none 0 0, .slice none 0 0, .int .i64 0, .slice none 0 0, .int .i64 0, .bool false, .bool false] 41)) 43 #[.int .i64 0, .int .i64 0, .int .i64 0, .slice none 0 0, .bool false]
  rw [World.size_alloc] at hr0
  have hQ1 : Blk w1 w.heap.size 41 #[.int .i64 0, .string ⟨#[]⟩, .string ⟨#[]⟩, .int .i64 0, .slice none 0 0, .slice none 0 0, .int .i64 0, .slice none 0 0, .int .i64 0, .bool false, .bool false] := Blk.bel (Blk.bel (Blk.new w _ _) (bel_oneP _ _)) hb1
  have hR1 : Blk w1 (w.heap.size + 1) 43 #[.int .i64 0, .int .i64 0, .int .i64 0, .slice none 0 0, .bool false] := Blk.bel hr0 hb1
  clear hb1 hr0
  go_wp2_with fail
  refine (l19Any_any (w.heap.size + 1 + 1) _ (by exact hc1)).mono ?_
  rintro e w2 ⟨u, rfl, ⟨x, A4, c4, A5, c5, A7, c7, rfl, ⟨F, hpv⟩, hsz, hv0, hv1⟩, ho2, hc2⟩
  have hB2 : Below w.heap.size w w2 := hB1.trans (ho2.bel w.heap.size hB1.size (fun y hy => by simp at hy; omega))
  have hz2 := ho2.size
  have hQ2 := hQ1.only ho2 (by simp; omega)
  have hR2 := hR1.only ho2 (by simp)
  clear hQ1 hR1 ho2 hB1 hc1
  go_upto_region 3 with (fail)
  generalize hW : World.alloc w2 _ = W
  have hbW : Below w2.heap.size w2 W := by rw [← hW]; exact bel_oneP _ _
  have hXW : Blk W w2.heap.size 41 #[.int .i64 x.id, .string x.site, .string x.top, .int .i64 x.ver, .slice A4 x.loaded.length c4, .slice A5 x.mach.script.length c5, .int .i64 x.mach.pc, .slice A7 x.mach.regs.length c7, .int .i64 x.mach.steps, .bool x.mach.done, .bool x.mach.wait] := by rw [← hW]; exact Blk.new w2 _ _
  obtain ⟨xb, hxb⟩ : ∃ xb, w2.heap.size = xb := ⟨_, rfl⟩
  have hltp : ∀ b, (ownB (.slice A4 x.loaded.length c4) = some b ∨ b ∈ F) → b < xb := fun b hb => by have := (hpv.lt b hb).2; omega
  have hpvW := (hpv.mono (show w.heap.size + 3 ≤ _ by omega)).bel hbW
  have hQW := hQ2.bel hbW
  have hRW := hR2.bel hbW
  have hcW := hc2.bel hbW
  have hBW := bel_then hB2 hbW
  rw [hxb] at hXW ⊢
  have hxw : w.heap.size + 1 + 1 < xb := by omega
  have hx3 : W.cell? ⟨xb, 3, none⟩ = some (.int .i64 x.ver) := hXW.cell 3
  have hsW := hXW.lt
  clear hW hbW hpv hQ2 hR2 hc2 hB2 hxb
  go_upto_region 4 with (fail)
  generalize hX : World.alloc W _ = X
  have hbX : Below W.heap.size W X := by rw [← hX]; exact bel_oneP _ _
  have hYX : Blk X W.heap.size 43 #[.int .i64 1, .int .i64 200, .int .i64 x.ver, .slice none 0 0, .bool false] := by rw [← hX]; exact Blk.new W _ _
  obtain ⟨yb, hyb⟩ : ∃ yb, W.heap.size = yb := ⟨_, rfl⟩
  have hXX := hXW.bel hbX
  have hpvX := hpvW.bel hbX
  have hQX := hQW.bel hbX
  have hRX := hRW.bel hbX
  have hcX := hcW.bel hbX
  have hBX := bel_then hBW hbX
  rw [hyb] at hYX hsW ⊢
  have hsX := hYX.lt
  clear hX hbX hXW hpvW hQW hRW hcW hBW hx3 hyb
  go_wp2_with fail
  refine (l1Below_any (w.heap.size + 1 + 1) 4 _ hcX (by omega)).mono ?_
  rintro e w3 ⟨u, rfl, ⟨q, rfl, hq0, hq1⟩, ho3, hc3⟩
  have HX3 := Lib.hid (hXX.only ho3 (by simp; omega))
  have HY3 := Lib.hid (hYX.only ho3 (by simp; omega))
  have HQ3 := Lib.hid (hQX.only ho3 (by simp; omega))
  have HR3 := Lib.hid (hRX.only ho3 (by simp))
  have HPV3 := Lib.hid (hpvX.only ho3 (by omega))
  have HLT := Lib.hid hltp
  have HLO := Lib.hid (fun b hb => (hpvX.lt b hb).1)
  have hB3 : Below w.heap.size w w3 := hBX.trans (ho3.bel w.heap.size hBX.size (fun y hy => by simp at hy; omega))
  have hs3 : yb < w3.heap.size := by have := ho3.size; omega
  clear hXX hYX hQX hRX hpvX hltp hBX hcX ho3 hsX
  have hj : q = 0 ∨ q = 1 ∨ ((q == 0) = false ∧ (q == 1) = false) := by
    by_cases h0 : q = 0
    · exact .inl h0
    by_cases h1 : q = 1
    · exact .inr (.inl h1)
    · exact .inr (.inr (by simp [h0, h1]))
  have hwv : IntKind.i64.wrap (x.ver + 1) = x.ver + 1 := IntWalk.i64_in _ (by omega)
  rcases hj with hj | hj | hj
  · subst hj
    obtain ⟨⟨n0, n1, n2, n3, n4⟩, hfn⟩ := HY3.out.all5
    have hx33 : w3.cell? ⟨xb, 3, none⟩ = some (.int .i64 x.ver) := HX3.out.cell 3
    have hfn1 := hfn 1
    clear hfn
    go_upto_region 9 with (fail)
    obtain ⟨V, hV⟩ : ∃ V, w3.setCell ⟨yb, 1, none⟩ (.int .i64 404) = V := ⟨_, rfl⟩
    rw [hV]
    have hy4 := HY3.out.set_ 1 (.int .i64 404)
    simp only [List.setIfInBounds_toArray, List.set_cons_zero, List.set_cons_succ] at hy4
    rw [hV] at hy4
    have HY := Lib.hid hy4
    have HX := Lib.hid (show Blk V xb 41 #[.int .i64 x.id, .string x.site, .string x.top, .int .i64 x.ver, .slice A4 x.loaded.length c4, .slice A5 x.mach.script.length c5, .int .i64 x.mach.pc, .slice A7 x.mach.regs.length c7, .int .i64 x.mach.steps, .bool x.mach.done, .bool x.mach.wait] from by rw [← hV]; exact (Below.heap_setCell _ _ _ _ (show xb ≠ yb by omega)).trans HX3.out)
    have HQ := Lib.hid (show Blk V w.heap.size 41 #[.int .i64 0, .string ⟨#[]⟩, .string ⟨#[]⟩, .int .i64 0, .slice none 0 0, .slice none 0 0, .int .i64 0, .slice none 0 0, .int .i64 0, .bool false, .bool false] from by rw [← hV]; exact (Below.heap_setCell _ _ _ _ (show w.heap.size ≠ yb by omega)).trans HQ3.out)
    have HRR := Lib.hid (show Blk V (w.heap.size + 1) 43 #[.int .i64 0, .int .i64 0, .int .i64 0, .slice none 0 0, .bool false] from by rw [← hV]; exact (Below.heap_setCell _ _ _ _ (show w.heap.size + 1 ≠ yb by omega)).trans HR3.out)
    have HPV := Lib.hid (show PageV (w.heap.size + 3) V x A4 c4 A5 c5 A7 c7 F from by rw [← hV]; exact HPV3.out.set (a := ⟨yb, 1, none⟩) (fun b hb => by have := HLT.out b hb; simp only; omega) _)
    have hcV : Cur V (w.heap.size + 1 + 1) := by rw [← hV]; exact hc3.set (q := ⟨yb, 1, none⟩) (show w.heap.size + 1 + 1 < yb by omega) _
    have hBV : Below w.heap.size w V := by rw [← hV]; exact (by repeat (first | with_reducible exact Below.refl _ _ | with_reducible assumption | with_reducible refine bel_alloc ?_ _ | with_reducible refine bel_drew ?_ | with_reducible refine bel_drewN ?_ _ | (with_reducible refine bel_set ?_ ?_ _; rotate_left; ((try simp); (try omega)))))
    have hsV : yb < V.heap.size := by rw [← hV]; simpa using hs3
    clear hV hy4 HY3 HX3 HQ3 HR3 HPV3 hc3 hB3 hs3 n0 n1 n2 n3 n4 hx33 hfn1
    have hS : ∀ w9, Only [w.heap.size + 1 + 1] V w9 → w9.cell? ⟨xb, 0, none⟩ = some (.int .i64 x.id) ∧ w9.cell? ⟨xb, 1, none⟩ = some (.string x.site) ∧ w9.cell? ⟨xb, 2, none⟩ = some (.string x.top) ∧ w9.cell? ⟨xb, 3, none⟩ = some (.int .i64 x.ver) ∧ w9.cell? ⟨xb, 4, none⟩ = some (.slice A4 x.loaded.length c4) ∧ w9.cell? ⟨xb, 5, none⟩ = some (.slice A5 x.mach.script.length c5) ∧ w9.cell? ⟨xb, 6, none⟩ = some (.int .i64 x.mach.pc) ∧ w9.cell? ⟨xb, 7, none⟩ = some (.slice A7 x.mach.regs.length c7) ∧ w9.cell? ⟨xb, 8, none⟩ = some (.int .i64 x.mach.steps) ∧ w9.cell? ⟨xb, 9, none⟩ = some (.bool x.mach.done) ∧ w9.cell? ⟨xb, 10, none⟩ = some (.bool x.mach.wait) ∧ w9.cell? ⟨yb, 0, none⟩ = some (.int .i64 1) ∧ w9.cell? ⟨yb, 1, none⟩ = some (.int .i64 404) ∧ w9.cell? ⟨yb, 2, none⟩ = some (.int .i64 x.ver) ∧ w9.cell? ⟨yb, 3, none⟩ = some (.slice none 0 0) ∧ w9.cell? ⟨yb, 4, none⟩ = some (.bool false) := fun w9 hb => by
      obtain ⟨⟨m0, m1, m2, m3, m4, m5, m6, m7, m8, m9, m10⟩, -⟩ := (HX.out.only hb (by simp; omega)).all11
      obtain ⟨⟨n0, n1, n2, n3, n4⟩, -⟩ := (HY.out.only hb (by simp; omega)).all5
      exact ⟨m0, m1, m2, m3, m4, m5, m6, m7, m8, m9, m10, n0, n1, n2, n3, n4⟩
    have hS2 : ∀ w9 : World, w9.heap[xb]? = V.heap[xb]? → w9.heap[yb]? = V.heap[yb]? → w9.cell? ⟨xb, 0, none⟩ = some (.int .i64 x.id) ∧ w9.cell? ⟨xb, 1, none⟩ = some (.string x.site) ∧ w9.cell? ⟨xb, 2, none⟩ = some (.string x.top) ∧ w9.cell? ⟨xb, 3, none⟩ = some (.int .i64 x.ver) ∧ w9.cell? ⟨xb, 4, none⟩ = some (.slice A4 x.loaded.length c4) ∧ w9.cell? ⟨xb, 5, none⟩ = some (.slice A5 x.mach.script.length c5) ∧ w9.cell? ⟨xb, 6, none⟩ = some (.int .i64 x.mach.pc) ∧ w9.cell? ⟨xb, 7, none⟩ = some (.slice A7 x.mach.regs.length c7) ∧ w9.cell? ⟨xb, 8, none⟩ = some (.int .i64 x.mach.steps) ∧ w9.cell? ⟨xb, 9, none⟩ = some (.bool x.mach.done) ∧ w9.cell? ⟨xb, 10, none⟩ = some (.bool x.mach.wait) ∧ w9.cell? ⟨yb, 0, none⟩ = some (.int .i64 1) ∧ w9.cell? ⟨yb, 1, none⟩ = some (.int .i64 404) ∧ w9.cell? ⟨yb, 2, none⟩ = some (.int .i64 x.ver) ∧ w9.cell? ⟨yb, 3, none⟩ = some (.slice none 0 0) ∧ w9.cell? ⟨yb, 4, none⟩ = some (.bool false) := fun w9 hb hb2 => by
      obtain ⟨⟨m0, m1, m2, m3, m4, m5, m6, m7, m8, m9, m10⟩, -⟩ := Blk.all11 (show Blk w9 xb _ _ from hb.trans HX.out)
      obtain ⟨⟨n0, n1, n2, n3, n4⟩, -⟩ := Blk.all5 (show Blk w9 yb _ _ from hb2.trans HY.out)
      exact ⟨m0, m1, m2, m3, m4, m5, m6, m7, m8, m9, m10, n0, n1, n2, n3, n4⟩
    have hrow : cStS.rep (V.alloc (.cells #[.string ⟨#[105, 110, 100, 101, 120]⟩, .string ⟨#[115, 116, 121, 108, 101]⟩, .string ⟨#[]⟩] 9)) [.slice (some ⟨V.heap.size, 0, none⟩) 3 3] [⟨#[105, 110, 100, 101, 120]⟩, ⟨#[115, 116, 121, 108, 101]⟩, ⟨#[]⟩] [V.heap.size] := rowStr V 9 [⟨#[105, 110, 100, 101, 120]⟩, ⟨#[115, 116, 121, 108, 101]⟩, ⟨#[]⟩] 3 rfl (by simp) (by decide) (by decide)
    go_upto_region 9 with (fail)
    refine wp_region_held_drew (S := (fun w9 => w9.cell? ⟨xb, 0, none⟩ = some (.int .i64 x.id) ∧ w9.cell? ⟨xb, 1, none⟩ = some (.string x.site) ∧ w9.cell? ⟨xb, 2, none⟩ = some (.string x.top) ∧ w9.cell? ⟨xb, 3, none⟩ = some (.int .i64 x.ver) ∧ w9.cell? ⟨xb, 4, none⟩ = some (.slice A4 x.loaded.length c4) ∧ w9.cell? ⟨xb, 5, none⟩ = some (.slice A5 x.mach.script.length c5) ∧ w9.cell? ⟨xb, 6, none⟩ = some (.int .i64 x.mach.pc) ∧ w9.cell? ⟨xb, 7, none⟩ = some (.slice A7 x.mach.regs.length c7) ∧ w9.cell? ⟨xb, 8, none⟩ = some (.int .i64 x.mach.steps) ∧ w9.cell? ⟨xb, 9, none⟩ = some (.bool x.mach.done) ∧ w9.cell? ⟨xb, 10, none⟩ = some (.bool x.mach.wait) ∧ w9.cell? ⟨yb, 0, none⟩ = some (.int .i64 1) ∧ w9.cell? ⟨yb, 1, none⟩ = some (.int .i64 404) ∧ w9.cell? ⟨yb, 2, none⟩ = some (.int .i64 x.ver) ∧ w9.cell? ⟨yb, 3, none⟩ = some (.slice none 0 0) ∧ w9.cell? ⟨yb, 4, none⟩ = some (.bool false))) (by kernel_rfl) (by (try dsimp only); (first | exact hS2 _ (by (repeat (first | rw [Below.heap_setCell _ _ _ _ (show xb ≠ w.heap.size by omega)] | rw [Below.heap_setCell _ _ _ _ (show xb ≠ w.heap.size + 1 by omega)])); exact hoR5.block xb (by omega) (by simp; omega)) (by (repeat (first | rw [Below.heap_setCell _ _ _ _ (show yb ≠ w.heap.size by omega)] | rw [Below.heap_setCell _ _ _ _ (show yb ≠ w.heap.size + 1 by omega)])); exact hoR5.block yb (by omega) (by simp; omega)) | exact hS _ (by repeat (first | with_reducible exact Only.refl _ _ | with_reducible assumption | with_reducible refine Only.alloc ?_ _ | with_reducible refine Only.drew ?_ | with_reducible refine Only.drewN ?_ _ | (with_reducible refine Only.setNew ?_ ?_ _; rotate_left; ((try simp); (try omega))))))) (fun hHeld => ?_)
    refine take_read (i := 0) 26 (v := ?v0) rfl rfl (by kernel_rfl) (by kernel_rfl) (by kernel_rfl) (fun _ _ _ h => h) (by rfl) ?hy0 (by assumption) ?rest0
    case hy0 => (intro w hSw; (try dsimp only at hSw); go_simp; (try with_reducible rfl))
    try simp only [Act.put, List.setIfInBounds_toArray, List.set_cons_zero, List.set_cons_succ]
    refine take_read (i := 1) 27 (v := ?v1) rfl rfl (by kernel_rfl) (by kernel_rfl) (by kernel_rfl) (fun _ _ _ h => h) (by rfl) ?hy1 (by assumption) ?rest1
    case hy1 => (intro w hSw; (try dsimp only at hSw); go_simp; (try with_reducible rfl))
    try simp only [Act.put, List.setIfInBounds_toArray, List.set_cons_zero, List.set_cons_succ]
    refine take_read (i := 4) 30 (v := ?v4) rfl rfl (by kernel_rfl) (by kernel_rfl) (by kernel_rfl) (fun _ _ _ h => h) (by rfl) ?hy4 (by assumption) ?rest4
    case hy4 => (intro w hSw; (try dsimp only at hSw); go_simp; (try with_reducible rfl))
    try simp only [Act.put, List.setIfInBounds_toArray, List.set_cons_zero, List.set_cons_succ]
    refine wpAnyH_ready (rs := [2]) (by kernel_rfl) (by simp) ?_
    refine AllReadyH.cons rfl (fun K hK => ?_) AllReadyH.nil
    first | (go_at_call 69; refine (l1Str_any (w.heap.size + 1 + 1) _ [⟨#[105, 110, 100, 101, 120]⟩, ⟨#[115, 116, 121, 108, 101]⟩, ⟨#[]⟩] _ _ (by repeat (first | with_reducible assumption | with_reducible refine Cur.alloc ?_ _ | with_reducible refine Cur.drew ?_ | with_reducible refine Cur.drewN ?_ _ | (with_reducible refine Cur.set ?_ ?_ _; rotate_left; ((try simp); (try omega))))) (by exact Cod.bel hrow (by repeat (first | with_reducible exact Below.refl _ _ | with_reducible assumption | with_reducible refine bel_alloc ?_ _ | with_reducible refine bel_drew ?_ | with_reducible refine bel_drewN ?_ _ | (with_reducible refine bel_set ?_ ?_ _; rotate_left; ((try simp); (try omega)))))) (by simp) (by (try simp); omega)).mono ?_; rintro e w5 ⟨u, rfl, ⟨pa, rfl, hpa⟩, ho5, hc5⟩; have hoR5 : Only [w.heap.size + 1 + 1] V w5 := (show Only [w.heap.size + 1 + 1] V _ from (by repeat (first | with_reducible exact Only.refl _ _ | with_reducible assumption | with_reducible refine Only.alloc ?_ _ | with_reducible refine Only.drew ?_ | with_reducible refine Only.drewN ?_ _ | (with_reducible refine Only.setNew ?_ ?_ _; rotate_left; ((try simp); (try omega)))))).trans ho5; have hpa1 : pa.size ≤ 100 := (by decide : ∀ x ∈ ([⟨#[105, 110, 100, 101, 120]⟩, ⟨#[115, 116, 121, 108, 101]⟩, ⟨#[]⟩] : List ByteArray), x.size ≤ 100) pa hpa; have hQ5 := HQ.out.only hoR5 (by simp; omega); have hR5 := HRR.out.only hoR5 (by simp); obtain ⟨⟨k0, k1, k2, k3, k4, k5, k6, k7, k8, k9, k10⟩, hfk⟩ := hQ5.all11; obtain ⟨⟨l0, l1, l2, l3, l4⟩, hfl⟩ := hR5.all5; have HP5 := Lib.hid (HPV.out.keep (fun b hb => hoR5.block b (HPV.out.lt b hb).2 (by have := HLO.out b hb; simp; omega))); have hB5 : Below w.heap.size w w5 := hBV.trans (hoR5.bel w.heap.size hBV.size (fun y hy => by simp at hy; omega)); clear ho5 hpa) | go_simp
    refine hK.out _ _ ?_ (fun hHeld => ?_)
    · (try dsimp only)
      (first | exact hS2 _ (by (repeat (first | rw [Below.heap_setCell _ _ _ _ (show xb ≠ w.heap.size by omega)] | rw [Below.heap_setCell _ _ _ _ (show xb ≠ w.heap.size + 1 by omega)])); exact hoR5.block xb (by omega) (by simp; omega)) (by (repeat (first | rw [Below.heap_setCell _ _ _ _ (show yb ≠ w.heap.size by omega)] | rw [Below.heap_setCell _ _ _ _ (show yb ≠ w.heap.size + 1 by omega)])); exact hoR5.block yb (by omega) (by simp; omega)) | exact hS _ (by repeat (first | with_reducible exact Only.refl _ _ | with_reducible assumption | with_reducible refine Only.alloc ?_ _ | with_reducible refine Only.drew ?_ | with_reducible refine Only.drewN ?_ _ | (with_reducible refine Only.setNew ?_ ?_ _; rotate_left; ((try simp); (try omega))))))
    clear hK K
    try simp only [Act.put, List.setIfInBounds_toArray, List.set_cons_zero, List.set_cons_succ]
    refine wpAnyH_ready (rs := [3]) (by kernel_rfl) (by simp) ?_
    refine AllReadyH.cons rfl (fun K hK => ?_) AllReadyH.nil
    go_simp
    (go_at_call 69; refine (l1Str_any (w.heap.size + 1 + 1) _ [⟨#[105, 110, 100, 101, 120]⟩, ⟨#[115, 116, 121, 108, 101]⟩, ⟨#[]⟩] _ _ (by repeat (first | with_reducible assumption | with_reducible refine Cur.alloc ?_ _ | with_reducible refine Cur.drew ?_ | with_reducible refine Cur.drewN ?_ _ | (with_reducible refine Cur.set ?_ ?_ _; rotate_left; ((try simp); (try omega))))) (by exact Cod.bel hrow (by repeat (first | with_reducible exact Below.refl _ _ | with_reducible assumption | with_reducible refine bel_alloc ?_ _ | with_reducible refine bel_drew ?_ | with_reducible refine bel_drewN ?_ _ | (with_reducible refine bel_set ?_ ?_ _; rotate_left; ((try simp); (try omega)))))) (by simp) (by (try simp); omega)).mono ?_; rintro e w5 ⟨u, rfl, ⟨pa, rfl, hpa⟩, ho5, hc5⟩; have hoR5 : Only [w.heap.size + 1 + 1] V w5 := (show Only [w.heap.size + 1 + 1] V _ from (by repeat (first | with_reducible exact Only.refl _ _ | with_reducible assumption | with_reducible refine Only.alloc ?_ _ | with_reducible refine Only.drew ?_ | with_reducible refine Only.drewN ?_ _ | (with_reducible refine Only.setNew ?_ ?_ _; rotate_left; ((try simp); (try omega)))))).trans ho5; have hpa1 : pa.size ≤ 100 := (by decide : ∀ x ∈ ([⟨#[105, 110, 100, 101, 120]⟩, ⟨#[115, 116, 121, 108, 101]⟩, ⟨#[]⟩] : List ByteArray), x.size ≤ 100) pa hpa; have hQ5 := HQ.out.only hoR5 (by simp; omega); have hR5 := HRR.out.only hoR5 (by simp); obtain ⟨⟨k0, k1, k2, k3, k4, k5, k6, k7, k8, k9, k10⟩, hfk⟩ := hQ5.all11; obtain ⟨⟨l0, l1, l2, l3, l4⟩, hfl⟩ := hR5.all5; have HP5 := Lib.hid (HPV.out.keep (fun b hb => hoR5.block b (HPV.out.lt b hb).2 (by have := HLO.out b hb; simp; omega))); have hB5 : Below w.heap.size w w5 := hBV.trans (hoR5.bel w.heap.size hBV.size (fun y hy => by simp at hy; omega)); clear ho5 hpa)
    try go_wp2_with fail
    refine hK.out _ _ ?_ (fun hHeld => ?_)
    · (try dsimp only)
      (first | exact hS2 _ (by (repeat (first | rw [Below.heap_setCell _ _ _ _ (show xb ≠ w.heap.size by omega)] | rw [Below.heap_setCell _ _ _ _ (show xb ≠ w.heap.size + 1 by omega)])); exact hoR5.block xb (by omega) (by simp; omega)) (by (repeat (first | rw [Below.heap_setCell _ _ _ _ (show yb ≠ w.heap.size by omega)] | rw [Below.heap_setCell _ _ _ _ (show yb ≠ w.heap.size + 1 by omega)])); exact hoR5.block yb (by omega) (by simp; omega)) | exact hS _ (by repeat (first | with_reducible exact Only.refl _ _ | with_reducible assumption | with_reducible refine Only.alloc ?_ _ | with_reducible refine Only.drew ?_ | with_reducible refine Only.drewN ?_ _ | (with_reducible refine Only.setNew ?_ ?_ _; rotate_left; ((try simp); (try omega))))))
    clear hK K
    try simp only [Act.put, List.setIfInBounds_toArray, List.set_cons_zero, List.set_cons_succ]
    refine wpAnyH_ready (rs := [5]) (by kernel_rfl) (by simp) ?_
    refine AllReadyH.cons rfl (fun K hK => ?_) AllReadyH.nil
    first | (go_at_call 69; refine (l1Str_any (w.heap.size + 1 + 1) _ [⟨#[105, 110, 100, 101, 120]⟩, ⟨#[115, 116, 121, 108, 101]⟩, ⟨#[]⟩] _ _ (by repeat (first | with_reducible assumption | with_reducible refine Cur.alloc ?_ _ | with_reducible refine Cur.drew ?_ | with_reducible refine Cur.drewN ?_ _ | (with_reducible refine Cur.set ?_ ?_ _; rotate_left; ((try simp); (try omega))))) (by exact Cod.bel hrow (by repeat (first | with_reducible exact Below.refl _ _ | with_reducible assumption | with_reducible refine bel_alloc ?_ _ | with_reducible refine bel_drew ?_ | with_reducible refine bel_drewN ?_ _ | (with_reducible refine bel_set ?_ ?_ _; rotate_left; ((try simp); (try omega)))))) (by simp) (by (try simp); omega)).mono ?_; rintro e w5 ⟨u, rfl, ⟨pa, rfl, hpa⟩, ho5, hc5⟩; have hoR5 : Only [w.heap.size + 1 + 1] V w5 := (show Only [w.heap.size + 1 + 1] V _ from (by repeat (first | with_reducible exact Only.refl _ _ | with_reducible assumption | with_reducible refine Only.alloc ?_ _ | with_reducible refine Only.drew ?_ | with_reducible refine Only.drewN ?_ _ | (with_reducible refine Only.setNew ?_ ?_ _; rotate_left; ((try simp); (try omega)))))).trans ho5; have hpa1 : pa.size ≤ 100 := (by decide : ∀ x ∈ ([⟨#[105, 110, 100, 101, 120]⟩, ⟨#[115, 116, 121, 108, 101]⟩, ⟨#[]⟩] : List ByteArray), x.size ≤ 100) pa hpa; have hQ5 := HQ.out.only hoR5 (by simp; omega); have hR5 := HRR.out.only hoR5 (by simp); obtain ⟨⟨k0, k1, k2, k3, k4, k5, k6, k7, k8, k9, k10⟩, hfk⟩ := hQ5.all11; obtain ⟨⟨l0, l1, l2, l3, l4⟩, hfl⟩ := hR5.all5; have HP5 := Lib.hid (HPV.out.keep (fun b hb => hoR5.block b (HPV.out.lt b hb).2 (by have := HLO.out b hb; simp; omega))); have hB5 : Below w.heap.size w w5 := hBV.trans (hoR5.bel w.heap.size hBV.size (fun y hy => by simp at hy; omega)); clear ho5 hpa) | go_simp
    refine hK.out _ _ ?_ (fun hHeld => ?_)
    · (try dsimp only)
      (first | exact hS2 _ (by (repeat (first | rw [Below.heap_setCell _ _ _ _ (show xb ≠ w.heap.size by omega)] | rw [Below.heap_setCell _ _ _ _ (show xb ≠ w.heap.size + 1 by omega)])); exact hoR5.block xb (by omega) (by simp; omega)) (by (repeat (first | rw [Below.heap_setCell _ _ _ _ (show yb ≠ w.heap.size by omega)] | rw [Below.heap_setCell _ _ _ _ (show yb ≠ w.heap.size + 1 by omega)])); exact hoR5.block yb (by omega) (by simp; omega)) | exact hS _ (by repeat (first | with_reducible exact Only.refl _ _ | with_reducible assumption | with_reducible refine Only.alloc ?_ _ | with_reducible refine Only.drew ?_ | with_reducible refine Only.drewN ?_ _ | (with_reducible refine Only.setNew ?_ ?_ _; rotate_left; ((try simp); (try omega))))))
    clear hK K
    try simp only [Act.put, List.setIfInBounds_toArray, List.set_cons_zero, List.set_cons_succ]
    refine take_read (i := 6) 3 (v := ?v6) rfl rfl (by kernel_rfl) (by kernel_rfl) (by kernel_rfl) (fun _ _ _ h => h) (by rfl) ?hy6 (by assumption) ?rest6
    case hy6 => (intro w hSw; (try dsimp only at hSw); go_simp; (try with_reducible rfl))
    try simp only [Act.put, List.setIfInBounds_toArray, List.set_cons_zero, List.set_cons_succ]
    refine wpAnyH_ready (rs := [7]) (by kernel_rfl) (by simp) ?_
    refine AllReadyH.cons rfl (fun K hK => ?_) AllReadyH.nil
    first | (go_at_call 69; refine (l1Str_any (w.heap.size + 1 + 1) _ [⟨#[105, 110, 100, 101, 120]⟩, ⟨#[115, 116, 121, 108, 101]⟩, ⟨#[]⟩] _ _ (by repeat (first | with_reducible assumption | with_reducible refine Cur.alloc ?_ _ | with_reducible refine Cur.drew ?_ | with_reducible refine Cur.drewN ?_ _ | (with_reducible refine Cur.set ?_ ?_ _; rotate_left; ((try simp); (try omega))))) (by exact Cod.bel hrow (by repeat (first | with_reducible exact Below.refl _ _ | with_reducible assumption | with_reducible refine bel_alloc ?_ _ | with_reducible refine bel_drew ?_ | with_reducible refine bel_drewN ?_ _ | (with_reducible refine bel_set ?_ ?_ _; rotate_left; ((try simp); (try omega)))))) (by simp) (by (try simp); omega)).mono ?_; rintro e w5 ⟨u, rfl, ⟨pa, rfl, hpa⟩, ho5, hc5⟩; have hoR5 : Only [w.heap.size + 1 + 1] V w5 := (show Only [w.heap.size + 1 + 1] V _ from (by repeat (first | with_reducible exact Only.refl _ _ | with_reducible assumption | with_reducible refine Only.alloc ?_ _ | with_reducible refine Only.drew ?_ | with_reducible refine Only.drewN ?_ _ | (with_reducible refine Only.setNew ?_ ?_ _; rotate_left; ((try simp); (try omega)))))).trans ho5; have hpa1 : pa.size ≤ 100 := (by decide : ∀ x ∈ ([⟨#[105, 110, 100, 101, 120]⟩, ⟨#[115, 116, 121, 108, 101]⟩, ⟨#[]⟩] : List ByteArray), x.size ≤ 100) pa hpa; have hQ5 := HQ.out.only hoR5 (by simp; omega); have hR5 := HRR.out.only hoR5 (by simp); obtain ⟨⟨k0, k1, k2, k3, k4, k5, k6, k7, k8, k9, k10⟩, hfk⟩ := hQ5.all11; obtain ⟨⟨l0, l1, l2, l3, l4⟩, hfl⟩ := hR5.all5; have HP5 := Lib.hid (HPV.out.keep (fun b hb => hoR5.block b (HPV.out.lt b hb).2 (by have := HLO.out b hb; simp; omega))); have hB5 : Below w.heap.size w w5 := hBV.trans (hoR5.bel w.heap.size hBV.size (fun y hy => by simp at hy; omega)); clear ho5 hpa) | go_simp
    refine hK.out _ _ ?_ (fun hHeld => ?_)
    · (try dsimp only)
      (first | exact hS2 _ (by (repeat (first | rw [Below.heap_setCell _ _ _ _ (show xb ≠ w.heap.size by omega)] | rw [Below.heap_setCell _ _ _ _ (show xb ≠ w.heap.size + 1 by omega)])); exact hoR5.block xb (by omega) (by simp; omega)) (by (repeat (first | rw [Below.heap_setCell _ _ _ _ (show yb ≠ w.heap.size by omega)] | rw [Below.heap_setCell _ _ _ _ (show yb ≠ w.heap.size + 1 by omega)])); exact hoR5.block yb (by omega) (by simp; omega)) | exact hS _ (by repeat (first | with_reducible exact Only.refl _ _ | with_reducible assumption | with_reducible refine Only.alloc ?_ _ | with_reducible refine Only.drew ?_ | with_reducible refine Only.drewN ?_ _ | (with_reducible refine Only.setNew ?_ ?_ _; rotate_left; ((try simp); (try omega))))))
    clear hK K
    try simp only [Act.put, List.setIfInBounds_toArray, List.set_cons_zero, List.set_cons_succ]
    refine wpAnyH_done (by kernel_rfl) ?_ _
    have HQ5 := Lib.hid hQ5
    have HR5 := Lib.hid hR5
    go_wp2_with fail
    refine sets_ret11_5 HQ5.out rfl HR5.out rfl (by omega) (fun W9 e9 hb9 hd9 => ?_)
    obtain ⟨⟨dd0, dd1, dd2, dd3, dd4, dd5, dd6, dd7, dd8, dd9, dd10⟩, -⟩ := hb9.all11
    obtain ⟨⟨ee0, ee1, ee2, ee3, ee4⟩, -⟩ := hd9.all5
    refine bodyPost_ret (v := .tuple #[.agg #[.int .i64 x.id, .string x.site, .string x.top, .int .i64 x.ver, .slice A4 x.loaded.length c4, .slice A5 x.mach.script.length c5, .int .i64 x.mach.pc, .slice A7 x.mach.regs.length c7, .int .i64 x.mach.steps, .bool x.mach.done, .bool x.mach.wait], .string pa, .agg #[.int .i64 1, .int .i64 404, .int .i64 x.ver, .slice none 0 0, .bool false]]) (by simp [results, Try.results16, go_sem, dd0, dd1, dd2, dd3, dd4, dd5, dd6, dd7, dd8, dd9, dd10, ee0, ee1, ee2, ee3, ee4]) rfl ?_
    subst e9
    have hv9 := HP5.out
    exact ⟨x, A4, c4, A5, c5, A7, c7, pa, 404, x.ver, rfl, (by repeat (first | with_reducible exact Below.refl _ _ | with_reducible assumption | with_reducible refine bel_alloc ?_ _ | with_reducible refine bel_drew ?_ | with_reducible refine bel_drewN ?_ _ | (with_reducible refine bel_set ?_ ?_ _; rotate_left; ((try simp); (try omega))))), ⟨F, (hv9.keepB (show Keep (w.heap.size + 3) _ _ from (by repeat (first | with_reducible exact Keep.refl _ _ | with_reducible assumption | with_reducible refine Keep.alloc ?_ _ | with_reducible refine Keep.drew ?_ | with_reducible refine Keep.drewN ?_ _ | (with_reducible refine Keep.set_ ?_ ?_ _; rotate_left; ((try simp); (try omega))))))).mono (by omega)⟩, hsz, hv0, hv1, hpa1, by decide, by omega⟩
  · subst hj
    obtain ⟨⟨n0, n1, n2, n3, n4⟩, hfn⟩ := HY3.out.all5
    have hx33 : w3.cell? ⟨xb, 3, none⟩ = some (.int .i64 x.ver) := HX3.out.cell 3
    have hfn2 := hfn 2
    clear hfn
    go_upto_region 9 with (fail)
    obtain ⟨V, hV⟩ : ∃ V, w3.setCell ⟨yb, 2, none⟩ (.int .i64 (x.ver + 1)) = V := ⟨_, rfl⟩
    rw [hV]
    have hy4 := HY3.out.set_ 2 (.int .i64 (x.ver + 1))
    simp only [List.setIfInBounds_toArray, List.set_cons_zero, List.set_cons_succ] at hy4
    rw [hV] at hy4
    have HY := Lib.hid hy4
    have HX := Lib.hid (show Blk V xb 41 #[.int .i64 x.id, .string x.site, .string x.top, .int .i64 x.ver, .slice A4 x.loaded.length c4, .slice A5 x.mach.script.length c5, .int .i64 x.mach.pc, .slice A7 x.mach.regs.length c7, .int .i64 x.mach.steps, .bool x.mach.done, .bool x.mach.wait] from by rw [← hV]; exact (Below.heap_setCell _ _ _ _ (show xb ≠ yb by omega)).trans HX3.out)
    have HQ := Lib.hid (show Blk V w.heap.size 41 #[.int .i64 0, .string ⟨#[]⟩, .string ⟨#[]⟩, .int .i64 0, .slice none 0 0, .slice none 0 0, .int .i64 0, .slice none 0 0, .int .i64 0, .bool false, .bool false] from by rw [← hV]; exact (Below.heap_setCell _ _ _ _ (show w.heap.size ≠ yb by omega)).trans HQ3.out)
    have HRR := Lib.hid (show Blk V (w.heap.size + 1) 43 #[.int .i64 0, .int .i64 0, .int .i64 0, .slice none 0 0, .bool false] from by rw [← hV]; exact (Below.heap_setCell _ _ _ _ (show w.heap.size + 1 ≠ yb by omega)).trans HR3.out)
    have HPV := Lib.hid (show PageV (w.heap.size + 3) V x A4 c4 A5 c5 A7 c7 F from by rw [← hV]; exact HPV3.out.set (a := ⟨yb, 2, none⟩) (fun b hb => by have := HLT.out b hb; simp only; omega) _)
    have hcV : Cur V (w.heap.size + 1 + 1) := by rw [← hV]; exact hc3.set (q := ⟨yb, 2, none⟩) (show w.heap.size + 1 + 1 < yb by omega) _
    have hBV : Below w.heap.size w V := by rw [← hV]; exact (by repeat (first | with_reducible exact Below.refl _ _ | with_reducible assumption | with_reducible refine bel_alloc ?_ _ | with_reducible refine bel_drew ?_ | with_reducible refine bel_drewN ?_ _ | (with_reducible refine bel_set ?_ ?_ _; rotate_left; ((try simp); (try omega)))))
    have hsV : yb < V.heap.size := by rw [← hV]; simpa using hs3
    clear hV hy4 HY3 HX3 HQ3 HR3 HPV3 hc3 hB3 hs3 n0 n1 n2 n3 n4 hx33 hfn2
    have hS : ∀ w9, Only [w.heap.size + 1 + 1] V w9 → w9.cell? ⟨xb, 0, none⟩ = some (.int .i64 x.id) ∧ w9.cell? ⟨xb, 1, none⟩ = some (.string x.site) ∧ w9.cell? ⟨xb, 2, none⟩ = some (.string x.top) ∧ w9.cell? ⟨xb, 3, none⟩ = some (.int .i64 x.ver) ∧ w9.cell? ⟨xb, 4, none⟩ = some (.slice A4 x.loaded.length c4) ∧ w9.cell? ⟨xb, 5, none⟩ = some (.slice A5 x.mach.script.length c5) ∧ w9.cell? ⟨xb, 6, none⟩ = some (.int .i64 x.mach.pc) ∧ w9.cell? ⟨xb, 7, none⟩ = some (.slice A7 x.mach.regs.length c7) ∧ w9.cell? ⟨xb, 8, none⟩ = some (.int .i64 x.mach.steps) ∧ w9.cell? ⟨xb, 9, none⟩ = some (.bool x.mach.done) ∧ w9.cell? ⟨xb, 10, none⟩ = some (.bool x.mach.wait) ∧ w9.cell? ⟨yb, 0, none⟩ = some (.int .i64 1) ∧ w9.cell? ⟨yb, 1, none⟩ = some (.int .i64 200) ∧ w9.cell? ⟨yb, 2, none⟩ = some (.int .i64 (x.ver + 1)) ∧ w9.cell? ⟨yb, 3, none⟩ = some (.slice none 0 0) ∧ w9.cell? ⟨yb, 4, none⟩ = some (.bool false) := fun w9 hb => by
      obtain ⟨⟨m0, m1, m2, m3, m4, m5, m6, m7, m8, m9, m10⟩, -⟩ := (HX.out.only hb (by simp; omega)).all11
      obtain ⟨⟨n0, n1, n2, n3, n4⟩, -⟩ := (HY.out.only hb (by simp; omega)).all5
      exact ⟨m0, m1, m2, m3, m4, m5, m6, m7, m8, m9, m10, n0, n1, n2, n3, n4⟩
    have hS2 : ∀ w9 : World, w9.heap[xb]? = V.heap[xb]? → w9.heap[yb]? = V.heap[yb]? → w9.cell? ⟨xb, 0, none⟩ = some (.int .i64 x.id) ∧ w9.cell? ⟨xb, 1, none⟩ = some (.string x.site) ∧ w9.cell? ⟨xb, 2, none⟩ = some (.string x.top) ∧ w9.cell? ⟨xb, 3, none⟩ = some (.int .i64 x.ver) ∧ w9.cell? ⟨xb, 4, none⟩ = some (.slice A4 x.loaded.length c4) ∧ w9.cell? ⟨xb, 5, none⟩ = some (.slice A5 x.mach.script.length c5) ∧ w9.cell? ⟨xb, 6, none⟩ = some (.int .i64 x.mach.pc) ∧ w9.cell? ⟨xb, 7, none⟩ = some (.slice A7 x.mach.regs.length c7) ∧ w9.cell? ⟨xb, 8, none⟩ = some (.int .i64 x.mach.steps) ∧ w9.cell? ⟨xb, 9, none⟩ = some (.bool x.mach.done) ∧ w9.cell? ⟨xb, 10, none⟩ = some (.bool x.mach.wait) ∧ w9.cell? ⟨yb, 0, none⟩ = some (.int .i64 1) ∧ w9.cell? ⟨yb, 1, none⟩ = some (.int .i64 200) ∧ w9.cell? ⟨yb, 2, none⟩ = some (.int .i64 (x.ver + 1)) ∧ w9.cell? ⟨yb, 3, none⟩ = some (.slice none 0 0) ∧ w9.cell? ⟨yb, 4, none⟩ = some (.bool false) := fun w9 hb hb2 => by
      obtain ⟨⟨m0, m1, m2, m3, m4, m5, m6, m7, m8, m9, m10⟩, -⟩ := Blk.all11 (show Blk w9 xb _ _ from hb.trans HX.out)
      obtain ⟨⟨n0, n1, n2, n3, n4⟩, -⟩ := Blk.all5 (show Blk w9 yb _ _ from hb2.trans HY.out)
      exact ⟨m0, m1, m2, m3, m4, m5, m6, m7, m8, m9, m10, n0, n1, n2, n3, n4⟩
    have hrow : cStS.rep (V.alloc (.cells #[.string ⟨#[105, 110, 100, 101, 120]⟩, .string ⟨#[115, 116, 121, 108, 101]⟩, .string ⟨#[]⟩] 9)) [.slice (some ⟨V.heap.size, 0, none⟩) 3 3] [⟨#[105, 110, 100, 101, 120]⟩, ⟨#[115, 116, 121, 108, 101]⟩, ⟨#[]⟩] [V.heap.size] := rowStr V 9 [⟨#[105, 110, 100, 101, 120]⟩, ⟨#[115, 116, 121, 108, 101]⟩, ⟨#[]⟩] 3 rfl (by simp) (by decide) (by decide)
    go_upto_region 9 with (fail)
    refine wp_region_held_drew (S := (fun w9 => w9.cell? ⟨xb, 0, none⟩ = some (.int .i64 x.id) ∧ w9.cell? ⟨xb, 1, none⟩ = some (.string x.site) ∧ w9.cell? ⟨xb, 2, none⟩ = some (.string x.top) ∧ w9.cell? ⟨xb, 3, none⟩ = some (.int .i64 x.ver) ∧ w9.cell? ⟨xb, 4, none⟩ = some (.slice A4 x.loaded.length c4) ∧ w9.cell? ⟨xb, 5, none⟩ = some (.slice A5 x.mach.script.length c5) ∧ w9.cell? ⟨xb, 6, none⟩ = some (.int .i64 x.mach.pc) ∧ w9.cell? ⟨xb, 7, none⟩ = some (.slice A7 x.mach.regs.length c7) ∧ w9.cell? ⟨xb, 8, none⟩ = some (.int .i64 x.mach.steps) ∧ w9.cell? ⟨xb, 9, none⟩ = some (.bool x.mach.done) ∧ w9.cell? ⟨xb, 10, none⟩ = some (.bool x.mach.wait) ∧ w9.cell? ⟨yb, 0, none⟩ = some (.int .i64 1) ∧ w9.cell? ⟨yb, 1, none⟩ = some (.int .i64 200) ∧ w9.cell? ⟨yb, 2, none⟩ = some (.int .i64 (x.ver + 1)) ∧ w9.cell? ⟨yb, 3, none⟩ = some (.slice none 0 0) ∧ w9.cell? ⟨yb, 4, none⟩ = some (.bool false))) (by kernel_rfl) (by (try dsimp only); (first | exact hS2 _ (by (repeat (first | rw [Below.heap_setCell _ _ _ _ (show xb ≠ w.heap.size by omega)] | rw [Below.heap_setCell _ _ _ _ (show xb ≠ w.heap.size + 1 by omega)])); exact hoR5.block xb (by omega) (by simp; omega)) (by (repeat (first | rw [Below.heap_setCell _ _ _ _ (show yb ≠ w.heap.size by omega)] | rw [Below.heap_setCell _ _ _ _ (show yb ≠ w.heap.size + 1 by omega)])); exact hoR5.block yb (by omega) (by simp; omega)) | exact hS _ (by repeat (first | with_reducible exact Only.refl _ _ | with_reducible assumption | with_reducible refine Only.alloc ?_ _ | with_reducible refine Only.drew ?_ | with_reducible refine Only.drewN ?_ _ | (with_reducible refine Only.setNew ?_ ?_ _; rotate_left; ((try simp); (try omega))))))) (fun hHeld => ?_)
    refine take_read (i := 0) 26 (v := ?x2_v0) rfl rfl (by kernel_rfl) (by kernel_rfl) (by kernel_rfl) (fun _ _ _ h => h) (by rfl) ?x2_hy0 (by assumption) ?x2_rest0
    case x2_hy0 => (intro w hSw; (try dsimp only at hSw); go_simp; (try with_reducible rfl))
    try simp only [Act.put, List.setIfInBounds_toArray, List.set_cons_zero, List.set_cons_succ]
    refine take_read (i := 1) 27 (v := ?x2_v1) rfl rfl (by kernel_rfl) (by kernel_rfl) (by kernel_rfl) (fun _ _ _ h => h) (by rfl) ?x2_hy1 (by assumption) ?x2_rest1
    case x2_hy1 => (intro w hSw; (try dsimp only at hSw); go_simp; (try with_reducible rfl))
    try simp only [Act.put, List.setIfInBounds_toArray, List.set_cons_zero, List.set_cons_succ]
    refine take_read (i := 4) 30 (v := ?x2_v4) rfl rfl (by kernel_rfl) (by kernel_rfl) (by kernel_rfl) (fun _ _ _ h => h) (by rfl) ?x2_hy4 (by assumption) ?x2_rest4
    case x2_hy4 => (intro w hSw; (try dsimp only at hSw); go_simp; (try with_reducible rfl))
    try simp only [Act.put, List.setIfInBounds_toArray, List.set_cons_zero, List.set_cons_succ]
    refine wpAnyH_ready (rs := [2]) (by kernel_rfl) (by simp) ?_
    refine AllReadyH.cons rfl (fun K hK => ?_) AllReadyH.nil
    first | (go_at_call 69; refine (l1Str_any (w.heap.size + 1 + 1) _ [⟨#[105, 110, 100, 101, 120]⟩, ⟨#[115, 116, 121, 108, 101]⟩, ⟨#[]⟩] _ _ (by repeat (first | with_reducible assumption | with_reducible refine Cur.alloc ?_ _ | with_reducible refine Cur.drew ?_ | with_reducible refine Cur.drewN ?_ _ | (with_reducible refine Cur.set ?_ ?_ _; rotate_left; ((try simp); (try omega))))) (by exact Cod.bel hrow (by repeat (first | with_reducible exact Below.refl _ _ | with_reducible assumption | with_reducible refine bel_alloc ?_ _ | with_reducible refine bel_drew ?_ | with_reducible refine bel_drewN ?_ _ | (with_reducible refine bel_set ?_ ?_ _; rotate_left; ((try simp); (try omega)))))) (by simp) (by (try simp); omega)).mono ?_; rintro e w5 ⟨u, rfl, ⟨pa, rfl, hpa⟩, ho5, hc5⟩; have hoR5 : Only [w.heap.size + 1 + 1] V w5 := (show Only [w.heap.size + 1 + 1] V _ from (by repeat (first | with_reducible exact Only.refl _ _ | with_reducible assumption | with_reducible refine Only.alloc ?_ _ | with_reducible refine Only.drew ?_ | with_reducible refine Only.drewN ?_ _ | (with_reducible refine Only.setNew ?_ ?_ _; rotate_left; ((try simp); (try omega)))))).trans ho5; have hpa1 : pa.size ≤ 100 := (by decide : ∀ x ∈ ([⟨#[105, 110, 100, 101, 120]⟩, ⟨#[115, 116, 121, 108, 101]⟩, ⟨#[]⟩] : List ByteArray), x.size ≤ 100) pa hpa; have hQ5 := HQ.out.only hoR5 (by simp; omega); have hR5 := HRR.out.only hoR5 (by simp); obtain ⟨⟨k0, k1, k2, k3, k4, k5, k6, k7, k8, k9, k10⟩, hfk⟩ := hQ5.all11; obtain ⟨⟨l0, l1, l2, l3, l4⟩, hfl⟩ := hR5.all5; have HP5 := Lib.hid (HPV.out.keep (fun b hb => hoR5.block b (HPV.out.lt b hb).2 (by have := HLO.out b hb; simp; omega))); have hB5 : Below w.heap.size w w5 := hBV.trans (hoR5.bel w.heap.size hBV.size (fun y hy => by simp at hy; omega)); clear ho5 hpa) | go_simp
    refine hK.out _ _ ?_ (fun hHeld => ?_)
    · (try dsimp only)
      (first | exact hS2 _ (by (repeat (first | rw [Below.heap_setCell _ _ _ _ (show xb ≠ w.heap.size by omega)] | rw [Below.heap_setCell _ _ _ _ (show xb ≠ w.heap.size + 1 by omega)])); exact hoR5.block xb (by omega) (by simp; omega)) (by (repeat (first | rw [Below.heap_setCell _ _ _ _ (show yb ≠ w.heap.size by omega)] | rw [Below.heap_setCell _ _ _ _ (show yb ≠ w.heap.size + 1 by omega)])); exact hoR5.block yb (by omega) (by simp; omega)) | exact hS _ (by repeat (first | with_reducible exact Only.refl _ _ | with_reducible assumption | with_reducible refine Only.alloc ?_ _ | with_reducible refine Only.drew ?_ | with_reducible refine Only.drewN ?_ _ | (with_reducible refine Only.setNew ?_ ?_ _; rotate_left; ((try simp); (try omega))))))
    clear hK K
    try simp only [Act.put, List.setIfInBounds_toArray, List.set_cons_zero, List.set_cons_succ]
    refine wpAnyH_ready (rs := [3]) (by kernel_rfl) (by simp) ?_
    refine AllReadyH.cons rfl (fun K hK => ?_) AllReadyH.nil
    go_simp
    (go_at_call 69; refine (l1Str_any (w.heap.size + 1 + 1) _ [⟨#[105, 110, 100, 101, 120]⟩, ⟨#[115, 116, 121, 108, 101]⟩, ⟨#[]⟩] _ _ (by repeat (first | with_reducible assumption | with_reducible refine Cur.alloc ?_ _ | with_reducible refine Cur.drew ?_ | with_reducible refine Cur.drewN ?_ _ | (with_reducible refine Cur.set ?_ ?_ _; rotate_left; ((try simp); (try omega))))) (by exact Cod.bel hrow (by repeat (first | with_reducible exact Below.refl _ _ | with_reducible assumption | with_reducible refine bel_alloc ?_ _ | with_reducible refine bel_drew ?_ | with_reducible refine bel_drewN ?_ _ | (with_reducible refine bel_set ?_ ?_ _; rotate_left; ((try simp); (try omega)))))) (by simp) (by (try simp); omega)).mono ?_; rintro e w5 ⟨u, rfl, ⟨pa, rfl, hpa⟩, ho5, hc5⟩; have hoR5 : Only [w.heap.size + 1 + 1] V w5 := (show Only [w.heap.size + 1 + 1] V _ from (by repeat (first | with_reducible exact Only.refl _ _ | with_reducible assumption | with_reducible refine Only.alloc ?_ _ | with_reducible refine Only.drew ?_ | with_reducible refine Only.drewN ?_ _ | (with_reducible refine Only.setNew ?_ ?_ _; rotate_left; ((try simp); (try omega)))))).trans ho5; have hpa1 : pa.size ≤ 100 := (by decide : ∀ x ∈ ([⟨#[105, 110, 100, 101, 120]⟩, ⟨#[115, 116, 121, 108, 101]⟩, ⟨#[]⟩] : List ByteArray), x.size ≤ 100) pa hpa; have hQ5 := HQ.out.only hoR5 (by simp; omega); have hR5 := HRR.out.only hoR5 (by simp); obtain ⟨⟨k0, k1, k2, k3, k4, k5, k6, k7, k8, k9, k10⟩, hfk⟩ := hQ5.all11; obtain ⟨⟨l0, l1, l2, l3, l4⟩, hfl⟩ := hR5.all5; have HP5 := Lib.hid (HPV.out.keep (fun b hb => hoR5.block b (HPV.out.lt b hb).2 (by have := HLO.out b hb; simp; omega))); have hB5 : Below w.heap.size w w5 := hBV.trans (hoR5.bel w.heap.size hBV.size (fun y hy => by simp at hy; omega)); clear ho5 hpa)
    try go_wp2_with fail
    refine hK.out _ _ ?_ (fun hHeld => ?_)
    · (try dsimp only)
      (first | exact hS2 _ (by (repeat (first | rw [Below.heap_setCell _ _ _ _ (show xb ≠ w.heap.size by omega)] | rw [Below.heap_setCell _ _ _ _ (show xb ≠ w.heap.size + 1 by omega)])); exact hoR5.block xb (by omega) (by simp; omega)) (by (repeat (first | rw [Below.heap_setCell _ _ _ _ (show yb ≠ w.heap.size by omega)] | rw [Below.heap_setCell _ _ _ _ (show yb ≠ w.heap.size + 1 by omega)])); exact hoR5.block yb (by omega) (by simp; omega)) | exact hS _ (by repeat (first | with_reducible exact Only.refl _ _ | with_reducible assumption | with_reducible refine Only.alloc ?_ _ | with_reducible refine Only.drew ?_ | with_reducible refine Only.drewN ?_ _ | (with_reducible refine Only.setNew ?_ ?_ _; rotate_left; ((try simp); (try omega))))))
    clear hK K
    try simp only [Act.put, List.setIfInBounds_toArray, List.set_cons_zero, List.set_cons_succ]
    refine wpAnyH_ready (rs := [5]) (by kernel_rfl) (by simp) ?_
    refine AllReadyH.cons rfl (fun K hK => ?_) AllReadyH.nil
    first | (go_at_call 69; refine (l1Str_any (w.heap.size + 1 + 1) _ [⟨#[105, 110, 100, 101, 120]⟩, ⟨#[115, 116, 121, 108, 101]⟩, ⟨#[]⟩] _ _ (by repeat (first | with_reducible assumption | with_reducible refine Cur.alloc ?_ _ | with_reducible refine Cur.drew ?_ | with_reducible refine Cur.drewN ?_ _ | (with_reducible refine Cur.set ?_ ?_ _; rotate_left; ((try simp); (try omega))))) (by exact Cod.bel hrow (by repeat (first | with_reducible exact Below.refl _ _ | with_reducible assumption | with_reducible refine bel_alloc ?_ _ | with_reducible refine bel_drew ?_ | with_reducible refine bel_drewN ?_ _ | (with_reducible refine bel_set ?_ ?_ _; rotate_left; ((try simp); (try omega)))))) (by simp) (by (try simp); omega)).mono ?_; rintro e w5 ⟨u, rfl, ⟨pa, rfl, hpa⟩, ho5, hc5⟩; have hoR5 : Only [w.heap.size + 1 + 1] V w5 := (show Only [w.heap.size + 1 + 1] V _ from (by repeat (first | with_reducible exact Only.refl _ _ | with_reducible assumption | with_reducible refine Only.alloc ?_ _ | with_reducible refine Only.drew ?_ | with_reducible refine Only.drewN ?_ _ | (with_reducible refine Only.setNew ?_ ?_ _; rotate_left; ((try simp); (try omega)))))).trans ho5; have hpa1 : pa.size ≤ 100 := (by decide : ∀ x ∈ ([⟨#[105, 110, 100, 101, 120]⟩, ⟨#[115, 116, 121, 108, 101]⟩, ⟨#[]⟩] : List ByteArray), x.size ≤ 100) pa hpa; have hQ5 := HQ.out.only hoR5 (by simp; omega); have hR5 := HRR.out.only hoR5 (by simp); obtain ⟨⟨k0, k1, k2, k3, k4, k5, k6, k7, k8, k9, k10⟩, hfk⟩ := hQ5.all11; obtain ⟨⟨l0, l1, l2, l3, l4⟩, hfl⟩ := hR5.all5; have HP5 := Lib.hid (HPV.out.keep (fun b hb => hoR5.block b (HPV.out.lt b hb).2 (by have := HLO.out b hb; simp; omega))); have hB5 : Below w.heap.size w w5 := hBV.trans (hoR5.bel w.heap.size hBV.size (fun y hy => by simp at hy; omega)); clear ho5 hpa) | go_simp
    refine hK.out _ _ ?_ (fun hHeld => ?_)
    · (try dsimp only)
      (first | exact hS2 _ (by (repeat (first | rw [Below.heap_setCell _ _ _ _ (show xb ≠ w.heap.size by omega)] | rw [Below.heap_setCell _ _ _ _ (show xb ≠ w.heap.size + 1 by omega)])); exact hoR5.block xb (by omega) (by simp; omega)) (by (repeat (first | rw [Below.heap_setCell _ _ _ _ (show yb ≠ w.heap.size by omega)] | rw [Below.heap_setCell _ _ _ _ (show yb ≠ w.heap.size + 1 by omega)])); exact hoR5.block yb (by omega) (by simp; omega)) | exact hS _ (by repeat (first | with_reducible exact Only.refl _ _ | with_reducible assumption | with_reducible refine Only.alloc ?_ _ | with_reducible refine Only.drew ?_ | with_reducible refine Only.drewN ?_ _ | (with_reducible refine Only.setNew ?_ ?_ _; rotate_left; ((try simp); (try omega))))))
    clear hK K
    try simp only [Act.put, List.setIfInBounds_toArray, List.set_cons_zero, List.set_cons_succ]
    refine take_read (i := 6) 3 (v := ?x2_v6) rfl rfl (by kernel_rfl) (by kernel_rfl) (by kernel_rfl) (fun _ _ _ h => h) (by rfl) ?x2_hy6 (by assumption) ?x2_rest6
    case x2_hy6 => (intro w hSw; (try dsimp only at hSw); go_simp; (try with_reducible rfl))
    try simp only [Act.put, List.setIfInBounds_toArray, List.set_cons_zero, List.set_cons_succ]
    refine wpAnyH_ready (rs := [7]) (by kernel_rfl) (by simp) ?_
    refine AllReadyH.cons rfl (fun K hK => ?_) AllReadyH.nil
    first | (go_at_call 69; refine (l1Str_any (w.heap.size + 1 + 1) _ [⟨#[105, 110, 100, 101, 120]⟩, ⟨#[115, 116, 121, 108, 101]⟩, ⟨#[]⟩] _ _ (by repeat (first | with_reducible assumption | with_reducible refine Cur.alloc ?_ _ | with_reducible refine Cur.drew ?_ | with_reducible refine Cur.drewN ?_ _ | (with_reducible refine Cur.set ?_ ?_ _; rotate_left; ((try simp); (try omega))))) (by exact Cod.bel hrow (by repeat (first | with_reducible exact Below.refl _ _ | with_reducible assumption | with_reducible refine bel_alloc ?_ _ | with_reducible refine bel_drew ?_ | with_reducible refine bel_drewN ?_ _ | (with_reducible refine bel_set ?_ ?_ _; rotate_left; ((try simp); (try omega)))))) (by simp) (by (try simp); omega)).mono ?_; rintro e w5 ⟨u, rfl, ⟨pa, rfl, hpa⟩, ho5, hc5⟩; have hoR5 : Only [w.heap.size + 1 + 1] V w5 := (show Only [w.heap.size + 1 + 1] V _ from (by repeat (first | with_reducible exact Only.refl _ _ | with_reducible assumption | with_reducible refine Only.alloc ?_ _ | with_reducible refine Only.drew ?_ | with_reducible refine Only.drewN ?_ _ | (with_reducible refine Only.setNew ?_ ?_ _; rotate_left; ((try simp); (try omega)))))).trans ho5; have hpa1 : pa.size ≤ 100 := (by decide : ∀ x ∈ ([⟨#[105, 110, 100, 101, 120]⟩, ⟨#[115, 116, 121, 108, 101]⟩, ⟨#[]⟩] : List ByteArray), x.size ≤ 100) pa hpa; have hQ5 := HQ.out.only hoR5 (by simp; omega); have hR5 := HRR.out.only hoR5 (by simp); obtain ⟨⟨k0, k1, k2, k3, k4, k5, k6, k7, k8, k9, k10⟩, hfk⟩ := hQ5.all11; obtain ⟨⟨l0, l1, l2, l3, l4⟩, hfl⟩ := hR5.all5; have HP5 := Lib.hid (HPV.out.keep (fun b hb => hoR5.block b (HPV.out.lt b hb).2 (by have := HLO.out b hb; simp; omega))); have hB5 : Below w.heap.size w w5 := hBV.trans (hoR5.bel w.heap.size hBV.size (fun y hy => by simp at hy; omega)); clear ho5 hpa) | go_simp
    refine hK.out _ _ ?_ (fun hHeld => ?_)
    · (try dsimp only)
      (first | exact hS2 _ (by (repeat (first | rw [Below.heap_setCell _ _ _ _ (show xb ≠ w.heap.size by omega)] | rw [Below.heap_setCell _ _ _ _ (show xb ≠ w.heap.size + 1 by omega)])); exact hoR5.block xb (by omega) (by simp; omega)) (by (repeat (first | rw [Below.heap_setCell _ _ _ _ (show yb ≠ w.heap.size by omega)] | rw [Below.heap_setCell _ _ _ _ (show yb ≠ w.heap.size + 1 by omega)])); exact hoR5.block yb (by omega) (by simp; omega)) | exact hS _ (by repeat (first | with_reducible exact Only.refl _ _ | with_reducible assumption | with_reducible refine Only.alloc ?_ _ | with_reducible refine Only.drew ?_ | with_reducible refine Only.drewN ?_ _ | (with_reducible refine Only.setNew ?_ ?_ _; rotate_left; ((try simp); (try omega))))))
    clear hK K
    try simp only [Act.put, List.setIfInBounds_toArray, List.set_cons_zero, List.set_cons_succ]
    refine wpAnyH_done (by kernel_rfl) ?_ _
    have HQ5 := Lib.hid hQ5
    have HR5 := Lib.hid hR5
    go_wp2_with fail
    refine sets_ret11_5 HQ5.out rfl HR5.out rfl (by omega) (fun W9 e9 hb9 hd9 => ?_)
    obtain ⟨⟨dd0, dd1, dd2, dd3, dd4, dd5, dd6, dd7, dd8, dd9, dd10⟩, -⟩ := hb9.all11
    obtain ⟨⟨ee0, ee1, ee2, ee3, ee4⟩, -⟩ := hd9.all5
    refine bodyPost_ret (v := .tuple #[.agg #[.int .i64 x.id, .string x.site, .string x.top, .int .i64 x.ver, .slice A4 x.loaded.length c4, .slice A5 x.mach.script.length c5, .int .i64 x.mach.pc, .slice A7 x.mach.regs.length c7, .int .i64 x.mach.steps, .bool x.mach.done, .bool x.mach.wait], .string pa, .agg #[.int .i64 1, .int .i64 200, .int .i64 (x.ver + 1), .slice none 0 0, .bool false]]) (by simp [results, Try.results16, go_sem, dd0, dd1, dd2, dd3, dd4, dd5, dd6, dd7, dd8, dd9, dd10, ee0, ee1, ee2, ee3, ee4]) rfl ?_
    subst e9
    have hv9 := HP5.out
    exact ⟨x, A4, c4, A5, c5, A7, c7, pa, 200, (x.ver + 1), rfl, (by repeat (first | with_reducible exact Below.refl _ _ | with_reducible assumption | with_reducible refine bel_alloc ?_ _ | with_reducible refine bel_drew ?_ | with_reducible refine bel_drewN ?_ _ | (with_reducible refine bel_set ?_ ?_ _; rotate_left; ((try simp); (try omega))))), ⟨F, (hv9.keepB (show Keep (w.heap.size + 3) _ _ from (by repeat (first | with_reducible exact Keep.refl _ _ | with_reducible assumption | with_reducible refine Keep.alloc ?_ _ | with_reducible refine Keep.drew ?_ | with_reducible refine Keep.drewN ?_ _ | (with_reducible refine Keep.set_ ?_ ?_ _; rotate_left; ((try simp); (try omega))))))).mono (by omega)⟩, hsz, hv0, hv1, hpa1, by decide, by omega⟩
  · obtain ⟨j0, j1⟩ := hj
    go_upto_region 9 with (fail)
    have HY := HY3
    have HX := HX3
    have HQ := HQ3
    have HRR := HR3
    have HPV := HPV3
    have hcV := hc3
    have hBV := hB3
    have hsV := hs3
    clear HY3 HX3 HQ3 HR3 HPV3 hc3 hB3 hs3
    obtain ⟨V, hV⟩ : ∃ V, w3 = V := ⟨_, rfl⟩
    subst hV
    obtain ⟨V, rfl⟩ : ∃ V, V = w3 := ⟨_, rfl⟩
    have hS : ∀ w9, Only [w.heap.size + 1 + 1] V w9 → w9.cell? ⟨xb, 0, none⟩ = some (.int .i64 x.id) ∧ w9.cell? ⟨xb, 1, none⟩ = some (.string x.site) ∧ w9.cell? ⟨xb, 2, none⟩ = some (.string x.top) ∧ w9.cell? ⟨xb, 3, none⟩ = some (.int .i64 x.ver) ∧ w9.cell? ⟨xb, 4, none⟩ = some (.slice A4 x.loaded.length c4) ∧ w9.cell? ⟨xb, 5, none⟩ = some (.slice A5 x.mach.script.length c5) ∧ w9.cell? ⟨xb, 6, none⟩ = some (.int .i64 x.mach.pc) ∧ w9.cell? ⟨xb, 7, none⟩ = some (.slice A7 x.mach.regs.length c7) ∧ w9.cell? ⟨xb, 8, none⟩ = some (.int .i64 x.mach.steps) ∧ w9.cell? ⟨xb, 9, none⟩ = some (.bool x.mach.done) ∧ w9.cell? ⟨xb, 10, none⟩ = some (.bool x.mach.wait) ∧ w9.cell? ⟨yb, 0, none⟩ = some (.int .i64 1) ∧ w9.cell? ⟨yb, 1, none⟩ = some (.int .i64 200) ∧ w9.cell? ⟨yb, 2, none⟩ = some (.int .i64 x.ver) ∧ w9.cell? ⟨yb, 3, none⟩ = some (.slice none 0 0) ∧ w9.cell? ⟨yb, 4, none⟩ = some (.bool false) := fun w9 hb => by
      obtain ⟨⟨m0, m1, m2, m3, m4, m5, m6, m7, m8, m9, m10⟩, -⟩ := (HX.out.only hb (by simp; omega)).all11
      obtain ⟨⟨n0, n1, n2, n3, n4⟩, -⟩ := (HY.out.only hb (by simp; omega)).all5
      exact ⟨m0, m1, m2, m3, m4, m5, m6, m7, m8, m9, m10, n0, n1, n2, n3, n4⟩
    have hS2 : ∀ w9 : World, w9.heap[xb]? = V.heap[xb]? → w9.heap[yb]? = V.heap[yb]? → w9.cell? ⟨xb, 0, none⟩ = some (.int .i64 x.id) ∧ w9.cell? ⟨xb, 1, none⟩ = some (.string x.site) ∧ w9.cell? ⟨xb, 2, none⟩ = some (.string x.top) ∧ w9.cell? ⟨xb, 3, none⟩ = some (.int .i64 x.ver) ∧ w9.cell? ⟨xb, 4, none⟩ = some (.slice A4 x.loaded.length c4) ∧ w9.cell? ⟨xb, 5, none⟩ = some (.slice A5 x.mach.script.length c5) ∧ w9.cell? ⟨xb, 6, none⟩ = some (.int .i64 x.mach.pc) ∧ w9.cell? ⟨xb, 7, none⟩ = some (.slice A7 x.mach.regs.length c7) ∧ w9.cell? ⟨xb, 8, none⟩ = some (.int .i64 x.mach.steps) ∧ w9.cell? ⟨xb, 9, none⟩ = some (.bool x.mach.done) ∧ w9.cell? ⟨xb, 10, none⟩ = some (.bool x.mach.wait) ∧ w9.cell? ⟨yb, 0, none⟩ = some (.int .i64 1) ∧ w9.cell? ⟨yb, 1, none⟩ = some (.int .i64 200) ∧ w9.cell? ⟨yb, 2, none⟩ = some (.int .i64 x.ver) ∧ w9.cell? ⟨yb, 3, none⟩ = some (.slice none 0 0) ∧ w9.cell? ⟨yb, 4, none⟩ = some (.bool false) := fun w9 hb hb2 => by
      obtain ⟨⟨m0, m1, m2, m3, m4, m5, m6, m7, m8, m9, m10⟩, -⟩ := Blk.all11 (show Blk w9 xb _ _ from hb.trans HX.out)
      obtain ⟨⟨n0, n1, n2, n3, n4⟩, -⟩ := Blk.all5 (show Blk w9 yb _ _ from hb2.trans HY.out)
      exact ⟨m0, m1, m2, m3, m4, m5, m6, m7, m8, m9, m10, n0, n1, n2, n3, n4⟩
    have hrow : cStS.rep (V.alloc (.cells #[.string ⟨#[105, 110, 100, 101, 120]⟩, .string ⟨#[115, 116, 121, 108, 101]⟩, .string ⟨#[]⟩] 9)) [.slice (some ⟨V.heap.size, 0, none⟩) 3 3] [⟨#[105, 110, 100, 101, 120]⟩, ⟨#[115, 116, 121, 108, 101]⟩, ⟨#[]⟩] [V.heap.size] := rowStr V 9 [⟨#[105, 110, 100, 101, 120]⟩, ⟨#[115, 116, 121, 108, 101]⟩, ⟨#[]⟩] 3 rfl (by simp) (by decide) (by decide)
    go_upto_region 9 with (fail)
    refine wp_region_held_drew (S := (fun w9 => w9.cell? ⟨xb, 0, none⟩ = some (.int .i64 x.id) ∧ w9.cell? ⟨xb, 1, none⟩ = some (.string x.site) ∧ w9.cell? ⟨xb, 2, none⟩ = some (.string x.top) ∧ w9.cell? ⟨xb, 3, none⟩ = some (.int .i64 x.ver) ∧ w9.cell? ⟨xb, 4, none⟩ = some (.slice A4 x.loaded.length c4) ∧ w9.cell? ⟨xb, 5, none⟩ = some (.slice A5 x.mach.script.length c5) ∧ w9.cell? ⟨xb, 6, none⟩ = some (.int .i64 x.mach.pc) ∧ w9.cell? ⟨xb, 7, none⟩ = some (.slice A7 x.mach.regs.length c7) ∧ w9.cell? ⟨xb, 8, none⟩ = some (.int .i64 x.mach.steps) ∧ w9.cell? ⟨xb, 9, none⟩ = some (.bool x.mach.done) ∧ w9.cell? ⟨xb, 10, none⟩ = some (.bool x.mach.wait) ∧ w9.cell? ⟨yb, 0, none⟩ = some (.int .i64 1) ∧ w9.cell? ⟨yb, 1, none⟩ = some (.int .i64 200) ∧ w9.cell? ⟨yb, 2, none⟩ = some (.int .i64 x.ver) ∧ w9.cell? ⟨yb, 3, none⟩ = some (.slice none 0 0) ∧ w9.cell? ⟨yb, 4, none⟩ = some (.bool false))) (by kernel_rfl) (by (try dsimp only); (first | exact hS2 _ (by (repeat (first | rw [Below.heap_setCell _ _ _ _ (show xb ≠ w.heap.size by omega)] | rw [Below.heap_setCell _ _ _ _ (show xb ≠ w.heap.size + 1 by omega)])); exact hoR5.block xb (by omega) (by simp; omega)) (by (repeat (first | rw [Below.heap_setCell _ _ _ _ (show yb ≠ w.heap.size by omega)] | rw [Below.heap_setCell _ _ _ _ (show yb ≠ w.heap.size + 1 by omega)])); exact hoR5.block yb (by omega) (by simp; omega)) | exact hS _ (by repeat (first | with_reducible exact Only.refl _ _ | with_reducible assumption | with_reducible refine Only.alloc ?_ _ | with_reducible refine Only.drew ?_ | with_reducible refine Only.drewN ?_ _ | (with_reducible refine Only.setNew ?_ ?_ _; rotate_left; ((try simp); (try omega))))))) (fun hHeld => ?_)
    refine take_read (i := 0) 26 (v := ?x3_v0) rfl rfl (by kernel_rfl) (by kernel_rfl) (by kernel_rfl) (fun _ _ _ h => h) (by rfl) ?x3_hy0 (by assumption) ?x3_rest0
    case x3_hy0 => (intro w hSw; (try dsimp only at hSw); go_simp; (try with_reducible rfl))
    try simp only [Act.put, List.setIfInBounds_toArray, List.set_cons_zero, List.set_cons_succ]
    refine take_read (i := 1) 27 (v := ?x3_v1) rfl rfl (by kernel_rfl) (by kernel_rfl) (by kernel_rfl) (fun _ _ _ h => h) (by rfl) ?x3_hy1 (by assumption) ?x3_rest1
    case x3_hy1 => (intro w hSw; (try dsimp only at hSw); go_simp; (try with_reducible rfl))
    try simp only [Act.put, List.setIfInBounds_toArray, List.set_cons_zero, List.set_cons_succ]
    refine take_read (i := 4) 30 (v := ?x3_v4) rfl rfl (by kernel_rfl) (by kernel_rfl) (by kernel_rfl) (fun _ _ _ h => h) (by rfl) ?x3_hy4 (by assumption) ?x3_rest4
    case x3_hy4 => (intro w hSw; (try dsimp only at hSw); go_simp; (try with_reducible rfl))
    try simp only [Act.put, List.setIfInBounds_toArray, List.set_cons_zero, List.set_cons_succ]
    refine wpAnyH_ready (rs := [2]) (by kernel_rfl) (by simp) ?_
    refine AllReadyH.cons rfl (fun K hK => ?_) AllReadyH.nil
    first | (go_at_call 69; refine (l1Str_any (w.heap.size + 1 + 1) _ [⟨#[105, 110, 100, 101, 120]⟩, ⟨#[115, 116, 121, 108, 101]⟩, ⟨#[]⟩] _ _ (by repeat (first | with_reducible assumption | with_reducible refine Cur.alloc ?_ _ | with_reducible refine Cur.drew ?_ | with_reducible refine Cur.drewN ?_ _ | (with_reducible refine Cur.set ?_ ?_ _; rotate_left; ((try simp); (try omega))))) (by exact Cod.bel hrow (by repeat (first | with_reducible exact Below.refl _ _ | with_reducible assumption | with_reducible refine bel_alloc ?_ _ | with_reducible refine bel_drew ?_ | with_reducible refine bel_drewN ?_ _ | (with_reducible refine bel_set ?_ ?_ _; rotate_left; ((try simp); (try omega)))))) (by simp) (by (try simp); omega)).mono ?_; rintro e w5 ⟨u, rfl, ⟨pa, rfl, hpa⟩, ho5, hc5⟩; have hoR5 : Only [w.heap.size + 1 + 1] V w5 := (show Only [w.heap.size + 1 + 1] V _ from (by repeat (first | with_reducible exact Only.refl _ _ | with_reducible assumption | with_reducible refine Only.alloc ?_ _ | with_reducible refine Only.drew ?_ | with_reducible refine Only.drewN ?_ _ | (with_reducible refine Only.setNew ?_ ?_ _; rotate_left; ((try simp); (try omega)))))).trans ho5; have hpa1 : pa.size ≤ 100 := (by decide : ∀ x ∈ ([⟨#[105, 110, 100, 101, 120]⟩, ⟨#[115, 116, 121, 108, 101]⟩, ⟨#[]⟩] : List ByteArray), x.size ≤ 100) pa hpa; have hQ5 := HQ.out.only hoR5 (by simp; omega); have hR5 := HRR.out.only hoR5 (by simp); obtain ⟨⟨k0, k1, k2, k3, k4, k5, k6, k7, k8, k9, k10⟩, hfk⟩ := hQ5.all11; obtain ⟨⟨l0, l1, l2, l3, l4⟩, hfl⟩ := hR5.all5; have HP5 := Lib.hid (HPV.out.keep (fun b hb => hoR5.block b (HPV.out.lt b hb).2 (by have := HLO.out b hb; simp; omega))); have hB5 : Below w.heap.size w w5 := hBV.trans (hoR5.bel w.heap.size hBV.size (fun y hy => by simp at hy; omega)); clear ho5 hpa) | go_simp
    refine hK.out _ _ ?_ (fun hHeld => ?_)
    · (try dsimp only)
      (first | exact hS2 _ (by (repeat (first | rw [Below.heap_setCell _ _ _ _ (show xb ≠ w.heap.size by omega)] | rw [Below.heap_setCell _ _ _ _ (show xb ≠ w.heap.size + 1 by omega)])); exact hoR5.block xb (by omega) (by simp; omega)) (by (repeat (first | rw [Below.heap_setCell _ _ _ _ (show yb ≠ w.heap.size by omega)] | rw [Below.heap_setCell _ _ _ _ (show yb ≠ w.heap.size + 1 by omega)])); exact hoR5.block yb (by omega) (by simp; omega)) | exact hS _ (by repeat (first | with_reducible exact Only.refl _ _ | with_reducible assumption | with_reducible refine Only.alloc ?_ _ | with_reducible refine Only.drew ?_ | with_reducible refine Only.drewN ?_ _ | (with_reducible refine Only.setNew ?_ ?_ _; rotate_left; ((try simp); (try omega))))))
    clear hK K
    try simp only [Act.put, List.setIfInBounds_toArray, List.set_cons_zero, List.set_cons_succ]
    refine wpAnyH_ready (rs := [3]) (by kernel_rfl) (by simp) ?_
    refine AllReadyH.cons rfl (fun K hK => ?_) AllReadyH.nil
    go_simp
    (go_at_call 69; refine (l1Str_any (w.heap.size + 1 + 1) _ [⟨#[105, 110, 100, 101, 120]⟩, ⟨#[115, 116, 121, 108, 101]⟩, ⟨#[]⟩] _ _ (by repeat (first | with_reducible assumption | with_reducible refine Cur.alloc ?_ _ | with_reducible refine Cur.drew ?_ | with_reducible refine Cur.drewN ?_ _ | (with_reducible refine Cur.set ?_ ?_ _; rotate_left; ((try simp); (try omega))))) (by exact Cod.bel hrow (by repeat (first | with_reducible exact Below.refl _ _ | with_reducible assumption | with_reducible refine bel_alloc ?_ _ | with_reducible refine bel_drew ?_ | with_reducible refine bel_drewN ?_ _ | (with_reducible refine bel_set ?_ ?_ _; rotate_left; ((try simp); (try omega)))))) (by simp) (by (try simp); omega)).mono ?_; rintro e w5 ⟨u, rfl, ⟨pa, rfl, hpa⟩, ho5, hc5⟩; have hoR5 : Only [w.heap.size + 1 + 1] V w5 := (show Only [w.heap.size + 1 + 1] V _ from (by repeat (first | with_reducible exact Only.refl _ _ | with_reducible assumption | with_reducible refine Only.alloc ?_ _ | with_reducible refine Only.drew ?_ | with_reducible refine Only.drewN ?_ _ | (with_reducible refine Only.setNew ?_ ?_ _; rotate_left; ((try simp); (try omega)))))).trans ho5; have hpa1 : pa.size ≤ 100 := (by decide : ∀ x ∈ ([⟨#[105, 110, 100, 101, 120]⟩, ⟨#[115, 116, 121, 108, 101]⟩, ⟨#[]⟩] : List ByteArray), x.size ≤ 100) pa hpa; have hQ5 := HQ.out.only hoR5 (by simp; omega); have hR5 := HRR.out.only hoR5 (by simp); obtain ⟨⟨k0, k1, k2, k3, k4, k5, k6, k7, k8, k9, k10⟩, hfk⟩ := hQ5.all11; obtain ⟨⟨l0, l1, l2, l3, l4⟩, hfl⟩ := hR5.all5; have HP5 := Lib.hid (HPV.out.keep (fun b hb => hoR5.block b (HPV.out.lt b hb).2 (by have := HLO.out b hb; simp; omega))); have hB5 : Below w.heap.size w w5 := hBV.trans (hoR5.bel w.heap.size hBV.size (fun y hy => by simp at hy; omega)); clear ho5 hpa)
    try go_wp2_with fail
    refine hK.out _ _ ?_ (fun hHeld => ?_)
    · (try dsimp only)
      (first | exact hS2 _ (by (repeat (first | rw [Below.heap_setCell _ _ _ _ (show xb ≠ w.heap.size by omega)] | rw [Below.heap_setCell _ _ _ _ (show xb ≠ w.heap.size + 1 by omega)])); exact hoR5.block xb (by omega) (by simp; omega)) (by (repeat (first | rw [Below.heap_setCell _ _ _ _ (show yb ≠ w.heap.size by omega)] | rw [Below.heap_setCell _ _ _ _ (show yb ≠ w.heap.size + 1 by omega)])); exact hoR5.block yb (by omega) (by simp; omega)) | exact hS _ (by repeat (first | with_reducible exact Only.refl _ _ | with_reducible assumption | with_reducible refine Only.alloc ?_ _ | with_reducible refine Only.drew ?_ | with_reducible refine Only.drewN ?_ _ | (with_reducible refine Only.setNew ?_ ?_ _; rotate_left; ((try simp); (try omega))))))
    clear hK K
    try simp only [Act.put, List.setIfInBounds_toArray, List.set_cons_zero, List.set_cons_succ]
    refine wpAnyH_ready (rs := [5]) (by kernel_rfl) (by simp) ?_
    refine AllReadyH.cons rfl (fun K hK => ?_) AllReadyH.nil
    first | (go_at_call 69; refine (l1Str_any (w.heap.size + 1 + 1) _ [⟨#[105, 110, 100, 101, 120]⟩, ⟨#[115, 116, 121, 108, 101]⟩, ⟨#[]⟩] _ _ (by repeat (first | with_reducible assumption | with_reducible refine Cur.alloc ?_ _ | with_reducible refine Cur.drew ?_ | with_reducible refine Cur.drewN ?_ _ | (with_reducible refine Cur.set ?_ ?_ _; rotate_left; ((try simp); (try omega))))) (by exact Cod.bel hrow (by repeat (first | with_reducible exact Below.refl _ _ | with_reducible assumption | with_reducible refine bel_alloc ?_ _ | with_reducible refine bel_drew ?_ | with_reducible refine bel_drewN ?_ _ | (with_reducible refine bel_set ?_ ?_ _; rotate_left; ((try simp); (try omega)))))) (by simp) (by (try simp); omega)).mono ?_; rintro e w5 ⟨u, rfl, ⟨pa, rfl, hpa⟩, ho5, hc5⟩; have hoR5 : Only [w.heap.size + 1 + 1] V w5 := (show Only [w.heap.size + 1 + 1] V _ from (by repeat (first | with_reducible exact Only.refl _ _ | with_reducible assumption | with_reducible refine Only.alloc ?_ _ | with_reducible refine Only.drew ?_ | with_reducible refine Only.drewN ?_ _ | (with_reducible refine Only.setNew ?_ ?_ _; rotate_left; ((try simp); (try omega)))))).trans ho5; have hpa1 : pa.size ≤ 100 := (by decide : ∀ x ∈ ([⟨#[105, 110, 100, 101, 120]⟩, ⟨#[115, 116, 121, 108, 101]⟩, ⟨#[]⟩] : List ByteArray), x.size ≤ 100) pa hpa; have hQ5 := HQ.out.only hoR5 (by simp; omega); have hR5 := HRR.out.only hoR5 (by simp); obtain ⟨⟨k0, k1, k2, k3, k4, k5, k6, k7, k8, k9, k10⟩, hfk⟩ := hQ5.all11; obtain ⟨⟨l0, l1, l2, l3, l4⟩, hfl⟩ := hR5.all5; have HP5 := Lib.hid (HPV.out.keep (fun b hb => hoR5.block b (HPV.out.lt b hb).2 (by have := HLO.out b hb; simp; omega))); have hB5 : Below w.heap.size w w5 := hBV.trans (hoR5.bel w.heap.size hBV.size (fun y hy => by simp at hy; omega)); clear ho5 hpa) | go_simp
    refine hK.out _ _ ?_ (fun hHeld => ?_)
    · (try dsimp only)
      (first | exact hS2 _ (by (repeat (first | rw [Below.heap_setCell _ _ _ _ (show xb ≠ w.heap.size by omega)] | rw [Below.heap_setCell _ _ _ _ (show xb ≠ w.heap.size + 1 by omega)])); exact hoR5.block xb (by omega) (by simp; omega)) (by (repeat (first | rw [Below.heap_setCell _ _ _ _ (show yb ≠ w.heap.size by omega)] | rw [Below.heap_setCell _ _ _ _ (show yb ≠ w.heap.size + 1 by omega)])); exact hoR5.block yb (by omega) (by simp; omega)) | exact hS _ (by repeat (first | with_reducible exact Only.refl _ _ | with_reducible assumption | with_reducible refine Only.alloc ?_ _ | with_reducible refine Only.drew ?_ | with_reducible refine Only.drewN ?_ _ | (with_reducible refine Only.setNew ?_ ?_ _; rotate_left; ((try simp); (try omega))))))
    clear hK K
    try simp only [Act.put, List.setIfInBounds_toArray, List.set_cons_zero, List.set_cons_succ]
    refine take_read (i := 6) 3 (v := ?x3_v6) rfl rfl (by kernel_rfl) (by kernel_rfl) (by kernel_rfl) (fun _ _ _ h => h) (by rfl) ?x3_hy6 (by assumption) ?x3_rest6
    case x3_hy6 => (intro w hSw; (try dsimp only at hSw); go_simp; (try with_reducible rfl))
    try simp only [Act.put, List.setIfInBounds_toArray, List.set_cons_zero, List.set_cons_succ]
    refine wpAnyH_ready (rs := [7]) (by kernel_rfl) (by simp) ?_
    refine AllReadyH.cons rfl (fun K hK => ?_) AllReadyH.nil
    first | (go_at_call 69; refine (l1Str_any (w.heap.size + 1 + 1) _ [⟨#[105, 110, 100, 101, 120]⟩, ⟨#[115, 116, 121, 108, 101]⟩, ⟨#[]⟩] _ _ (by repeat (first | with_reducible assumption | with_reducible refine Cur.alloc ?_ _ | with_reducible refine Cur.drew ?_ | with_reducible refine Cur.drewN ?_ _ | (with_reducible refine Cur.set ?_ ?_ _; rotate_left; ((try simp); (try omega))))) (by exact Cod.bel hrow (by repeat (first | with_reducible exact Below.refl _ _ | with_reducible assumption | with_reducible refine bel_alloc ?_ _ | with_reducible refine bel_drew ?_ | with_reducible refine bel_drewN ?_ _ | (with_reducible refine bel_set ?_ ?_ _; rotate_left; ((try simp); (try omega)))))) (by simp) (by (try simp); omega)).mono ?_; rintro e w5 ⟨u, rfl, ⟨pa, rfl, hpa⟩, ho5, hc5⟩; have hoR5 : Only [w.heap.size + 1 + 1] V w5 := (show Only [w.heap.size + 1 + 1] V _ from (by repeat (first | with_reducible exact Only.refl _ _ | with_reducible assumption | with_reducible refine Only.alloc ?_ _ | with_reducible refine Only.drew ?_ | with_reducible refine Only.drewN ?_ _ | (with_reducible refine Only.setNew ?_ ?_ _; rotate_left; ((try simp); (try omega)))))).trans ho5; have hpa1 : pa.size ≤ 100 := (by decide : ∀ x ∈ ([⟨#[105, 110, 100, 101, 120]⟩, ⟨#[115, 116, 121, 108, 101]⟩, ⟨#[]⟩] : List ByteArray), x.size ≤ 100) pa hpa; have hQ5 := HQ.out.only hoR5 (by simp; omega); have hR5 := HRR.out.only hoR5 (by simp); obtain ⟨⟨k0, k1, k2, k3, k4, k5, k6, k7, k8, k9, k10⟩, hfk⟩ := hQ5.all11; obtain ⟨⟨l0, l1, l2, l3, l4⟩, hfl⟩ := hR5.all5; have HP5 := Lib.hid (HPV.out.keep (fun b hb => hoR5.block b (HPV.out.lt b hb).2 (by have := HLO.out b hb; simp; omega))); have hB5 : Below w.heap.size w w5 := hBV.trans (hoR5.bel w.heap.size hBV.size (fun y hy => by simp at hy; omega)); clear ho5 hpa) | go_simp
    refine hK.out _ _ ?_ (fun hHeld => ?_)
    · (try dsimp only)
      (first | exact hS2 _ (by (repeat (first | rw [Below.heap_setCell _ _ _ _ (show xb ≠ w.heap.size by omega)] | rw [Below.heap_setCell _ _ _ _ (show xb ≠ w.heap.size + 1 by omega)])); exact hoR5.block xb (by omega) (by simp; omega)) (by (repeat (first | rw [Below.heap_setCell _ _ _ _ (show yb ≠ w.heap.size by omega)] | rw [Below.heap_setCell _ _ _ _ (show yb ≠ w.heap.size + 1 by omega)])); exact hoR5.block yb (by omega) (by simp; omega)) | exact hS _ (by repeat (first | with_reducible exact Only.refl _ _ | with_reducible assumption | with_reducible refine Only.alloc ?_ _ | with_reducible refine Only.drew ?_ | with_reducible refine Only.drewN ?_ _ | (with_reducible refine Only.setNew ?_ ?_ _; rotate_left; ((try simp); (try omega))))))
    clear hK K
    try simp only [Act.put, List.setIfInBounds_toArray, List.set_cons_zero, List.set_cons_succ]
    refine wpAnyH_done (by kernel_rfl) ?_ _
    have HQ5 := Lib.hid hQ5
    have HR5 := Lib.hid hR5
    go_wp2_with fail
    refine sets_ret11_5 HQ5.out rfl HR5.out rfl (by omega) (fun W9 e9 hb9 hd9 => ?_)
    obtain ⟨⟨dd0, dd1, dd2, dd3, dd4, dd5, dd6, dd7, dd8, dd9, dd10⟩, -⟩ := hb9.all11
    obtain ⟨⟨ee0, ee1, ee2, ee3, ee4⟩, -⟩ := hd9.all5
    refine bodyPost_ret (v := .tuple #[.agg #[.int .i64 x.id, .string x.site, .string x.top, .int .i64 x.ver, .slice A4 x.loaded.length c4, .slice A5 x.mach.script.length c5, .int .i64 x.mach.pc, .slice A7 x.mach.regs.length c7, .int .i64 x.mach.steps, .bool x.mach.done, .bool x.mach.wait], .string pa, .agg #[.int .i64 1, .int .i64 200, .int .i64 x.ver, .slice none 0 0, .bool false]]) (by simp [results, Try.results16, go_sem, dd0, dd1, dd2, dd3, dd4, dd5, dd6, dd7, dd8, dd9, dd10, ee0, ee1, ee2, ee3, ee4]) rfl ?_
    subst e9
    have hv9 := HP5.out
    exact ⟨x, A4, c4, A5, c5, A7, c7, pa, 200, x.ver, rfl, (by repeat (first | with_reducible exact Below.refl _ _ | with_reducible assumption | with_reducible refine bel_alloc ?_ _ | with_reducible refine bel_drew ?_ | with_reducible refine bel_drewN ?_ _ | (with_reducible refine bel_set ?_ ?_ _; rotate_left; ((try simp); (try omega))))), ⟨F, (hv9.keepB (show Keep (w.heap.size + 3) _ _ from (by repeat (first | with_reducible exact Keep.refl _ _ | with_reducible assumption | with_reducible refine Keep.alloc ?_ _ | with_reducible refine Keep.drew ?_ | with_reducible refine Keep.drewN ?_ _ | (with_reducible refine Keep.set_ ?_ ?_ _; rotate_left; ((try simp); (try omega))))))).mono (by omega)⟩, hsz, hv0, hv1, hpa1, by decide, by omega⟩
end Go.Proofs.Ytlicnppfgfjkgaa
