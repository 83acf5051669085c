/-
  The draw of a page, of any kind: l19Any. No conditions.
-/
import Derived.Test.YtlicnppfgfjkgaaZDrawPage2
namespace Go.Proofs.Ytlicnppfgfjkgaa
open Go.ChangeShapes Go.WideShapes Go.RowKit
set_option linter.unusedVariables false

section
variable {p : Nat} {w0 W W' : World} {xb : Nat} {x : TPage} {A4 : Option Addr} {c4 : Nat} {A5 : Option Addr} {c5 : Nat} {A7 : Option Addr} {c7 : Nat} {F : List Nat}
theorem PgSt.set_id (h : PgSt p w0 xb W x A4 c4 A5 c5 A7 c7 F) (z : Int) (hz : -9223372036854775808 ≤ z ∧ z ≤ 9223372036854775807) : PgSt p w0 xb (W.setCell ⟨xb, 0, none⟩ (.int .i64 z)) ⟨z, x.site, x.top, x.ver, x.loaded, x.mach⟩ A4 c4 A5 c5 A7 c7 F := by
  obtain ⟨l1, l2, l3⟩ := h.lt
  have hb := h.b.set_ 0 (.int .i64 z)
  simp only [List.setIfInBounds_toArray, List.set_cons_zero] at hb
  have hv := h.v.set (a := ⟨xb, 0, none⟩) h.ne (.int .i64 z)
  exact ⟨hb, (Below.heap_setCell _ _ _ _ (show w0.heap.size ≠ xb by omega)).trans h.q, ⟨hv.own, hv.mach, hv.fr, hv.ne, ⟨hz, hv.ok.h1, hv.ok.h2, hv.ok.h3, hv.ok.h6, hv.ok.h8⟩⟩, h.ne, h.cur.set (q := ⟨xb, 0, none⟩) (show p < xb by omega) _, h.only.setNew (show w0.heap.size ≤ xb by omega) _, l1, l2, by simpa using l3⟩
theorem PgSt.set_ver (h : PgSt p w0 xb W x A4 c4 A5 c5 A7 c7 F) (z : Int) (hz : -9223372036854775808 ≤ z ∧ z ≤ 9223372036854775807) : PgSt p w0 xb (W.setCell ⟨xb, 3, none⟩ (.int .i64 z)) ⟨x.id, x.site, x.top, z, x.loaded, x.mach⟩ A4 c4 A5 c5 A7 c7 F := by
  obtain ⟨l1, l2, l3⟩ := h.lt
  have hb := h.b.set_ 3 (.int .i64 z)
  simp only [List.setIfInBounds_toArray, List.set_cons_zero, List.set_cons_succ] at hb
  have hv := h.v.set (a := ⟨xb, 3, none⟩) h.ne (.int .i64 z)
  exact ⟨hb, (Below.heap_setCell _ _ _ _ (show w0.heap.size ≠ xb by omega)).trans h.q, ⟨hv.own, hv.mach, hv.fr, hv.ne, ⟨hv.ok.h0, hv.ok.h1, hv.ok.h2, hz, hv.ok.h6, hv.ok.h8⟩⟩, h.ne, h.cur.set (q := ⟨xb, 3, none⟩) (show p < xb by omega) _, h.only.setNew (show w0.heap.size ≤ xb by omega) _, l1, l2, by simpa using l3⟩
/-- one loaded file more, stored in the box -/
theorem PgSt.app (h : PgSt p w0 xb W x A4 c4 A5 c5 A7 c7 F) {o : Obj} {y : TLoaded} {v2 : Value} {w2 : World} (ho : Own cLoaded 51 (w0.heap.size + 1) w2 v2 (x.loaded ++ [y]) []) (hg : (W.alloc o).grownBy w2 (ownB (.slice A4 x.loaded.length c4))) (hat : ∀ g, ownB v2 = some g → ownB (.slice A4 x.loaded.length c4) = some g ∨ (W.alloc o).heap.size ≤ g) :
    ∃ A2 c2, v2 = .slice A2 (x.loaded.length + 1) c2 ∧ PgSt p w0 xb (w2.setCell ⟨xb, 4, none⟩ (.slice A2 (x.loaded.length + 1) c2)) ⟨x.id, x.site, x.top, x.ver, x.loaded ++ [y], x.mach⟩ A2 c2 A5 c5 A7 c7 F := by
  obtain ⟨l1, l2, l3⟩ := h.lt
  replace hat : ∀ g, ownB v2 = some g → ownB (.slice A4 x.loaded.length c4) = some g ∨ W.heap.size + 1 ≤ g := fun g hg => (hat g hg).imp id (fun h => by simpa using h)
  obtain ⟨A2, c2, rfl, hv⟩ := h.v.app ho hg hat
  have hL : (x.loaded ++ [y]).length = x.loaded.length + 1 := by simp
  have hbW := bel_alloc (Below.refl W.heap.size W) o
  have hlo := h.v.lt
  have hx : Blk w2 xb _ _ := (hg.block xb (by simp; omega) (fun e => h.ne xb (.inl e.symm) rfl)).trans ((hbW.block xb l3).trans h.b)
  have hq : Blk w2 w0.heap.size _ _ := (hg.block w0.heap.size (by simp; omega) (fun e => by have := (hlo _ (.inl e.symm)).1; omega)).trans ((hbW.block w0.heap.size (by omega)).trans h.q)
  have hx2 := hx.set_ 4 (.slice A2 (x.loaded ++ [y]).length c2)
  simp only [List.setIfInBounds_toArray, List.set_cons_zero, List.set_cons_succ] at hx2
  have hne : ∀ b, (ownB (.slice A2 (x.loaded ++ [y]).length c2) = some b ∨ b ∈ F) → b ≠ xb := fun b hb e => by
    rcases hb with hb | hb
    · rcases hat b hb with h9 | h9
      · exact h.ne b (.inl h9) e
      · omega
    · exact h.ne b (.inr hb) e
  have hzs := hg.size
  (try simp at hzs)
  refine ⟨A2, c2, by rw [hL], ?_⟩
  rw [← hL]
  exact ⟨hx2, (Below.heap_setCell _ _ _ _ (show w0.heap.size ≠ xb by omega)).trans hq, hv.set (a := ⟨xb, 4, none⟩) hne _, hne, (Cur.grown (h.cur.alloc o) hg (fun g hg => by have := (hlo g (.inl hg)).1; omega)).set (q := ⟨xb, 4, none⟩) (show p < xb by omega) _, (Only.grown (h.only.alloc o) hg (fun g hg => by have := (hlo g (.inl hg)).1; omega)).setNew (show w0.heap.size ≤ xb by omega) _, l1, l2, by simp; omega⟩
end
set_option maxRecDepth 100000 in
set_option maxHeartbeats 16000000 in
theorem l19Any_any (p : Nat) (w : World) (h : Cur w p) :
    Calls Try.prog 67 #[.pointer (some ⟨p, 0, none⟩)] w (Draws p w fun v w' => ∃ (x : TPage) (A4 : Option Addr) (c4 : Nat) (A5 : Option Addr) (c5 : Nat) (A7 : Option Addr) (c7 : Nat), v = .agg #[.int .i64 x.id, .string x.site, .string x.top, .int .i64 x.ver, .slice A4 x.loaded.length c4, .slice A5 x.mach.script.length c5, .int .i64 x.mach.pc, .slice A7 x.mach.regs.length c7, .int .i64 x.mach.steps, .bool x.mach.done, .bool x.mach.wait] ∧ PageW w.heap.size w' x A4 c4 A5 c5 A7 c7 ∧ cPage.sz x ≤ 3000 ∧ 0 ≤ x.ver ∧ x.ver ≤ 1000000000001) := by
  obtain ⟨i0, hi0, hz0, hz1, hz2⟩ := info_parts infoLoaded
  have hpl := h.lt
  go_enter Try.func67, Try.ntmps67
  go_wp2_with fail
  refine (l19Page_any p _ (h.alloc _)).mono ?_
  rintro e w1 ⟨v, rfl, ⟨x, A4, c4, A5, c5, A7, c7, rfl, ⟨F, hpv⟩, hsz, hv0, hv1⟩, ho1, hc1⟩
  have hO1 : Only [p] w w1 := (show Only [p] w _ from (by repeat (first | with_reducible exact Only.refl _ _ | with_reducible assumption | with_reducible refine Only.alloc ?_ _ | with_reducible refine Only.drew ?_ | with_reducible refine Only.drewN ?_ _ | (with_reducible refine Only.setNew ?_ ?_ _; rotate_left; ((try simp); (try omega)))))).trans ho1
  have hQ1 : Blk w1 w.heap.size 41 #[.int .i64 0, .string ⟨#[]⟩, .string ⟨#[]⟩, .int .i64 0, .slice none 0 0, .slice none 0 0, .int .i64 0, .slice none 0 0, .int .i64 0, .bool false, .bool false] := (Blk.new w _ _).only ho1 (by simp; omega)
  have hpv1 := hpv.mono (show w.heap.size + 1 ≤ _ by simp)
  have hz1' := ho1.size
  (try simp at hz1')
  go_upto_region 2 with (fail)
  generalize hW : World.alloc w1 _ = W
  have hbW : Below w1.heap.size w1 W := by rw [← hW]; exact bel_oneP _ _
  have HS := Lib.hid (show PgSt p w w1.heap.size W x A4 c4 A5 c5 A7 c7 F from ⟨by rw [← hW]; exact Blk.new w1 _ _, hQ1.bel hbW, hpv1.bel hbW, fun b hb => by have := (hpv1.lt b hb).2; omega, hc1.bel hbW, Only.belwP hO1 hbW, by omega, by omega, by rw [← hW]; simp⟩)
  obtain ⟨xb, hxb⟩ : ∃ xb, w1.heap.size = xb := ⟨_, rfl⟩
  rw [hxb] at HS ⊢
  clear hW hbW hpv hpv1 hQ1 hO1 hxb ho1 hc1 hz1'
  go_wp2_with fail
  refine (l1Below_any p 12 _ HS.out.cur (by omega)).mono ?_
  rintro e w2 ⟨u, rfl, ⟨q, rfl, hq0, hq1⟩, ho2, hc2⟩
  have HS2 := Lib.hid (HS.out.turn ho2 hc2)
  clear HS ho2 hc2
  have HS := HS2
  clear HS2
  have hlt := HS.out.lt
  have hll : x.loaded.length ≤ 2000 := by
    have h1 := page_sz x
    have h2 : x.loaded.length ≤ cLoadedS.sz x.loaded := Cod.len_le cLoaded x.loaded
    omega
  have hj : q = 0 ∨ q = 1 ∨ q = 2 ∨ q = 3 ∨ ((q == 0) = false ∧ (q == 1) = false ∧ (q == 2) = false ∧ (q == 3) = false) := by
    by_cases h0 : q = 0
    · exact .inl h0
    by_cases h1 : q = 1
    · exact .inr (.inl h1)
    by_cases h2 : q = 2
    · exact .inr (.inr (.inl h2))
    by_cases h3 : q = 3
    · exact .inr (.inr (.inr (.inl h3)))
    · exact .inr (.inr (.inr (.inr (by simp [h0, h1, h2, h3]))))
  rcases hj with hj | hj | hj | hj | hj
  · subst hj
    have hx0 := HS.out.b.all11
    obtain ⟨⟨x0, x1, x2, x3, x4, x5, x6, x7, x8, x9, x10⟩, hfx⟩ := hx0
    have fz0 := hfx 0
    have hrow : cIS.rep (w2.alloc (.cells #[.int .i64 0, .int .i64 1000000000000, .int .i64 1000000000001] 3)) [.slice (some ⟨w2.heap.size, 0, none⟩) 3 3] [0, 1000000000000, 1000000000001] [w2.heap.size] := rowInt w2 3 [0, 1000000000000, 1000000000001] 3 rfl (by simp) (by decide) (by decide)
    go_wp2_with fail
    refine (l1Int_any p _ [0, 1000000000000, 1000000000001] _ _ (HS.out.cur.alloc _) (by exact hrow) (by simp) (by simp; omega)).mono ?_
    rintro e w3 ⟨u, rfl, ⟨z, rfl, hz⟩, ho3, hc3⟩
    have hzr : 0 ≤ z ∧ z ≤ 1000000000001 := by simp at hz; omega
    have H3 := Lib.hid ((HS.out.bel (bel_oneP w2 (.cells #[.int .i64 0, .int .i64 1000000000000, .int .i64 1000000000001] 3))).turn ho3 hc3)
    have hx3 := H3.out.b.cell 0
    have hf3 := H3.out.b.frozen 0
    have hx3' : w3.cell? ⟨xb, 0, none⟩ = some (.int .i64 x.id) := hx3
    clear ho3 hz hrow hfx x0 x1 x2 x3 x4 x5 x6 x7 x8 x9 x10 fz0 hx3
    go_upto_region 12 with (fail)
    obtain ⟨V, hV⟩ : ∃ V, w3.setCell ⟨xb, 0, none⟩ (.int .i64 z) = V := ⟨_, rfl⟩
    rw [hV]
    have HF := Lib.hid (show PgSt p w xb V ⟨z, x.site, x.top, x.ver, x.loaded, x.mach⟩ A4 c4 A5 c5 A7 c7 F from by rw [← hV]; exact H3.out.set_id z (by omega))
    have hsz' : cPage.sz ⟨z, x.site, x.top, x.ver, x.loaded, x.mach⟩ = cPage.sz x := by rw [page_sz, page_sz]
    obtain ⟨y, hy⟩ : ∃ y, (⟨z, x.site, x.top, x.ver, x.loaded, x.mach⟩ : TPage) = y := ⟨_, rfl⟩
    have HYV := Lib.hid (show y.ver = x.ver by rw [← hy])
    rw [hy] at HF hsz'
    clear hV H3 HS hx3' hf3 hy
    obtain ⟨⟨xx0, xx1, xx2, xx3, xx4, xx5, xx6, xx7, xx8, xx9, xx10⟩, hfx⟩ := HF.out.b.all11
    obtain ⟨⟨qq0, qq1, qq2, qq3, qq4, qq5, qq6, qq7, qq8, qq9, qq10⟩, hfq⟩ := HF.out.q.all11
    have ff0 : V.frozen? ⟨w.heap.size, 0, none⟩ = false := hfq 0
    have ff1 : V.frozen? ⟨w.heap.size, 1, none⟩ = false := hfq 1
    have ff2 : V.frozen? ⟨w.heap.size, 2, none⟩ = false := hfq 2
    have ff3 : V.frozen? ⟨w.heap.size, 3, none⟩ = false := hfq 3
    have ff4 : V.frozen? ⟨w.heap.size, 4, none⟩ = false := hfq 4
    have ff5 : V.frozen? ⟨w.heap.size, 5, none⟩ = false := hfq 5
    have ff6 : V.frozen? ⟨w.heap.size, 6, none⟩ = false := hfq 6
    have ff7 : V.frozen? ⟨w.heap.size, 7, none⟩ = false := hfq 7
    have ff8 : V.frozen? ⟨w.heap.size, 8, none⟩ = false := hfq 8
    have ff9 : V.frozen? ⟨w.heap.size, 9, none⟩ = false := hfq 9
    have ff10 : V.frozen? ⟨w.heap.size, 10, none⟩ = false := hfq 10
    have HQ := Lib.hid HF.out.q
    have hw0 : p < w.heap.size := HF.out.lt.1
    have hcur := HF.out.cur
    have hxw9 : xb < V.heap.size := HF.out.lt.2.2
    clear hfx hfq
    go_wp2_with fail
    refine sets_ret11 HQ.out rfl (fun W9 e9 hb9 => ?_)
    obtain ⟨⟨dd0, dd1, dd2, dd3, dd4, dd5, dd6, dd7, dd8, dd9, dd10⟩, -⟩ := hb9.all11
    refine bodyPost_ret (v := .agg #[.int .i64 y.id, .string y.site, .string y.top, .int .i64 y.ver, .slice A4 y.loaded.length c4, .slice A5 y.mach.script.length c5, .int .i64 y.mach.pc, .slice A7 y.mach.regs.length c7, .int .i64 y.mach.steps, .bool y.mach.done, .bool y.mach.wait]) (by simp [results, Try.results67, go_sem, dd0, dd1, dd2, dd3, dd4, dd5, dd6, dd7, dd8, dd9, dd10]) rfl ?_
    subst e9
    have hon := HF.out.only
    have hv9 := HF.out.v
    try have hyv := HYV.out
    exact ⟨_, rfl, ⟨y, A4, c4, A5, c5, A7, c7, rfl, ⟨F, (hv9.keepB (by repeat (first | with_reducible exact Keep.refl _ _ | with_reducible assumption | with_reducible refine Keep.alloc ?_ _ | with_reducible refine Keep.drew ?_ | with_reducible refine Keep.drewN ?_ _ | (with_reducible refine Keep.set_ ?_ ?_ _; rotate_left; ((try simp); (try omega)))))).mono (by omega)⟩, by omega, by omega, by omega⟩, (by repeat (first | with_reducible exact Only.refl _ _ | with_reducible assumption | with_reducible refine Only.alloc ?_ _ | with_reducible refine Only.drew ?_ | with_reducible refine Only.drewN ?_ _ | (with_reducible refine Only.setNew ?_ ?_ _; rotate_left; ((try simp); (try omega))))), (by repeat (first | with_reducible assumption | with_reducible refine Cur.alloc ?_ _ | with_reducible refine Cur.drew ?_ | with_reducible refine Cur.drewN ?_ _ | (with_reducible refine Cur.set ?_ ?_ _; rotate_left; ((try simp); (try omega)))))⟩
  · subst hj
    have hS : ∀ w9, Only [p] w2 w9 → w9.cell? ⟨xb, 3, none⟩ = some (.int .i64 x.ver) ∧ w9.cell? ⟨xb, 4, none⟩ = some (.slice A4 x.loaded.length c4) := fun w9 hb => ⟨(HS.out.b.only hb (by simp; omega)).cell 3, (HS.out.b.only hb (by simp; omega)).cell 4⟩
    have hcur := HS.out.cur
    have hrow : cStS.rep (w2.alloc (.cells #[.string ⟨#[105, 110, 100, 101, 120]⟩, .string ⟨#[]⟩] 9)) [.slice (some ⟨w2.heap.size, 0, none⟩) 2 2] [⟨#[105, 110, 100, 101, 120]⟩, ⟨#[]⟩] [w2.heap.size] := rowStr w2 9 [⟨#[105, 110, 100, 101, 120]⟩, ⟨#[]⟩] 2 rfl (by simp) (by decide) (by decide)
    go_upto_region 6 with (fail)
    refine wp_regionT (S := (fun w9 => w9.cell? ⟨xb, 3, none⟩ = some (.int .i64 x.ver) ∧ w9.cell? ⟨xb, 4, none⟩ = some (.slice A4 x.loaded.length c4))) [12, 13, 14] (by kernel_rfl) (by (try dsimp only); exact hS _ (by repeat (first | with_reducible exact Only.refl _ _ | with_reducible assumption | with_reducible refine Only.alloc ?_ _ | with_reducible refine Only.drew ?_ | with_reducible refine Only.drewN ?_ _ | (with_reducible refine Only.setNew ?_ ?_ _; rotate_left; ((try simp); (try omega)))))) (fun hHeld => ?_)
    refine takeT_read (i := 0) 15 16 (v := ?v0) rfl rfl (by kernel_rfl) (by kernel_rfl) (by kernel_rfl) (by kernel_rfl) (by kernel_rfl) (by kernel_rfl) (fun _ _ _ h => h) (by rfl) ?hy0 (by assumption) ?rest0
    case hy0 => (intro w hSw; (try dsimp only at hSw); go_simp; (try with_reducible rfl))
    try simp only [Act.put, List.setIfInBounds_toArray, List.set_cons_zero, List.set_cons_succ]
    refine takeT_read (i := 1) 15 17 (v := ?v1) rfl rfl (by kernel_rfl) (by kernel_rfl) (by kernel_rfl) (by kernel_rfl) (by kernel_rfl) (by kernel_rfl) (fun _ _ _ h => h) (by rfl) ?hy1 (by assumption) ?rest1
    case hy1 => (intro w hSw; (try dsimp only at hSw); go_simp; (try with_reducible rfl))
    try simp only [Act.put, List.setIfInBounds_toArray, List.set_cons_zero, List.set_cons_succ]
    refine takeT_read (i := 2) 15 18 (v := ?v2) rfl rfl (by kernel_rfl) (by kernel_rfl) (by kernel_rfl) (by kernel_rfl) (by kernel_rfl) (by kernel_rfl) (fun _ _ _ h => h) (by rfl) ?hy2 (by assumption) ?rest2
    case hy2 => (intro w hSw; (try dsimp only at hSw); go_simp; (try with_reducible rfl))
    try simp only [Act.put, List.setIfInBounds_toArray, List.set_cons_zero, List.set_cons_succ]
    refine takeT_read (i := 5) 15 21 (v := ?v5) rfl rfl (by kernel_rfl) (by kernel_rfl) (by kernel_rfl) (by kernel_rfl) (by kernel_rfl) (by kernel_rfl) (fun _ _ _ h => h) (by rfl) ?hy5 (by assumption) ?rest5
    case hy5 => (intro w hSw; (try dsimp only at hSw); go_simp; (try with_reducible rfl))
    try simp only [Act.put, List.setIfInBounds_toArray, List.set_cons_zero, List.set_cons_succ]
    refine takeT_read (i := 6) 15 22 (v := ?v6) rfl rfl (by kernel_rfl) (by kernel_rfl) (by kernel_rfl) (by kernel_rfl) (by kernel_rfl) (by kernel_rfl) (fun _ _ _ h => h) (by rfl) ?hy6 (by assumption) ?rest6
    case hy6 => (intro w hSw; (try dsimp only at hSw); go_simp; (try with_reducible rfl))
    try simp only [Act.put, List.setIfInBounds_toArray, List.set_cons_zero, List.set_cons_succ]
    refine takeT_read (i := 7) 15 23 (v := ?v7) rfl rfl (by kernel_rfl) (by kernel_rfl) (by kernel_rfl) (by kernel_rfl) (by kernel_rfl) (by kernel_rfl) (fun _ _ _ h => h) (by rfl) ?hy7 (by assumption) ?rest7
    case hy7 => (intro w hSw; (try dsimp only at hSw); go_simp; (try with_reducible rfl))
    try simp only [Act.put, List.setIfInBounds_toArray, List.set_cons_zero, List.set_cons_succ]
    refine stepT 3 (by kernel_rfl) rfl (fun K hK => ?_)
    first | (first | (go_at_call 69; refine (l1Str_any p _ [⟨#[105, 110, 100, 101, 120]⟩, ⟨#[]⟩] _ _ (by repeat (first | with_reducible assumption | with_reducible refine Cur.alloc ?_ _ | with_reducible refine Cur.drew ?_ | with_reducible refine Cur.drewN ?_ _ | (with_reducible refine Cur.set ?_ ?_ _; rotate_left; ((try simp); (try omega))))) (by exact Cod.bel hrow (by repeat (first | with_reducible exact Below.refl _ _ | with_reducible assumption | with_reducible refine bel_alloc ?_ _ | with_reducible refine bel_drew ?_ | with_reducible refine bel_drewN ?_ _ | (with_reducible refine bel_set ?_ ?_ _; rotate_left; ((try simp); (try omega)))))) (by simp) (by (try simp); omega)).mono ?_; rintro e w5 ⟨u, rfl, ⟨pa, rfl, hpa⟩, ho5, hc5⟩; have hoR5 : Only [p] w2 w5 := (show Only [p] w2 _ from (by repeat (first | with_reducible exact Only.refl _ _ | with_reducible assumption | with_reducible refine Only.alloc ?_ _ | with_reducible refine Only.drew ?_ | with_reducible refine Only.drewN ?_ _ | (with_reducible refine Only.setNew ?_ ?_ _; rotate_left; ((try simp); (try omega)))))).trans ho5; have hpa1 : pa.size ≤ 100 := (by decide : ∀ x ∈ ([⟨#[105, 110, 100, 101, 120]⟩, ⟨#[]⟩] : List ByteArray), x.size ≤ 100) pa hpa; clear ho5 hpa) | (go_at_call 68; refine (l1Below_any p 2 _ (by repeat (first | with_reducible assumption | with_reducible refine Cur.alloc ?_ _ | with_reducible refine Cur.drew ?_ | with_reducible refine Cur.drewN ?_ _ | (with_reducible refine Cur.set ?_ ?_ _; rotate_left; ((try simp); (try omega))))) (by omega)).mono ?_; rintro e w6 ⟨u, rfl, ⟨r, rfl, hr0, hr1⟩, ho6, hc6⟩; have hoR6 : Only [p] w2 w6 := (show Only [p] w2 _ from (by repeat (first | with_reducible exact Only.refl _ _ | with_reducible assumption | with_reducible refine Only.alloc ?_ _ | with_reducible refine Only.drew ?_ | with_reducible refine Only.drewN ?_ _ | (with_reducible refine Only.setNew ?_ ?_ _; rotate_left; ((try simp); (try omega)))))).trans ho6; have H6 := Lib.hid (HS.out.turn hoR6 hc6); have hwv : IntKind.i64.wrap (x.ver + r) = x.ver + r := IntWalk.i64_in _ (by omega); have hxw6 : xb < w6.heap.size := H6.out.lt.2.2; have hww6 : w.heap.size < w6.heap.size := (by have := H6.out.lt.2.1; omega); clear ho6)) | go_simp
    refine hK.out _ _ ?_ (fun hHeld => ?_)
    · (try dsimp only)
      exact hS _ (by repeat (first | with_reducible exact Only.refl _ _ | with_reducible assumption | with_reducible refine Only.alloc ?_ _ | with_reducible refine Only.drew ?_ | with_reducible refine Only.drewN ?_ _ | (with_reducible refine Only.setNew ?_ ?_ _; rotate_left; ((try simp); (try omega)))))
    clear hK K
    refine stepT 4 (by kernel_rfl) rfl (fun K hK => ?_)
    go_simp
    (first | (go_at_call 69; refine (l1Str_any p _ [⟨#[105, 110, 100, 101, 120]⟩, ⟨#[]⟩] _ _ (by repeat (first | with_reducible assumption | with_reducible refine Cur.alloc ?_ _ | with_reducible refine Cur.drew ?_ | with_reducible refine Cur.drewN ?_ _ | (with_reducible refine Cur.set ?_ ?_ _; rotate_left; ((try simp); (try omega))))) (by exact Cod.bel hrow (by repeat (first | with_reducible exact Below.refl _ _ | with_reducible assumption | with_reducible refine bel_alloc ?_ _ | with_reducible refine bel_drew ?_ | with_reducible refine bel_drewN ?_ _ | (with_reducible refine bel_set ?_ ?_ _; rotate_left; ((try simp); (try omega)))))) (by simp) (by (try simp); omega)).mono ?_; rintro e w5 ⟨u, rfl, ⟨pa, rfl, hpa⟩, ho5, hc5⟩; have hoR5 : Only [p] w2 w5 := (show Only [p] w2 _ from (by repeat (first | with_reducible exact Only.refl _ _ | with_reducible assumption | with_reducible refine Only.alloc ?_ _ | with_reducible refine Only.drew ?_ | with_reducible refine Only.drewN ?_ _ | (with_reducible refine Only.setNew ?_ ?_ _; rotate_left; ((try simp); (try omega)))))).trans ho5; have hpa1 : pa.size ≤ 100 := (by decide : ∀ x ∈ ([⟨#[105, 110, 100, 101, 120]⟩, ⟨#[]⟩] : List ByteArray), x.size ≤ 100) pa hpa; clear ho5 hpa) | (go_at_call 68; refine (l1Below_any p 2 _ (by repeat (first | with_reducible assumption | with_reducible refine Cur.alloc ?_ _ | with_reducible refine Cur.drew ?_ | with_reducible refine Cur.drewN ?_ _ | (with_reducible refine Cur.set ?_ ?_ _; rotate_left; ((try simp); (try omega))))) (by omega)).mono ?_; rintro e w6 ⟨u, rfl, ⟨r, rfl, hr0, hr1⟩, ho6, hc6⟩; have hoR6 : Only [p] w2 w6 := (show Only [p] w2 _ from (by repeat (first | with_reducible exact Only.refl _ _ | with_reducible assumption | with_reducible refine Only.alloc ?_ _ | with_reducible refine Only.drew ?_ | with_reducible refine Only.drewN ?_ _ | (with_reducible refine Only.setNew ?_ ?_ _; rotate_left; ((try simp); (try omega)))))).trans ho6; have H6 := Lib.hid (HS.out.turn hoR6 hc6); have hwv : IntKind.i64.wrap (x.ver + r) = x.ver + r := IntWalk.i64_in _ (by omega); have hxw6 : xb < w6.heap.size := H6.out.lt.2.2; have hww6 : w.heap.size < w6.heap.size := (by have := H6.out.lt.2.1; omega); clear ho6))
    try go_wp2_with fail
    refine hK.out _ _ ?_ (fun hHeld => ?_)
    · (try dsimp only)
      exact hS _ (by repeat (first | with_reducible exact Only.refl _ _ | with_reducible assumption | with_reducible refine Only.alloc ?_ _ | with_reducible refine Only.drew ?_ | with_reducible refine Only.drewN ?_ _ | (with_reducible refine Only.setNew ?_ ?_ _; rotate_left; ((try simp); (try omega)))))
    clear hK K
    refine stepT 8 (by kernel_rfl) rfl (fun K hK => ?_)
    go_simp
    (first | (go_at_call 69; refine (l1Str_any p _ [⟨#[105, 110, 100, 101, 120]⟩, ⟨#[]⟩] _ _ (by repeat (first | with_reducible assumption | with_reducible refine Cur.alloc ?_ _ | with_reducible refine Cur.drew ?_ | with_reducible refine Cur.drewN ?_ _ | (with_reducible refine Cur.set ?_ ?_ _; rotate_left; ((try simp); (try omega))))) (by exact Cod.bel hrow (by repeat (first | with_reducible exact Below.refl _ _ | with_reducible assumption | with_reducible refine bel_alloc ?_ _ | with_reducible refine bel_drew ?_ | with_reducible refine bel_drewN ?_ _ | (with_reducible refine bel_set ?_ ?_ _; rotate_left; ((try simp); (try omega)))))) (by simp) (by (try simp); omega)).mono ?_; rintro e w5 ⟨u, rfl, ⟨pa, rfl, hpa⟩, ho5, hc5⟩; have hoR5 : Only [p] w2 w5 := (show Only [p] w2 _ from (by repeat (first | with_reducible exact Only.refl _ _ | with_reducible assumption | with_reducible refine Only.alloc ?_ _ | with_reducible refine Only.drew ?_ | with_reducible refine Only.drewN ?_ _ | (with_reducible refine Only.setNew ?_ ?_ _; rotate_left; ((try simp); (try omega)))))).trans ho5; have hpa1 : pa.size ≤ 100 := (by decide : ∀ x ∈ ([⟨#[105, 110, 100, 101, 120]⟩, ⟨#[]⟩] : List ByteArray), x.size ≤ 100) pa hpa; clear ho5 hpa) | (go_at_call 68; refine (l1Below_any p 2 _ (by repeat (first | with_reducible assumption | with_reducible refine Cur.alloc ?_ _ | with_reducible refine Cur.drew ?_ | with_reducible refine Cur.drewN ?_ _ | (with_reducible refine Cur.set ?_ ?_ _; rotate_left; ((try simp); (try omega))))) (by omega)).mono ?_; rintro e w6 ⟨u, rfl, ⟨r, rfl, hr0, hr1⟩, ho6, hc6⟩; have hoR6 : Only [p] w2 w6 := (show Only [p] w2 _ from (by repeat (first | with_reducible exact Only.refl _ _ | with_reducible assumption | with_reducible refine Only.alloc ?_ _ | with_reducible refine Only.drew ?_ | with_reducible refine Only.drewN ?_ _ | (with_reducible refine Only.setNew ?_ ?_ _; rotate_left; ((try simp); (try omega)))))).trans ho6; have H6 := Lib.hid (HS.out.turn hoR6 hc6); have hwv : IntKind.i64.wrap (x.ver + r) = x.ver + r := IntWalk.i64_in _ (by omega); have hxw6 : xb < w6.heap.size := H6.out.lt.2.2; have hww6 : w.heap.size < w6.heap.size := (by have := H6.out.lt.2.1; omega); clear ho6))
    try go_wp2_with fail
    refine hK.out _ _ ?_ (fun hHeld => ?_)
    · (try dsimp only)
      exact hS _ (by repeat (first | with_reducible exact Only.refl _ _ | with_reducible assumption | with_reducible refine Only.alloc ?_ _ | with_reducible refine Only.drew ?_ | with_reducible refine Only.drewN ?_ _ | (with_reducible refine Only.setNew ?_ ?_ _; rotate_left; ((try simp); (try omega)))))
    clear hK K
    refine takeT_read (i := 9) 15 25 (v := ?v9) rfl rfl (by kernel_rfl) (by kernel_rfl) (by kernel_rfl) (by kernel_rfl) (by kernel_rfl) (by kernel_rfl) (fun _ _ _ h => h) (by rfl) ?hy9 (by assumption) ?rest9
    case hy9 => (intro w hSw; (try dsimp only at hSw); go_simp; (try with_reducible rfl))
    refine takeT_read (i := 10) 15 26 (v := ?v10) rfl rfl (by kernel_rfl) (by kernel_rfl) (by kernel_rfl) (by kernel_rfl) (by kernel_rfl) (by kernel_rfl) (fun _ _ _ h => h) (by rfl) ?hy10 (by assumption) ?rest10
    case hy10 => (intro w hSw; (try dsimp only at hSw); go_simp; (try with_reducible rfl))
    refine stepT 11 (by kernel_rfl) rfl (fun K hK => ?_)
    first | (first | (go_at_call 69; refine (l1Str_any p _ [⟨#[105, 110, 100, 101, 120]⟩, ⟨#[]⟩] _ _ (by repeat (first | with_reducible assumption | with_reducible refine Cur.alloc ?_ _ | with_reducible refine Cur.drew ?_ | with_reducible refine Cur.drewN ?_ _ | (with_reducible refine Cur.set ?_ ?_ _; rotate_left; ((try simp); (try omega))))) (by exact Cod.bel hrow (by repeat (first | with_reducible exact Below.refl _ _ | with_reducible assumption | with_reducible refine bel_alloc ?_ _ | with_reducible refine bel_drew ?_ | with_reducible refine bel_drewN ?_ _ | (with_reducible refine bel_set ?_ ?_ _; rotate_left; ((try simp); (try omega)))))) (by simp) (by (try simp); omega)).mono ?_; rintro e w5 ⟨u, rfl, ⟨pa, rfl, hpa⟩, ho5, hc5⟩; have hoR5 : Only [p] w2 w5 := (show Only [p] w2 _ from (by repeat (first | with_reducible exact Only.refl _ _ | with_reducible assumption | with_reducible refine Only.alloc ?_ _ | with_reducible refine Only.drew ?_ | with_reducible refine Only.drewN ?_ _ | (with_reducible refine Only.setNew ?_ ?_ _; rotate_left; ((try simp); (try omega)))))).trans ho5; have hpa1 : pa.size ≤ 100 := (by decide : ∀ x ∈ ([⟨#[105, 110, 100, 101, 120]⟩, ⟨#[]⟩] : List ByteArray), x.size ≤ 100) pa hpa; clear ho5 hpa) | (go_at_call 68; refine (l1Below_any p 2 _ (by repeat (first | with_reducible assumption | with_reducible refine Cur.alloc ?_ _ | with_reducible refine Cur.drew ?_ | with_reducible refine Cur.drewN ?_ _ | (with_reducible refine Cur.set ?_ ?_ _; rotate_left; ((try simp); (try omega))))) (by omega)).mono ?_; rintro e w6 ⟨u, rfl, ⟨r, rfl, hr0, hr1⟩, ho6, hc6⟩; have hoR6 : Only [p] w2 w6 := (show Only [p] w2 _ from (by repeat (first | with_reducible exact Only.refl _ _ | with_reducible assumption | with_reducible refine Only.alloc ?_ _ | with_reducible refine Only.drew ?_ | with_reducible refine Only.drewN ?_ _ | (with_reducible refine Only.setNew ?_ ?_ _; rotate_left; ((try simp); (try omega)))))).trans ho6; have H6 := Lib.hid (HS.out.turn hoR6 hc6); have hwv : IntKind.i64.wrap (x.ver + r) = x.ver + r := IntWalk.i64_in _ (by omega); have hxw6 : xb < w6.heap.size := H6.out.lt.2.2; have hww6 : w.heap.size < w6.heap.size := (by have := H6.out.lt.2.1; omega); clear ho6)) | go_simp
    refine hK.out _ _ ?_ (fun hHeld => ?_)
    · (try dsimp only)
      exact hS _ (by repeat (first | with_reducible exact Only.refl _ _ | with_reducible assumption | with_reducible refine Only.alloc ?_ _ | with_reducible refine Only.drew ?_ | with_reducible refine Only.drewN ?_ _ | (with_reducible refine Only.setNew ?_ ?_ _; rotate_left; ((try simp); (try omega)))))
    clear hK K
    refine stepT_end 12 (by kernel_rfl) rfl (by kernel_rfl) (fun K hK => ?_)
    (refine step_app (c := cLoaded) (B := w.heap.size + 1) (xs := x.loaded) (ys := [⟨pa, x.ver + r⟩]) (Fi := []) (Fy := []) _ rfl _ _ _ rfl i0 _ _ Try.underlying39 hi0 hz0 hz1 hz2 rfl (by decide) rfl (H6.out.v.own.bel (by repeat (first | with_reducible exact Below.refl _ _ | with_reducible assumption | with_reducible refine bel_alloc ?_ _ | with_reducible refine bel_drew ?_ | with_reducible refine bel_drewN ?_ _ | (with_reducible refine bel_set ?_ ?_ _; rotate_left; ((try simp); (try omega)))))) (.slice (some ⟨w6.heap.size, 0, none⟩) 1 1) rfl (AppSrc.bel (src_new (w := w6) (vs := #[.string pa, .int .i64 (x.ver + r)]) 51 _ rfl (TLoaded.mk_ (x := ⟨pa, x.ver + r⟩) ⟨by unfold maxLen; simp only; omega, by simp only; omega⟩)) (by repeat (first | with_reducible exact Below.refl _ _ | with_reducible assumption | with_reducible refine bel_alloc ?_ _ | with_reducible refine bel_drew ?_ | with_reducible refine bel_drewN ?_ _ | (with_reducible refine bel_set ?_ ?_ _; rotate_left; ((try simp); (try omega)))))) (by unfold maxLen; simp; omega) (by simp; omega) (by (try simp); (try omega)) (by simp) ?_; intro v2 w7 ho7 hg7 hat7; have hb7 := hg7.block xb (by (try simp); omega) (fun e => (H6.out.ne xb (.inl e.symm)) rfl); have k4 := (World.cell?_of_block (a := ⟨xb, 4, none⟩) hb7).trans ((H6.out.bel (bel_oneP w6 _)).b.cell 4); have kz := (World.frozen?_of_block (a := ⟨xb, 4, none⟩) hb7).trans ((H6.out.bel (bel_oneP w6 _)).b.frozen 4); have k4' : w7.cell? ⟨xb, 4, none⟩ = some (.slice A4 x.loaded.length c4) := k4; clear k4 hb7; obtain ⟨A8, c8, rfl, hst8⟩ := H6.out.app (y := ⟨pa, x.ver + r⟩) ho7 hg7 hat7; have HST8 := Lib.hid hst8; clear hst8 ho7 hg7 hat7)
    refine hK.out _ _ ?_
    clear hK K
    refine stepT_end 13 (by kernel_rfl) rfl (by kernel_rfl) (fun K hK => ?_)
    go_simp
    refine hK.out _ _ ?_
    clear hK K
    refine stepT_end 14 (by kernel_rfl) rfl (by kernel_rfl) (fun K hK => ?_)
    go_simp
    refine hK.out _ _ ?_
    clear hK K
    refine doneT (by kernel_rfl) ?_ _
    have hst8 := HST8.out
    go_upto_region 12 with (fail)
    obtain ⟨V, hV⟩ : ∃ V, w7.setCell ⟨xb, 4, none⟩ (.slice A8 (x.loaded.length + 1) c8) = V := ⟨_, rfl⟩
    rw [hV] at hst8 ⊢
    have hsz' : cPage.sz ⟨x.id, x.site, x.top, x.ver, x.loaded ++ [⟨pa, x.ver + r⟩], x.mach⟩ = cPage.sz x + pa.size + 1 := loadOut_sz x pa (x.ver + r)
    have HF' := Lib.hid hst8
    obtain ⟨y, hy⟩ : ∃ y, (⟨x.id, x.site, x.top, x.ver, x.loaded ++ [⟨pa, x.ver + r⟩], x.mach⟩ : TPage) = y := ⟨_, rfl⟩
    have HYV := Lib.hid (show y.ver = x.ver by rw [← hy])
    rw [hy] at HF' hsz'
    have HF := HF'
    clear hV HF' HS H6 hy hst8 HST8 hS hrow k4' kz hcur
    obtain ⟨⟨xx0, xx1, xx2, xx3, xx4, xx5, xx6, xx7, xx8, xx9, xx10⟩, hfx⟩ := HF.out.b.all11
    obtain ⟨⟨qq0, qq1, qq2, qq3, qq4, qq5, qq6, qq7, qq8, qq9, qq10⟩, hfq⟩ := HF.out.q.all11
    have ff0 : V.frozen? ⟨w.heap.size, 0, none⟩ = false := hfq 0
    have ff1 : V.frozen? ⟨w.heap.size, 1, none⟩ = false := hfq 1
    have ff2 : V.frozen? ⟨w.heap.size, 2, none⟩ = false := hfq 2
    have ff3 : V.frozen? ⟨w.heap.size, 3, none⟩ = false := hfq 3
    have ff4 : V.frozen? ⟨w.heap.size, 4, none⟩ = false := hfq 4
    have ff5 : V.frozen? ⟨w.heap.size, 5, none⟩ = false := hfq 5
    have ff6 : V.frozen? ⟨w.heap.size, 6, none⟩ = false := hfq 6
    have ff7 : V.frozen? ⟨w.heap.size, 7, none⟩ = false := hfq 7
    have ff8 : V.frozen? ⟨w.heap.size, 8, none⟩ = false := hfq 8
    have ff9 : V.frozen? ⟨w.heap.size, 9, none⟩ = false := hfq 9
    have ff10 : V.frozen? ⟨w.heap.size, 10, none⟩ = false := hfq 10
    have HQ := Lib.hid HF.out.q
    have hw0 : p < w.heap.size := HF.out.lt.1
    have hcur := HF.out.cur
    have hxw9 : xb < V.heap.size := HF.out.lt.2.2
    clear hfx hfq
    go_wp2_with fail
    refine sets_ret11 HQ.out rfl (fun W9 e9 hb9 => ?_)
    obtain ⟨⟨dd0, dd1, dd2, dd3, dd4, dd5, dd6, dd7, dd8, dd9, dd10⟩, -⟩ := hb9.all11
    refine bodyPost_ret (v := .agg #[.int .i64 y.id, .string y.site, .string y.top, .int .i64 y.ver, .slice A8 y.loaded.length c8, .slice A5 y.mach.script.length c5, .int .i64 y.mach.pc, .slice A7 y.mach.regs.length c7, .int .i64 y.mach.steps, .bool y.mach.done, .bool y.mach.wait]) (by simp [results, Try.results67, go_sem, dd0, dd1, dd2, dd3, dd4, dd5, dd6, dd7, dd8, dd9, dd10]) rfl ?_
    subst e9
    have hon := HF.out.only
    have hv9 := HF.out.v
    try have hyv := HYV.out
    exact ⟨_, rfl, ⟨y, A8, c8, A5, c5, A7, c7, rfl, ⟨F, (hv9.keepB (by repeat (first | with_reducible exact Keep.refl _ _ | with_reducible assumption | with_reducible refine Keep.alloc ?_ _ | with_reducible refine Keep.drew ?_ | with_reducible refine Keep.drewN ?_ _ | (with_reducible refine Keep.set_ ?_ ?_ _; rotate_left; ((try simp); (try omega)))))).mono (by omega)⟩, by omega, by omega, by omega⟩, (by repeat (first | with_reducible exact Only.refl _ _ | with_reducible assumption | with_reducible refine Only.alloc ?_ _ | with_reducible refine Only.drew ?_ | with_reducible refine Only.drewN ?_ _ | (with_reducible refine Only.setNew ?_ ?_ _; rotate_left; ((try simp); (try omega))))), (by repeat (first | with_reducible assumption | with_reducible refine Cur.alloc ?_ _ | with_reducible refine Cur.drew ?_ | with_reducible refine Cur.drewN ?_ _ | (with_reducible refine Cur.set ?_ ?_ _; rotate_left; ((try simp); (try omega)))))⟩
  · subst hj
    have hx0 := HS.out.b.all11
    obtain ⟨⟨x0, x1, x2, x3, x4, x5, x6, x7, x8, x9, x10⟩, hfx⟩ := hx0
    have fz3 := hfx 3
    have hrow : cIS.rep (w2.alloc (.cells #[.int .i64 0, .int .i64 1000000000001] 3)) [.slice (some ⟨w2.heap.size, 0, none⟩) 2 2] [0, 1000000000001] [w2.heap.size] := rowInt w2 3 [0, 1000000000001] 2 rfl (by simp) (by decide) (by decide)
    go_wp2_with fail
    refine (l1Int_any p _ [0, 1000000000001] _ _ (HS.out.cur.alloc _) (by exact hrow) (by simp) (by simp; omega)).mono ?_
    rintro e w3 ⟨u, rfl, ⟨z, rfl, hz⟩, ho3, hc3⟩
    have hzr : 0 ≤ z ∧ z ≤ 1000000000001 := by simp at hz; omega
    have H3 := Lib.hid ((HS.out.bel (bel_oneP w2 (.cells #[.int .i64 0, .int .i64 1000000000001] 3))).turn ho3 hc3)
    have hx3 := H3.out.b.cell 3
    have hf3 := H3.out.b.frozen 3
    have hx3' : w3.cell? ⟨xb, 3, none⟩ = some (.int .i64 x.ver) := hx3
    clear ho3 hz hrow hfx x0 x1 x2 x3 x4 x5 x6 x7 x8 x9 x10 fz3 hx3
    go_upto_region 12 with (fail)
    obtain ⟨V, hV⟩ : ∃ V, w3.setCell ⟨xb, 3, none⟩ (.int .i64 z) = V := ⟨_, rfl⟩
    rw [hV]
    have HF := Lib.hid (show PgSt p w xb V ⟨x.id, x.site, x.top, z, x.loaded, x.mach⟩ A4 c4 A5 c5 A7 c7 F from by rw [← hV]; exact H3.out.set_ver z (by omega))
    have hsz' : cPage.sz ⟨x.id, x.site, x.top, z, x.loaded, x.mach⟩ = cPage.sz x := by rw [page_sz, page_sz]
    obtain ⟨y, hy⟩ : ∃ y, (⟨x.id, x.site, x.top, z, x.loaded, x.mach⟩ : TPage) = y := ⟨_, rfl⟩
    have HYV := Lib.hid (show y.ver = z by rw [← hy])
    rw [hy] at HF hsz'
    clear hV H3 HS hx3' hf3 hy
    obtain ⟨⟨xx0, xx1, xx2, xx3, xx4, xx5, xx6, xx7, xx8, xx9, xx10⟩, hfx⟩ := HF.out.b.all11
    obtain ⟨⟨qq0, qq1, qq2, qq3, qq4, qq5, qq6, qq7, qq8, qq9, qq10⟩, hfq⟩ := HF.out.q.all11
    have ff0 : V.frozen? ⟨w.heap.size, 0, none⟩ = false := hfq 0
    have ff1 : V.frozen? ⟨w.heap.size, 1, none⟩ = false := hfq 1
    have ff2 : V.frozen? ⟨w.heap.size, 2, none⟩ = false := hfq 2
    have ff3 : V.frozen? ⟨w.heap.size, 3, none⟩ = false := hfq 3
    have ff4 : V.frozen? ⟨w.heap.size, 4, none⟩ = false := hfq 4
    have ff5 : V.frozen? ⟨w.heap.size, 5, none⟩ = false := hfq 5
    have ff6 : V.frozen? ⟨w.heap.size, 6, none⟩ = false := hfq 6
    have ff7 : V.frozen? ⟨w.heap.size, 7, none⟩ = false := hfq 7
    have ff8 : V.frozen? ⟨w.heap.size, 8, none⟩ = false := hfq 8
    have ff9 : V.frozen? ⟨w.heap.size, 9, none⟩ = false := hfq 9
    have ff10 : V.frozen? ⟨w.heap.size, 10, none⟩ = false := hfq 10
    have HQ := Lib.hid HF.out.q
    have hw0 : p < w.heap.size := HF.out.lt.1
    have hcur := HF.out.cur
    have hxw9 : xb < V.heap.size := HF.out.lt.2.2
    clear hfx hfq
    go_wp2_with fail
    refine sets_ret11 HQ.out rfl (fun W9 e9 hb9 => ?_)
    obtain ⟨⟨dd0, dd1, dd2, dd3, dd4, dd5, dd6, dd7, dd8, dd9, dd10⟩, -⟩ := hb9.all11
    refine bodyPost_ret (v := .agg #[.int .i64 y.id, .string y.site, .string y.top, .int .i64 y.ver, .slice A4 y.loaded.length c4, .slice A5 y.mach.script.length c5, .int .i64 y.mach.pc, .slice A7 y.mach.regs.length c7, .int .i64 y.mach.steps, .bool y.mach.done, .bool y.mach.wait]) (by simp [results, Try.results67, go_sem, dd0, dd1, dd2, dd3, dd4, dd5, dd6, dd7, dd8, dd9, dd10]) rfl ?_
    subst e9
    have hon := HF.out.only
    have hv9 := HF.out.v
    try have hyv := HYV.out
    exact ⟨_, rfl, ⟨y, A4, c4, A5, c5, A7, c7, rfl, ⟨F, (hv9.keepB (by repeat (first | with_reducible exact Keep.refl _ _ | with_reducible assumption | with_reducible refine Keep.alloc ?_ _ | with_reducible refine Keep.drew ?_ | with_reducible refine Keep.drewN ?_ _ | (with_reducible refine Keep.set_ ?_ ?_ _; rotate_left; ((try simp); (try omega)))))).mono (by omega)⟩, by omega, by omega, by omega⟩, (by repeat (first | with_reducible exact Only.refl _ _ | with_reducible assumption | with_reducible refine Only.alloc ?_ _ | with_reducible refine Only.drew ?_ | with_reducible refine Only.drewN ?_ _ | (with_reducible refine Only.setNew ?_ ?_ _; rotate_left; ((try simp); (try omega))))), (by repeat (first | with_reducible assumption | with_reducible refine Cur.alloc ?_ _ | with_reducible refine Cur.drew ?_ | with_reducible refine Cur.drewN ?_ _ | (with_reducible refine Cur.set ?_ ?_ _; rotate_left; ((try simp); (try omega)))))⟩
  · subst hj
    go_wp2_with fail
    go_loopg [] (8 - x.loaded.length) (fun k wr => ∃ (x : TPage) (A4 : Option Addr) (c4 : Nat), k = 8 - x.loaded.length ∧ PgSt p w xb wr x A4 c4 A5 c5 A7 c7 F ∧ cPage.sz x ≤ 2000 + 6 * min x.loaded.length 8 ∧ 0 ≤ x.ver ∧ x.ver ≤ 3)
    case atStart => exact ⟨x, A4, c4, rfl, HS.out, by omega, by omega, by omega⟩
    case round =>
      clear HS hsz hv0 hv1
      obtain ⟨x, A4, c4, hk, hst, hsz, hv0, hv1⟩ := hrel
      have HS := Lib.hid hst
      have hlt := hst.lt
      have HKK := Lib.hid hk
      clear hst hk
      have x4 : wr.cell? ⟨xb, 4, none⟩ = some (.slice A4 x.loaded.length c4) := HS.out.b.cell 4
      have x3 : wr.cell? ⟨xb, 3, none⟩ = some (.int .i64 x.ver) := HS.out.b.cell 3
      have z4 := HS.out.b.frozen 4
      by_cases h8 : x.loaded.length < 8
      · have h8i : (x.loaded.length : Int) < 8 := by omega
        have hokI : (⟨⟨#[105, 110, 100, 101, 120]⟩, x.ver⟩ : TLoaded).Ok := ⟨show (⟨#[105, 110, 100, 101, 120]⟩ : ByteArray).size ≤ maxLen from by decide, by simp only; omega⟩
        go_wp2_with (at_builtin; refine wpList_app (c := cLoaded) (B := w.heap.size + 1) (xs := x.loaded) (ys := [⟨⟨#[105, 110, 100, 101, 120]⟩, x.ver⟩]) (Fi := []) (Fy := []) _ rfl _ _ _ rfl i0 _ _ Try.underlying39 hi0 hz0 hz1 hz2 rfl (by decide) rfl (HS.out.v.own.bel (by repeat (first | with_reducible exact Below.refl _ _ | with_reducible assumption | with_reducible refine bel_alloc ?_ _ | with_reducible refine bel_drew ?_ | with_reducible refine bel_drewN ?_ _ | (with_reducible refine bel_set ?_ ?_ _; rotate_left; ((try simp); (try omega)))))) (.slice (some ⟨wr.heap.size, 0, none⟩) 1 1) rfl (src_new 51 wr.heap.size rfl (TLoaded.mk_ (x := ⟨⟨#[105, 110, 100, 101, 120]⟩, x.ver⟩) hokI)) (by unfold maxLen; simp; omega) (by simp; omega) (by (try simp); (try omega)) (by simp) ?_)
        intro v2 w7 ho7 hg7 hat7
        have hb7 := hg7.block xb (by (try simp); omega) (fun e => (HS.out.ne xb (.inl e.symm)) rfl)
        have k4 : w7.cell? ⟨xb, 4, none⟩ = some (.slice A4 x.loaded.length c4) := (World.cell?_of_block (a := ⟨xb, 4, none⟩) hb7).trans ((HS.out.bel (bel_oneP wr _)).b.cell 4)
        have kz := (World.frozen?_of_block (a := ⟨xb, 4, none⟩) hb7).trans ((HS.out.bel (bel_oneP wr _)).b.frozen 4)
        obtain ⟨A8, c8, rfl, hst8⟩ := HS.out.app (y := ⟨⟨#[105, 110, 100, 101, 120]⟩, x.ver⟩) ho7 hg7 (fun g hg => (hat7 g hg).imp id (fun h => by simpa using h))
        have H8 := Lib.hid hst8
        have hsz8 : cPage.sz ⟨x.id, x.site, x.top, x.ver, x.loaded ++ [⟨⟨#[105, 110, 100, 101, 120]⟩, x.ver⟩], x.mach⟩ = cPage.sz x + 5 + 1 := loadOut_sz x ⟨#[105, 110, 100, 101, 120]⟩ x.ver
        have hl8 : (x.loaded ++ [(⟨⟨#[105, 110, 100, 101, 120]⟩, x.ver⟩ : TLoaded)]).length = x.loaded.length + 1 := by simp
        clear ho7 hg7 hat7 hst8 hb7
        go_wp2_with fail
        go_roundg (8 - (x.loaded.length + 1))
        all_goals (first | exact ⟨_, A8, c8, by simp only [hl8], H8.out, by simp only [hl8]; omega, by simp only; omega, by simp only; omega⟩ | (have := HKK.out; omega))
      · have h8i : ¬ (x.loaded.length : Int) < 8 := by omega
        go_upto_region 12 with (fail)
        have HF := HS
        clear HS x4 x3 z4
        obtain ⟨⟨xx0, xx1, xx2, xx3, xx4, xx5, xx6, xx7, xx8, xx9, xx10⟩, hfx⟩ := HF.out.b.all11
        obtain ⟨⟨qq0, qq1, qq2, qq3, qq4, qq5, qq6, qq7, qq8, qq9, qq10⟩, hfq⟩ := HF.out.q.all11
        have ff0 : wr.frozen? ⟨w.heap.size, 0, none⟩ = false := hfq 0
        have ff1 : wr.frozen? ⟨w.heap.size, 1, none⟩ = false := hfq 1
        have ff2 : wr.frozen? ⟨w.heap.size, 2, none⟩ = false := hfq 2
        have ff3 : wr.frozen? ⟨w.heap.size, 3, none⟩ = false := hfq 3
        have ff4 : wr.frozen? ⟨w.heap.size, 4, none⟩ = false := hfq 4
        have ff5 : wr.frozen? ⟨w.heap.size, 5, none⟩ = false := hfq 5
        have ff6 : wr.frozen? ⟨w.heap.size, 6, none⟩ = false := hfq 6
        have ff7 : wr.frozen? ⟨w.heap.size, 7, none⟩ = false := hfq 7
        have ff8 : wr.frozen? ⟨w.heap.size, 8, none⟩ = false := hfq 8
        have ff9 : wr.frozen? ⟨w.heap.size, 9, none⟩ = false := hfq 9
        have ff10 : wr.frozen? ⟨w.heap.size, 10, none⟩ = false := hfq 10
        have HQ := Lib.hid HF.out.q
        have hw0 : p < w.heap.size := HF.out.lt.1
        have hcur := HF.out.cur
        have hxw9 : xb < wr.heap.size := HF.out.lt.2.2
        clear hfx hfq
        go_wp2_with fail
        refine sets_ret11 HQ.out rfl (fun W9 e9 hb9 => ?_)
        obtain ⟨⟨dd0, dd1, dd2, dd3, dd4, dd5, dd6, dd7, dd8, dd9, dd10⟩, -⟩ := hb9.all11
        refine bodyPost_ret (v := .agg #[.int .i64 x.id, .string x.site, .string x.top, .int .i64 x.ver, .slice A4 x.loaded.length c4, .slice A5 x.mach.script.length c5, .int .i64 x.mach.pc, .slice A7 x.mach.regs.length c7, .int .i64 x.mach.steps, .bool x.mach.done, .bool x.mach.wait]) (by simp [results, Try.results67, go_sem, dd0, dd1, dd2, dd3, dd4, dd5, dd6, dd7, dd8, dd9, dd10]) rfl ?_
        subst e9
        have hon := HF.out.only
        have hv9 := HF.out.v
        try have hyv := HYV.out
        exact ⟨_, rfl, ⟨x, A4, c4, A5, c5, A7, c7, rfl, ⟨F, (hv9.keepB (by repeat (first | with_reducible exact Keep.refl _ _ | with_reducible assumption | with_reducible refine Keep.alloc ?_ _ | with_reducible refine Keep.drew ?_ | with_reducible refine Keep.drewN ?_ _ | (with_reducible refine Keep.set_ ?_ ?_ _; rotate_left; ((try simp); (try omega)))))).mono (by omega)⟩, by omega, by omega, by omega⟩, (by repeat (first | with_reducible exact Only.refl _ _ | with_reducible assumption | with_reducible refine Only.alloc ?_ _ | with_reducible refine Only.drew ?_ | with_reducible refine Only.drewN ?_ _ | (with_reducible refine Only.setNew ?_ ?_ _; rotate_left; ((try simp); (try omega))))), (by repeat (first | with_reducible assumption | with_reducible refine Cur.alloc ?_ _ | with_reducible refine Cur.drew ?_ | with_reducible refine Cur.drewN ?_ _ | (with_reducible refine Cur.set ?_ ?_ _; rotate_left; ((try simp); (try omega)))))⟩
  · obtain ⟨j0, j1, j2, j3⟩ := hj
    go_upto_region 12 with (fail)
    have HF := HS
    clear HS
    obtain ⟨⟨xx0, xx1, xx2, xx3, xx4, xx5, xx6, xx7, xx8, xx9, xx10⟩, hfx⟩ := HF.out.b.all11
    obtain ⟨⟨qq0, qq1, qq2, qq3, qq4, qq5, qq6, qq7, qq8, qq9, qq10⟩, hfq⟩ := HF.out.q.all11
    have ff0 : w2.frozen? ⟨w.heap.size, 0, none⟩ = false := hfq 0
    have ff1 : w2.frozen? ⟨w.heap.size, 1, none⟩ = false := hfq 1
    have ff2 : w2.frozen? ⟨w.heap.size, 2, none⟩ = false := hfq 2
    have ff3 : w2.frozen? ⟨w.heap.size, 3, none⟩ = false := hfq 3
    have ff4 : w2.frozen? ⟨w.heap.size, 4, none⟩ = false := hfq 4
    have ff5 : w2.frozen? ⟨w.heap.size, 5, none⟩ = false := hfq 5
    have ff6 : w2.frozen? ⟨w.heap.size, 6, none⟩ = false := hfq 6
    have ff7 : w2.frozen? ⟨w.heap.size, 7, none⟩ = false := hfq 7
    have ff8 : w2.frozen? ⟨w.heap.size, 8, none⟩ = false := hfq 8
    have ff9 : w2.frozen? ⟨w.heap.size, 9, none⟩ = false := hfq 9
    have ff10 : w2.frozen? ⟨w.heap.size, 10, none⟩ = false := hfq 10
    have HQ := Lib.hid HF.out.q
    have hw0 : p < w.heap.size := HF.out.lt.1
    have hcur := HF.out.cur
    have hxw9 : xb < w2.heap.size := HF.out.lt.2.2
    clear hfx hfq
    go_wp2_with fail
    refine sets_ret11 HQ.out rfl (fun W9 e9 hb9 => ?_)
    obtain ⟨⟨dd0, dd1, dd2, dd3, dd4, dd5, dd6, dd7, dd8, dd9, dd10⟩, -⟩ := hb9.all11
    refine bodyPost_ret (v := .agg #[.int .i64 x.id, .string x.site, .string x.top, .int .i64 x.ver, .slice A4 x.loaded.length c4, .slice A5 x.mach.script.length c5, .int .i64 x.mach.pc, .slice A7 x.mach.regs.length c7, .int .i64 x.mach.steps, .bool x.mach.done, .bool x.mach.wait]) (by simp [results, Try.results67, go_sem, dd0, dd1, dd2, dd3, dd4, dd5, dd6, dd7, dd8, dd9, dd10]) rfl ?_
    subst e9
    have hon := HF.out.only
    have hv9 := HF.out.v
    try have hyv := HYV.out
    exact ⟨_, rfl, ⟨x, A4, c4, A5, c5, A7, c7, rfl, ⟨F, (hv9.keepB (by repeat (first | with_reducible exact Keep.refl _ _ | with_reducible assumption | with_reducible refine Keep.alloc ?_ _ | with_reducible refine Keep.drew ?_ | with_reducible refine Keep.drewN ?_ _ | (with_reducible refine Keep.set_ ?_ ?_ _; rotate_left; ((try simp); (try omega)))))).mono (by omega)⟩, by omega, by omega, by omega⟩, (by repeat (first | with_reducible exact Only.refl _ _ | with_reducible assumption | with_reducible refine Only.alloc ?_ _ | with_reducible refine Only.drew ?_ | with_reducible refine Only.drewN ?_ _ | (with_reducible refine Only.setNew ?_ ?_ _; rotate_left; ((try simp); (try omega))))), (by repeat (first | with_reducible assumption | with_reducible refine Cur.alloc ?_ _ | with_reducible refine Cur.drew ?_ | with_reducible refine Cur.drewN ?_ _ | (with_reducible refine Cur.set ?_ ?_ _; rotate_left; ((try simp); (try omega)))))⟩
end Go.Proofs.Ytlicnppfgfjkgaa
