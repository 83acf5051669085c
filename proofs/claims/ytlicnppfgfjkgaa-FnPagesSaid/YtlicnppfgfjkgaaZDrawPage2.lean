/-
  The draw of a page: l19Page. No conditions.
-/
import Derived.Test.YtlicnppfgfjkgaaZDrawPage
import Derived.Test.YtlicnppfgfjkgaaZRegP
import Derived.Test.YtlicnppfgfjkgaaZDrawW
namespace Go.Proofs.Ytlicnppfgfjkgaa
open Go.ChangeShapes Go.WideShapes Go.RowKit
set_option linter.unusedVariables false

theorem Blk.all11 {W : World} {q : Nat} {T : TypeId} {v0 v1 v2 v3 v4 v5 v6 v7 v8 v9 v10 : Value} (h : Blk W q T #[v0, v1, v2, v3, v4, v5, v6, v7, v8, v9, v10]) : (W.cell? ⟨q, 0, none⟩ = some (v0) ∧ W.cell? ⟨q, 1, none⟩ = some (v1) ∧ W.cell? ⟨q, 2, none⟩ = some (v2) ∧ W.cell? ⟨q, 3, none⟩ = some (v3) ∧ W.cell? ⟨q, 4, none⟩ = some (v4) ∧ W.cell? ⟨q, 5, none⟩ = some (v5) ∧ W.cell? ⟨q, 6, none⟩ = some (v6) ∧ W.cell? ⟨q, 7, none⟩ = some (v7) ∧ W.cell? ⟨q, 8, none⟩ = some (v8) ∧ W.cell? ⟨q, 9, none⟩ = some (v9) ∧ W.cell? ⟨q, 10, none⟩ = some (v10)) ∧ ∀ j, W.frozen? ⟨q, j, none⟩ = false :=
  ⟨⟨h.cell 0, h.cell 1, h.cell 2, h.cell 3, h.cell 4, h.cell 5, h.cell 6, h.cell 7, h.cell 8, h.cell 9, h.cell 10⟩, fun j => h.frozen j⟩
def PageW (B : Nat) (w : World) (x : TPage) (A4 : Option Addr) (c4 : Nat) (A5 : Option Addr) (c5 : Nat) (A7 : Option Addr) (c7 : Nat) : Prop := ∃ F, PageV B w x A4 c4 A5 c5 A7 c7 F
theorem small_szsP : ∀ xs : List TIns, (∀ x, x ∈ xs → SmallIns x) → cInsS.sz xs ≤ 101 * xs.length
  | [], _ => Nat.le_refl _
  | x :: xs, h => by
    have h1 := (h x (by simp)).2
    have h2 := small_szsP xs fun y hy => h y (by simp [hy])
    have e : cInsS.sz (x :: xs) = (0 + (0 + (0 + x.text.size))) + 1 + cInsS.sz xs := rfl
    rw [e, List.length_cons]
    omega
theorem beginPage_sz (id : Int) (site top : ByteArray) (ver : Int) (l : List TIns) : cPage.sz (beginPage id site top ver l).1 ≤ site.size + top.size + cInsS.sz l + 4 := by
  have hm := newMachine_sz l
  unfold beginPage
  cases isPage ⟨id, site, top, ver, [], newMachine l⟩ with
  | true => rw [page_sz]; show site.size + (top.size + (0 + cMach.sz (newMachine l))) ≤ _; omega
  | false => rw [page_sz]; show 0 + (0 + (0 + cMach.sz ⟨[], 0, [], 0, false, false⟩)) ≤ _; have : cMach.sz ⟨[], 0, [], 0, false, false⟩ = 0 := rfl; omega
theorem beginPage_ver (id : Int) (site top : ByteArray) (ver : Int) (l : List TIns) (h : 1 ≤ ver) : 0 ≤ (beginPage id site top ver l).1.ver ∧ (beginPage id site top ver l).1.ver ≤ ver := by
  unfold beginPage
  cases isPage ⟨id, site, top, ver, [], newMachine l⟩ with
  | true => show 0 ≤ ver ∧ ver ≤ ver; omega
  | false => show (0 : Int) ≤ 0 ∧ 0 ≤ ver; omega
theorem loadFile_sz (x : TPage) (pa : ByteArray) (y : TResp) : cPage.sz (loadFile x pa y).1 ≤ cPage.sz x + pa.size + 1 := by
  unfold loadFile
  cases (y.status == 200 && y.ver == x.ver && isPage x && isPage (loadOut x pa y.ver)) with
  | true => show cPage.sz (loadOut x pa y.ver) ≤ _; rw [loadOut_sz]; omega
  | false => show cPage.sz x ≤ _; omega
theorem loadFile_ver (x : TPage) (pa : ByteArray) (y : TResp) : (loadFile x pa y).1.ver = x.ver := by
  unfold loadFile
  cases (y.status == 200 && y.ver == x.ver && isPage x && isPage (loadOut x pa y.ver)) <;> rfl
set_option maxRecDepth 100000 in
set_option maxHeartbeats 8000000 in
theorem l19Page_any (p : Nat) (w : World) (h : Cur w p) :
    Calls Try.prog 122 #[.pointer (some ⟨p, 0, none⟩)] w (Draws p w fun v w' => ∃ (x : TPage) (A4 : Option Addr) (c4 : Nat) (A5 : Option Addr) (c5 : Nat) (A7 : Option Addr) (c7 : Nat), v = .agg #[.int .i64 x.id, .string x.site, .string x.top, .int .i64 x.ver, .slice A4 x.loaded.length c4, .slice A5 x.mach.script.length c5, .int .i64 x.mach.pc, .slice A7 x.mach.regs.length c7, .int .i64 x.mach.steps, .bool x.mach.done, .bool x.mach.wait] ∧ PageW w.heap.size w' x A4 c4 A5 c5 A7 c7 ∧ cPage.sz x ≤ 2000 ∧ 0 ≤ x.ver ∧ x.ver ≤ 3) := by
  have hpl := h.lt
  go_enter Try.func122, Try.ntmps122
  go_wp2_with fail
  refine (l15Site_any p _ (h.alloc _)).mono ?_
  rintro e w1 ⟨v, rfl, ⟨st, rfl, hst⟩, ho1, hc1⟩
  have hO1 : Only [p] w w1 := (show Only [p] w _ from (by repeat (first | with_reducible exact Only.refl _ _ | with_reducible assumption | with_reducible refine Only.alloc ?_ _ | with_reducible refine Only.drew ?_ | with_reducible refine Only.drewN ?_ _ | (with_reducible refine Only.setNew ?_ ?_ _; rotate_left; ((try simp); (try omega)))))).trans ho1
  have hQ1 : Blk w1 w.heap.size 41 #[.int .i64 0, .string ⟨#[]⟩, .string ⟨#[]⟩, .int .i64 0, .slice none 0 0, .slice none 0 0, .int .i64 0, .slice none 0 0, .int .i64 0, .bool false, .bool false] := (Blk.new w _ _).only ho1 (by simp; omega)
  clear ho1
  go_wp2_with fail
  refine (l1Once_any p 3 _ hc1 (by omega)).mono ?_
  rintro e w2 ⟨v, rfl, ⟨b, rfl⟩, ho2, hc2⟩
  have hO2 : Only [p] w w2 := hO1.trans ho2
  have hQ2 := hQ1.only ho2 (by simp; omega)
  clear ho2 hO1 hQ1 hc1
  cases b
  · have hO3 := hO2
    have hc3 := hc2
    have hQ3 := hQ2
    clear hO2 hc2 hQ2
    go_wp2_with fail
    refine (l1Below_any p 9 _ hc3 (by omega)).mono ?_
    rintro e w4 ⟨u, rfl, ⟨r1, rfl, hr10, hr11⟩, ho4, hc4⟩
    have hw1 : IntKind.i64.wrap (1 + r1) = 1 + r1 := IntWalk.i64_in _ (by omega)
    go_wp2_with fail
    refine (l1Below_any p 3 _ hc4 (by omega)).mono ?_
    rintro e w5 ⟨u, rfl, ⟨r2, rfl, hr20, hr21⟩, ho5, hc5⟩
    have hw2 : IntKind.i64.wrap (1 + r2) = 1 + r2 := IntWalk.i64_in _ (by omega)
    go_wp2_with fail
    refine (l13Script_any p _ hc5).mono ?_
    rintro e w6 ⟨u, rfl, ⟨sc, hown, hsc⟩, ho6, hc6⟩
    obtain ⟨As, cs, rfl⟩ := hown.slice
    obtain ⟨Gs, hrs, -, -⟩ := hown.fresh (hw := by decide) (hw2 := by decide)
    have hss := small_szsP sc hsc.2
    have hsl := hsc.1
    have hO6 : Only [p] w w6 := ((hO3.trans ho4).trans ho5).trans ho6
    have hQ6 := ((hQ3.only ho4 (by simp; omega)).only ho5 (by simp; omega)).only ho6 (by simp; omega)
    go_wp2_with fail
    refine (specBeginPage_any (1 + r1) st st (1 + r2) _ sc Gs _ (by omega) (by omega) (by omega) (by omega) (by exact hrs) (by omega)).mono ?_
    have hbs := beginPage_sz (1 + r1) st st (1 + r2) sc
    have hbv := beginPage_ver (1 + r1) st st (1 + r2) sc (by omega)
    obtain ⟨x, hx⟩ : ∃ x, (beginPage (1 + r1) st st (1 + r2) sc).1 = x := ⟨_, rfl⟩
    rw [hx] at hbs hbv ⊢
    clear hx
    rintro e w7 ⟨A4, c4, A5, c5, A7, c7, F, rfl, hb7, hpv⟩
    go_upto_region 6 with (fail)
    have hz6 := hb7.size
    generalize hW : World.alloc w7 _ = W
    have hbW : Below w7.heap.size w7 W := by rw [← hW]; exact bel_oneP _ _
    have hb6W : Below w6.heap.size w6 W := bel_then hb7 hbW
    have hzO := hO6.size
    have hzw : w.heap.size < w6.heap.size := hQ6.lt
    have HS := Lib.hid (show PgSt p w w7.heap.size W x A4 c4 A5 c5 A7 c7 F from ⟨by rw [← hW]; exact Blk.new w7 _ _, hQ6.bel hb6W, (hpv.bel hbW).mono (by omega), fun b hb => by have := (hpv.lt b hb).2; omega, hc6.bel hb6W, Only.belwP hO6 hb6W, by omega, by omega, by rw [← hW]; simp⟩)
    obtain ⟨xb, hxb⟩ : ∃ xb, w7.heap.size = xb := ⟨_, rfl⟩
    rw [hxb] at HS ⊢
    clear hW hbW hb6W hb7 hpv hQ6 hO6 hxb hown hrs ho4 ho5 ho6 hQ3 hO3 hc3 hc4 hc5 hc6 hzw hzO hz6 hsc
    go_wp2_with fail
    refine (l1Below_any p 3 _ HS.out.cur (by omega)).mono ?_
    rintro e w8 ⟨u, rfl, ⟨r3, rfl, hr30, hr31⟩, ho8, hc8⟩
    have H8 := Lib.hid (HS.out.turn ho8 hc8)
    clear HS ho8 hc8
    go_wp2_with fail
    go_loopw [7] (fun i wr => ∃ k : Nat, i = .int .i64 k ∧ k ≤ 2 ∧ ∃ (x : TPage) (A4 : Option Addr) (c4 : Nat) (A5 : Option Addr) (c5 : Nat) (A7 : Option Addr) (c7 : Nat) (F : List Nat), PgSt p w xb wr x A4 c4 A5 c5 A7 c7 F ∧ cPage.sz x + 101 * k ≤ 2000 ∧ 0 ≤ x.ver ∧ x.ver ≤ 3) (fun i _ => (intOf i).toNat)
    case atStart => exact ⟨r3.toNat, by rw [Int.toNat_of_nonneg hr30], by omega, x, A4, c4, A5, c5, A7, c7, F, H8.out, by omega, hbv.1, by omega⟩
    case round =>
      clear H8 hbs hbv
      obtain ⟨k, rfl, hk2, x, A4, c4, A5, c5, A7, c7, F, hst8, hsz, hv0, hv1⟩ := hrel
      have HS := Lib.hid hst8
      have hlt := hst8.lt
      have hcur := hst8.cur
      clear hst8
      by_cases hpos : 0 < k
      · have hki : (0 : Int) < (k : Int) := by omega
        have hS : ∀ w9, Only [p] wr w9 → w9.cell? ⟨xb, 0, none⟩ = some (.int .i64 x.id) ∧ w9.cell? ⟨xb, 1, none⟩ = some (.string x.site) ∧ w9.cell? ⟨xb, 2, none⟩ = some (.string x.top) ∧ w9.cell? ⟨xb, 3, none⟩ = some (.int .i64 x.ver) ∧ w9.cell? ⟨xb, 4, none⟩ = some (.slice A4 x.loaded.length c4) ∧ w9.cell? ⟨xb, 5, none⟩ = some (.slice A5 x.mach.script.length c5) ∧ w9.cell? ⟨xb, 6, none⟩ = some (.int .i64 x.mach.pc) ∧ w9.cell? ⟨xb, 7, none⟩ = some (.slice A7 x.mach.regs.length c7) ∧ w9.cell? ⟨xb, 8, none⟩ = some (.int .i64 x.mach.steps) ∧ w9.cell? ⟨xb, 9, none⟩ = some (.bool x.mach.done) ∧ w9.cell? ⟨xb, 10, none⟩ = some (.bool x.mach.wait) := fun w9 hb => (HS.out.b.only hb (by simp; omega)).all11.1
        go_upto_region 9 with (fail)
        refine wp_regionT (S := (fun w9 => w9.cell? ⟨xb, 0, none⟩ = some (.int .i64 x.id) ∧ w9.cell? ⟨xb, 1, none⟩ = some (.string x.site) ∧ w9.cell? ⟨xb, 2, none⟩ = some (.string x.top) ∧ w9.cell? ⟨xb, 3, none⟩ = some (.int .i64 x.ver) ∧ w9.cell? ⟨xb, 4, none⟩ = some (.slice A4 x.loaded.length c4) ∧ w9.cell? ⟨xb, 5, none⟩ = some (.slice A5 x.mach.script.length c5) ∧ w9.cell? ⟨xb, 6, none⟩ = some (.int .i64 x.mach.pc) ∧ w9.cell? ⟨xb, 7, none⟩ = some (.slice A7 x.mach.regs.length c7) ∧ w9.cell? ⟨xb, 8, none⟩ = some (.int .i64 x.mach.steps) ∧ w9.cell? ⟨xb, 9, none⟩ = some (.bool x.mach.done) ∧ w9.cell? ⟨xb, 10, none⟩ = some (.bool x.mach.wait))) [8, 9, 10] (by kernel_rfl) (by (try dsimp only); exact hS _ (by repeat (first | with_reducible exact Only.refl _ _ | with_reducible assumption | with_reducible refine Only.alloc ?_ _ | with_reducible refine Only.drew ?_ | with_reducible refine Only.drewN ?_ _ | (with_reducible refine Only.setNew ?_ ?_ _; rotate_left; ((try simp); (try omega)))))) (fun hHeld => ?_)
        refine takeT_read (i := 0) 11 36 (v := ?v0) rfl rfl (by kernel_rfl) (by kernel_rfl) (by kernel_rfl) (by kernel_rfl) (by kernel_rfl) (by kernel_rfl) (fun _ _ _ h => h) (by rfl) ?hy0 (by assumption) ?rest0
        case hy0 => (intro w hSw; (try dsimp only at hSw); go_simp; (try with_reducible rfl))
        try simp only [Act.put, List.setIfInBounds_toArray, List.set_cons_zero, List.set_cons_succ]
        refine takeT_read (i := 1) 11 37 (v := ?v1) rfl rfl (by kernel_rfl) (by kernel_rfl) (by kernel_rfl) (by kernel_rfl) (by kernel_rfl) (by kernel_rfl) (fun _ _ _ h => h) (by rfl) ?hy1 (by assumption) ?rest1
        case hy1 => (intro w hSw; (try dsimp only at hSw); go_simp; (try with_reducible rfl))
        try simp only [Act.put, List.setIfInBounds_toArray, List.set_cons_zero, List.set_cons_succ]
        refine takeT_read (i := 3) 11 39 (v := ?v3) rfl rfl (by kernel_rfl) (by kernel_rfl) (by kernel_rfl) (by kernel_rfl) (by kernel_rfl) (by kernel_rfl) (fun _ _ _ h => h) (by rfl) ?hy3 (by assumption) ?rest3
        case hy3 => (intro w hSw; (try dsimp only at hSw); go_simp; (try with_reducible rfl))
        try simp only [Act.put, List.setIfInBounds_toArray, List.set_cons_zero, List.set_cons_succ]
        refine takeT_read (i := 4) 11 40 (v := ?v4) rfl rfl (by kernel_rfl) (by kernel_rfl) (by kernel_rfl) (by kernel_rfl) (by kernel_rfl) (by kernel_rfl) (fun _ _ _ h => h) (by rfl) ?hy4 (by assumption) ?rest4
        case hy4 => (intro w hSw; (try dsimp only at hSw); go_simp; (try with_reducible rfl))
        try simp only [Act.put, List.setIfInBounds_toArray, List.set_cons_zero, List.set_cons_succ]
        refine takeT_read (i := 5) 11 41 (v := ?v5) rfl rfl (by kernel_rfl) (by kernel_rfl) (by kernel_rfl) (by kernel_rfl) (by kernel_rfl) (by kernel_rfl) (fun _ _ _ h => h) (by rfl) ?hy5 (by assumption) ?rest5
        case hy5 => (intro w hSw; (try dsimp only at hSw); go_simp; (try with_reducible rfl))
        try simp only [Act.put, List.setIfInBounds_toArray, List.set_cons_zero, List.set_cons_succ]
        refine stepT 2 (by kernel_rfl) rfl (fun K hK => ?_)
        go_simp
        (first | (go_at_call 131; refine (l15Path_any p _ (by repeat (first | with_reducible assumption | with_reducible refine Cur.alloc ?_ _ | with_reducible refine Cur.drew ?_ | with_reducible refine Cur.drewN ?_ _ | (with_reducible refine Cur.set ?_ ?_ _; rotate_left; ((try simp); (try omega)))))).mono ?_; rintro e y1 ⟨u, rfl, ⟨pa, rfl, hpa⟩, hoy1, hcy1⟩; have hoR8 : Only [p] wr y1 := (show Only [p] wr _ from (by repeat (first | with_reducible exact Only.refl _ _ | with_reducible assumption | with_reducible refine Only.alloc ?_ _ | with_reducible refine Only.drew ?_ | with_reducible refine Only.drewN ?_ _ | (with_reducible refine Only.setNew ?_ ?_ _; rotate_left; ((try simp); (try omega)))))).trans hoy1; have H8 := Lib.hid (HS.out.turn hoR8 hcy1); obtain ⟨Gp, hrp, -, -⟩ := H8.out.v.rep; have HRP := Lib.hid hrp; clear hoy1 hrp) | (go_at_call 18; refine (specLoadFile_any _ x Gp pa _ ⟨0, 200, x.ver, [], false⟩ [] _ (by exact Cod.bel HRP.out (by repeat (first | with_reducible exact Below.refl _ _ | with_reducible assumption | with_reducible refine bel_alloc ?_ _ | with_reducible refine bel_drew ?_ | with_reducible refine bel_drewN ?_ _ | (with_reducible refine bel_set ?_ ?_ _; rotate_left; ((try simp); (try omega)))))) (by omega) (by omega) (by exact TResp.mk_ (x := ⟨0, 200, x.ver, [], false⟩) ⟨(by decide : (-9223372036854775808 : Int) ≤ 0 ∧ (0 : Int) ≤ 9223372036854775807), (by decide : (-9223372036854775808 : Int) ≤ 200 ∧ (200 : Int) ≤ 9223372036854775807), by simp only; omega⟩ (rows_nil _))).mono ?_; have hls := loadFile_sz x pa ⟨0, 200, x.ver, [], false⟩; have hlv := loadFile_ver x pa ⟨0, 200, x.ver, [], false⟩; obtain ⟨x2, hx2⟩ : ∃ x2, (loadFile x pa ⟨0, 200, x.ver, [], false⟩).1 = x2 := ⟨_, rfl⟩; rw [hx2] at hls hlv ⊢; clear hx2; have HLV := Lib.hid hlv; clear hlv; rintro e y2 ⟨D4, g4, D5, g5, D7, g7, F9, rfl, hby, hvy⟩; have hBy : Below y1.heap.size y1 y2 := bel_then (by repeat (first | with_reducible exact Below.refl _ _ | with_reducible assumption | with_reducible refine bel_alloc ?_ _ | with_reducible refine bel_drew ?_ | with_reducible refine bel_drewN ?_ _ | (with_reducible refine bel_set ?_ ?_ _; rotate_left; ((try simp); (try omega))))) hby; have H9 := Lib.hid (H8.out.bel hBy); have hzy := H8.out.lt.2.2; (try simp at hvy); have HV9 := Lib.hid hvy; obtain ⟨⟨m0, m1, m2, m3, m4, m5, m6, m7, m8, m9, m10⟩, hfz⟩ := H9.out.b.all11; have hoy2 : Only [p] wr y2 := Only.belwP hoR8 hBy; clear hby hvy hBy))
        try go_wp2_with fail
        refine hK.out _ _ ?_ (fun hHeld => ?_)
        · (try dsimp only)
          exact hS _ (by repeat (first | with_reducible exact Only.refl _ _ | with_reducible assumption | with_reducible refine Only.alloc ?_ _ | with_reducible refine Only.drew ?_ | with_reducible refine Only.drewN ?_ _ | (with_reducible refine Only.setNew ?_ ?_ _; rotate_left; ((try simp); (try omega)))))
        clear hK K
        refine stepT 6 (by kernel_rfl) rfl (fun K hK => ?_)
        go_simp
        (first | (go_at_call 131; refine (l15Path_any p _ (by repeat (first | with_reducible assumption | with_reducible refine Cur.alloc ?_ _ | with_reducible refine Cur.drew ?_ | with_reducible refine Cur.drewN ?_ _ | (with_reducible refine Cur.set ?_ ?_ _; rotate_left; ((try simp); (try omega)))))).mono ?_; rintro e y1 ⟨u, rfl, ⟨pa, rfl, hpa⟩, hoy1, hcy1⟩; have hoR8 : Only [p] wr y1 := (show Only [p] wr _ from (by repeat (first | with_reducible exact Only.refl _ _ | with_reducible assumption | with_reducible refine Only.alloc ?_ _ | with_reducible refine Only.drew ?_ | with_reducible refine Only.drewN ?_ _ | (with_reducible refine Only.setNew ?_ ?_ _; rotate_left; ((try simp); (try omega)))))).trans hoy1; have H8 := Lib.hid (HS.out.turn hoR8 hcy1); obtain ⟨Gp, hrp, -, -⟩ := H8.out.v.rep; have HRP := Lib.hid hrp; clear hoy1 hrp) | (go_at_call 18; refine (specLoadFile_any _ x Gp pa _ ⟨0, 200, x.ver, [], false⟩ [] _ (by exact Cod.bel HRP.out (by repeat (first | with_reducible exact Below.refl _ _ | with_reducible assumption | with_reducible refine bel_alloc ?_ _ | with_reducible refine bel_drew ?_ | with_reducible refine bel_drewN ?_ _ | (with_reducible refine bel_set ?_ ?_ _; rotate_left; ((try simp); (try omega)))))) (by omega) (by omega) (by exact TResp.mk_ (x := ⟨0, 200, x.ver, [], false⟩) ⟨(by decide : (-9223372036854775808 : Int) ≤ 0 ∧ (0 : Int) ≤ 9223372036854775807), (by decide : (-9223372036854775808 : Int) ≤ 200 ∧ (200 : Int) ≤ 9223372036854775807), by simp only; omega⟩ (rows_nil _))).mono ?_; have hls := loadFile_sz x pa ⟨0, 200, x.ver, [], false⟩; have hlv := loadFile_ver x pa ⟨0, 200, x.ver, [], false⟩; obtain ⟨x2, hx2⟩ : ∃ x2, (loadFile x pa ⟨0, 200, x.ver, [], false⟩).1 = x2 := ⟨_, rfl⟩; rw [hx2] at hls hlv ⊢; clear hx2; have HLV := Lib.hid hlv; clear hlv; rintro e y2 ⟨D4, g4, D5, g5, D7, g7, F9, rfl, hby, hvy⟩; have hBy : Below y1.heap.size y1 y2 := bel_then (by repeat (first | with_reducible exact Below.refl _ _ | with_reducible assumption | with_reducible refine bel_alloc ?_ _ | with_reducible refine bel_drew ?_ | with_reducible refine bel_drewN ?_ _ | (with_reducible refine bel_set ?_ ?_ _; rotate_left; ((try simp); (try omega))))) hby; have H9 := Lib.hid (H8.out.bel hBy); have hzy := H8.out.lt.2.2; (try simp at hvy); have HV9 := Lib.hid hvy; obtain ⟨⟨m0, m1, m2, m3, m4, m5, m6, m7, m8, m9, m10⟩, hfz⟩ := H9.out.b.all11; have hoy2 : Only [p] wr y2 := Only.belwP hoR8 hBy; clear hby hvy hBy))
        try go_wp2_with fail
        refine hK.out _ _ ?_ (fun hHeld => ?_)
        · (try dsimp only)
          exact hS _ (by repeat (first | with_reducible exact Only.refl _ _ | with_reducible assumption | with_reducible refine Only.alloc ?_ _ | with_reducible refine Only.drew ?_ | with_reducible refine Only.drewN ?_ _ | (with_reducible refine Only.setNew ?_ ?_ _; rotate_left; ((try simp); (try omega)))))
        clear hK K
        refine takeT_read (i := 7) 11 35 (v := ?v7) rfl rfl (by kernel_rfl) (by kernel_rfl) (by kernel_rfl) (by kernel_rfl) (by kernel_rfl) (by kernel_rfl) (fun _ _ _ h => h) (by rfl) ?hy7 (by assumption) ?rest7
        case hy7 => (intro w hSw; (try dsimp only at hSw); go_simp; (try with_reducible rfl))
        refine takeT_pure (i := 8) 43 (v := ?v8) rfl rfl (by kernel_rfl) (by kernel_rfl) (by kernel_rfl) (by kernel_rfl) (fun _ _ _ h => h) (by rfl) ?hy8 ?rest8
        case hy8 => (intro w; go_simp; (try with_reducible rfl))
        refine takeT_pure (i := 9) 44 (v := ?v9) rfl rfl (by kernel_rfl) (by kernel_rfl) (by kernel_rfl) (by kernel_rfl) (fun _ _ _ h => h) (by rfl) ?hy9 ?rest9
        case hy9 => (intro w; go_simp; (try with_reducible rfl))
        refine stepT_end 10 (by kernel_rfl) rfl (by kernel_rfl) (fun K hK => ?_)
        go_simp
        refine hK.out _ _ ?_
        clear hK K
        refine doneT (by kernel_rfl) ?_ _
        go_wp2_with fail
        have HB := Lib.hid (H9.out.put HV9.out (by omega))
        have hlv := HLV.out
        go_roundw
        case rel => exact ⟨k - 1, by rw [show ((k - 1 : Nat) : Int) = (k : Int) - 1 by omega], by omega, x2, D4, g4, D5, g5, D7, g7, F9, HB.out, by omega, by omega, by omega⟩
        case measure => simp [intOf]; omega
      · have hki : ¬ (0 : Int) < (k : Int) := by omega
        obtain ⟨⟨x0, x1, x2, x3, x4, x5, x6, x7, x8, x9, x10⟩, hfx⟩ := HS.out.b.all11
        obtain ⟨⟨q0, q1, q2, q3, q4, q5, q6, q7, q8, q9, q10⟩, hfq⟩ := HS.out.q.all11
        have f0 : wr.frozen? ⟨w.heap.size, 0, none⟩ = false := hfq 0
        have f1 : wr.frozen? ⟨w.heap.size, 1, none⟩ = false := hfq 1
        have f2 : wr.frozen? ⟨w.heap.size, 2, none⟩ = false := hfq 2
        have f3 : wr.frozen? ⟨w.heap.size, 3, none⟩ = false := hfq 3
        have f4 : wr.frozen? ⟨w.heap.size, 4, none⟩ = false := hfq 4
        have f5 : wr.frozen? ⟨w.heap.size, 5, none⟩ = false := hfq 5
        have f6 : wr.frozen? ⟨w.heap.size, 6, none⟩ = false := hfq 6
        have f7 : wr.frozen? ⟨w.heap.size, 7, none⟩ = false := hfq 7
        have f8 : wr.frozen? ⟨w.heap.size, 8, none⟩ = false := hfq 8
        have f9 : wr.frozen? ⟨w.heap.size, 9, none⟩ = false := hfq 9
        have f10 : wr.frozen? ⟨w.heap.size, 10, none⟩ = false := hfq 10
        have HQ := Lib.hid HS.out.q
        clear hfx hfq
        go_wp2_with fail
        refine sets_ret11 HQ.out rfl (fun W9 e9 hb9 => ?_)
        obtain ⟨⟨d0, d1, d2, d3, d4, d5, d6, d7, d8, d9, d10⟩, -⟩ := hb9.all11
        refine bodyPost_ret (v := .agg #[.int .i64 x.id, .string x.site, .string x.top, .int .i64 x.ver, .slice A4 x.loaded.length c4, .slice A5 x.mach.script.length c5, .int .i64 x.mach.pc, .slice A7 x.mach.regs.length c7, .int .i64 x.mach.steps, .bool x.mach.done, .bool x.mach.wait]) (by simp [results, Try.results122, go_sem, d0, d1, d2, d3, d4, d5, d6, d7, d8, d9, d10]) rfl ?_
        subst e9
        have hon := HS.out.only
        have hw0 : p < w.heap.size := hlt.1
        have hv9 := HS.out.v
        exact ⟨_, rfl, ⟨x, A4, c4, A5, c5, A7, c7, rfl, ⟨F, (hv9.keepB (by repeat (first | with_reducible exact Keep.refl _ _ | with_reducible assumption | with_reducible refine Keep.alloc ?_ _ | with_reducible refine Keep.drew ?_ | with_reducible refine Keep.drewN ?_ _ | (with_reducible refine Keep.set_ ?_ ?_ _; rotate_left; ((try simp); (try omega)))))).mono (by omega)⟩, by omega, by omega, by omega⟩, (by repeat (first | with_reducible exact Only.refl _ _ | with_reducible assumption | with_reducible refine Only.alloc ?_ _ | with_reducible refine Only.drew ?_ | with_reducible refine Only.drewN ?_ _ | (with_reducible refine Only.setNew ?_ ?_ _; rotate_left; ((try simp); (try omega))))), (by repeat (first | with_reducible assumption | with_reducible refine Cur.alloc ?_ _ | with_reducible refine Cur.drew ?_ | with_reducible refine Cur.drewN ?_ _ | (with_reducible refine Cur.set ?_ ?_ _; rotate_left; ((try simp); (try omega)))))⟩
  · go_wp2_with fail
    refine (l15Site_any p _ hc2).mono ?_
    rintro e w3 ⟨v, rfl, ⟨tp, rfl, htp⟩, ho3, hc3⟩
    have hO3 : Only [p] w w3 := hO2.trans ho3
    have hQ3 := hQ2.only ho3 (by simp; omega)
    clear ho3 hO2 hQ2 hc2
    go_wp2_with fail
    refine (l1Below_any p 9 _ hc3 (by omega)).mono ?_
    rintro e w4 ⟨u, rfl, ⟨r1, rfl, hr10, hr11⟩, ho4, hc4⟩
    have hw1 : IntKind.i64.wrap (1 + r1) = 1 + r1 := IntWalk.i64_in _ (by omega)
    go_wp2_with fail
    refine (l1Below_any p 3 _ hc4 (by omega)).mono ?_
    rintro e w5 ⟨u, rfl, ⟨r2, rfl, hr20, hr21⟩, ho5, hc5⟩
    have hw2 : IntKind.i64.wrap (1 + r2) = 1 + r2 := IntWalk.i64_in _ (by omega)
    go_wp2_with fail
    refine (l13Script_any p _ hc5).mono ?_
    rintro e w6 ⟨u, rfl, ⟨sc, hown, hsc⟩, ho6, hc6⟩
    obtain ⟨As, cs, rfl⟩ := hown.slice
    obtain ⟨Gs, hrs, -, -⟩ := hown.fresh (hw := by decide) (hw2 := by decide)
    have hss := small_szsP sc hsc.2
    have hsl := hsc.1
    have hO6 : Only [p] w w6 := ((hO3.trans ho4).trans ho5).trans ho6
    have hQ6 := ((hQ3.only ho4 (by simp; omega)).only ho5 (by simp; omega)).only ho6 (by simp; omega)
    go_wp2_with fail
    refine (specBeginPage_any (1 + r1) st tp (1 + r2) _ sc Gs _ (by omega) (by omega) (by omega) (by omega) (by exact hrs) (by omega)).mono ?_
    have hbs := beginPage_sz (1 + r1) st tp (1 + r2) sc
    have hbv := beginPage_ver (1 + r1) st tp (1 + r2) sc (by omega)
    obtain ⟨x, hx⟩ : ∃ x, (beginPage (1 + r1) st tp (1 + r2) sc).1 = x := ⟨_, rfl⟩
    rw [hx] at hbs hbv ⊢
    clear hx
    rintro e w7 ⟨A4, c4, A5, c5, A7, c7, F, rfl, hb7, hpv⟩
    go_upto_region 6 with (fail)
    have hz6 := hb7.size
    generalize hW : World.alloc w7 _ = W
    have hbW : Below w7.heap.size w7 W := by rw [← hW]; exact bel_oneP _ _
    have hb6W : Below w6.heap.size w6 W := bel_then hb7 hbW
    have hzO := hO6.size
    have hzw : w.heap.size < w6.heap.size := hQ6.lt
    have HS := Lib.hid (show PgSt p w w7.heap.size W x A4 c4 A5 c5 A7 c7 F from ⟨by rw [← hW]; exact Blk.new w7 _ _, hQ6.bel hb6W, (hpv.bel hbW).mono (by omega), fun b hb => by have := (hpv.lt b hb).2; omega, hc6.bel hb6W, Only.belwP hO6 hb6W, by omega, by omega, by rw [← hW]; simp⟩)
    obtain ⟨xb, hxb⟩ : ∃ xb, w7.heap.size = xb := ⟨_, rfl⟩
    rw [hxb] at HS ⊢
    clear hW hbW hb6W hb7 hpv hQ6 hO6 hxb hown hrs ho4 ho5 ho6 hQ3 hO3 hc3 hc4 hc5 hc6 hzw hzO hz6 hsc
    go_wp2_with fail
    refine (l1Below_any p 3 _ HS.out.cur (by omega)).mono ?_
    rintro e w8 ⟨u, rfl, ⟨r3, rfl, hr30, hr31⟩, ho8, hc8⟩
    have H8 := Lib.hid (HS.out.turn ho8 hc8)
    clear HS ho8 hc8
    go_wp2_with fail
    go_loopw [7] (fun i wr => ∃ k : Nat, i = .int .i64 k ∧ k ≤ 2 ∧ ∃ (x : TPage) (A4 : Option Addr) (c4 : Nat) (A5 : Option Addr) (c5 : Nat) (A7 : Option Addr) (c7 : Nat) (F : List Nat), PgSt p w xb wr x A4 c4 A5 c5 A7 c7 F ∧ cPage.sz x + 101 * k ≤ 2000 ∧ 0 ≤ x.ver ∧ x.ver ≤ 3) (fun i _ => (intOf i).toNat)
    case atStart => exact ⟨r3.toNat, by rw [Int.toNat_of_nonneg hr30], by omega, x, A4, c4, A5, c5, A7, c7, F, H8.out, by omega, hbv.1, by omega⟩
    case round =>
      clear H8 hbs hbv
      obtain ⟨k, rfl, hk2, x, A4, c4, A5, c5, A7, c7, F, hst8, hsz, hv0, hv1⟩ := hrel
      have HS := Lib.hid hst8
      have hlt := hst8.lt
      have hcur := hst8.cur
      clear hst8
      by_cases hpos : 0 < k
      · have hki : (0 : Int) < (k : Int) := by omega
        have hS : ∀ w9, Only [p] wr w9 → w9.cell? ⟨xb, 0, none⟩ = some (.int .i64 x.id) ∧ w9.cell? ⟨xb, 1, none⟩ = some (.string x.site) ∧ w9.cell? ⟨xb, 2, none⟩ = some (.string x.top) ∧ w9.cell? ⟨xb, 3, none⟩ = some (.int .i64 x.ver) ∧ w9.cell? ⟨xb, 4, none⟩ = some (.slice A4 x.loaded.length c4) ∧ w9.cell? ⟨xb, 5, none⟩ = some (.slice A5 x.mach.script.length c5) ∧ w9.cell? ⟨xb, 6, none⟩ = some (.int .i64 x.mach.pc) ∧ w9.cell? ⟨xb, 7, none⟩ = some (.slice A7 x.mach.regs.length c7) ∧ w9.cell? ⟨xb, 8, none⟩ = some (.int .i64 x.mach.steps) ∧ w9.cell? ⟨xb, 9, none⟩ = some (.bool x.mach.done) ∧ w9.cell? ⟨xb, 10, none⟩ = some (.bool x.mach.wait) := fun w9 hb => (HS.out.b.only hb (by simp; omega)).all11.1
        go_upto_region 9 with (fail)
        refine wp_regionT (S := (fun w9 => w9.cell? ⟨xb, 0, none⟩ = some (.int .i64 x.id) ∧ w9.cell? ⟨xb, 1, none⟩ = some (.string x.site) ∧ w9.cell? ⟨xb, 2, none⟩ = some (.string x.top) ∧ w9.cell? ⟨xb, 3, none⟩ = some (.int .i64 x.ver) ∧ w9.cell? ⟨xb, 4, none⟩ = some (.slice A4 x.loaded.length c4) ∧ w9.cell? ⟨xb, 5, none⟩ = some (.slice A5 x.mach.script.length c5) ∧ w9.cell? ⟨xb, 6, none⟩ = some (.int .i64 x.mach.pc) ∧ w9.cell? ⟨xb, 7, none⟩ = some (.slice A7 x.mach.regs.length c7) ∧ w9.cell? ⟨xb, 8, none⟩ = some (.int .i64 x.mach.steps) ∧ w9.cell? ⟨xb, 9, none⟩ = some (.bool x.mach.done) ∧ w9.cell? ⟨xb, 10, none⟩ = some (.bool x.mach.wait))) [8, 9, 10] (by kernel_rfl) (by (try dsimp only); exact hS _ (by repeat (first | with_reducible exact Only.refl _ _ | with_reducible assumption | with_reducible refine Only.alloc ?_ _ | with_reducible refine Only.drew ?_ | with_reducible refine Only.drewN ?_ _ | (with_reducible refine Only.setNew ?_ ?_ _; rotate_left; ((try simp); (try omega)))))) (fun hHeld => ?_)
        refine takeT_read (i := 0) 11 36 (v := ?x2_v0) rfl rfl (by kernel_rfl) (by kernel_rfl) (by kernel_rfl) (by kernel_rfl) (by kernel_rfl) (by kernel_rfl) (fun _ _ _ h => h) (by rfl) ?x2_hy0 (by assumption) ?x2_rest0
        case x2_hy0 => (intro w hSw; (try dsimp only at hSw); go_simp; (try with_reducible rfl))
        try simp only [Act.put, List.setIfInBounds_toArray, List.set_cons_zero, List.set_cons_succ]
        refine takeT_read (i := 1) 11 37 (v := ?x2_v1) rfl rfl (by kernel_rfl) (by kernel_rfl) (by kernel_rfl) (by kernel_rfl) (by kernel_rfl) (by kernel_rfl) (fun _ _ _ h => h) (by rfl) ?x2_hy1 (by assumption) ?x2_rest1
        case x2_hy1 => (intro w hSw; (try dsimp only at hSw); go_simp; (try with_reducible rfl))
        try simp only [Act.put, List.setIfInBounds_toArray, List.set_cons_zero, List.set_cons_succ]
        refine takeT_read (i := 3) 11 39 (v := ?x2_v3) rfl rfl (by kernel_rfl) (by kernel_rfl) (by kernel_rfl) (by kernel_rfl) (by kernel_rfl) (by kernel_rfl) (fun _ _ _ h => h) (by rfl) ?x2_hy3 (by assumption) ?x2_rest3
        case x2_hy3 => (intro w hSw; (try dsimp only at hSw); go_simp; (try with_reducible rfl))
        try simp only [Act.put, List.setIfInBounds_toArray, List.set_cons_zero, List.set_cons_succ]
        refine takeT_read (i := 4) 11 40 (v := ?x2_v4) rfl rfl (by kernel_rfl) (by kernel_rfl) (by kernel_rfl) (by kernel_rfl) (by kernel_rfl) (by kernel_rfl) (fun _ _ _ h => h) (by rfl) ?x2_hy4 (by assumption) ?x2_rest4
        case x2_hy4 => (intro w hSw; (try dsimp only at hSw); go_simp; (try with_reducible rfl))
        try simp only [Act.put, List.setIfInBounds_toArray, List.set_cons_zero, List.set_cons_succ]
        refine takeT_read (i := 5) 11 41 (v := ?x2_v5) rfl rfl (by kernel_rfl) (by kernel_rfl) (by kernel_rfl) (by kernel_rfl) (by kernel_rfl) (by kernel_rfl) (fun _ _ _ h => h) (by rfl) ?x2_hy5 (by assumption) ?x2_rest5
        case x2_hy5 => (intro w hSw; (try dsimp only at hSw); go_simp; (try with_reducible rfl))
        try simp only [Act.put, List.setIfInBounds_toArray, List.set_cons_zero, List.set_cons_succ]
        refine stepT 2 (by kernel_rfl) rfl (fun K hK => ?_)
        go_simp
        (first | (go_at_call 131; refine (l15Path_any p _ (by repeat (first | with_reducible assumption | with_reducible refine Cur.alloc ?_ _ | with_reducible refine Cur.drew ?_ | with_reducible refine Cur.drewN ?_ _ | (with_reducible refine Cur.set ?_ ?_ _; rotate_left; ((try simp); (try omega)))))).mono ?_; rintro e y1 ⟨u, rfl, ⟨pa, rfl, hpa⟩, hoy1, hcy1⟩; have hoR8 : Only [p] wr y1 := (show Only [p] wr _ from (by repeat (first | with_reducible exact Only.refl _ _ | with_reducible assumption | with_reducible refine Only.alloc ?_ _ | with_reducible refine Only.drew ?_ | with_reducible refine Only.drewN ?_ _ | (with_reducible refine Only.setNew ?_ ?_ _; rotate_left; ((try simp); (try omega)))))).trans hoy1; have H8 := Lib.hid (HS.out.turn hoR8 hcy1); obtain ⟨Gp, hrp, -, -⟩ := H8.out.v.rep; have HRP := Lib.hid hrp; clear hoy1 hrp) | (go_at_call 18; refine (specLoadFile_any _ x Gp pa _ ⟨0, 200, x.ver, [], false⟩ [] _ (by exact Cod.bel HRP.out (by repeat (first | with_reducible exact Below.refl _ _ | with_reducible assumption | with_reducible refine bel_alloc ?_ _ | with_reducible refine bel_drew ?_ | with_reducible refine bel_drewN ?_ _ | (with_reducible refine bel_set ?_ ?_ _; rotate_left; ((try simp); (try omega)))))) (by omega) (by omega) (by exact TResp.mk_ (x := ⟨0, 200, x.ver, [], false⟩) ⟨(by decide : (-9223372036854775808 : Int) ≤ 0 ∧ (0 : Int) ≤ 9223372036854775807), (by decide : (-9223372036854775808 : Int) ≤ 200 ∧ (200 : Int) ≤ 9223372036854775807), by simp only; omega⟩ (rows_nil _))).mono ?_; have hls := loadFile_sz x pa ⟨0, 200, x.ver, [], false⟩; have hlv := loadFile_ver x pa ⟨0, 200, x.ver, [], false⟩; obtain ⟨x2, hx2⟩ : ∃ x2, (loadFile x pa ⟨0, 200, x.ver, [], false⟩).1 = x2 := ⟨_, rfl⟩; rw [hx2] at hls hlv ⊢; clear hx2; have HLV := Lib.hid hlv; clear hlv; rintro e y2 ⟨D4, g4, D5, g5, D7, g7, F9, rfl, hby, hvy⟩; have hBy : Below y1.heap.size y1 y2 := bel_then (by repeat (first | with_reducible exact Below.refl _ _ | with_reducible assumption | with_reducible refine bel_alloc ?_ _ | with_reducible refine bel_drew ?_ | with_reducible refine bel_drewN ?_ _ | (with_reducible refine bel_set ?_ ?_ _; rotate_left; ((try simp); (try omega))))) hby; have H9 := Lib.hid (H8.out.bel hBy); have hzy := H8.out.lt.2.2; (try simp at hvy); have HV9 := Lib.hid hvy; obtain ⟨⟨m0, m1, m2, m3, m4, m5, m6, m7, m8, m9, m10⟩, hfz⟩ := H9.out.b.all11; have hoy2 : Only [p] wr y2 := Only.belwP hoR8 hBy; clear hby hvy hBy))
        try go_wp2_with fail
        refine hK.out _ _ ?_ (fun hHeld => ?_)
        · (try dsimp only)
          exact hS _ (by repeat (first | with_reducible exact Only.refl _ _ | with_reducible assumption | with_reducible refine Only.alloc ?_ _ | with_reducible refine Only.drew ?_ | with_reducible refine Only.drewN ?_ _ | (with_reducible refine Only.setNew ?_ ?_ _; rotate_left; ((try simp); (try omega)))))
        clear hK K
        refine stepT 6 (by kernel_rfl) rfl (fun K hK => ?_)
        go_simp
        (first | (go_at_call 131; refine (l15Path_any p _ (by repeat (first | with_reducible assumption | with_reducible refine Cur.alloc ?_ _ | with_reducible refine Cur.drew ?_ | with_reducible refine Cur.drewN ?_ _ | (with_reducible refine Cur.set ?_ ?_ _; rotate_left; ((try simp); (try omega)))))).mono ?_; rintro e y1 ⟨u, rfl, ⟨pa, rfl, hpa⟩, hoy1, hcy1⟩; have hoR8 : Only [p] wr y1 := (show Only [p] wr _ from (by repeat (first | with_reducible exact Only.refl _ _ | with_reducible assumption | with_reducible refine Only.alloc ?_ _ | with_reducible refine Only.drew ?_ | with_reducible refine Only.drewN ?_ _ | (with_reducible refine Only.setNew ?_ ?_ _; rotate_left; ((try simp); (try omega)))))).trans hoy1; have H8 := Lib.hid (HS.out.turn hoR8 hcy1); obtain ⟨Gp, hrp, -, -⟩ := H8.out.v.rep; have HRP := Lib.hid hrp; clear hoy1 hrp) | (go_at_call 18; refine (specLoadFile_any _ x Gp pa _ ⟨0, 200, x.ver, [], false⟩ [] _ (by exact Cod.bel HRP.out (by repeat (first | with_reducible exact Below.refl _ _ | with_reducible assumption | with_reducible refine bel_alloc ?_ _ | with_reducible refine bel_drew ?_ | with_reducible refine bel_drewN ?_ _ | (with_reducible refine bel_set ?_ ?_ _; rotate_left; ((try simp); (try omega)))))) (by omega) (by omega) (by exact TResp.mk_ (x := ⟨0, 200, x.ver, [], false⟩) ⟨(by decide : (-9223372036854775808 : Int) ≤ 0 ∧ (0 : Int) ≤ 9223372036854775807), (by decide : (-9223372036854775808 : Int) ≤ 200 ∧ (200 : Int) ≤ 9223372036854775807), by simp only; omega⟩ (rows_nil _))).mono ?_; have hls := loadFile_sz x pa ⟨0, 200, x.ver, [], false⟩; have hlv := loadFile_ver x pa ⟨0, 200, x.ver, [], false⟩; obtain ⟨x2, hx2⟩ : ∃ x2, (loadFile x pa ⟨0, 200, x.ver, [], false⟩).1 = x2 := ⟨_, rfl⟩; rw [hx2] at hls hlv ⊢; clear hx2; have HLV := Lib.hid hlv; clear hlv; rintro e y2 ⟨D4, g4, D5, g5, D7, g7, F9, rfl, hby, hvy⟩; have hBy : Below y1.heap.size y1 y2 := bel_then (by repeat (first | with_reducible exact Below.refl _ _ | with_reducible assumption | with_reducible refine bel_alloc ?_ _ | with_reducible refine bel_drew ?_ | with_reducible refine bel_drewN ?_ _ | (with_reducible refine bel_set ?_ ?_ _; rotate_left; ((try simp); (try omega))))) hby; have H9 := Lib.hid (H8.out.bel hBy); have hzy := H8.out.lt.2.2; (try simp at hvy); have HV9 := Lib.hid hvy; obtain ⟨⟨m0, m1, m2, m3, m4, m5, m6, m7, m8, m9, m10⟩, hfz⟩ := H9.out.b.all11; have hoy2 : Only [p] wr y2 := Only.belwP hoR8 hBy; clear hby hvy hBy))
        try go_wp2_with fail
        refine hK.out _ _ ?_ (fun hHeld => ?_)
        · (try dsimp only)
          exact hS _ (by repeat (first | with_reducible exact Only.refl _ _ | with_reducible assumption | with_reducible refine Only.alloc ?_ _ | with_reducible refine Only.drew ?_ | with_reducible refine Only.drewN ?_ _ | (with_reducible refine Only.setNew ?_ ?_ _; rotate_left; ((try simp); (try omega)))))
        clear hK K
        refine takeT_read (i := 7) 11 35 (v := ?x2_v7) rfl rfl (by kernel_rfl) (by kernel_rfl) (by kernel_rfl) (by kernel_rfl) (by kernel_rfl) (by kernel_rfl) (fun _ _ _ h => h) (by rfl) ?x2_hy7 (by assumption) ?x2_rest7
        case x2_hy7 => (intro w hSw; (try dsimp only at hSw); go_simp; (try with_reducible rfl))
        refine takeT_pure (i := 8) 43 (v := ?x2_v8) rfl rfl (by kernel_rfl) (by kernel_rfl) (by kernel_rfl) (by kernel_rfl) (fun _ _ _ h => h) (by rfl) ?x2_hy8 ?x2_rest8
        case x2_hy8 => (intro w; go_simp; (try with_reducible rfl))
        refine takeT_pure (i := 9) 44 (v := ?x2_v9) rfl rfl (by kernel_rfl) (by kernel_rfl) (by kernel_rfl) (by kernel_rfl) (fun _ _ _ h => h) (by rfl) ?x2_hy9 ?x2_rest9
        case x2_hy9 => (intro w; go_simp; (try with_reducible rfl))
        refine stepT_end 10 (by kernel_rfl) rfl (by kernel_rfl) (fun K hK => ?_)
        go_simp
        refine hK.out _ _ ?_
        clear hK K
        refine doneT (by kernel_rfl) ?_ _
        go_wp2_with fail
        have HB := Lib.hid (H9.out.put HV9.out (by omega))
        have hlv := HLV.out
        go_roundw
        case rel => exact ⟨k - 1, by rw [show ((k - 1 : Nat) : Int) = (k : Int) - 1 by omega], by omega, x2, D4, g4, D5, g5, D7, g7, F9, HB.out, by omega, by omega, by omega⟩
        case measure => simp [intOf]; omega
      · have hki : ¬ (0 : Int) < (k : Int) := by omega
        obtain ⟨⟨x0, x1, x2, x3, x4, x5, x6, x7, x8, x9, x10⟩, hfx⟩ := HS.out.b.all11
        obtain ⟨⟨q0, q1, q2, q3, q4, q5, q6, q7, q8, q9, q10⟩, hfq⟩ := HS.out.q.all11
        have f0 : wr.frozen? ⟨w.heap.size, 0, none⟩ = false := hfq 0
        have f1 : wr.frozen? ⟨w.heap.size, 1, none⟩ = false := hfq 1
        have f2 : wr.frozen? ⟨w.heap.size, 2, none⟩ = false := hfq 2
        have f3 : wr.frozen? ⟨w.heap.size, 3, none⟩ = false := hfq 3
        have f4 : wr.frozen? ⟨w.heap.size, 4, none⟩ = false := hfq 4
        have f5 : wr.frozen? ⟨w.heap.size, 5, none⟩ = false := hfq 5
        have f6 : wr.frozen? ⟨w.heap.size, 6, none⟩ = false := hfq 6
        have f7 : wr.frozen? ⟨w.heap.size, 7, none⟩ = false := hfq 7
        have f8 : wr.frozen? ⟨w.heap.size, 8, none⟩ = false := hfq 8
        have f9 : wr.frozen? ⟨w.heap.size, 9, none⟩ = false := hfq 9
        have f10 : wr.frozen? ⟨w.heap.size, 10, none⟩ = false := hfq 10
        have HQ := Lib.hid HS.out.q
        clear hfx hfq
        go_wp2_with fail
        refine sets_ret11 HQ.out rfl (fun W9 e9 hb9 => ?_)
        obtain ⟨⟨d0, d1, d2, d3, d4, d5, d6, d7, d8, d9, d10⟩, -⟩ := hb9.all11
        refine bodyPost_ret (v := .agg #[.int .i64 x.id, .string x.site, .string x.top, .int .i64 x.ver, .slice A4 x.loaded.length c4, .slice A5 x.mach.script.length c5, .int .i64 x.mach.pc, .slice A7 x.mach.regs.length c7, .int .i64 x.mach.steps, .bool x.mach.done, .bool x.mach.wait]) (by simp [results, Try.results122, go_sem, d0, d1, d2, d3, d4, d5, d6, d7, d8, d9, d10]) rfl ?_
        subst e9
        have hon := HS.out.only
        have hw0 : p < w.heap.size := hlt.1
        have hv9 := HS.out.v
        exact ⟨_, rfl, ⟨x, A4, c4, A5, c5, A7, c7, rfl, ⟨F, (hv9.keepB (by repeat (first | with_reducible exact Keep.refl _ _ | with_reducible assumption | with_reducible refine Keep.alloc ?_ _ | with_reducible refine Keep.drew ?_ | with_reducible refine Keep.drewN ?_ _ | (with_reducible refine Keep.set_ ?_ ?_ _; rotate_left; ((try simp); (try omega)))))).mono (by omega)⟩, by omega, by omega, by omega⟩, (by repeat (first | with_reducible exact Only.refl _ _ | with_reducible assumption | with_reducible refine Only.alloc ?_ _ | with_reducible refine Only.drew ?_ | with_reducible refine Only.drewN ?_ _ | (with_reducible refine Only.setNew ?_ ?_ _; rotate_left; ((try simp); (try omega))))), (by repeat (first | with_reducible assumption | with_reducible refine Cur.alloc ?_ _ | with_reducible refine Cur.drew ?_ | with_reducible refine Cur.drewN ?_ _ | (with_reducible refine Cur.set ?_ ?_ _; rotate_left; ((try simp); (try omega)))))⟩
end Go.Proofs.Ytlicnppfgfjkgaa
