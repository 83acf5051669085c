/-
  LoadFile of the program and of the reference. No conditions but the sizes of the law.
-/
import Derived.Test.YtlicnppfgfjkgaaZB
import Derived.Test.YtlicnppfgfjkgaaZA
namespace Go.Proofs.Ytlicnppfgfjkgaa
open Go.ChangeShapes Go.WideShapes Go.RowKit
set_option linter.unusedVariables false

def loadOut (x : TPage) (pa : ByteArray) (v : Int) : TPage := ⟨x.id, x.site, x.top, x.ver, x.loaded ++ [⟨pa, v⟩], x.mach⟩
def loadFile (x : TPage) (pa : ByteArray) (y : TResp) : TPage × Bool := bif y.status == 200 && y.ver == x.ver && isPage x && isPage (loadOut x pa y.ver) then (loadOut x pa y.ver, true) else (x, false)
theorem page_sz (x : TPage) : cPage.sz x = x.site.size + (x.top.size + (cLoadedS.sz x.loaded + cMach.sz x.mach)) := by
  have e : cPage.sz x = 0 + (x.site.size + (x.top.size + (0 + (cLoadedS.sz x.loaded + cMach.sz x.mach)))) := rfl
  omega
theorem szsL_app : ∀ xs ys : List TLoaded, cLoadedS.sz (xs ++ ys) = cLoadedS.sz xs + cLoadedS.sz ys
  | [], ys => by show cLoadedS.sz ys = 0 + _; omega
  | x :: xs, ys => by
    have := szsL_app xs ys
    have e1 : cLoadedS.sz (x :: xs ++ ys) = cLoaded.sz x + 1 + cLoadedS.sz (xs ++ ys) := rfl
    have e2 : cLoadedS.sz (x :: xs) = cLoaded.sz x + 1 + cLoadedS.sz xs := rfl
    omega
theorem loadOut_sz (x : TPage) (pa : ByteArray) (v : Int) : cPage.sz (loadOut x pa v) = cPage.sz x + pa.size + 1 := by
  rw [page_sz, page_sz]
  have h1 : cLoadedS.sz (loadOut x pa v).loaded = cLoadedS.sz x.loaded + cLoadedS.sz [⟨pa, v⟩] := szsL_app _ _
  have h2 : cLoadedS.sz [(⟨pa, v⟩ : TLoaded)] = pa.size + 0 + 1 + 0 := rfl
  have h3 : (loadOut x pa v).site = x.site := rfl
  have h4 : (loadOut x pa v).top = x.top := rfl
  have h5 : (loadOut x pa v).mach = x.mach := rfl
  rw [h3, h4, h5]; omega
set_option maxRecDepth 100000 in
set_option maxHeartbeats 8000000 in
theorem implLoadFile_any (vs : Array Value) (x : TPage) (F : List Nat) (pa : ByteArray) (ys : Array Value) (y : TResp) (G : List Nat) (w : World) (h : cPage.rep w vs.toList x F) (hn : cPage.sz x ≤ 100000) (hpa : pa.size ≤ 1000) (hy : cResp.rep w ys.toList y G) :
    Calls Try.prog 17 #[.agg vs, .string pa, .agg ys] w (GivesPg2 w (loadFile x pa y).1 (.bool (loadFile x pa y).2)) := by
  obtain ⟨i0, hi0, hz0, hz1, hz2⟩ := info_parts infoLoaded
  have HX := Lib.hid h
  obtain ⟨v4, v5, v7, F4, F5, F7, rfl, -, hok, m4, m5, m7⟩ := TPage.outA h
  obtain ⟨A4, c4, rfl⟩ := cL_form m4
  obtain ⟨A5, c5, rfl⟩ := cL_form m5
  obtain ⟨A7, c7, rfl⟩ := cL_form m7
  obtain ⟨u3, F3, rfl, -, hyo, n3⟩ := TResp.outA hy
  obtain ⟨U, cu, rfl⟩ := cL_form n3
  obtain ⟨hll, -⟩ := page_parts (x := x) (by omega)
  have hyv := hyo.h2
  have hxv := hok.h3
  have hxi := hok.h0
  obtain ⟨z, hz⟩ : ∃ z, loadOut x pa y.ver = z := ⟨_, rfl⟩
  have hzs := loadOut_sz x pa y.ver
  rw [hz] at hzs
  have HL := Lib.hid (show loadFile x pa y = bif y.status == 200 && y.ver == x.ver && isPage x && isPage z then (z, true) else (x, false) from by rw [← hz]; rfl)
  have hzok : x.Ok := hok
  obtain ⟨id, site, top, ver, ld, mach⟩ := x
  obtain ⟨ld2, hld⟩ : ∃ l, ld ++ [(⟨pa, y.ver⟩ : TLoaded)] = l := ⟨_, rfl⟩
  have hze : z = ⟨id, site, top, ver, ld2, mach⟩ := by rw [← hz, ← hld]; rfl
  subst hze
  simp only at *
  have HOK := Lib.hid hok
  have HLD := Lib.hid hld
  clear h hy m4 m5 m7 hz hok hzok hld n3
  go_enter Try.func17, Try.ntmps17
  go_wp2_with fail
  refine (implCopyPage_any _ ⟨id, site, top, ver, ld, mach⟩ _ _ (by exact Cod.bel HX.out (by repeat (first | with_reducible exact Below.refl _ _ | with_reducible assumption | with_reducible refine bel_alloc ?_ _ | with_reducible refine bel_drew ?_ | with_reducible refine bel_drewN ?_ _ | (with_reducible refine bel_set ?_ ?_ _; rotate_left; ((try simp); (try omega)))))) (by omega)).mono ?_
  rintro e w1 ⟨B1, d1, B5, d5, B7, d7, F2, rfl, hb1, hpv⟩
  simp only at hpv ⊢
  have hP : Blk w1 w.heap.size 41 #[.int .i64 id, .string site, .string top, .int .i64 ver, .slice A4 ld.length c4, .slice A5 mach.script.length c5, .int .i64 mach.pc, .slice A7 mach.regs.length c7, .int .i64 mach.steps, .bool mach.done, .bool mach.wait] := Blk.bel (Blk.bel (Blk.bel (Blk.new w _ _) (bel_oneP _ _)) (bel_oneP _ _)) hb1
  have hx0 := Blk.new (w.alloc (.cells #[.int .i64 id, .string site, .string top, .int .i64 ver, .slice A4 ld.length c4, .slice A5 mach.script.length c5, .int .i64 mach.pc, .slice A7 mach.regs.length c7, .int .i64 mach.steps, .bool mach.done, .bool mach.wait] 41)) 43 #[.int .i64 y.type, .int .i64 y.status, .int .i64 y.ver, .slice U y.body.length cu, .bool y.shares]
  have hq0 := Blk.new ((w.alloc (.cells #[.int .i64 id, .string site, .string top, .int .i64 ver, .slice A4 ld.length c4, .slice A5 mach.script.length c5, .int .i64 mach.pc, .slice A7 mach.regs.length c7, .int .i64 mach.steps, .bool mach.done, .bool mach.wait] 41)).alloc (.cells #[.int .i64 y.type, .int .i64 y.status, .int .i64 y.ver, .slice U y.body.length cu, .bool y.shares] 43)) 41 #[.int .i64 0, .string ⟨#[]⟩, .string ⟨#[]⟩, .int .i64 0, .slice none 0 0, .slice none 0 0, .int .i64 0, .slice none 0 0, .int .i64 0, .bool false, .bool false]
  rw [World.size_alloc] at hx0
  rw [World.size_alloc, World.size_alloc] at hq0
  have hX : Blk w1 (w.heap.size + 1) 43 #[.int .i64 y.type, .int .i64 y.status, .int .i64 y.ver, .slice U y.body.length cu, .bool y.shares] := Blk.bel (Blk.bel hx0 (bel_oneP _ _)) hb1
  have hQ : Blk w1 (w.heap.size + 1 + 1) 41 #[.int .i64 0, .string ⟨#[]⟩, .string ⟨#[]⟩, .int .i64 0, .slice none 0 0, .slice none 0 0, .int .i64 0, .slice none 0 0, .int .i64 0, .bool false, .bool false] := Blk.bel hq0 hb1
  have hBw1 : Below w.heap.size w w1 := bel_then (by repeat (first | with_reducible exact Below.refl _ _ | with_reducible assumption | with_reducible refine bel_alloc ?_ _ | with_reducible refine bel_drew ?_ | with_reducible refine bel_drewN ?_ _ | (with_reducible refine bel_set ?_ ?_ _; rotate_left; ((try simp); (try omega))))) hb1
  have hz1' := hb1.size
  (try simp at hz1')
  replace hpv := hpv.mono (show w.heap.size + 3 ≤ _ by (try simp); (try omega))
  go_upto_region 2 with (fail)
  obtain ⟨ob, hob⟩ : ∃ ob, w1.heap.size = ob := ⟨_, rfl⟩
  generalize hW : World.alloc w1 _ = W
  have hbW : Below w1.heap.size w1 W := by rw [← hW]; exact bel_oneP _ _
  have hO : Blk W w1.heap.size 41 #[.int .i64 id, .string site, .string top, .int .i64 ver, .slice B1 ld.length d1, .slice B5 mach.script.length d5, .int .i64 mach.pc, .slice B7 mach.regs.length d7, .int .i64 mach.steps, .bool mach.done, .bool mach.wait] := by rw [← hW]; exact Blk.new w1 _ _
  have hWs : w1.heap.size < W.heap.size := by rw [← hW]; simp
  have HP := Lib.hid (hP.bel hbW)
  have HXX := Lib.hid (hX.bel hbW)
  have HQ := Lib.hid (hQ.bel hbW)
  have HPV := Lib.hid (And.intro (hpv.bel hbW) (fun b hb => (hpv.lt b hb).2))
  have hBW : Below w.heap.size w W := bel_then hBw1 hbW
  clear hP hX hQ hb1 hx0 hq0 hpv hW hbW hBw1
  rw [hob] at hO hWs HPV ⊢
  have hobw : w.heap.size + 1 + 1 < ob := by omega
  clear hob hz1'
  have o0 : W.cell? ⟨ob, 0, none⟩ = some (.int .i64 id) := hO.cell 0
  have o1 : W.cell? ⟨ob, 1, none⟩ = some (.string site) := hO.cell 1
  have o2 : W.cell? ⟨ob, 2, none⟩ = some (.string top) := hO.cell 2
  have o3 : W.cell? ⟨ob, 3, none⟩ = some (.int .i64 ver) := hO.cell 3
  have o4 : W.cell? ⟨ob, 4, none⟩ = some (.slice B1 ld.length d1) := hO.cell 4
  have o5 : W.cell? ⟨ob, 5, none⟩ = some (.slice B5 mach.script.length d5) := hO.cell 5
  have o6 : W.cell? ⟨ob, 6, none⟩ = some (.int .i64 mach.pc) := hO.cell 6
  have o7 : W.cell? ⟨ob, 7, none⟩ = some (.slice B7 mach.regs.length d7) := hO.cell 7
  have o8 : W.cell? ⟨ob, 8, none⟩ = some (.int .i64 mach.steps) := hO.cell 8
  have o9 : W.cell? ⟨ob, 9, none⟩ = some (.bool mach.done) := hO.cell 9
  have o10 : W.cell? ⟨ob, 10, none⟩ = some (.bool mach.wait) := hO.cell 10
  have z4 := hO.frozen 4
  have y2 : W.cell? ⟨w.heap.size + 1, 2, none⟩ = some (.int .i64 y.ver) := HXX.out.cell 2
  have hsrc : ∀ V, Below W.heap.size W V → W.heap.size = V.heap.size → True := fun _ _ _ => trivial
  go_wp2_with (at_builtin; refine wpList_app (c := cLoaded) (B := w.heap.size + 3) (xs := ld) (ys := [⟨pa, y.ver⟩]) (Fi := []) (Fy := []) _ rfl _ _ _ rfl i0 _ _ Try.underlying39 hi0 hz0 hz1 hz2 rfl (by decide) rfl (HPV.out.1.own.bel (by repeat (first | with_reducible exact Below.refl _ _ | with_reducible assumption | with_reducible refine bel_alloc ?_ _ | with_reducible refine bel_drew ?_ | with_reducible refine bel_drewN ?_ _ | (with_reducible refine bel_set ?_ ?_ _; rotate_left; ((try simp); (try omega)))))) (.slice (some ⟨W.heap.size, 0, none⟩) 1 1) rfl (src_new 51 W.heap.size rfl (TLoaded.mk_ (x := ⟨pa, y.ver⟩) ⟨by unfold maxLen; simp only; omega, hyv⟩)) (by unfold maxLen; simp; omega) (by simp; omega) (by (try simp); (try omega)) (by simp) ?_)
  intro v2 w2 ho2 hg2 hat2
  obtain ⟨B2, d2, rfl, hpv2⟩ := HPV.out.1.app ho2 hg2 hat2
  have hl1 := HPV.out.1.lt
  have hl2 := HPV.out.2
  have hkeep : ∀ b, b < W.heap.size → (b = ob ∨ b < w.heap.size + 3) → w2.heap[b]? = W.heap[b]? := fun b hb h9 => (hg2.block b (by simp; omega) (fun e => by have h3 := hl2 b (.inl e.symm); have h4 := (hl1 b (.inl e.symm)).1; rcases h9 with rfl | h9 <;> omega)).trans ((bel_oneP W _).block b hb)
  have hP2 : Blk w2 w.heap.size 41 #[.int .i64 id, .string site, .string top, .int .i64 ver, .slice A4 ld.length c4, .slice A5 mach.script.length c5, .int .i64 mach.pc, .slice A7 mach.regs.length c7, .int .i64 mach.steps, .bool mach.done, .bool mach.wait] := (hkeep _ (by omega) (.inr (by omega))).trans HP.out
  have hX2 : Blk w2 (w.heap.size + 1) 43 #[.int .i64 y.type, .int .i64 y.status, .int .i64 y.ver, .slice U y.body.length cu, .bool y.shares] := (hkeep _ (by omega) (.inr (by omega))).trans HXX.out
  have hQ2 : Blk w2 (w.heap.size + 1 + 1) 41 #[.int .i64 0, .string ⟨#[]⟩, .string ⟨#[]⟩, .int .i64 0, .slice none 0 0, .slice none 0 0, .int .i64 0, .slice none 0 0, .int .i64 0, .bool false, .bool false] := (hkeep _ (by omega) (.inr (by omega))).trans HQ.out
  have hO2 : Blk w2 ob 41 #[.int .i64 id, .string site, .string top, .int .i64 ver, .slice B1 ld.length d1, .slice B5 mach.script.length d5, .int .i64 mach.pc, .slice B7 mach.regs.length d7, .int .i64 mach.steps, .bool mach.done, .bool mach.wait] := (hkeep _ (by omega) (.inl rfl)).trans hO
  have hB2 : Below w.heap.size w w2 := (show Below w.heap.size w _ from (by repeat (first | with_reducible exact Below.refl _ _ | with_reducible assumption | with_reducible refine bel_alloc ?_ _ | with_reducible refine bel_drew ?_ | with_reducible refine bel_drewN ?_ _ | (with_reducible refine bel_set ?_ ?_ _; rotate_left; ((try simp); (try omega)))))).grown hg2 (by simp; omega) (fun g hg => by have := (hl1 g (.inl hg)).1; omega)
  simp only at hpv2 hat2 ⊢
  rw [HLD.out] at hpv2 hat2 ⊢
  have hz2' : ob < w2.heap.size := by have := hg2.size; simp at this; omega
  have hlo2 := hpv2.lt
  have hob2 : ∀ b, (ownB (.slice B2 ld2.length d2) = some b ∨ b ∈ F2) → b ≠ ob := fun b hb e => by
    rcases hb with hb | hb
    · rcases hat2 b hb with h9 | h9
      · have := hl2 b (.inl h9); omega
      · omega
    · have := hl2 b (.inr hb); omega
  have HPV2 := Lib.hid (And.intro hpv2 hob2)
  clear ho2 hg2 hat2 hkeep hpv2 hob2 hl1 hl2 hlo2 HP HXX HQ HPV hO hBW hWs hsrc o0 o1 o2 o3 o4 o5 o6 o7 o8 o9 o10 y2 z4
  have o4 := hO2.cell 4
  have z4 := hO2.frozen 4
  go_upto_region 3 with (fail)
  obtain ⟨V, hV⟩ : ∃ V, w2.setCell ⟨ob, 4, none⟩ (.slice B2 ld2.length d2) = V := ⟨_, rfl⟩
  rw [hV]
  have hO3 : Blk V ob 41 #[.int .i64 id, .string site, .string top, .int .i64 ver, .slice B2 ld2.length d2, .slice B5 mach.script.length d5, .int .i64 mach.pc, .slice B7 mach.regs.length d7, .int .i64 mach.steps, .bool mach.done, .bool mach.wait] := by
    rw [← hV]
    have h9 := hO2.set_ 4 (.slice B2 ld2.length d2)
    simp only [List.setIfInBounds_toArray, List.set_cons_zero, List.set_cons_succ] at h9
    exact h9
  have hP3 : Blk V w.heap.size 41 #[.int .i64 id, .string site, .string top, .int .i64 ver, .slice A4 ld.length c4, .slice A5 mach.script.length c5, .int .i64 mach.pc, .slice A7 mach.regs.length c7, .int .i64 mach.steps, .bool mach.done, .bool mach.wait] := by rw [← hV]; exact (Below.heap_setCell _ _ _ _ (show w.heap.size ≠ ob by omega)).trans hP2
  have hX3 : Blk V (w.heap.size + 1) 43 #[.int .i64 y.type, .int .i64 y.status, .int .i64 y.ver, .slice U y.body.length cu, .bool y.shares] := by rw [← hV]; exact (Below.heap_setCell _ _ _ _ (show w.heap.size + 1 ≠ ob by omega)).trans hX2
  have hQ3 : Blk V (w.heap.size + 1 + 1) 41 #[.int .i64 0, .string ⟨#[]⟩, .string ⟨#[]⟩, .int .i64 0, .slice none 0 0, .slice none 0 0, .int .i64 0, .slice none 0 0, .int .i64 0, .bool false, .bool false] := by rw [← hV]; exact (Below.heap_setCell _ _ _ _ (show w.heap.size + 1 + 1 ≠ ob by omega)).trans hQ2
  have hBV : Below w.heap.size w V := by rw [← hV]; exact (by repeat (first | with_reducible exact Below.refl _ _ | with_reducible assumption | with_reducible refine bel_alloc ?_ _ | with_reducible refine bel_drew ?_ | with_reducible refine bel_drewN ?_ _ | (with_reducible refine bel_set ?_ ?_ _; rotate_left; ((try simp); (try omega)))))
  have hsV : ob < V.heap.size := by rw [← hV]; simpa using hz2'
  have HPV3 := Lib.hid (show PageV (w.heap.size + 3) V ⟨id, site, top, ver, ld2, mach⟩ B2 d2 B5 d5 B7 d7 F2 from by rw [← hV]; exact HPV2.out.1.set (a := ⟨ob, 4, none⟩) HPV2.out.2 _)
  clear hV hP2 hX2 hQ2 hO2 hB2 hz2' HPV2
  have hsV0 : w.heap.size < V.heap.size := by omega
  have hsV1 : w.heap.size + 1 < V.heap.size := by omega
  have hsV2 : w.heap.size + 1 + 1 < V.heap.size := by omega
  have p0 : V.cell? ⟨w.heap.size, 0, none⟩ = some (.int .i64 id) := hP3.cell 0
  have p1 : V.cell? ⟨w.heap.size, 1, none⟩ = some (.string site) := hP3.cell 1
  have p2 : V.cell? ⟨w.heap.size, 2, none⟩ = some (.string top) := hP3.cell 2
  have p3 : V.cell? ⟨w.heap.size, 3, none⟩ = some (.int .i64 ver) := hP3.cell 3
  have p4 : V.cell? ⟨w.heap.size, 4, none⟩ = some (.slice A4 ld.length c4) := hP3.cell 4
  have p5 : V.cell? ⟨w.heap.size, 5, none⟩ = some (.slice A5 mach.script.length c5) := hP3.cell 5
  have p6 : V.cell? ⟨w.heap.size, 6, none⟩ = some (.int .i64 mach.pc) := hP3.cell 6
  have p7 : V.cell? ⟨w.heap.size, 7, none⟩ = some (.slice A7 mach.regs.length c7) := hP3.cell 7
  have p8 : V.cell? ⟨w.heap.size, 8, none⟩ = some (.int .i64 mach.steps) := hP3.cell 8
  have p9 : V.cell? ⟨w.heap.size, 9, none⟩ = some (.bool mach.done) := hP3.cell 9
  have p10 : V.cell? ⟨w.heap.size, 10, none⟩ = some (.bool mach.wait) := hP3.cell 10
  have o0 : V.cell? ⟨ob, 0, none⟩ = some (.int .i64 id) := hO3.cell 0
  have o1 : V.cell? ⟨ob, 1, none⟩ = some (.string site) := hO3.cell 1
  have o2 : V.cell? ⟨ob, 2, none⟩ = some (.string top) := hO3.cell 2
  have o3 : V.cell? ⟨ob, 3, none⟩ = some (.int .i64 ver) := hO3.cell 3
  have o4 : V.cell? ⟨ob, 4, none⟩ = some (.slice B2 ld2.length d2) := hO3.cell 4
  have o5 : V.cell? ⟨ob, 5, none⟩ = some (.slice B5 mach.script.length d5) := hO3.cell 5
  have o6 : V.cell? ⟨ob, 6, none⟩ = some (.int .i64 mach.pc) := hO3.cell 6
  have o7 : V.cell? ⟨ob, 7, none⟩ = some (.slice B7 mach.regs.length d7) := hO3.cell 7
  have o8 : V.cell? ⟨ob, 8, none⟩ = some (.int .i64 mach.steps) := hO3.cell 8
  have o9 : V.cell? ⟨ob, 9, none⟩ = some (.bool mach.done) := hO3.cell 9
  have o10 : V.cell? ⟨ob, 10, none⟩ = some (.bool mach.wait) := hO3.cell 10
  have y1 : V.cell? ⟨(w.heap.size + 1), 1, none⟩ = some (.int .i64 y.status) := hX3.cell 1
  have y2 : V.cell? ⟨(w.heap.size + 1), 2, none⟩ = some (.int .i64 y.ver) := hX3.cell 2
  have q0 : V.cell? ⟨(w.heap.size + 1 + 1), 0, none⟩ = some (.int .i64 0) := hQ3.cell 0
  have f0 : V.frozen? ⟨(w.heap.size + 1 + 1), 0, none⟩ = false := hQ3.frozen 0
  have q1 : V.cell? ⟨(w.heap.size + 1 + 1), 1, none⟩ = some (.string ⟨#[]⟩) := hQ3.cell 1
  have f1 : V.frozen? ⟨(w.heap.size + 1 + 1), 1, none⟩ = false := hQ3.frozen 1
  have q2 : V.cell? ⟨(w.heap.size + 1 + 1), 2, none⟩ = some (.string ⟨#[]⟩) := hQ3.cell 2
  have f2 : V.frozen? ⟨(w.heap.size + 1 + 1), 2, none⟩ = false := hQ3.frozen 2
  have q3 : V.cell? ⟨(w.heap.size + 1 + 1), 3, none⟩ = some (.int .i64 0) := hQ3.cell 3
  have f3 : V.frozen? ⟨(w.heap.size + 1 + 1), 3, none⟩ = false := hQ3.frozen 3
  have q4 : V.cell? ⟨(w.heap.size + 1 + 1), 4, none⟩ = some (.slice none 0 0) := hQ3.cell 4
  have f4 : V.frozen? ⟨(w.heap.size + 1 + 1), 4, none⟩ = false := hQ3.frozen 4
  have q5 : V.cell? ⟨(w.heap.size + 1 + 1), 5, none⟩ = some (.slice none 0 0) := hQ3.cell 5
  have f5 : V.frozen? ⟨(w.heap.size + 1 + 1), 5, none⟩ = false := hQ3.frozen 5
  have q6 : V.cell? ⟨(w.heap.size + 1 + 1), 6, none⟩ = some (.int .i64 0) := hQ3.cell 6
  have f6 : V.frozen? ⟨(w.heap.size + 1 + 1), 6, none⟩ = false := hQ3.frozen 6
  have q7 : V.cell? ⟨(w.heap.size + 1 + 1), 7, none⟩ = some (.slice none 0 0) := hQ3.cell 7
  have f7 : V.frozen? ⟨(w.heap.size + 1 + 1), 7, none⟩ = false := hQ3.frozen 7
  have q8 : V.cell? ⟨(w.heap.size + 1 + 1), 8, none⟩ = some (.int .i64 0) := hQ3.cell 8
  have f8 : V.frozen? ⟨(w.heap.size + 1 + 1), 8, none⟩ = false := hQ3.frozen 8
  have q9 : V.cell? ⟨(w.heap.size + 1 + 1), 9, none⟩ = some (.bool false) := hQ3.cell 9
  have f9 : V.frozen? ⟨(w.heap.size + 1 + 1), 9, none⟩ = false := hQ3.frozen 9
  have q10 : V.cell? ⟨(w.heap.size + 1 + 1), 10, none⟩ = some (.bool false) := hQ3.cell 10
  have f10 : V.frozen? ⟨(w.heap.size + 1 + 1), 10, none⟩ = false := hQ3.frozen 10
  obtain ⟨G2, hr2, -, -⟩ := HPV3.out.rep
  have HR2 := Lib.hid hr2
  have HQ3 := Lib.hid hQ3
  clear hr2 hP3 hO3 hX3 hQ3
  cases e1 : (y.status == 200)
  · have n0 : (y.status != 200) = true := by simp [bne, e1]
    go_wp2_with (first | (go_at_call 20; refine (implIsPage_any _ ⟨id, site, top, ver, ld, mach⟩ _ _ (by exact Cod.bel HX.out (bel_then hBV (by repeat (first | with_reducible exact Below.refl _ _ | with_reducible assumption | with_reducible refine bel_alloc ?_ _ | with_reducible refine bel_drew ?_ | with_reducible refine bel_drewN ?_ _ | (with_reducible refine bel_set ?_ ?_ _; rotate_left; ((try simp); (try omega))))))) (by omega)).mono ?_; rw [e3]; rintro e w3 ⟨rfl, hb3⟩; have hV3 : Below V.heap.size V w3 := bel_then (by repeat (first | with_reducible exact Below.refl _ _ | with_reducible assumption | with_reducible refine bel_alloc ?_ _ | with_reducible refine bel_drew ?_ | with_reducible refine bel_drewN ?_ _ | (with_reducible refine bel_set ?_ ?_ _; rotate_left; ((try simp); (try omega))))) hb3; obtain ⟨hc3, hf3, -⟩ := bcell hV3; clear hb3) | (go_at_call 20; refine (implIsPage_any _ ⟨id, site, top, ver, ld2, mach⟩ _ _ (by exact Cod.bel HR2.out (by repeat (first | with_reducible exact Below.refl _ _ | with_reducible assumption | with_reducible refine bel_alloc ?_ _ | with_reducible refine bel_drew ?_ | with_reducible refine bel_drewN ?_ _ | (with_reducible refine bel_set ?_ ?_ _; rotate_left; ((try simp); (try omega)))))) (by omega)).mono ?_; rw [e4]; rintro e w4 ⟨rfl, hb4⟩; have hV4 : Below V.heap.size V w4 := bel_then (by repeat (first | with_reducible exact Below.refl _ _ | with_reducible assumption | with_reducible refine bel_alloc ?_ _ | with_reducible refine bel_drew ?_ | with_reducible refine bel_drewN ?_ _ | (with_reducible refine bel_set ?_ ?_ _; rotate_left; ((try simp); (try omega))))) hb4; obtain ⟨hc4, hf4, -⟩ := bcell hV4; clear hb4))
    refine (implCopyPage_any _ ⟨id, site, top, ver, ld, mach⟩ _ _ (by exact Cod.bel HX.out (bel_then hBV (by repeat (first | with_reducible exact Below.refl _ _ | with_reducible assumption | with_reducible refine bel_alloc ?_ _ | with_reducible refine bel_drew ?_ | with_reducible refine bel_drewN ?_ _ | (with_reducible refine bel_set ?_ ?_ _; rotate_left; ((try simp); (try omega))))))) (by omega)).mono ?_
    rintro e w5 ⟨D4, g4, D5, g5, D7, g7, F5, rfl, hb5, hpv5⟩
    simp only at hpv5 ⊢
    have hV5 : Below V.heap.size V w5 := bel_then (by repeat (first | with_reducible exact Below.refl _ _ | with_reducible assumption | with_reducible refine bel_alloc ?_ _ | with_reducible refine bel_drew ?_ | with_reducible refine bel_drewN ?_ _ | (with_reducible refine bel_set ?_ ?_ _; rotate_left; ((try simp); (try omega))))) hb5
    have hQ5 : Blk w5 (w.heap.size + 1 + 1) 41 #[.int .i64 0, .string ⟨#[]⟩, .string ⟨#[]⟩, .int .i64 0, .slice none 0 0, .slice none 0 0, .int .i64 0, .slice none 0 0, .int .i64 0, .bool false, .bool false] := HQ3.out.bel hV5
    have hBw5 : Below w.heap.size w w5 := bel_then hBV hV5
    have hpv6 := hpv5.mono (show w.heap.size + 3 ≤ _ by (have := hsV; omega))
    clear hpv5 hb5 p0 p1 p2 p3 p4 p5 p6 p7 p8 p9 p10 o0 o1 o2 o3 o4 o5 o6 o7 o8 o9 o10 q0 q1 q2 q3 q4 q5 q6 q7 q8 q9 q10 f0 f1 f2 f3 f4 f5 f6 f7 f8 f9 f10
    have q0 : w5.cell? ⟨(w.heap.size + 1 + 1), 0, none⟩ = some (.int .i64 0) := hQ5.cell 0
    have f0 : w5.frozen? ⟨(w.heap.size + 1 + 1), 0, none⟩ = false := hQ5.frozen 0
    have q1 : w5.cell? ⟨(w.heap.size + 1 + 1), 1, none⟩ = some (.string ⟨#[]⟩) := hQ5.cell 1
    have f1 : w5.frozen? ⟨(w.heap.size + 1 + 1), 1, none⟩ = false := hQ5.frozen 1
    have q2 : w5.cell? ⟨(w.heap.size + 1 + 1), 2, none⟩ = some (.string ⟨#[]⟩) := hQ5.cell 2
    have f2 : w5.frozen? ⟨(w.heap.size + 1 + 1), 2, none⟩ = false := hQ5.frozen 2
    have q3 : w5.cell? ⟨(w.heap.size + 1 + 1), 3, none⟩ = some (.int .i64 0) := hQ5.cell 3
    have f3 : w5.frozen? ⟨(w.heap.size + 1 + 1), 3, none⟩ = false := hQ5.frozen 3
    have q4 : w5.cell? ⟨(w.heap.size + 1 + 1), 4, none⟩ = some (.slice none 0 0) := hQ5.cell 4
    have f4 : w5.frozen? ⟨(w.heap.size + 1 + 1), 4, none⟩ = false := hQ5.frozen 4
    have q5 : w5.cell? ⟨(w.heap.size + 1 + 1), 5, none⟩ = some (.slice none 0 0) := hQ5.cell 5
    have f5 : w5.frozen? ⟨(w.heap.size + 1 + 1), 5, none⟩ = false := hQ5.frozen 5
    have q6 : w5.cell? ⟨(w.heap.size + 1 + 1), 6, none⟩ = some (.int .i64 0) := hQ5.cell 6
    have f6 : w5.frozen? ⟨(w.heap.size + 1 + 1), 6, none⟩ = false := hQ5.frozen 6
    have q7 : w5.cell? ⟨(w.heap.size + 1 + 1), 7, none⟩ = some (.slice none 0 0) := hQ5.cell 7
    have f7 : w5.frozen? ⟨(w.heap.size + 1 + 1), 7, none⟩ = false := hQ5.frozen 7
    have q8 : w5.cell? ⟨(w.heap.size + 1 + 1), 8, none⟩ = some (.int .i64 0) := hQ5.cell 8
    have f8 : w5.frozen? ⟨(w.heap.size + 1 + 1), 8, none⟩ = false := hQ5.frozen 8
    have q9 : w5.cell? ⟨(w.heap.size + 1 + 1), 9, none⟩ = some (.bool false) := hQ5.cell 9
    have f9 : w5.frozen? ⟨(w.heap.size + 1 + 1), 9, none⟩ = false := hQ5.frozen 9
    have q10 : w5.cell? ⟨(w.heap.size + 1 + 1), 10, none⟩ = some (.bool false) := hQ5.cell 10
    have f10 : w5.frozen? ⟨(w.heap.size + 1 + 1), 10, none⟩ = false := hQ5.frozen 10
    go_wp2_with fail
    refine sets_ret11 hQ5 rfl (fun W9 e9 hb9 => ?_)
    have c0 : W9.cell? ⟨(w.heap.size + 1 + 1), 0, none⟩ = some (.int .i64 id) := hb9.cell 0
    have c1 : W9.cell? ⟨(w.heap.size + 1 + 1), 1, none⟩ = some (.string site) := hb9.cell 1
    have c2 : W9.cell? ⟨(w.heap.size + 1 + 1), 2, none⟩ = some (.string top) := hb9.cell 2
    have c3 : W9.cell? ⟨(w.heap.size + 1 + 1), 3, none⟩ = some (.int .i64 ver) := hb9.cell 3
    have c4 : W9.cell? ⟨(w.heap.size + 1 + 1), 4, none⟩ = some (.slice D4 ld.length g4) := hb9.cell 4
    have c5 : W9.cell? ⟨(w.heap.size + 1 + 1), 5, none⟩ = some (.slice D5 mach.script.length g5) := hb9.cell 5
    have c6 : W9.cell? ⟨(w.heap.size + 1 + 1), 6, none⟩ = some (.int .i64 mach.pc) := hb9.cell 6
    have c7 : W9.cell? ⟨(w.heap.size + 1 + 1), 7, none⟩ = some (.slice D7 mach.regs.length g7) := hb9.cell 7
    have c8 : W9.cell? ⟨(w.heap.size + 1 + 1), 8, none⟩ = some (.int .i64 mach.steps) := hb9.cell 8
    have c9 : W9.cell? ⟨(w.heap.size + 1 + 1), 9, none⟩ = some (.bool mach.done) := hb9.cell 9
    have c10 : W9.cell? ⟨(w.heap.size + 1 + 1), 10, none⟩ = some (.bool mach.wait) := hb9.cell 10
    refine bodyPost_ret (v := .tuple #[.agg #[.int .i64 id, .string site, .string top, .int .i64 ver, .slice D4 ld.length g4, .slice D5 mach.script.length g5, .int .i64 mach.pc, .slice D7 mach.regs.length g7, .int .i64 mach.steps, .bool mach.done, .bool mach.wait], .bool false]) (by simp [results, Try.results17, go_sem, c0, c1, c2, c3, c4, c5, c6, c7, c8, c9, c10]) rfl ?_
    subst e9
    rw [show loadFile ⟨id, site, top, ver, ld, mach⟩ pa y = (⟨id, site, top, ver, ld, mach⟩, false) from by rw [HL.out, e1]; rfl]
    exact ⟨D4, g4, D5, g5, D7, g7, F5, rfl, (by repeat (first | with_reducible exact Below.refl _ _ | with_reducible assumption | with_reducible refine bel_alloc ?_ _ | with_reducible refine bel_drew ?_ | with_reducible refine bel_drewN ?_ _ | (with_reducible refine bel_set ?_ ?_ _; rotate_left; ((try simp); (try omega))))), (hpv6.keepB (by repeat (first | with_reducible exact Keep.refl _ _ | with_reducible assumption | with_reducible refine Keep.alloc ?_ _ | with_reducible refine Keep.drew ?_ | with_reducible refine Keep.drewN ?_ _ | (with_reducible refine Keep.set_ ?_ ?_ _; rotate_left; ((try simp); (try omega)))))).mono (by omega)⟩
  · have n0 : (y.status != 200) = false := by simp [bne, e1]
    cases e2 : (y.ver == ver)
    · have n1 : (y.ver != ver) = true := by simp [bne, e2]
      go_wp2_with (first | (go_at_call 20; refine (implIsPage_any _ ⟨id, site, top, ver, ld, mach⟩ _ _ (by exact Cod.bel HX.out (bel_then hBV (by repeat (first | with_reducible exact Below.refl _ _ | with_reducible assumption | with_reducible refine bel_alloc ?_ _ | with_reducible refine bel_drew ?_ | with_reducible refine bel_drewN ?_ _ | (with_reducible refine bel_set ?_ ?_ _; rotate_left; ((try simp); (try omega))))))) (by omega)).mono ?_; rw [e3]; rintro e w3 ⟨rfl, hb3⟩; have hV3 : Below V.heap.size V w3 := bel_then (by repeat (first | with_reducible exact Below.refl _ _ | with_reducible assumption | with_reducible refine bel_alloc ?_ _ | with_reducible refine bel_drew ?_ | with_reducible refine bel_drewN ?_ _ | (with_reducible refine bel_set ?_ ?_ _; rotate_left; ((try simp); (try omega))))) hb3; obtain ⟨hc3, hf3, -⟩ := bcell hV3; clear hb3) | (go_at_call 20; refine (implIsPage_any _ ⟨id, site, top, ver, ld2, mach⟩ _ _ (by exact Cod.bel HR2.out (by repeat (first | with_reducible exact Below.refl _ _ | with_reducible assumption | with_reducible refine bel_alloc ?_ _ | with_reducible refine bel_drew ?_ | with_reducible refine bel_drewN ?_ _ | (with_reducible refine bel_set ?_ ?_ _; rotate_left; ((try simp); (try omega)))))) (by omega)).mono ?_; rw [e4]; rintro e w4 ⟨rfl, hb4⟩; have hV4 : Below V.heap.size V w4 := bel_then (by repeat (first | with_reducible exact Below.refl _ _ | with_reducible assumption | with_reducible refine bel_alloc ?_ _ | with_reducible refine bel_drew ?_ | with_reducible refine bel_drewN ?_ _ | (with_reducible refine bel_set ?_ ?_ _; rotate_left; ((try simp); (try omega))))) hb4; obtain ⟨hc4, hf4, -⟩ := bcell hV4; clear hb4))
      refine (implCopyPage_any _ ⟨id, site, top, ver, ld, mach⟩ _ _ (by exact Cod.bel HX.out (bel_then hBV (by repeat (first | with_reducible exact Below.refl _ _ | with_reducible assumption | with_reducible refine bel_alloc ?_ _ | with_reducible refine bel_drew ?_ | with_reducible refine bel_drewN ?_ _ | (with_reducible refine bel_set ?_ ?_ _; rotate_left; ((try simp); (try omega))))))) (by omega)).mono ?_
      rintro e w5 ⟨D4, g4, D5, g5, D7, g7, F5, rfl, hb5, hpv5⟩
      simp only at hpv5 ⊢
      have hV5 : Below V.heap.size V w5 := bel_then (by repeat (first | with_reducible exact Below.refl _ _ | with_reducible assumption | with_reducible refine bel_alloc ?_ _ | with_reducible refine bel_drew ?_ | with_reducible refine bel_drewN ?_ _ | (with_reducible refine bel_set ?_ ?_ _; rotate_left; ((try simp); (try omega))))) hb5
      have hQ5 : Blk w5 (w.heap.size + 1 + 1) 41 #[.int .i64 0, .string ⟨#[]⟩, .string ⟨#[]⟩, .int .i64 0, .slice none 0 0, .slice none 0 0, .int .i64 0, .slice none 0 0, .int .i64 0, .bool false, .bool false] := HQ3.out.bel hV5
      have hBw5 : Below w.heap.size w w5 := bel_then hBV hV5
      have hpv6 := hpv5.mono (show w.heap.size + 3 ≤ _ by (have := hsV; omega))
      clear hpv5 hb5 p0 p1 p2 p3 p4 p5 p6 p7 p8 p9 p10 o0 o1 o2 o3 o4 o5 o6 o7 o8 o9 o10 q0 q1 q2 q3 q4 q5 q6 q7 q8 q9 q10 f0 f1 f2 f3 f4 f5 f6 f7 f8 f9 f10
      have q0 : w5.cell? ⟨(w.heap.size + 1 + 1), 0, none⟩ = some (.int .i64 0) := hQ5.cell 0
      have f0 : w5.frozen? ⟨(w.heap.size + 1 + 1), 0, none⟩ = false := hQ5.frozen 0
      have q1 : w5.cell? ⟨(w.heap.size + 1 + 1), 1, none⟩ = some (.string ⟨#[]⟩) := hQ5.cell 1
      have f1 : w5.frozen? ⟨(w.heap.size + 1 + 1), 1, none⟩ = false := hQ5.frozen 1
      have q2 : w5.cell? ⟨(w.heap.size + 1 + 1), 2, none⟩ = some (.string ⟨#[]⟩) := hQ5.cell 2
      have f2 : w5.frozen? ⟨(w.heap.size + 1 + 1), 2, none⟩ = false := hQ5.frozen 2
      have q3 : w5.cell? ⟨(w.heap.size + 1 + 1), 3, none⟩ = some (.int .i64 0) := hQ5.cell 3
      have f3 : w5.frozen? ⟨(w.heap.size + 1 + 1), 3, none⟩ = false := hQ5.frozen 3
      have q4 : w5.cell? ⟨(w.heap.size + 1 + 1), 4, none⟩ = some (.slice none 0 0) := hQ5.cell 4
      have f4 : w5.frozen? ⟨(w.heap.size + 1 + 1), 4, none⟩ = false := hQ5.frozen 4
      have q5 : w5.cell? ⟨(w.heap.size + 1 + 1), 5, none⟩ = some (.slice none 0 0) := hQ5.cell 5
      have f5 : w5.frozen? ⟨(w.heap.size + 1 + 1), 5, none⟩ = false := hQ5.frozen 5
      have q6 : w5.cell? ⟨(w.heap.size + 1 + 1), 6, none⟩ = some (.int .i64 0) := hQ5.cell 6
      have f6 : w5.frozen? ⟨(w.heap.size + 1 + 1), 6, none⟩ = false := hQ5.frozen 6
      have q7 : w5.cell? ⟨(w.heap.size + 1 + 1), 7, none⟩ = some (.slice none 0 0) := hQ5.cell 7
      have f7 : w5.frozen? ⟨(w.heap.size + 1 + 1), 7, none⟩ = false := hQ5.frozen 7
      have q8 : w5.cell? ⟨(w.heap.size + 1 + 1), 8, none⟩ = some (.int .i64 0) := hQ5.cell 8
      have f8 : w5.frozen? ⟨(w.heap.size + 1 + 1), 8, none⟩ = false := hQ5.frozen 8
      have q9 : w5.cell? ⟨(w.heap.size + 1 + 1), 9, none⟩ = some (.bool false) := hQ5.cell 9
      have f9 : w5.frozen? ⟨(w.heap.size + 1 + 1), 9, none⟩ = false := hQ5.frozen 9
      have q10 : w5.cell? ⟨(w.heap.size + 1 + 1), 10, none⟩ = some (.bool false) := hQ5.cell 10
      have f10 : w5.frozen? ⟨(w.heap.size + 1 + 1), 10, none⟩ = false := hQ5.frozen 10
      go_wp2_with fail
      refine sets_ret11 hQ5 rfl (fun W9 e9 hb9 => ?_)
      have c0 : W9.cell? ⟨(w.heap.size + 1 + 1), 0, none⟩ = some (.int .i64 id) := hb9.cell 0
      have c1 : W9.cell? ⟨(w.heap.size + 1 + 1), 1, none⟩ = some (.string site) := hb9.cell 1
      have c2 : W9.cell? ⟨(w.heap.size + 1 + 1), 2, none⟩ = some (.string top) := hb9.cell 2
      have c3 : W9.cell? ⟨(w.heap.size + 1 + 1), 3, none⟩ = some (.int .i64 ver) := hb9.cell 3
      have c4 : W9.cell? ⟨(w.heap.size + 1 + 1), 4, none⟩ = some (.slice D4 ld.length g4) := hb9.cell 4
      have c5 : W9.cell? ⟨(w.heap.size + 1 + 1), 5, none⟩ = some (.slice D5 mach.script.length g5) := hb9.cell 5
      have c6 : W9.cell? ⟨(w.heap.size + 1 + 1), 6, none⟩ = some (.int .i64 mach.pc) := hb9.cell 6
      have c7 : W9.cell? ⟨(w.heap.size + 1 + 1), 7, none⟩ = some (.slice D7 mach.regs.length g7) := hb9.cell 7
      have c8 : W9.cell? ⟨(w.heap.size + 1 + 1), 8, none⟩ = some (.int .i64 mach.steps) := hb9.cell 8
      have c9 : W9.cell? ⟨(w.heap.size + 1 + 1), 9, none⟩ = some (.bool mach.done) := hb9.cell 9
      have c10 : W9.cell? ⟨(w.heap.size + 1 + 1), 10, none⟩ = some (.bool mach.wait) := hb9.cell 10
      refine bodyPost_ret (v := .tuple #[.agg #[.int .i64 id, .string site, .string top, .int .i64 ver, .slice D4 ld.length g4, .slice D5 mach.script.length g5, .int .i64 mach.pc, .slice D7 mach.regs.length g7, .int .i64 mach.steps, .bool mach.done, .bool mach.wait], .bool false]) (by simp [results, Try.results17, go_sem, c0, c1, c2, c3, c4, c5, c6, c7, c8, c9, c10]) rfl ?_
      subst e9
      rw [show loadFile ⟨id, site, top, ver, ld, mach⟩ pa y = (⟨id, site, top, ver, ld, mach⟩, false) from by rw [HL.out, e1, e2]; rfl]
      exact ⟨D4, g4, D5, g5, D7, g7, F5, rfl, (by repeat (first | with_reducible exact Below.refl _ _ | with_reducible assumption | with_reducible refine bel_alloc ?_ _ | with_reducible refine bel_drew ?_ | with_reducible refine bel_drewN ?_ _ | (with_reducible refine bel_set ?_ ?_ _; rotate_left; ((try simp); (try omega))))), (hpv6.keepB (by repeat (first | with_reducible exact Keep.refl _ _ | with_reducible assumption | with_reducible refine Keep.alloc ?_ _ | with_reducible refine Keep.drew ?_ | with_reducible refine Keep.drewN ?_ _ | (with_reducible refine Keep.set_ ?_ ?_ _; rotate_left; ((try simp); (try omega)))))).mono (by omega)⟩
    · have n1 : (y.ver != ver) = false := by simp [bne, e2]
      cases e3 : (isPage ⟨id, site, top, ver, ld, mach⟩)
      · go_wp2_with (first | (go_at_call 20; refine (implIsPage_any _ ⟨id, site, top, ver, ld, mach⟩ _ _ (by exact Cod.bel HX.out (bel_then hBV (by repeat (first | with_reducible exact Below.refl _ _ | with_reducible assumption | with_reducible refine bel_alloc ?_ _ | with_reducible refine bel_drew ?_ | with_reducible refine bel_drewN ?_ _ | (with_reducible refine bel_set ?_ ?_ _; rotate_left; ((try simp); (try omega))))))) (by omega)).mono ?_; rw [e3]; rintro e w3 ⟨rfl, hb3⟩; have hV3 : Below V.heap.size V w3 := bel_then (by repeat (first | with_reducible exact Below.refl _ _ | with_reducible assumption | with_reducible refine bel_alloc ?_ _ | with_reducible refine bel_drew ?_ | with_reducible refine bel_drewN ?_ _ | (with_reducible refine bel_set ?_ ?_ _; rotate_left; ((try simp); (try omega))))) hb3; obtain ⟨hc3, hf3, -⟩ := bcell hV3; clear hb3) | (go_at_call 20; refine (implIsPage_any _ ⟨id, site, top, ver, ld2, mach⟩ _ _ (by exact Cod.bel HR2.out (by repeat (first | with_reducible exact Below.refl _ _ | with_reducible assumption | with_reducible refine bel_alloc ?_ _ | with_reducible refine bel_drew ?_ | with_reducible refine bel_drewN ?_ _ | (with_reducible refine bel_set ?_ ?_ _; rotate_left; ((try simp); (try omega)))))) (by omega)).mono ?_; rw [e4]; rintro e w4 ⟨rfl, hb4⟩; have hV4 : Below V.heap.size V w4 := bel_then (by repeat (first | with_reducible exact Below.refl _ _ | with_reducible assumption | with_reducible refine bel_alloc ?_ _ | with_reducible refine bel_drew ?_ | with_reducible refine bel_drewN ?_ _ | (with_reducible refine bel_set ?_ ?_ _; rotate_left; ((try simp); (try omega))))) hb4; obtain ⟨hc4, hf4, -⟩ := bcell hV4; clear hb4))
        refine (implCopyPage_any _ ⟨id, site, top, ver, ld, mach⟩ _ _ (by exact Cod.bel HX.out (bel_then hBV (by repeat (first | with_reducible exact Below.refl _ _ | with_reducible assumption | with_reducible refine bel_alloc ?_ _ | with_reducible refine bel_drew ?_ | with_reducible refine bel_drewN ?_ _ | (with_reducible refine bel_set ?_ ?_ _; rotate_left; ((try simp); (try omega))))))) (by omega)).mono ?_
        rintro e w5 ⟨D4, g4, D5, g5, D7, g7, F5, rfl, hb5, hpv5⟩
        simp only at hpv5 ⊢
        have hV5 : Below V.heap.size V w5 := bel_then (by repeat (first | with_reducible exact Below.refl _ _ | with_reducible assumption | with_reducible refine bel_alloc ?_ _ | with_reducible refine bel_drew ?_ | with_reducible refine bel_drewN ?_ _ | (with_reducible refine bel_set ?_ ?_ _; rotate_left; ((try simp); (try omega))))) hb5
        have hQ5 : Blk w5 (w.heap.size + 1 + 1) 41 #[.int .i64 0, .string ⟨#[]⟩, .string ⟨#[]⟩, .int .i64 0, .slice none 0 0, .slice none 0 0, .int .i64 0, .slice none 0 0, .int .i64 0, .bool false, .bool false] := HQ3.out.bel hV5
        have hBw5 : Below w.heap.size w w5 := bel_then hBV hV5
        have hpv6 := hpv5.mono (show w.heap.size + 3 ≤ _ by (have := hV3.size; omega))
        clear hpv5 hb5 p0 p1 p2 p3 p4 p5 p6 p7 p8 p9 p10 o0 o1 o2 o3 o4 o5 o6 o7 o8 o9 o10 q0 q1 q2 q3 q4 q5 q6 q7 q8 q9 q10 f0 f1 f2 f3 f4 f5 f6 f7 f8 f9 f10
        have q0 : w5.cell? ⟨(w.heap.size + 1 + 1), 0, none⟩ = some (.int .i64 0) := hQ5.cell 0
        have f0 : w5.frozen? ⟨(w.heap.size + 1 + 1), 0, none⟩ = false := hQ5.frozen 0
        have q1 : w5.cell? ⟨(w.heap.size + 1 + 1), 1, none⟩ = some (.string ⟨#[]⟩) := hQ5.cell 1
        have f1 : w5.frozen? ⟨(w.heap.size + 1 + 1), 1, none⟩ = false := hQ5.frozen 1
        have q2 : w5.cell? ⟨(w.heap.size + 1 + 1), 2, none⟩ = some (.string ⟨#[]⟩) := hQ5.cell 2
        have f2 : w5.frozen? ⟨(w.heap.size + 1 + 1), 2, none⟩ = false := hQ5.frozen 2
        have q3 : w5.cell? ⟨(w.heap.size + 1 + 1), 3, none⟩ = some (.int .i64 0) := hQ5.cell 3
        have f3 : w5.frozen? ⟨(w.heap.size + 1 + 1), 3, none⟩ = false := hQ5.frozen 3
        have q4 : w5.cell? ⟨(w.heap.size + 1 + 1), 4, none⟩ = some (.slice none 0 0) := hQ5.cell 4
        have f4 : w5.frozen? ⟨(w.heap.size + 1 + 1), 4, none⟩ = false := hQ5.frozen 4
        have q5 : w5.cell? ⟨(w.heap.size + 1 + 1), 5, none⟩ = some (.slice none 0 0) := hQ5.cell 5
        have f5 : w5.frozen? ⟨(w.heap.size + 1 + 1), 5, none⟩ = false := hQ5.frozen 5
        have q6 : w5.cell? ⟨(w.heap.size + 1 + 1), 6, none⟩ = some (.int .i64 0) := hQ5.cell 6
        have f6 : w5.frozen? ⟨(w.heap.size + 1 + 1), 6, none⟩ = false := hQ5.frozen 6
        have q7 : w5.cell? ⟨(w.heap.size + 1 + 1), 7, none⟩ = some (.slice none 0 0) := hQ5.cell 7
        have f7 : w5.frozen? ⟨(w.heap.size + 1 + 1), 7, none⟩ = false := hQ5.frozen 7
        have q8 : w5.cell? ⟨(w.heap.size + 1 + 1), 8, none⟩ = some (.int .i64 0) := hQ5.cell 8
        have f8 : w5.frozen? ⟨(w.heap.size + 1 + 1), 8, none⟩ = false := hQ5.frozen 8
        have q9 : w5.cell? ⟨(w.heap.size + 1 + 1), 9, none⟩ = some (.bool false) := hQ5.cell 9
        have f9 : w5.frozen? ⟨(w.heap.size + 1 + 1), 9, none⟩ = false := hQ5.frozen 9
        have q10 : w5.cell? ⟨(w.heap.size + 1 + 1), 10, none⟩ = some (.bool false) := hQ5.cell 10
        have f10 : w5.frozen? ⟨(w.heap.size + 1 + 1), 10, none⟩ = false := hQ5.frozen 10
        go_wp2_with fail
        refine sets_ret11 hQ5 rfl (fun W9 e9 hb9 => ?_)
        have c0 : W9.cell? ⟨(w.heap.size + 1 + 1), 0, none⟩ = some (.int .i64 id) := hb9.cell 0
        have c1 : W9.cell? ⟨(w.heap.size + 1 + 1), 1, none⟩ = some (.string site) := hb9.cell 1
        have c2 : W9.cell? ⟨(w.heap.size + 1 + 1), 2, none⟩ = some (.string top) := hb9.cell 2
        have c3 : W9.cell? ⟨(w.heap.size + 1 + 1), 3, none⟩ = some (.int .i64 ver) := hb9.cell 3
        have c4 : W9.cell? ⟨(w.heap.size + 1 + 1), 4, none⟩ = some (.slice D4 ld.length g4) := hb9.cell 4
        have c5 : W9.cell? ⟨(w.heap.size + 1 + 1), 5, none⟩ = some (.slice D5 mach.script.length g5) := hb9.cell 5
        have c6 : W9.cell? ⟨(w.heap.size + 1 + 1), 6, none⟩ = some (.int .i64 mach.pc) := hb9.cell 6
        have c7 : W9.cell? ⟨(w.heap.size + 1 + 1), 7, none⟩ = some (.slice D7 mach.regs.length g7) := hb9.cell 7
        have c8 : W9.cell? ⟨(w.heap.size + 1 + 1), 8, none⟩ = some (.int .i64 mach.steps) := hb9.cell 8
        have c9 : W9.cell? ⟨(w.heap.size + 1 + 1), 9, none⟩ = some (.bool mach.done) := hb9.cell 9
        have c10 : W9.cell? ⟨(w.heap.size + 1 + 1), 10, none⟩ = some (.bool mach.wait) := hb9.cell 10
        refine bodyPost_ret (v := .tuple #[.agg #[.int .i64 id, .string site, .string top, .int .i64 ver, .slice D4 ld.length g4, .slice D5 mach.script.length g5, .int .i64 mach.pc, .slice D7 mach.regs.length g7, .int .i64 mach.steps, .bool mach.done, .bool mach.wait], .bool false]) (by simp [results, Try.results17, go_sem, c0, c1, c2, c3, c4, c5, c6, c7, c8, c9, c10]) rfl ?_
        subst e9
        rw [show loadFile ⟨id, site, top, ver, ld, mach⟩ pa y = (⟨id, site, top, ver, ld, mach⟩, false) from by rw [HL.out, e1, e2, e3]; rfl]
        exact ⟨D4, g4, D5, g5, D7, g7, F5, rfl, (by repeat (first | with_reducible exact Below.refl _ _ | with_reducible assumption | with_reducible refine bel_alloc ?_ _ | with_reducible refine bel_drew ?_ | with_reducible refine bel_drewN ?_ _ | (with_reducible refine bel_set ?_ ?_ _; rotate_left; ((try simp); (try omega))))), (hpv6.keepB (by repeat (first | with_reducible exact Keep.refl _ _ | with_reducible assumption | with_reducible refine Keep.alloc ?_ _ | with_reducible refine Keep.drew ?_ | with_reducible refine Keep.drewN ?_ _ | (with_reducible refine Keep.set_ ?_ ?_ _; rotate_left; ((try simp); (try omega)))))).mono (by omega)⟩
      ·
        cases e4 : (isPage ⟨id, site, top, ver, ld2, mach⟩)
        · go_wp2_with (first | (go_at_call 20; refine (implIsPage_any _ ⟨id, site, top, ver, ld, mach⟩ _ _ (by exact Cod.bel HX.out (bel_then hBV (by repeat (first | with_reducible exact Below.refl _ _ | with_reducible assumption | with_reducible refine bel_alloc ?_ _ | with_reducible refine bel_drew ?_ | with_reducible refine bel_drewN ?_ _ | (with_reducible refine bel_set ?_ ?_ _; rotate_left; ((try simp); (try omega))))))) (by omega)).mono ?_; rw [e3]; rintro e w3 ⟨rfl, hb3⟩; have hV3 : Below V.heap.size V w3 := bel_then (by repeat (first | with_reducible exact Below.refl _ _ | with_reducible assumption | with_reducible refine bel_alloc ?_ _ | with_reducible refine bel_drew ?_ | with_reducible refine bel_drewN ?_ _ | (with_reducible refine bel_set ?_ ?_ _; rotate_left; ((try simp); (try omega))))) hb3; obtain ⟨hc3, hf3, -⟩ := bcell hV3; clear hb3) | (go_at_call 20; refine (implIsPage_any _ ⟨id, site, top, ver, ld2, mach⟩ _ _ (by exact Cod.bel HR2.out (by repeat (first | with_reducible exact Below.refl _ _ | with_reducible assumption | with_reducible refine bel_alloc ?_ _ | with_reducible refine bel_drew ?_ | with_reducible refine bel_drewN ?_ _ | (with_reducible refine bel_set ?_ ?_ _; rotate_left; ((try simp); (try omega)))))) (by omega)).mono ?_; rw [e4]; rintro e w4 ⟨rfl, hb4⟩; have hV4 : Below V.heap.size V w4 := bel_then (by repeat (first | with_reducible exact Below.refl _ _ | with_reducible assumption | with_reducible refine bel_alloc ?_ _ | with_reducible refine bel_drew ?_ | with_reducible refine bel_drewN ?_ _ | (with_reducible refine bel_set ?_ ?_ _; rotate_left; ((try simp); (try omega))))) hb4; obtain ⟨hc4, hf4, -⟩ := bcell hV4; clear hb4))
          refine (implCopyPage_any _ ⟨id, site, top, ver, ld, mach⟩ _ _ (by exact Cod.bel HX.out (bel_then hBV (by repeat (first | with_reducible exact Below.refl _ _ | with_reducible assumption | with_reducible refine bel_alloc ?_ _ | with_reducible refine bel_drew ?_ | with_reducible refine bel_drewN ?_ _ | (with_reducible refine bel_set ?_ ?_ _; rotate_left; ((try simp); (try omega))))))) (by omega)).mono ?_
          rintro e w5 ⟨D4, g4, D5, g5, D7, g7, F5, rfl, hb5, hpv5⟩
          simp only at hpv5 ⊢
          have hV5 : Below V.heap.size V w5 := bel_then (by repeat (first | with_reducible exact Below.refl _ _ | with_reducible assumption | with_reducible refine bel_alloc ?_ _ | with_reducible refine bel_drew ?_ | with_reducible refine bel_drewN ?_ _ | (with_reducible refine bel_set ?_ ?_ _; rotate_left; ((try simp); (try omega))))) hb5
          have hQ5 : Blk w5 (w.heap.size + 1 + 1) 41 #[.int .i64 0, .string ⟨#[]⟩, .string ⟨#[]⟩, .int .i64 0, .slice none 0 0, .slice none 0 0, .int .i64 0, .slice none 0 0, .int .i64 0, .bool false, .bool false] := HQ3.out.bel hV5
          have hBw5 : Below w.heap.size w w5 := bel_then hBV hV5
          have hpv6 := hpv5.mono (show w.heap.size + 3 ≤ _ by (have := hV4.size; omega))
          clear hpv5 hb5 p0 p1 p2 p3 p4 p5 p6 p7 p8 p9 p10 o0 o1 o2 o3 o4 o5 o6 o7 o8 o9 o10 q0 q1 q2 q3 q4 q5 q6 q7 q8 q9 q10 f0 f1 f2 f3 f4 f5 f6 f7 f8 f9 f10
          have q0 : w5.cell? ⟨(w.heap.size + 1 + 1), 0, none⟩ = some (.int .i64 0) := hQ5.cell 0
          have f0 : w5.frozen? ⟨(w.heap.size + 1 + 1), 0, none⟩ = false := hQ5.frozen 0
          have q1 : w5.cell? ⟨(w.heap.size + 1 + 1), 1, none⟩ = some (.string ⟨#[]⟩) := hQ5.cell 1
          have f1 : w5.frozen? ⟨(w.heap.size + 1 + 1), 1, none⟩ = false := hQ5.frozen 1
          have q2 : w5.cell? ⟨(w.heap.size + 1 + 1), 2, none⟩ = some (.string ⟨#[]⟩) := hQ5.cell 2
          have f2 : w5.frozen? ⟨(w.heap.size + 1 + 1), 2, none⟩ = false := hQ5.frozen 2
          have q3 : w5.cell? ⟨(w.heap.size + 1 + 1), 3, none⟩ = some (.int .i64 0) := hQ5.cell 3
          have f3 : w5.frozen? ⟨(w.heap.size + 1 + 1), 3, none⟩ = false := hQ5.frozen 3
          have q4 : w5.cell? ⟨(w.heap.size + 1 + 1), 4, none⟩ = some (.slice none 0 0) := hQ5.cell 4
          have f4 : w5.frozen? ⟨(w.heap.size + 1 + 1), 4, none⟩ = false := hQ5.frozen 4
          have q5 : w5.cell? ⟨(w.heap.size + 1 + 1), 5, none⟩ = some (.slice none 0 0) := hQ5.cell 5
          have f5 : w5.frozen? ⟨(w.heap.size + 1 + 1), 5, none⟩ = false := hQ5.frozen 5
          have q6 : w5.cell? ⟨(w.heap.size + 1 + 1), 6, none⟩ = some (.int .i64 0) := hQ5.cell 6
          have f6 : w5.frozen? ⟨(w.heap.size + 1 + 1), 6, none⟩ = false := hQ5.frozen 6
          have q7 : w5.cell? ⟨(w.heap.size + 1 + 1), 7, none⟩ = some (.slice none 0 0) := hQ5.cell 7
          have f7 : w5.frozen? ⟨(w.heap.size + 1 + 1), 7, none⟩ = false := hQ5.frozen 7
          have q8 : w5.cell? ⟨(w.heap.size + 1 + 1), 8, none⟩ = some (.int .i64 0) := hQ5.cell 8
          have f8 : w5.frozen? ⟨(w.heap.size + 1 + 1), 8, none⟩ = false := hQ5.frozen 8
          have q9 : w5.cell? ⟨(w.heap.size + 1 + 1), 9, none⟩ = some (.bool false) := hQ5.cell 9
          have f9 : w5.frozen? ⟨(w.heap.size + 1 + 1), 9, none⟩ = false := hQ5.frozen 9
          have q10 : w5.cell? ⟨(w.heap.size + 1 + 1), 10, none⟩ = some (.bool false) := hQ5.cell 10
          have f10 : w5.frozen? ⟨(w.heap.size + 1 + 1), 10, none⟩ = false := hQ5.frozen 10
          go_wp2_with fail
          refine sets_ret11 hQ5 rfl (fun W9 e9 hb9 => ?_)
          have c0 : W9.cell? ⟨(w.heap.size + 1 + 1), 0, none⟩ = some (.int .i64 id) := hb9.cell 0
          have c1 : W9.cell? ⟨(w.heap.size + 1 + 1), 1, none⟩ = some (.string site) := hb9.cell 1
          have c2 : W9.cell? ⟨(w.heap.size + 1 + 1), 2, none⟩ = some (.string top) := hb9.cell 2
          have c3 : W9.cell? ⟨(w.heap.size + 1 + 1), 3, none⟩ = some (.int .i64 ver) := hb9.cell 3
          have c4 : W9.cell? ⟨(w.heap.size + 1 + 1), 4, none⟩ = some (.slice D4 ld.length g4) := hb9.cell 4
          have c5 : W9.cell? ⟨(w.heap.size + 1 + 1), 5, none⟩ = some (.slice D5 mach.script.length g5) := hb9.cell 5
          have c6 : W9.cell? ⟨(w.heap.size + 1 + 1), 6, none⟩ = some (.int .i64 mach.pc) := hb9.cell 6
          have c7 : W9.cell? ⟨(w.heap.size + 1 + 1), 7, none⟩ = some (.slice D7 mach.regs.length g7) := hb9.cell 7
          have c8 : W9.cell? ⟨(w.heap.size + 1 + 1), 8, none⟩ = some (.int .i64 mach.steps) := hb9.cell 8
          have c9 : W9.cell? ⟨(w.heap.size + 1 + 1), 9, none⟩ = some (.bool mach.done) := hb9.cell 9
          have c10 : W9.cell? ⟨(w.heap.size + 1 + 1), 10, none⟩ = some (.bool mach.wait) := hb9.cell 10
          refine bodyPost_ret (v := .tuple #[.agg #[.int .i64 id, .string site, .string top, .int .i64 ver, .slice D4 ld.length g4, .slice D5 mach.script.length g5, .int .i64 mach.pc, .slice D7 mach.regs.length g7, .int .i64 mach.steps, .bool mach.done, .bool mach.wait], .bool false]) (by simp [results, Try.results17, go_sem, c0, c1, c2, c3, c4, c5, c6, c7, c8, c9, c10]) rfl ?_
          subst e9
          rw [show loadFile ⟨id, site, top, ver, ld, mach⟩ pa y = (⟨id, site, top, ver, ld, mach⟩, false) from by rw [HL.out, e1, e2, e3, e4]; rfl]
          exact ⟨D4, g4, D5, g5, D7, g7, F5, rfl, (by repeat (first | with_reducible exact Below.refl _ _ | with_reducible assumption | with_reducible refine bel_alloc ?_ _ | with_reducible refine bel_drew ?_ | with_reducible refine bel_drewN ?_ _ | (with_reducible refine bel_set ?_ ?_ _; rotate_left; ((try simp); (try omega))))), (hpv6.keepB (by repeat (first | with_reducible exact Keep.refl _ _ | with_reducible assumption | with_reducible refine Keep.alloc ?_ _ | with_reducible refine Keep.drew ?_ | with_reducible refine Keep.drewN ?_ _ | (with_reducible refine Keep.set_ ?_ ?_ _; rotate_left; ((try simp); (try omega)))))).mono (by omega)⟩
        ·
          go_wp2_with (first | (go_at_call 20; refine (implIsPage_any _ ⟨id, site, top, ver, ld, mach⟩ _ _ (by exact Cod.bel HX.out (bel_then hBV (by repeat (first | with_reducible exact Below.refl _ _ | with_reducible assumption | with_reducible refine bel_alloc ?_ _ | with_reducible refine bel_drew ?_ | with_reducible refine bel_drewN ?_ _ | (with_reducible refine bel_set ?_ ?_ _; rotate_left; ((try simp); (try omega))))))) (by omega)).mono ?_; rw [e3]; rintro e w3 ⟨rfl, hb3⟩; have hV3 : Below V.heap.size V w3 := bel_then (by repeat (first | with_reducible exact Below.refl _ _ | with_reducible assumption | with_reducible refine bel_alloc ?_ _ | with_reducible refine bel_drew ?_ | with_reducible refine bel_drewN ?_ _ | (with_reducible refine bel_set ?_ ?_ _; rotate_left; ((try simp); (try omega))))) hb3; obtain ⟨hc3, hf3, -⟩ := bcell hV3; clear hb3) | (go_at_call 20; refine (implIsPage_any _ ⟨id, site, top, ver, ld2, mach⟩ _ _ (by exact Cod.bel HR2.out (by repeat (first | with_reducible exact Below.refl _ _ | with_reducible assumption | with_reducible refine bel_alloc ?_ _ | with_reducible refine bel_drew ?_ | with_reducible refine bel_drewN ?_ _ | (with_reducible refine bel_set ?_ ?_ _; rotate_left; ((try simp); (try omega)))))) (by omega)).mono ?_; rw [e4]; rintro e w4 ⟨rfl, hb4⟩; have hV4 : Below V.heap.size V w4 := bel_then (by repeat (first | with_reducible exact Below.refl _ _ | with_reducible assumption | with_reducible refine bel_alloc ?_ _ | with_reducible refine bel_drew ?_ | with_reducible refine bel_drewN ?_ _ | (with_reducible refine bel_set ?_ ?_ _; rotate_left; ((try simp); (try omega))))) hb4; obtain ⟨hc4, hf4, -⟩ := bcell hV4; clear hb4))
          have hQ5 := HQ3.out.bel hV4
          have hBw4 : Below w.heap.size w w4 := bel_then hBV hV4
          refine sets_ret11 hQ5 rfl (fun W9 e9 hb9 => ?_)
          have c0 : W9.cell? ⟨(w.heap.size + 1 + 1), 0, none⟩ = some (.int .i64 id) := hb9.cell 0
          have c1 : W9.cell? ⟨(w.heap.size + 1 + 1), 1, none⟩ = some (.string site) := hb9.cell 1
          have c2 : W9.cell? ⟨(w.heap.size + 1 + 1), 2, none⟩ = some (.string top) := hb9.cell 2
          have c3 : W9.cell? ⟨(w.heap.size + 1 + 1), 3, none⟩ = some (.int .i64 ver) := hb9.cell 3
          have c4 : W9.cell? ⟨(w.heap.size + 1 + 1), 4, none⟩ = some (.slice B2 ld2.length d2) := hb9.cell 4
          have c5 : W9.cell? ⟨(w.heap.size + 1 + 1), 5, none⟩ = some (.slice B5 mach.script.length d5) := hb9.cell 5
          have c6 : W9.cell? ⟨(w.heap.size + 1 + 1), 6, none⟩ = some (.int .i64 mach.pc) := hb9.cell 6
          have c7 : W9.cell? ⟨(w.heap.size + 1 + 1), 7, none⟩ = some (.slice B7 mach.regs.length d7) := hb9.cell 7
          have c8 : W9.cell? ⟨(w.heap.size + 1 + 1), 8, none⟩ = some (.int .i64 mach.steps) := hb9.cell 8
          have c9 : W9.cell? ⟨(w.heap.size + 1 + 1), 9, none⟩ = some (.bool mach.done) := hb9.cell 9
          have c10 : W9.cell? ⟨(w.heap.size + 1 + 1), 10, none⟩ = some (.bool mach.wait) := hb9.cell 10
          refine bodyPost_ret (v := .tuple #[.agg #[.int .i64 id, .string site, .string top, .int .i64 ver, .slice B2 ld2.length d2, .slice B5 mach.script.length d5, .int .i64 mach.pc, .slice B7 mach.regs.length d7, .int .i64 mach.steps, .bool mach.done, .bool mach.wait], .bool true]) (by simp [results, Try.results17, go_sem, c0, c1, c2, c3, c4, c5, c6, c7, c8, c9, c10]) rfl ?_
          subst e9
          rw [show loadFile ⟨id, site, top, ver, ld, mach⟩ pa y = (⟨id, site, top, ver, ld2, mach⟩, true) from by rw [HL.out, e1, e2, e3, e4]; rfl]
          exact ⟨B2, d2, B5, d5, B7, d7, F2, rfl, (by repeat (first | with_reducible exact Below.refl _ _ | with_reducible assumption | with_reducible refine bel_alloc ?_ _ | with_reducible refine bel_drew ?_ | with_reducible refine bel_drewN ?_ _ | (with_reducible refine bel_set ?_ ?_ _; rotate_left; ((try simp); (try omega))))), ((HPV3.out.bel hV4).keepB (by repeat (first | with_reducible exact Keep.refl _ _ | with_reducible assumption | with_reducible refine Keep.alloc ?_ _ | with_reducible refine Keep.drew ?_ | with_reducible refine Keep.drewN ?_ _ | (with_reducible refine Keep.set_ ?_ ?_ _; rotate_left; ((try simp); (try omega)))))).mono (by omega)⟩
set_option maxRecDepth 100000 in
set_option maxHeartbeats 8000000 in
theorem specLoadFile_any (vs : Array Value) (x : TPage) (F : List Nat) (pa : ByteArray) (ys : Array Value) (y : TResp) (G : List Nat) (w : World) (h : cPage.rep w vs.toList x F) (hn : cPage.sz x ≤ 100000) (hpa : pa.size ≤ 1000) (hy : cResp.rep w ys.toList y G) :
    Calls Try.prog 18 #[.agg vs, .string pa, .agg ys] w (GivesPg2 w (loadFile x pa y).1 (.bool (loadFile x pa y).2)) := by
  obtain ⟨i0, hi0, hz0, hz1, hz2⟩ := info_parts infoLoaded
  have HX := Lib.hid h
  obtain ⟨v4, v5, v7, F4, F5, F7, rfl, -, hok, m4, m5, m7⟩ := TPage.outA h
  obtain ⟨A4, c4, rfl⟩ := cL_form m4
  obtain ⟨A5, c5, rfl⟩ := cL_form m5
  obtain ⟨A7, c7, rfl⟩ := cL_form m7
  obtain ⟨u3, F3, rfl, -, hyo, n3⟩ := TResp.outA hy
  obtain ⟨U, cu, rfl⟩ := cL_form n3
  obtain ⟨hll, -⟩ := page_parts (x := x) (by omega)
  have hyv := hyo.h2
  have hxv := hok.h3
  have hxi := hok.h0
  obtain ⟨z, hz⟩ : ∃ z, loadOut x pa y.ver = z := ⟨_, rfl⟩
  have hzs := loadOut_sz x pa y.ver
  rw [hz] at hzs
  have HL := Lib.hid (show loadFile x pa y = bif y.status == 200 && y.ver == x.ver && isPage x && isPage z then (z, true) else (x, false) from by rw [← hz]; rfl)
  have hzok : x.Ok := hok
  obtain ⟨id, site, top, ver, ld, mach⟩ := x
  obtain ⟨ld2, hld⟩ : ∃ l, ld ++ [(⟨pa, y.ver⟩ : TLoaded)] = l := ⟨_, rfl⟩
  have hze : z = ⟨id, site, top, ver, ld2, mach⟩ := by rw [← hz, ← hld]; rfl
  subst hze
  simp only at *
  have HOK := Lib.hid hok
  have HLD := Lib.hid hld
  clear h hy m4 m5 m7 hz hok hzok hld n3
  go_enter Try.func18, Try.ntmps18
  go_wp2_with fail
  refine (specCopyPage_any _ ⟨id, site, top, ver, ld, mach⟩ _ _ (by exact Cod.bel HX.out (by repeat (first | with_reducible exact Below.refl _ _ | with_reducible assumption | with_reducible refine bel_alloc ?_ _ | with_reducible refine bel_drew ?_ | with_reducible refine bel_drewN ?_ _ | (with_reducible refine bel_set ?_ ?_ _; rotate_left; ((try simp); (try omega)))))) (by omega)).mono ?_
  rintro e w1 ⟨B1, d1, B5, d5, B7, d7, F2, rfl, hb1, hpv⟩
  simp only at hpv ⊢
  have hP : Blk w1 w.heap.size 41 #[.int .i64 id, .string site, .string top, .int .i64 ver, .slice A4 ld.length c4, .slice A5 mach.script.length c5, .int .i64 mach.pc, .slice A7 mach.regs.length c7, .int .i64 mach.steps, .bool mach.done, .bool mach.wait] := Blk.bel (Blk.bel (Blk.bel (Blk.new w _ _) (bel_oneP _ _)) (bel_oneP _ _)) hb1
  have hx0 := Blk.new (w.alloc (.cells #[.int .i64 id, .string site, .string top, .int .i64 ver, .slice A4 ld.length c4, .slice A5 mach.script.length c5, .int .i64 mach.pc, .slice A7 mach.regs.length c7, .int .i64 mach.steps, .bool mach.done, .bool mach.wait] 41)) 43 #[.int .i64 y.type, .int .i64 y.status, .int .i64 y.ver, .slice U y.body.length cu, .bool y.shares]
  have hq0 := Blk.new ((w.alloc (.cells #[.int .i64 id, .string site, .string top, .int .i64 ver, .slice A4 ld.length c4, .slice A5 mach.script.length c5, .int .i64 mach.pc, .slice A7 mach.regs.length c7, .int .i64 mach.steps, .bool mach.done, .bool mach.wait] 41)).alloc (.cells #[.int .i64 y.type, .int .i64 y.status, .int .i64 y.ver, .slice U y.body.length cu, .bool y.shares] 43)) 41 #[.int .i64 0, .string ⟨#[]⟩, .string ⟨#[]⟩, .int .i64 0, .slice none 0 0, .slice none 0 0, .int .i64 0, .slice none 0 0, .int .i64 0, .bool false, .bool false]
  rw [World.size_alloc] at hx0
  rw [World.size_alloc, World.size_alloc] at hq0
  have hX : Blk w1 (w.heap.size + 1) 43 #[.int .i64 y.type, .int .i64 y.status, .int .i64 y.ver, .slice U y.body.length cu, .bool y.shares] := Blk.bel (Blk.bel hx0 (bel_oneP _ _)) hb1
  have hQ : Blk w1 (w.heap.size + 1 + 1) 41 #[.int .i64 0, .string ⟨#[]⟩, .string ⟨#[]⟩, .int .i64 0, .slice none 0 0, .slice none 0 0, .int .i64 0, .slice none 0 0, .int .i64 0, .bool false, .bool false] := Blk.bel hq0 hb1
  have hBw1 : Below w.heap.size w w1 := bel_then (by repeat (first | with_reducible exact Below.refl _ _ | with_reducible assumption | with_reducible refine bel_alloc ?_ _ | with_reducible refine bel_drew ?_ | with_reducible refine bel_drewN ?_ _ | (with_reducible refine bel_set ?_ ?_ _; rotate_left; ((try simp); (try omega))))) hb1
  have hz1' := hb1.size
  (try simp at hz1')
  replace hpv := hpv.mono (show w.heap.size + 3 ≤ _ by (try simp); (try omega))
  go_upto_region 2 with (fail)
  obtain ⟨ob, hob⟩ : ∃ ob, w1.heap.size = ob := ⟨_, rfl⟩
  generalize hW : World.alloc w1 _ = W
  have hbW : Below w1.heap.size w1 W := by rw [← hW]; exact bel_oneP _ _
  have hO : Blk W w1.heap.size 41 #[.int .i64 id, .string site, .string top, .int .i64 ver, .slice B1 ld.length d1, .slice B5 mach.script.length d5, .int .i64 mach.pc, .slice B7 mach.regs.length d7, .int .i64 mach.steps, .bool mach.done, .bool mach.wait] := by rw [← hW]; exact Blk.new w1 _ _
  have hWs : w1.heap.size < W.heap.size := by rw [← hW]; simp
  have HP := Lib.hid (hP.bel hbW)
  have HXX := Lib.hid (hX.bel hbW)
  have HQ := Lib.hid (hQ.bel hbW)
  have HPV := Lib.hid (And.intro (hpv.bel hbW) (fun b hb => (hpv.lt b hb).2))
  have hBW : Below w.heap.size w W := bel_then hBw1 hbW
  clear hP hX hQ hb1 hx0 hq0 hpv hW hbW hBw1
  rw [hob] at hO hWs HPV ⊢
  have hobw : w.heap.size + 1 + 1 < ob := by omega
  clear hob hz1'
  have o0 : W.cell? ⟨ob, 0, none⟩ = some (.int .i64 id) := hO.cell 0
  have o1 : W.cell? ⟨ob, 1, none⟩ = some (.string site) := hO.cell 1
  have o2 : W.cell? ⟨ob, 2, none⟩ = some (.string top) := hO.cell 2
  have o3 : W.cell? ⟨ob, 3, none⟩ = some (.int .i64 ver) := hO.cell 3
  have o4 : W.cell? ⟨ob, 4, none⟩ = some (.slice B1 ld.length d1) := hO.cell 4
  have o5 : W.cell? ⟨ob, 5, none⟩ = some (.slice B5 mach.script.length d5) := hO.cell 5
  have o6 : W.cell? ⟨ob, 6, none⟩ = some (.int .i64 mach.pc) := hO.cell 6
  have o7 : W.cell? ⟨ob, 7, none⟩ = some (.slice B7 mach.regs.length d7) := hO.cell 7
  have o8 : W.cell? ⟨ob, 8, none⟩ = some (.int .i64 mach.steps) := hO.cell 8
  have o9 : W.cell? ⟨ob, 9, none⟩ = some (.bool mach.done) := hO.cell 9
  have o10 : W.cell? ⟨ob, 10, none⟩ = some (.bool mach.wait) := hO.cell 10
  have z4 := hO.frozen 4
  have y2 : W.cell? ⟨w.heap.size + 1, 2, none⟩ = some (.int .i64 y.ver) := HXX.out.cell 2
  have hsrc : ∀ V, Below W.heap.size W V → W.heap.size = V.heap.size → True := fun _ _ _ => trivial
  go_wp2_with (at_builtin; refine wpList_app (c := cLoaded) (B := w.heap.size + 3) (xs := ld) (ys := [⟨pa, y.ver⟩]) (Fi := []) (Fy := []) _ rfl _ _ _ rfl i0 _ _ Try.underlying39 hi0 hz0 hz1 hz2 rfl (by decide) rfl (HPV.out.1.own.bel (by repeat (first | with_reducible exact Below.refl _ _ | with_reducible assumption | with_reducible refine bel_alloc ?_ _ | with_reducible refine bel_drew ?_ | with_reducible refine bel_drewN ?_ _ | (with_reducible refine bel_set ?_ ?_ _; rotate_left; ((try simp); (try omega)))))) (.slice (some ⟨W.heap.size, 0, none⟩) 1 1) rfl (src_new 51 W.heap.size rfl (TLoaded.mk_ (x := ⟨pa, y.ver⟩) ⟨by unfold maxLen; simp only; omega, hyv⟩)) (by unfold maxLen; simp; omega) (by simp; omega) (by (try simp); (try omega)) (by simp) ?_)
  intro v2 w2 ho2 hg2 hat2
  obtain ⟨B2, d2, rfl, hpv2⟩ := HPV.out.1.app ho2 hg2 hat2
  have hl1 := HPV.out.1.lt
  have hl2 := HPV.out.2
  have hkeep : ∀ b, b < W.heap.size → (b = ob ∨ b < w.heap.size + 3) → w2.heap[b]? = W.heap[b]? := fun b hb h9 => (hg2.block b (by simp; omega) (fun e => by have h3 := hl2 b (.inl e.symm); have h4 := (hl1 b (.inl e.symm)).1; rcases h9 with rfl | h9 <;> omega)).trans ((bel_oneP W _).block b hb)
  have hP2 : Blk w2 w.heap.size 41 #[.int .i64 id, .string site, .string top, .int .i64 ver, .slice A4 ld.length c4, .slice A5 mach.script.length c5, .int .i64 mach.pc, .slice A7 mach.regs.length c7, .int .i64 mach.steps, .bool mach.done, .bool mach.wait] := (hkeep _ (by omega) (.inr (by omega))).trans HP.out
  have hX2 : Blk w2 (w.heap.size + 1) 43 #[.int .i64 y.type, .int .i64 y.status, .int .i64 y.ver, .slice U y.body.length cu, .bool y.shares] := (hkeep _ (by omega) (.inr (by omega))).trans HXX.out
  have hQ2 : Blk w2 (w.heap.size + 1 + 1) 41 #[.int .i64 0, .string ⟨#[]⟩, .string ⟨#[]⟩, .int .i64 0, .slice none 0 0, .slice none 0 0, .int .i64 0, .slice none 0 0, .int .i64 0, .bool false, .bool false] := (hkeep _ (by omega) (.inr (by omega))).trans HQ.out
  have hO2 : Blk w2 ob 41 #[.int .i64 id, .string site, .string top, .int .i64 ver, .slice B1 ld.length d1, .slice B5 mach.script.length d5, .int .i64 mach.pc, .slice B7 mach.regs.length d7, .int .i64 mach.steps, .bool mach.done, .bool mach.wait] := (hkeep _ (by omega) (.inl rfl)).trans hO
  have hB2 : Below w.heap.size w w2 := (show Below w.heap.size w _ from (by repeat (first | with_reducible exact Below.refl _ _ | with_reducible assumption | with_reducible refine bel_alloc ?_ _ | with_reducible refine bel_drew ?_ | with_reducible refine bel_drewN ?_ _ | (with_reducible refine bel_set ?_ ?_ _; rotate_left; ((try simp); (try omega)))))).grown hg2 (by simp; omega) (fun g hg => by have := (hl1 g (.inl hg)).1; omega)
  simp only at hpv2 hat2 ⊢
  rw [HLD.out] at hpv2 hat2 ⊢
  have hz2' : ob < w2.heap.size := by have := hg2.size; simp at this; omega
  have hlo2 := hpv2.lt
  have hob2 : ∀ b, (ownB (.slice B2 ld2.length d2) = some b ∨ b ∈ F2) → b ≠ ob := fun b hb e => by
    rcases hb with hb | hb
    · rcases hat2 b hb with h9 | h9
      · have := hl2 b (.inl h9); omega
      · omega
    · have := hl2 b (.inr hb); omega
  have HPV2 := Lib.hid (And.intro hpv2 hob2)
  clear ho2 hg2 hat2 hkeep hpv2 hob2 hl1 hl2 hlo2 HP HXX HQ HPV hO hBW hWs hsrc o0 o1 o2 o3 o4 o5 o6 o7 o8 o9 o10 y2 z4
  have o4 := hO2.cell 4
  have z4 := hO2.frozen 4
  go_upto_region 3 with (fail)
  obtain ⟨V, hV⟩ : ∃ V, w2.setCell ⟨ob, 4, none⟩ (.slice B2 ld2.length d2) = V := ⟨_, rfl⟩
  rw [hV]
  have hO3 : Blk V ob 41 #[.int .i64 id, .string site, .string top, .int .i64 ver, .slice B2 ld2.length d2, .slice B5 mach.script.length d5, .int .i64 mach.pc, .slice B7 mach.regs.length d7, .int .i64 mach.steps, .bool mach.done, .bool mach.wait] := by
    rw [← hV]
    have h9 := hO2.set_ 4 (.slice B2 ld2.length d2)
    simp only [List.setIfInBounds_toArray, List.set_cons_zero, List.set_cons_succ] at h9
    exact h9
  have hP3 : Blk V w.heap.size 41 #[.int .i64 id, .string site, .string top, .int .i64 ver, .slice A4 ld.length c4, .slice A5 mach.script.length c5, .int .i64 mach.pc, .slice A7 mach.regs.length c7, .int .i64 mach.steps, .bool mach.done, .bool mach.wait] := by rw [← hV]; exact (Below.heap_setCell _ _ _ _ (show w.heap.size ≠ ob by omega)).trans hP2
  have hX3 : Blk V (w.heap.size + 1) 43 #[.int .i64 y.type, .int .i64 y.status, .int .i64 y.ver, .slice U y.body.length cu, .bool y.shares] := by rw [← hV]; exact (Below.heap_setCell _ _ _ _ (show w.heap.size + 1 ≠ ob by omega)).trans hX2
  have hQ3 : Blk V (w.heap.size + 1 + 1) 41 #[.int .i64 0, .string ⟨#[]⟩, .string ⟨#[]⟩, .int .i64 0, .slice none 0 0, .slice none 0 0, .int .i64 0, .slice none 0 0, .int .i64 0, .bool false, .bool false] := by rw [← hV]; exact (Below.heap_setCell _ _ _ _ (show w.heap.size + 1 + 1 ≠ ob by omega)).trans hQ2
  have hBV : Below w.heap.size w V := by rw [← hV]; exact (by repeat (first | with_reducible exact Below.refl _ _ | with_reducible assumption | with_reducible refine bel_alloc ?_ _ | with_reducible refine bel_drew ?_ | with_reducible refine bel_drewN ?_ _ | (with_reducible refine bel_set ?_ ?_ _; rotate_left; ((try simp); (try omega)))))
  have hsV : ob < V.heap.size := by rw [← hV]; simpa using hz2'
  have HPV3 := Lib.hid (show PageV (w.heap.size + 3) V ⟨id, site, top, ver, ld2, mach⟩ B2 d2 B5 d5 B7 d7 F2 from by rw [← hV]; exact HPV2.out.1.set (a := ⟨ob, 4, none⟩) HPV2.out.2 _)
  clear hV hP2 hX2 hQ2 hO2 hB2 hz2' HPV2
  have hsV0 : w.heap.size < V.heap.size := by omega
  have hsV1 : w.heap.size + 1 < V.heap.size := by omega
  have hsV2 : w.heap.size + 1 + 1 < V.heap.size := by omega
  have p0 : V.cell? ⟨w.heap.size, 0, none⟩ = some (.int .i64 id) := hP3.cell 0
  have p1 : V.cell? ⟨w.heap.size, 1, none⟩ = some (.string site) := hP3.cell 1
  have p2 : V.cell? ⟨w.heap.size, 2, none⟩ = some (.string top) := hP3.cell 2
  have p3 : V.cell? ⟨w.heap.size, 3, none⟩ = some (.int .i64 ver) := hP3.cell 3
  have p4 : V.cell? ⟨w.heap.size, 4, none⟩ = some (.slice A4 ld.length c4) := hP3.cell 4
  have p5 : V.cell? ⟨w.heap.size, 5, none⟩ = some (.slice A5 mach.script.length c5) := hP3.cell 5
  have p6 : V.cell? ⟨w.heap.size, 6, none⟩ = some (.int .i64 mach.pc) := hP3.cell 6
  have p7 : V.cell? ⟨w.heap.size, 7, none⟩ = some (.slice A7 mach.regs.length c7) := hP3.cell 7
  have p8 : V.cell? ⟨w.heap.size, 8, none⟩ = some (.int .i64 mach.steps) := hP3.cell 8
  have p9 : V.cell? ⟨w.heap.size, 9, none⟩ = some (.bool mach.done) := hP3.cell 9
  have p10 : V.cell? ⟨w.heap.size, 10, none⟩ = some (.bool mach.wait) := hP3.cell 10
  have o0 : V.cell? ⟨ob, 0, none⟩ = some (.int .i64 id) := hO3.cell 0
  have o1 : V.cell? ⟨ob, 1, none⟩ = some (.string site) := hO3.cell 1
  have o2 : V.cell? ⟨ob, 2, none⟩ = some (.string top) := hO3.cell 2
  have o3 : V.cell? ⟨ob, 3, none⟩ = some (.int .i64 ver) := hO3.cell 3
  have o4 : V.cell? ⟨ob, 4, none⟩ = some (.slice B2 ld2.length d2) := hO3.cell 4
  have o5 : V.cell? ⟨ob, 5, none⟩ = some (.slice B5 mach.script.length d5) := hO3.cell 5
  have o6 : V.cell? ⟨ob, 6, none⟩ = some (.int .i64 mach.pc) := hO3.cell 6
  have o7 : V.cell? ⟨ob, 7, none⟩ = some (.slice B7 mach.regs.length d7) := hO3.cell 7
  have o8 : V.cell? ⟨ob, 8, none⟩ = some (.int .i64 mach.steps) := hO3.cell 8
  have o9 : V.cell? ⟨ob, 9, none⟩ = some (.bool mach.done) := hO3.cell 9
  have o10 : V.cell? ⟨ob, 10, none⟩ = some (.bool mach.wait) := hO3.cell 10
  have y1 : V.cell? ⟨(w.heap.size + 1), 1, none⟩ = some (.int .i64 y.status) := hX3.cell 1
  have y2 : V.cell? ⟨(w.heap.size + 1), 2, none⟩ = some (.int .i64 y.ver) := hX3.cell 2
  have q0 : V.cell? ⟨(w.heap.size + 1 + 1), 0, none⟩ = some (.int .i64 0) := hQ3.cell 0
  have f0 : V.frozen? ⟨(w.heap.size + 1 + 1), 0, none⟩ = false := hQ3.frozen 0
  have q1 : V.cell? ⟨(w.heap.size + 1 + 1), 1, none⟩ = some (.string ⟨#[]⟩) := hQ3.cell 1
  have f1 : V.frozen? ⟨(w.heap.size + 1 + 1), 1, none⟩ = false := hQ3.frozen 1
  have q2 : V.cell? ⟨(w.heap.size + 1 + 1), 2, none⟩ = some (.string ⟨#[]⟩) := hQ3.cell 2
  have f2 : V.frozen? ⟨(w.heap.size + 1 + 1), 2, none⟩ = false := hQ3.frozen 2
  have q3 : V.cell? ⟨(w.heap.size + 1 + 1), 3, none⟩ = some (.int .i64 0) := hQ3.cell 3
  have f3 : V.frozen? ⟨(w.heap.size + 1 + 1), 3, none⟩ = false := hQ3.frozen 3
  have q4 : V.cell? ⟨(w.heap.size + 1 + 1), 4, none⟩ = some (.slice none 0 0) := hQ3.cell 4
  have f4 : V.frozen? ⟨(w.heap.size + 1 + 1), 4, none⟩ = false := hQ3.frozen 4
  have q5 : V.cell? ⟨(w.heap.size + 1 + 1), 5, none⟩ = some (.slice none 0 0) := hQ3.cell 5
  have f5 : V.frozen? ⟨(w.heap.size + 1 + 1), 5, none⟩ = false := hQ3.frozen 5
  have q6 : V.cell? ⟨(w.heap.size + 1 + 1), 6, none⟩ = some (.int .i64 0) := hQ3.cell 6
  have f6 : V.frozen? ⟨(w.heap.size + 1 + 1), 6, none⟩ = false := hQ3.frozen 6
  have q7 : V.cell? ⟨(w.heap.size + 1 + 1), 7, none⟩ = some (.slice none 0 0) := hQ3.cell 7
  have f7 : V.frozen? ⟨(w.heap.size + 1 + 1), 7, none⟩ = false := hQ3.frozen 7
  have q8 : V.cell? ⟨(w.heap.size + 1 + 1), 8, none⟩ = some (.int .i64 0) := hQ3.cell 8
  have f8 : V.frozen? ⟨(w.heap.size + 1 + 1), 8, none⟩ = false := hQ3.frozen 8
  have q9 : V.cell? ⟨(w.heap.size + 1 + 1), 9, none⟩ = some (.bool false) := hQ3.cell 9
  have f9 : V.frozen? ⟨(w.heap.size + 1 + 1), 9, none⟩ = false := hQ3.frozen 9
  have q10 : V.cell? ⟨(w.heap.size + 1 + 1), 10, none⟩ = some (.bool false) := hQ3.cell 10
  have f10 : V.frozen? ⟨(w.heap.size + 1 + 1), 10, none⟩ = false := hQ3.frozen 10
  obtain ⟨G2, hr2, -, -⟩ := HPV3.out.rep
  have HR2 := Lib.hid hr2
  have HQ3 := Lib.hid hQ3
  clear hr2 hP3 hO3 hX3 hQ3
  cases e1 : (y.status == 200)
  · have n0 : (y.status != 200) = true := by simp [bne, e1]
    go_wp2_with (first | (go_at_call 72; refine (specIsPage_any _ ⟨id, site, top, ver, ld, mach⟩ _ _ (by exact Cod.bel HX.out (bel_then hBV (by repeat (first | with_reducible exact Below.refl _ _ | with_reducible assumption | with_reducible refine bel_alloc ?_ _ | with_reducible refine bel_drew ?_ | with_reducible refine bel_drewN ?_ _ | (with_reducible refine bel_set ?_ ?_ _; rotate_left; ((try simp); (try omega))))))) (by omega)).mono ?_; rw [e3]; rintro e w3 ⟨rfl, hb3⟩; have hV3 : Below V.heap.size V w3 := bel_then (by repeat (first | with_reducible exact Below.refl _ _ | with_reducible assumption | with_reducible refine bel_alloc ?_ _ | with_reducible refine bel_drew ?_ | with_reducible refine bel_drewN ?_ _ | (with_reducible refine bel_set ?_ ?_ _; rotate_left; ((try simp); (try omega))))) hb3; obtain ⟨hc3, hf3, -⟩ := bcell hV3; clear hb3) | (go_at_call 72; refine (specIsPage_any _ ⟨id, site, top, ver, ld2, mach⟩ _ _ (by exact Cod.bel HR2.out (by repeat (first | with_reducible exact Below.refl _ _ | with_reducible assumption | with_reducible refine bel_alloc ?_ _ | with_reducible refine bel_drew ?_ | with_reducible refine bel_drewN ?_ _ | (with_reducible refine bel_set ?_ ?_ _; rotate_left; ((try simp); (try omega)))))) (by omega)).mono ?_; rw [e4]; rintro e w4 ⟨rfl, hb4⟩; have hV4 : Below V.heap.size V w4 := bel_then (by repeat (first | with_reducible exact Below.refl _ _ | with_reducible assumption | with_reducible refine bel_alloc ?_ _ | with_reducible refine bel_drew ?_ | with_reducible refine bel_drewN ?_ _ | (with_reducible refine bel_set ?_ ?_ _; rotate_left; ((try simp); (try omega))))) hb4; obtain ⟨hc4, hf4, -⟩ := bcell hV4; clear hb4))
    refine (specCopyPage_any _ ⟨id, site, top, ver, ld, mach⟩ _ _ (by exact Cod.bel HX.out (bel_then hBV (by repeat (first | with_reducible exact Below.refl _ _ | with_reducible assumption | with_reducible refine bel_alloc ?_ _ | with_reducible refine bel_drew ?_ | with_reducible refine bel_drewN ?_ _ | (with_reducible refine bel_set ?_ ?_ _; rotate_left; ((try simp); (try omega))))))) (by omega)).mono ?_
    rintro e w5 ⟨D4, g4, D5, g5, D7, g7, F5, rfl, hb5, hpv5⟩
    simp only at hpv5 ⊢
    have hV5 : Below V.heap.size V w5 := bel_then (by repeat (first | with_reducible exact Below.refl _ _ | with_reducible assumption | with_reducible refine bel_alloc ?_ _ | with_reducible refine bel_drew ?_ | with_reducible refine bel_drewN ?_ _ | (with_reducible refine bel_set ?_ ?_ _; rotate_left; ((try simp); (try omega))))) hb5
    have hQ5 : Blk w5 (w.heap.size + 1 + 1) 41 #[.int .i64 0, .string ⟨#[]⟩, .string ⟨#[]⟩, .int .i64 0, .slice none 0 0, .slice none 0 0, .int .i64 0, .slice none 0 0, .int .i64 0, .bool false, .bool false] := HQ3.out.bel hV5
    have hBw5 : Below w.heap.size w w5 := bel_then hBV hV5
    have hpv6 := hpv5.mono (show w.heap.size + 3 ≤ _ by (have := hsV; omega))
    clear hpv5 hb5 p0 p1 p2 p3 p4 p5 p6 p7 p8 p9 p10 o0 o1 o2 o3 o4 o5 o6 o7 o8 o9 o10 q0 q1 q2 q3 q4 q5 q6 q7 q8 q9 q10 f0 f1 f2 f3 f4 f5 f6 f7 f8 f9 f10
    have q0 : w5.cell? ⟨(w.heap.size + 1 + 1), 0, none⟩ = some (.int .i64 0) := hQ5.cell 0
    have f0 : w5.frozen? ⟨(w.heap.size + 1 + 1), 0, none⟩ = false := hQ5.frozen 0
    have q1 : w5.cell? ⟨(w.heap.size + 1 + 1), 1, none⟩ = some (.string ⟨#[]⟩) := hQ5.cell 1
    have f1 : w5.frozen? ⟨(w.heap.size + 1 + 1), 1, none⟩ = false := hQ5.frozen 1
    have q2 : w5.cell? ⟨(w.heap.size + 1 + 1), 2, none⟩ = some (.string ⟨#[]⟩) := hQ5.cell 2
    have f2 : w5.frozen? ⟨(w.heap.size + 1 + 1), 2, none⟩ = false := hQ5.frozen 2
    have q3 : w5.cell? ⟨(w.heap.size + 1 + 1), 3, none⟩ = some (.int .i64 0) := hQ5.cell 3
    have f3 : w5.frozen? ⟨(w.heap.size + 1 + 1), 3, none⟩ = false := hQ5.frozen 3
    have q4 : w5.cell? ⟨(w.heap.size + 1 + 1), 4, none⟩ = some (.slice none 0 0) := hQ5.cell 4
    have f4 : w5.frozen? ⟨(w.heap.size + 1 + 1), 4, none⟩ = false := hQ5.frozen 4
    have q5 : w5.cell? ⟨(w.heap.size + 1 + 1), 5, none⟩ = some (.slice none 0 0) := hQ5.cell 5
    have f5 : w5.frozen? ⟨(w.heap.size + 1 + 1), 5, none⟩ = false := hQ5.frozen 5
    have q6 : w5.cell? ⟨(w.heap.size + 1 + 1), 6, none⟩ = some (.int .i64 0) := hQ5.cell 6
    have f6 : w5.frozen? ⟨(w.heap.size + 1 + 1), 6, none⟩ = false := hQ5.frozen 6
    have q7 : w5.cell? ⟨(w.heap.size + 1 + 1), 7, none⟩ = some (.slice none 0 0) := hQ5.cell 7
    have f7 : w5.frozen? ⟨(w.heap.size + 1 + 1), 7, none⟩ = false := hQ5.frozen 7
    have q8 : w5.cell? ⟨(w.heap.size + 1 + 1), 8, none⟩ = some (.int .i64 0) := hQ5.cell 8
    have f8 : w5.frozen? ⟨(w.heap.size + 1 + 1), 8, none⟩ = false := hQ5.frozen 8
    have q9 : w5.cell? ⟨(w.heap.size + 1 + 1), 9, none⟩ = some (.bool false) := hQ5.cell 9
    have f9 : w5.frozen? ⟨(w.heap.size + 1 + 1), 9, none⟩ = false := hQ5.frozen 9
    have q10 : w5.cell? ⟨(w.heap.size + 1 + 1), 10, none⟩ = some (.bool false) := hQ5.cell 10
    have f10 : w5.frozen? ⟨(w.heap.size + 1 + 1), 10, none⟩ = false := hQ5.frozen 10
    go_wp2_with fail
    refine sets_ret11 hQ5 rfl (fun W9 e9 hb9 => ?_)
    have c0 : W9.cell? ⟨(w.heap.size + 1 + 1), 0, none⟩ = some (.int .i64 id) := hb9.cell 0
    have c1 : W9.cell? ⟨(w.heap.size + 1 + 1), 1, none⟩ = some (.string site) := hb9.cell 1
    have c2 : W9.cell? ⟨(w.heap.size + 1 + 1), 2, none⟩ = some (.string top) := hb9.cell 2
    have c3 : W9.cell? ⟨(w.heap.size + 1 + 1), 3, none⟩ = some (.int .i64 ver) := hb9.cell 3
    have c4 : W9.cell? ⟨(w.heap.size + 1 + 1), 4, none⟩ = some (.slice D4 ld.length g4) := hb9.cell 4
    have c5 : W9.cell? ⟨(w.heap.size + 1 + 1), 5, none⟩ = some (.slice D5 mach.script.length g5) := hb9.cell 5
    have c6 : W9.cell? ⟨(w.heap.size + 1 + 1), 6, none⟩ = some (.int .i64 mach.pc) := hb9.cell 6
    have c7 : W9.cell? ⟨(w.heap.size + 1 + 1), 7, none⟩ = some (.slice D7 mach.regs.length g7) := hb9.cell 7
    have c8 : W9.cell? ⟨(w.heap.size + 1 + 1), 8, none⟩ = some (.int .i64 mach.steps) := hb9.cell 8
    have c9 : W9.cell? ⟨(w.heap.size + 1 + 1), 9, none⟩ = some (.bool mach.done) := hb9.cell 9
    have c10 : W9.cell? ⟨(w.heap.size + 1 + 1), 10, none⟩ = some (.bool mach.wait) := hb9.cell 10
    refine bodyPost_ret (v := .tuple #[.agg #[.int .i64 id, .string site, .string top, .int .i64 ver, .slice D4 ld.length g4, .slice D5 mach.script.length g5, .int .i64 mach.pc, .slice D7 mach.regs.length g7, .int .i64 mach.steps, .bool mach.done, .bool mach.wait], .bool false]) (by simp [results, Try.results18, go_sem, c0, c1, c2, c3, c4, c5, c6, c7, c8, c9, c10]) rfl ?_
    subst e9
    rw [show loadFile ⟨id, site, top, ver, ld, mach⟩ pa y = (⟨id, site, top, ver, ld, mach⟩, false) from by rw [HL.out, e1]; rfl]
    exact ⟨D4, g4, D5, g5, D7, g7, F5, rfl, (by repeat (first | with_reducible exact Below.refl _ _ | with_reducible assumption | with_reducible refine bel_alloc ?_ _ | with_reducible refine bel_drew ?_ | with_reducible refine bel_drewN ?_ _ | (with_reducible refine bel_set ?_ ?_ _; rotate_left; ((try simp); (try omega))))), (hpv6.keepB (by repeat (first | with_reducible exact Keep.refl _ _ | with_reducible assumption | with_reducible refine Keep.alloc ?_ _ | with_reducible refine Keep.drew ?_ | with_reducible refine Keep.drewN ?_ _ | (with_reducible refine Keep.set_ ?_ ?_ _; rotate_left; ((try simp); (try omega)))))).mono (by omega)⟩
  · have n0 : (y.status != 200) = false := by simp [bne, e1]
    cases e2 : (y.ver == ver)
    · have n1 : (y.ver != ver) = true := by simp [bne, e2]
      go_wp2_with (first | (go_at_call 72; refine (specIsPage_any _ ⟨id, site, top, ver, ld, mach⟩ _ _ (by exact Cod.bel HX.out (bel_then hBV (by repeat (first | with_reducible exact Below.refl _ _ | with_reducible assumption | with_reducible refine bel_alloc ?_ _ | with_reducible refine bel_drew ?_ | with_reducible refine bel_drewN ?_ _ | (with_reducible refine bel_set ?_ ?_ _; rotate_left; ((try simp); (try omega))))))) (by omega)).mono ?_; rw [e3]; rintro e w3 ⟨rfl, hb3⟩; have hV3 : Below V.heap.size V w3 := bel_then (by repeat (first | with_reducible exact Below.refl _ _ | with_reducible assumption | with_reducible refine bel_alloc ?_ _ | with_reducible refine bel_drew ?_ | with_reducible refine bel_drewN ?_ _ | (with_reducible refine bel_set ?_ ?_ _; rotate_left; ((try simp); (try omega))))) hb3; obtain ⟨hc3, hf3, -⟩ := bcell hV3; clear hb3) | (go_at_call 72; refine (specIsPage_any _ ⟨id, site, top, ver, ld2, mach⟩ _ _ (by exact Cod.bel HR2.out (by repeat (first | with_reducible exact Below.refl _ _ | with_reducible assumption | with_reducible refine bel_alloc ?_ _ | with_reducible refine bel_drew ?_ | with_reducible refine bel_drewN ?_ _ | (with_reducible refine bel_set ?_ ?_ _; rotate_left; ((try simp); (try omega)))))) (by omega)).mono ?_; rw [e4]; rintro e w4 ⟨rfl, hb4⟩; have hV4 : Below V.heap.size V w4 := bel_then (by repeat (first | with_reducible exact Below.refl _ _ | with_reducible assumption | with_reducible refine bel_alloc ?_ _ | with_reducible refine bel_drew ?_ | with_reducible refine bel_drewN ?_ _ | (with_reducible refine bel_set ?_ ?_ _; rotate_left; ((try simp); (try omega))))) hb4; obtain ⟨hc4, hf4, -⟩ := bcell hV4; clear hb4))
      refine (specCopyPage_any _ ⟨id, site, top, ver, ld, mach⟩ _ _ (by exact Cod.bel HX.out (bel_then hBV (by repeat (first | with_reducible exact Below.refl _ _ | with_reducible assumption | with_reducible refine bel_alloc ?_ _ | with_reducible refine bel_drew ?_ | with_reducible refine bel_drewN ?_ _ | (with_reducible refine bel_set ?_ ?_ _; rotate_left; ((try simp); (try omega))))))) (by omega)).mono ?_
      rintro e w5 ⟨D4, g4, D5, g5, D7, g7, F5, rfl, hb5, hpv5⟩
      simp only at hpv5 ⊢
      have hV5 : Below V.heap.size V w5 := bel_then (by repeat (first | with_reducible exact Below.refl _ _ | with_reducible assumption | with_reducible refine bel_alloc ?_ _ | with_reducible refine bel_drew ?_ | with_reducible refine bel_drewN ?_ _ | (with_reducible refine bel_set ?_ ?_ _; rotate_left; ((try simp); (try omega))))) hb5
      have hQ5 : Blk w5 (w.heap.size + 1 + 1) 41 #[.int .i64 0, .string ⟨#[]⟩, .string ⟨#[]⟩, .int .i64 0, .slice none 0 0, .slice none 0 0, .int .i64 0, .slice none 0 0, .int .i64 0, .bool false, .bool false] := HQ3.out.bel hV5
      have hBw5 : Below w.heap.size w w5 := bel_then hBV hV5
      have hpv6 := hpv5.mono (show w.heap.size + 3 ≤ _ by (have := hsV; omega))
      clear hpv5 hb5 p0 p1 p2 p3 p4 p5 p6 p7 p8 p9 p10 o0 o1 o2 o3 o4 o5 o6 o7 o8 o9 o10 q0 q1 q2 q3 q4 q5 q6 q7 q8 q9 q10 f0 f1 f2 f3 f4 f5 f6 f7 f8 f9 f10
      have q0 : w5.cell? ⟨(w.heap.size + 1 + 1), 0, none⟩ = some (.int .i64 0) := hQ5.cell 0
      have f0 : w5.frozen? ⟨(w.heap.size + 1 + 1), 0, none⟩ = false := hQ5.frozen 0
      have q1 : w5.cell? ⟨(w.heap.size + 1 + 1), 1, none⟩ = some (.string ⟨#[]⟩) := hQ5.cell 1
      have f1 : w5.frozen? ⟨(w.heap.size + 1 + 1), 1, none⟩ = false := hQ5.frozen 1
      have q2 : w5.cell? ⟨(w.heap.size + 1 + 1), 2, none⟩ = some (.string ⟨#[]⟩) := hQ5.cell 2
      have f2 : w5.frozen? ⟨(w.heap.size + 1 + 1), 2, none⟩ = false := hQ5.frozen 2
      have q3 : w5.cell? ⟨(w.heap.size + 1 + 1), 3, none⟩ = some (.int .i64 0) := hQ5.cell 3
      have f3 : w5.frozen? ⟨(w.heap.size + 1 + 1), 3, none⟩ = false := hQ5.frozen 3
      have q4 : w5.cell? ⟨(w.heap.size + 1 + 1), 4, none⟩ = some (.slice none 0 0) := hQ5.cell 4
      have f4 : w5.frozen? ⟨(w.heap.size + 1 + 1), 4, none⟩ = false := hQ5.frozen 4
      have q5 : w5.cell? ⟨(w.heap.size + 1 + 1), 5, none⟩ = some (.slice none 0 0) := hQ5.cell 5
      have f5 : w5.frozen? ⟨(w.heap.size + 1 + 1), 5, none⟩ = false := hQ5.frozen 5
      have q6 : w5.cell? ⟨(w.heap.size + 1 + 1), 6, none⟩ = some (.int .i64 0) := hQ5.cell 6
      have f6 : w5.frozen? ⟨(w.heap.size + 1 + 1), 6, none⟩ = false := hQ5.frozen 6
      have q7 : w5.cell? ⟨(w.heap.size + 1 + 1), 7, none⟩ = some (.slice none 0 0) := hQ5.cell 7
      have f7 : w5.frozen? ⟨(w.heap.size + 1 + 1), 7, none⟩ = false := hQ5.frozen 7
      have q8 : w5.cell? ⟨(w.heap.size + 1 + 1), 8, none⟩ = some (.int .i64 0) := hQ5.cell 8
      have f8 : w5.frozen? ⟨(w.heap.size + 1 + 1), 8, none⟩ = false := hQ5.frozen 8
      have q9 : w5.cell? ⟨(w.heap.size + 1 + 1), 9, none⟩ = some (.bool false) := hQ5.cell 9
      have f9 : w5.frozen? ⟨(w.heap.size + 1 + 1), 9, none⟩ = false := hQ5.frozen 9
      have q10 : w5.cell? ⟨(w.heap.size + 1 + 1), 10, none⟩ = some (.bool false) := hQ5.cell 10
      have f10 : w5.frozen? ⟨(w.heap.size + 1 + 1), 10, none⟩ = false := hQ5.frozen 10
      go_wp2_with fail
      refine sets_ret11 hQ5 rfl (fun W9 e9 hb9 => ?_)
      have c0 : W9.cell? ⟨(w.heap.size + 1 + 1), 0, none⟩ = some (.int .i64 id) := hb9.cell 0
      have c1 : W9.cell? ⟨(w.heap.size + 1 + 1), 1, none⟩ = some (.string site) := hb9.cell 1
      have c2 : W9.cell? ⟨(w.heap.size + 1 + 1), 2, none⟩ = some (.string top) := hb9.cell 2
      have c3 : W9.cell? ⟨(w.heap.size + 1 + 1), 3, none⟩ = some (.int .i64 ver) := hb9.cell 3
      have c4 : W9.cell? ⟨(w.heap.size + 1 + 1), 4, none⟩ = some (.slice D4 ld.length g4) := hb9.cell 4
      have c5 : W9.cell? ⟨(w.heap.size + 1 + 1), 5, none⟩ = some (.slice D5 mach.script.length g5) := hb9.cell 5
      have c6 : W9.cell? ⟨(w.heap.size + 1 + 1), 6, none⟩ = some (.int .i64 mach.pc) := hb9.cell 6
      have c7 : W9.cell? ⟨(w.heap.size + 1 + 1), 7, none⟩ = some (.slice D7 mach.regs.length g7) := hb9.cell 7
      have c8 : W9.cell? ⟨(w.heap.size + 1 + 1), 8, none⟩ = some (.int .i64 mach.steps) := hb9.cell 8
      have c9 : W9.cell? ⟨(w.heap.size + 1 + 1), 9, none⟩ = some (.bool mach.done) := hb9.cell 9
      have c10 : W9.cell? ⟨(w.heap.size + 1 + 1), 10, none⟩ = some (.bool mach.wait) := hb9.cell 10
      refine bodyPost_ret (v := .tuple #[.agg #[.int .i64 id, .string site, .string top, .int .i64 ver, .slice D4 ld.length g4, .slice D5 mach.script.length g5, .int .i64 mach.pc, .slice D7 mach.regs.length g7, .int .i64 mach.steps, .bool mach.done, .bool mach.wait], .bool false]) (by simp [results, Try.results18, go_sem, c0, c1, c2, c3, c4, c5, c6, c7, c8, c9, c10]) rfl ?_
      subst e9
      rw [show loadFile ⟨id, site, top, ver, ld, mach⟩ pa y = (⟨id, site, top, ver, ld, mach⟩, false) from by rw [HL.out, e1, e2]; rfl]
      exact ⟨D4, g4, D5, g5, D7, g7, F5, rfl, (by repeat (first | with_reducible exact Below.refl _ _ | with_reducible assumption | with_reducible refine bel_alloc ?_ _ | with_reducible refine bel_drew ?_ | with_reducible refine bel_drewN ?_ _ | (with_reducible refine bel_set ?_ ?_ _; rotate_left; ((try simp); (try omega))))), (hpv6.keepB (by repeat (first | with_reducible exact Keep.refl _ _ | with_reducible assumption | with_reducible refine Keep.alloc ?_ _ | with_reducible refine Keep.drew ?_ | with_reducible refine Keep.drewN ?_ _ | (with_reducible refine Keep.set_ ?_ ?_ _; rotate_left; ((try simp); (try omega)))))).mono (by omega)⟩
    · have n1 : (y.ver != ver) = false := by simp [bne, e2]
      cases e3 : (isPage ⟨id, site, top, ver, ld, mach⟩)
      · go_wp2_with (first | (go_at_call 72; refine (specIsPage_any _ ⟨id, site, top, ver, ld, mach⟩ _ _ (by exact Cod.bel HX.out (bel_then hBV (by repeat (first | with_reducible exact Below.refl _ _ | with_reducible assumption | with_reducible refine bel_alloc ?_ _ | with_reducible refine bel_drew ?_ | with_reducible refine bel_drewN ?_ _ | (with_reducible refine bel_set ?_ ?_ _; rotate_left; ((try simp); (try omega))))))) (by omega)).mono ?_; rw [e3]; rintro e w3 ⟨rfl, hb3⟩; have hV3 : Below V.heap.size V w3 := bel_then (by repeat (first | with_reducible exact Below.refl _ _ | with_reducible assumption | with_reducible refine bel_alloc ?_ _ | with_reducible refine bel_drew ?_ | with_reducible refine bel_drewN ?_ _ | (with_reducible refine bel_set ?_ ?_ _; rotate_left; ((try simp); (try omega))))) hb3; obtain ⟨hc3, hf3, -⟩ := bcell hV3; clear hb3) | (go_at_call 72; refine (specIsPage_any _ ⟨id, site, top, ver, ld2, mach⟩ _ _ (by exact Cod.bel HR2.out (by repeat (first | with_reducible exact Below.refl _ _ | with_reducible assumption | with_reducible refine bel_alloc ?_ _ | with_reducible refine bel_drew ?_ | with_reducible refine bel_drewN ?_ _ | (with_reducible refine bel_set ?_ ?_ _; rotate_left; ((try simp); (try omega)))))) (by omega)).mono ?_; rw [e4]; rintro e w4 ⟨rfl, hb4⟩; have hV4 : Below V.heap.size V w4 := bel_then (by repeat (first | with_reducible exact Below.refl _ _ | with_reducible assumption | with_reducible refine bel_alloc ?_ _ | with_reducible refine bel_drew ?_ | with_reducible refine bel_drewN ?_ _ | (with_reducible refine bel_set ?_ ?_ _; rotate_left; ((try simp); (try omega))))) hb4; obtain ⟨hc4, hf4, -⟩ := bcell hV4; clear hb4))
        refine (specCopyPage_any _ ⟨id, site, top, ver, ld, mach⟩ _ _ (by exact Cod.bel HX.out (bel_then hBV (by repeat (first | with_reducible exact Below.refl _ _ | with_reducible assumption | with_reducible refine bel_alloc ?_ _ | with_reducible refine bel_drew ?_ | with_reducible refine bel_drewN ?_ _ | (with_reducible refine bel_set ?_ ?_ _; rotate_left; ((try simp); (try omega))))))) (by omega)).mono ?_
        rintro e w5 ⟨D4, g4, D5, g5, D7, g7, F5, rfl, hb5, hpv5⟩
        simp only at hpv5 ⊢
        have hV5 : Below V.heap.size V w5 := bel_then (by repeat (first | with_reducible exact Below.refl _ _ | with_reducible assumption | with_reducible refine bel_alloc ?_ _ | with_reducible refine bel_drew ?_ | with_reducible refine bel_drewN ?_ _ | (with_reducible refine bel_set ?_ ?_ _; rotate_left; ((try simp); (try omega))))) hb5
        have hQ5 : Blk w5 (w.heap.size + 1 + 1) 41 #[.int .i64 0, .string ⟨#[]⟩, .string ⟨#[]⟩, .int .i64 0, .slice none 0 0, .slice none 0 0, .int .i64 0, .slice none 0 0, .int .i64 0, .bool false, .bool false] := HQ3.out.bel hV5
        have hBw5 : Below w.heap.size w w5 := bel_then hBV hV5
        have hpv6 := hpv5.mono (show w.heap.size + 3 ≤ _ by (have := hV3.size; omega))
        clear hpv5 hb5 p0 p1 p2 p3 p4 p5 p6 p7 p8 p9 p10 o0 o1 o2 o3 o4 o5 o6 o7 o8 o9 o10 q0 q1 q2 q3 q4 q5 q6 q7 q8 q9 q10 f0 f1 f2 f3 f4 f5 f6 f7 f8 f9 f10
        have q0 : w5.cell? ⟨(w.heap.size + 1 + 1), 0, none⟩ = some (.int .i64 0) := hQ5.cell 0
        have f0 : w5.frozen? ⟨(w.heap.size + 1 + 1), 0, none⟩ = false := hQ5.frozen 0
        have q1 : w5.cell? ⟨(w.heap.size + 1 + 1), 1, none⟩ = some (.string ⟨#[]⟩) := hQ5.cell 1
        have f1 : w5.frozen? ⟨(w.heap.size + 1 + 1), 1, none⟩ = false := hQ5.frozen 1
        have q2 : w5.cell? ⟨(w.heap.size + 1 + 1), 2, none⟩ = some (.string ⟨#[]⟩) := hQ5.cell 2
        have f2 : w5.frozen? ⟨(w.heap.size + 1 + 1), 2, none⟩ = false := hQ5.frozen 2
        have q3 : w5.cell? ⟨(w.heap.size + 1 + 1), 3, none⟩ = some (.int .i64 0) := hQ5.cell 3
        have f3 : w5.frozen? ⟨(w.heap.size + 1 + 1), 3, none⟩ = false := hQ5.frozen 3
        have q4 : w5.cell? ⟨(w.heap.size + 1 + 1), 4, none⟩ = some (.slice none 0 0) := hQ5.cell 4
        have f4 : w5.frozen? ⟨(w.heap.size + 1 + 1), 4, none⟩ = false := hQ5.frozen 4
        have q5 : w5.cell? ⟨(w.heap.size + 1 + 1), 5, none⟩ = some (.slice none 0 0) := hQ5.cell 5
        have f5 : w5.frozen? ⟨(w.heap.size + 1 + 1), 5, none⟩ = false := hQ5.frozen 5
        have q6 : w5.cell? ⟨(w.heap.size + 1 + 1), 6, none⟩ = some (.int .i64 0) := hQ5.cell 6
        have f6 : w5.frozen? ⟨(w.heap.size + 1 + 1), 6, none⟩ = false := hQ5.frozen 6
        have q7 : w5.cell? ⟨(w.heap.size + 1 + 1), 7, none⟩ = some (.slice none 0 0) := hQ5.cell 7
        have f7 : w5.frozen? ⟨(w.heap.size + 1 + 1), 7, none⟩ = false := hQ5.frozen 7
        have q8 : w5.cell? ⟨(w.heap.size + 1 + 1), 8, none⟩ = some (.int .i64 0) := hQ5.cell 8
        have f8 : w5.frozen? ⟨(w.heap.size + 1 + 1), 8, none⟩ = false := hQ5.frozen 8
        have q9 : w5.cell? ⟨(w.heap.size + 1 + 1), 9, none⟩ = some (.bool false) := hQ5.cell 9
        have f9 : w5.frozen? ⟨(w.heap.size + 1 + 1), 9, none⟩ = false := hQ5.frozen 9
        have q10 : w5.cell? ⟨(w.heap.size + 1 + 1), 10, none⟩ = some (.bool false) := hQ5.cell 10
        have f10 : w5.frozen? ⟨(w.heap.size + 1 + 1), 10, none⟩ = false := hQ5.frozen 10
        go_wp2_with fail
        refine sets_ret11 hQ5 rfl (fun W9 e9 hb9 => ?_)
        have c0 : W9.cell? ⟨(w.heap.size + 1 + 1), 0, none⟩ = some (.int .i64 id) := hb9.cell 0
        have c1 : W9.cell? ⟨(w.heap.size + 1 + 1), 1, none⟩ = some (.string site) := hb9.cell 1
        have c2 : W9.cell? ⟨(w.heap.size + 1 + 1), 2, none⟩ = some (.string top) := hb9.cell 2
        have c3 : W9.cell? ⟨(w.heap.size + 1 + 1), 3, none⟩ = some (.int .i64 ver) := hb9.cell 3
        have c4 : W9.cell? ⟨(w.heap.size + 1 + 1), 4, none⟩ = some (.slice D4 ld.length g4) := hb9.cell 4
        have c5 : W9.cell? ⟨(w.heap.size + 1 + 1), 5, none⟩ = some (.slice D5 mach.script.length g5) := hb9.cell 5
        have c6 : W9.cell? ⟨(w.heap.size + 1 + 1), 6, none⟩ = some (.int .i64 mach.pc) := hb9.cell 6
        have c7 : W9.cell? ⟨(w.heap.size + 1 + 1), 7, none⟩ = some (.slice D7 mach.regs.length g7) := hb9.cell 7
        have c8 : W9.cell? ⟨(w.heap.size + 1 + 1), 8, none⟩ = some (.int .i64 mach.steps) := hb9.cell 8
        have c9 : W9.cell? ⟨(w.heap.size + 1 + 1), 9, none⟩ = some (.bool mach.done) := hb9.cell 9
        have c10 : W9.cell? ⟨(w.heap.size + 1 + 1), 10, none⟩ = some (.bool mach.wait) := hb9.cell 10
        refine bodyPost_ret (v := .tuple #[.agg #[.int .i64 id, .string site, .string top, .int .i64 ver, .slice D4 ld.length g4, .slice D5 mach.script.length g5, .int .i64 mach.pc, .slice D7 mach.regs.length g7, .int .i64 mach.steps, .bool mach.done, .bool mach.wait], .bool false]) (by simp [results, Try.results18, go_sem, c0, c1, c2, c3, c4, c5, c6, c7, c8, c9, c10]) rfl ?_
        subst e9
        rw [show loadFile ⟨id, site, top, ver, ld, mach⟩ pa y = (⟨id, site, top, ver, ld, mach⟩, false) from by rw [HL.out, e1, e2, e3]; rfl]
        exact ⟨D4, g4, D5, g5, D7, g7, F5, rfl, (by repeat (first | with_reducible exact Below.refl _ _ | with_reducible assumption | with_reducible refine bel_alloc ?_ _ | with_reducible refine bel_drew ?_ | with_reducible refine bel_drewN ?_ _ | (with_reducible refine bel_set ?_ ?_ _; rotate_left; ((try simp); (try omega))))), (hpv6.keepB (by repeat (first | with_reducible exact Keep.refl _ _ | with_reducible assumption | with_reducible refine Keep.alloc ?_ _ | with_reducible refine Keep.drew ?_ | with_reducible refine Keep.drewN ?_ _ | (with_reducible refine Keep.set_ ?_ ?_ _; rotate_left; ((try simp); (try omega)))))).mono (by omega)⟩
      ·
        cases e4 : (isPage ⟨id, site, top, ver, ld2, mach⟩)
        · go_wp2_with (first | (go_at_call 72; refine (specIsPage_any _ ⟨id, site, top, ver, ld, mach⟩ _ _ (by exact Cod.bel HX.out (bel_then hBV (by repeat (first | with_reducible exact Below.refl _ _ | with_reducible assumption | with_reducible refine bel_alloc ?_ _ | with_reducible refine bel_drew ?_ | with_reducible refine bel_drewN ?_ _ | (with_reducible refine bel_set ?_ ?_ _; rotate_left; ((try simp); (try omega))))))) (by omega)).mono ?_; rw [e3]; rintro e w3 ⟨rfl, hb3⟩; have hV3 : Below V.heap.size V w3 := bel_then (by repeat (first | with_reducible exact Below.refl _ _ | with_reducible assumption | with_reducible refine bel_alloc ?_ _ | with_reducible refine bel_drew ?_ | with_reducible refine bel_drewN ?_ _ | (with_reducible refine bel_set ?_ ?_ _; rotate_left; ((try simp); (try omega))))) hb3; obtain ⟨hc3, hf3, -⟩ := bcell hV3; clear hb3) | (go_at_call 72; refine (specIsPage_any _ ⟨id, site, top, ver, ld2, mach⟩ _ _ (by exact Cod.bel HR2.out (by repeat (first | with_reducible exact Below.refl _ _ | with_reducible assumption | with_reducible refine bel_alloc ?_ _ | with_reducible refine bel_drew ?_ | with_reducible refine bel_drewN ?_ _ | (with_reducible refine bel_set ?_ ?_ _; rotate_left; ((try simp); (try omega)))))) (by omega)).mono ?_; rw [e4]; rintro e w4 ⟨rfl, hb4⟩; have hV4 : Below V.heap.size V w4 := bel_then (by repeat (first | with_reducible exact Below.refl _ _ | with_reducible assumption | with_reducible refine bel_alloc ?_ _ | with_reducible refine bel_drew ?_ | with_reducible refine bel_drewN ?_ _ | (with_reducible refine bel_set ?_ ?_ _; rotate_left; ((try simp); (try omega))))) hb4; obtain ⟨hc4, hf4, -⟩ := bcell hV4; clear hb4))
          refine (specCopyPage_any _ ⟨id, site, top, ver, ld, mach⟩ _ _ (by exact Cod.bel HX.out (bel_then hBV (by repeat (first | with_reducible exact Below.refl _ _ | with_reducible assumption | with_reducible refine bel_alloc ?_ _ | with_reducible refine bel_drew ?_ | with_reducible refine bel_drewN ?_ _ | (with_reducible refine bel_set ?_ ?_ _; rotate_left; ((try simp); (try omega))))))) (by omega)).mono ?_
          rintro e w5 ⟨D4, g4, D5, g5, D7, g7, F5, rfl, hb5, hpv5⟩
          simp only at hpv5 ⊢
          have hV5 : Below V.heap.size V w5 := bel_then (by repeat (first | with_reducible exact Below.refl _ _ | with_reducible assumption | with_reducible refine bel_alloc ?_ _ | with_reducible refine bel_drew ?_ | with_reducible refine bel_drewN ?_ _ | (with_reducible refine bel_set ?_ ?_ _; rotate_left; ((try simp); (try omega))))) hb5
          have hQ5 : Blk w5 (w.heap.size + 1 + 1) 41 #[.int .i64 0, .string ⟨#[]⟩, .string ⟨#[]⟩, .int .i64 0, .slice none 0 0, .slice none 0 0, .int .i64 0, .slice none 0 0, .int .i64 0, .bool false, .bool false] := HQ3.out.bel hV5
          have hBw5 : Below w.heap.size w w5 := bel_then hBV hV5
          have hpv6 := hpv5.mono (show w.heap.size + 3 ≤ _ by (have := hV4.size; omega))
          clear hpv5 hb5 p0 p1 p2 p3 p4 p5 p6 p7 p8 p9 p10 o0 o1 o2 o3 o4 o5 o6 o7 o8 o9 o10 q0 q1 q2 q3 q4 q5 q6 q7 q8 q9 q10 f0 f1 f2 f3 f4 f5 f6 f7 f8 f9 f10
          have q0 : w5.cell? ⟨(w.heap.size + 1 + 1), 0, none⟩ = some (.int .i64 0) := hQ5.cell 0
          have f0 : w5.frozen? ⟨(w.heap.size + 1 + 1), 0, none⟩ = false := hQ5.frozen 0
          have q1 : w5.cell? ⟨(w.heap.size + 1 + 1), 1, none⟩ = some (.string ⟨#[]⟩) := hQ5.cell 1
          have f1 : w5.frozen? ⟨(w.heap.size + 1 + 1), 1, none⟩ = false := hQ5.frozen 1
          have q2 : w5.cell? ⟨(w.heap.size + 1 + 1), 2, none⟩ = some (.string ⟨#[]⟩) := hQ5.cell 2
          have f2 : w5.frozen? ⟨(w.heap.size + 1 + 1), 2, none⟩ = false := hQ5.frozen 2
          have q3 : w5.cell? ⟨(w.heap.size + 1 + 1), 3, none⟩ = some (.int .i64 0) := hQ5.cell 3
          have f3 : w5.frozen? ⟨(w.heap.size + 1 + 1), 3, none⟩ = false := hQ5.frozen 3
          have q4 : w5.cell? ⟨(w.heap.size + 1 + 1), 4, none⟩ = some (.slice none 0 0) := hQ5.cell 4
          have f4 : w5.frozen? ⟨(w.heap.size + 1 + 1), 4, none⟩ = false := hQ5.frozen 4
          have q5 : w5.cell? ⟨(w.heap.size + 1 + 1), 5, none⟩ = some (.slice none 0 0) := hQ5.cell 5
          have f5 : w5.frozen? ⟨(w.heap.size + 1 + 1), 5, none⟩ = false := hQ5.frozen 5
          have q6 : w5.cell? ⟨(w.heap.size + 1 + 1), 6, none⟩ = some (.int .i64 0) := hQ5.cell 6
          have f6 : w5.frozen? ⟨(w.heap.size + 1 + 1), 6, none⟩ = false := hQ5.frozen 6
          have q7 : w5.cell? ⟨(w.heap.size + 1 + 1), 7, none⟩ = some (.slice none 0 0) := hQ5.cell 7
          have f7 : w5.frozen? ⟨(w.heap.size + 1 + 1), 7, none⟩ = false := hQ5.frozen 7
          have q8 : w5.cell? ⟨(w.heap.size + 1 + 1), 8, none⟩ = some (.int .i64 0) := hQ5.cell 8
          have f8 : w5.frozen? ⟨(w.heap.size + 1 + 1), 8, none⟩ = false := hQ5.frozen 8
          have q9 : w5.cell? ⟨(w.heap.size + 1 + 1), 9, none⟩ = some (.bool false) := hQ5.cell 9
          have f9 : w5.frozen? ⟨(w.heap.size + 1 + 1), 9, none⟩ = false := hQ5.frozen 9
          have q10 : w5.cell? ⟨(w.heap.size + 1 + 1), 10, none⟩ = some (.bool false) := hQ5.cell 10
          have f10 : w5.frozen? ⟨(w.heap.size + 1 + 1), 10, none⟩ = false := hQ5.frozen 10
          go_wp2_with fail
          refine sets_ret11 hQ5 rfl (fun W9 e9 hb9 => ?_)
          have c0 : W9.cell? ⟨(w.heap.size + 1 + 1), 0, none⟩ = some (.int .i64 id) := hb9.cell 0
          have c1 : W9.cell? ⟨(w.heap.size + 1 + 1), 1, none⟩ = some (.string site) := hb9.cell 1
          have c2 : W9.cell? ⟨(w.heap.size + 1 + 1), 2, none⟩ = some (.string top) := hb9.cell 2
          have c3 : W9.cell? ⟨(w.heap.size + 1 + 1), 3, none⟩ = some (.int .i64 ver) := hb9.cell 3
          have c4 : W9.cell? ⟨(w.heap.size + 1 + 1), 4, none⟩ = some (.slice D4 ld.length g4) := hb9.cell 4
          have c5 : W9.cell? ⟨(w.heap.size + 1 + 1), 5, none⟩ = some (.slice D5 mach.script.length g5) := hb9.cell 5
          have c6 : W9.cell? ⟨(w.heap.size + 1 + 1), 6, none⟩ = some (.int .i64 mach.pc) := hb9.cell 6
          have c7 : W9.cell? ⟨(w.heap.size + 1 + 1), 7, none⟩ = some (.slice D7 mach.regs.length g7) := hb9.cell 7
          have c8 : W9.cell? ⟨(w.heap.size + 1 + 1), 8, none⟩ = some (.int .i64 mach.steps) := hb9.cell 8
          have c9 : W9.cell? ⟨(w.heap.size + 1 + 1), 9, none⟩ = some (.bool mach.done) := hb9.cell 9
          have c10 : W9.cell? ⟨(w.heap.size + 1 + 1), 10, none⟩ = some (.bool mach.wait) := hb9.cell 10
          refine bodyPost_ret (v := .tuple #[.agg #[.int .i64 id, .string site, .string top, .int .i64 ver, .slice D4 ld.length g4, .slice D5 mach.script.length g5, .int .i64 mach.pc, .slice D7 mach.regs.length g7, .int .i64 mach.steps, .bool mach.done, .bool mach.wait], .bool false]) (by simp [results, Try.results18, go_sem, c0, c1, c2, c3, c4, c5, c6, c7, c8, c9, c10]) rfl ?_
          subst e9
          rw [show loadFile ⟨id, site, top, ver, ld, mach⟩ pa y = (⟨id, site, top, ver, ld, mach⟩, false) from by rw [HL.out, e1, e2, e3, e4]; rfl]
          exact ⟨D4, g4, D5, g5, D7, g7, F5, rfl, (by repeat (first | with_reducible exact Below.refl _ _ | with_reducible assumption | with_reducible refine bel_alloc ?_ _ | with_reducible refine bel_drew ?_ | with_reducible refine bel_drewN ?_ _ | (with_reducible refine bel_set ?_ ?_ _; rotate_left; ((try simp); (try omega))))), (hpv6.keepB (by repeat (first | with_reducible exact Keep.refl _ _ | with_reducible assumption | with_reducible refine Keep.alloc ?_ _ | with_reducible refine Keep.drew ?_ | with_reducible refine Keep.drewN ?_ _ | (with_reducible refine Keep.set_ ?_ ?_ _; rotate_left; ((try simp); (try omega)))))).mono (by omega)⟩
        ·
          go_wp2_with (first | (go_at_call 72; refine (specIsPage_any _ ⟨id, site, top, ver, ld, mach⟩ _ _ (by exact Cod.bel HX.out (bel_then hBV (by repeat (first | with_reducible exact Below.refl _ _ | with_reducible assumption | with_reducible refine bel_alloc ?_ _ | with_reducible refine bel_drew ?_ | with_reducible refine bel_drewN ?_ _ | (with_reducible refine bel_set ?_ ?_ _; rotate_left; ((try simp); (try omega))))))) (by omega)).mono ?_; rw [e3]; rintro e w3 ⟨rfl, hb3⟩; have hV3 : Below V.heap.size V w3 := bel_then (by repeat (first | with_reducible exact Below.refl _ _ | with_reducible assumption | with_reducible refine bel_alloc ?_ _ | with_reducible refine bel_drew ?_ | with_reducible refine bel_drewN ?_ _ | (with_reducible refine bel_set ?_ ?_ _; rotate_left; ((try simp); (try omega))))) hb3; obtain ⟨hc3, hf3, -⟩ := bcell hV3; clear hb3) | (go_at_call 72; refine (specIsPage_any _ ⟨id, site, top, ver, ld2, mach⟩ _ _ (by exact Cod.bel HR2.out (by repeat (first | with_reducible exact Below.refl _ _ | with_reducible assumption | with_reducible refine bel_alloc ?_ _ | with_reducible refine bel_drew ?_ | with_reducible refine bel_drewN ?_ _ | (with_reducible refine bel_set ?_ ?_ _; rotate_left; ((try simp); (try omega)))))) (by omega)).mono ?_; rw [e4]; rintro e w4 ⟨rfl, hb4⟩; have hV4 : Below V.heap.size V w4 := bel_then (by repeat (first | with_reducible exact Below.refl _ _ | with_reducible assumption | with_reducible refine bel_alloc ?_ _ | with_reducible refine bel_drew ?_ | with_reducible refine bel_drewN ?_ _ | (with_reducible refine bel_set ?_ ?_ _; rotate_left; ((try simp); (try omega))))) hb4; obtain ⟨hc4, hf4, -⟩ := bcell hV4; clear hb4))
          have hQ5 := HQ3.out.bel hV4
          have hBw4 : Below w.heap.size w w4 := bel_then hBV hV4
          refine sets_ret11 hQ5 rfl (fun W9 e9 hb9 => ?_)
          have c0 : W9.cell? ⟨(w.heap.size + 1 + 1), 0, none⟩ = some (.int .i64 id) := hb9.cell 0
          have c1 : W9.cell? ⟨(w.heap.size + 1 + 1), 1, none⟩ = some (.string site) := hb9.cell 1
          have c2 : W9.cell? ⟨(w.heap.size + 1 + 1), 2, none⟩ = some (.string top) := hb9.cell 2
          have c3 : W9.cell? ⟨(w.heap.size + 1 + 1), 3, none⟩ = some (.int .i64 ver) := hb9.cell 3
          have c4 : W9.cell? ⟨(w.heap.size + 1 + 1), 4, none⟩ = some (.slice B2 ld2.length d2) := hb9.cell 4
          have c5 : W9.cell? ⟨(w.heap.size + 1 + 1), 5, none⟩ = some (.slice B5 mach.script.length d5) := hb9.cell 5
          have c6 : W9.cell? ⟨(w.heap.size + 1 + 1), 6, none⟩ = some (.int .i64 mach.pc) := hb9.cell 6
          have c7 : W9.cell? ⟨(w.heap.size + 1 + 1), 7, none⟩ = some (.slice B7 mach.regs.length d7) := hb9.cell 7
          have c8 : W9.cell? ⟨(w.heap.size + 1 + 1), 8, none⟩ = some (.int .i64 mach.steps) := hb9.cell 8
          have c9 : W9.cell? ⟨(w.heap.size + 1 + 1), 9, none⟩ = some (.bool mach.done) := hb9.cell 9
          have c10 : W9.cell? ⟨(w.heap.size + 1 + 1), 10, none⟩ = some (.bool mach.wait) := hb9.cell 10
          refine bodyPost_ret (v := .tuple #[.agg #[.int .i64 id, .string site, .string top, .int .i64 ver, .slice B2 ld2.length d2, .slice B5 mach.script.length d5, .int .i64 mach.pc, .slice B7 mach.regs.length d7, .int .i64 mach.steps, .bool mach.done, .bool mach.wait], .bool true]) (by simp [results, Try.results18, go_sem, c0, c1, c2, c3, c4, c5, c6, c7, c8, c9, c10]) rfl ?_
          subst e9
          rw [show loadFile ⟨id, site, top, ver, ld, mach⟩ pa y = (⟨id, site, top, ver, ld2, mach⟩, true) from by rw [HL.out, e1, e2, e3, e4]; rfl]
          exact ⟨B2, d2, B5, d5, B7, d7, F2, rfl, (by repeat (first | with_reducible exact Below.refl _ _ | with_reducible assumption | with_reducible refine bel_alloc ?_ _ | with_reducible refine bel_drew ?_ | with_reducible refine bel_drewN ?_ _ | (with_reducible refine bel_set ?_ ?_ _; rotate_left; ((try simp); (try omega))))), ((HPV3.out.bel hV4).keepB (by repeat (first | with_reducible exact Keep.refl _ _ | with_reducible assumption | with_reducible refine Keep.alloc ?_ _ | with_reducible refine Keep.drew ?_ | with_reducible refine Keep.drewN ?_ _ | (with_reducible refine Keep.set_ ?_ ?_ _; rotate_left; ((try simp); (try omega)))))).mono (by omega)⟩
end Go.Proofs.Ytlicnppfgfjkgaa
