/-
  DrawServesVersion, DrawBodyOf, DrawServeFile of the reference. No conditions but the input's length.
-/
import Derived.Test.YtlicnppfgfjkgaaZDrawSite2
namespace Go.Proofs.Ytlicnppfgfjkgaa
open Go.ChangeShapes Go.WideShapes Go.RowKit
set_option linter.unusedVariables false

/-- a site and a number drawn -/
def SiteAnd (w : World) (f : Value → Int → Value) (e : Ending) (w' : World) : Prop := ∃ (x : TSite) (v2 : Value) (n : Int) (G : List Nat), e = .returned (f (.agg #[.string x.name, .int .i64 x.ver, v2, .bool x.shared]) n) ∧ Below w.heap.size w w' ∧ cStS.rep w' [v2] x.files G ∧ Fresh w.heap.size G ∧ SmallSite x ∧ -3 ≤ n ∧ n ≤ 1000000000003
set_option maxRecDepth 100000 in
set_option maxHeartbeats 8000000 in
theorem drawServesVersion_any (v : Value) (xs : List UInt8) (F : List Nat) (w : World) (h : cUS.rep w [v] xs F) (hn : xs.length ≤ 1048576) :
    Calls Try.prog 130 #[v] w (SiteAnd w fun s n => .tuple #[s, .int .i64 n]) := by
  go_enter Try.func130, Try.ntmps130
  go_wp2_with fail
  refine (l1New_any v xs _ _ (by exact Cod.bel h (by repeat (first | with_reducible exact Below.refl _ _ | with_reducible assumption | with_reducible refine bel_alloc ?_ _ | with_reducible refine bel_drew ?_ | with_reducible refine bel_drewN ?_ _ | (with_reducible refine bel_set ?_ ?_ _; rotate_left; ((try simp); (try omega)))))) hn).mono ?_
  rintro e w1 ⟨rfl, hb1, hc1⟩
  (try simp at hc1)
  have hz1 := hb1.size
  (try simp at hz1)
  have hB1 : Below w.heap.size w w1 := bel_then (by repeat (first | with_reducible exact Below.refl _ _ | with_reducible assumption | with_reducible refine bel_alloc ?_ _ | with_reducible refine bel_drew ?_ | with_reducible refine bel_drewN ?_ _ | (with_reducible refine bel_set ?_ ?_ _; rotate_left; ((try simp); (try omega))))) hb1
  have hpl := hc1.lt
  have hq1 : SiteBox w1 w.heap.size ⟨#[]⟩ 0 (.slice none 0 0) false := (SiteBox.new w _ ⟨#[]⟩ 0 (.slice none 0 0) false).block (hb1.block w.heap.size (by simp))
  have HQ1 := Lib.hid hq1
  clear hb1 hq1
  go_wp2_with fail
  refine (l16Any_any (w.heap.size + 1) _ (by exact hc1)).mono ?_
  rintro e w2 ⟨v2, rfl, ⟨x, u2, rfl, hown, hsm⟩, ho2, hc2⟩
  have hB2 : Below w.heap.size w w2 := hB1.trans (ho2.bel w.heap.size hB1.size (fun y hy => by simp at hy; omega))
  have hz2 := ho2.size
  have hq2 := HQ1.out.block (ho2.block w.heap.size (by omega) (by simp))
  obtain ⟨nm, ver, fs, sh⟩ := x
  simp only at hown ⊢
  obtain ⟨A2, cp2, e2⟩ := hown.slice
  subst e2
  have hvr := hsm.2.1
  simp only at hvr
  have H2 := Lib.hid (And.intro hq2 (And.intro hown (And.intro hsm hc2)))
  clear hq2 hown hsm ho2 HQ1 hc2 hc1
  go_upto_region 3 with (fail)
  generalize hW : World.alloc w2 _ = W
  have hWs : W.heap.size = w2.heap.size + 1 := by rw [← hW]; clear hW; simp
  have hbW : Below w2.heap.size w2 W := by rw [← hW]; exact bel_alloc (Below.refl _ _) _
  have hcW : Cur W (w.heap.size + 1) := H2.out.2.2.2.bel hbW
  have hBW : Below w.heap.size w W := bel_then hB2 hbW
  have hx : SiteBox W w2.heap.size nm ver (.slice A2 fs.length cp2) sh := by rw [← hW]; exact SiteBox.new w2 _ _ _ _ _
  have HX := Lib.hid hx
  have HQ := Lib.hid (H2.out.1.block (hbW.block w.heap.size (by omega)))
  have HOW := Lib.hid (H2.out.2.1.bel hbW)
  have HSM := Lib.hid H2.out.2.2.1
  clear hW hx H2
  have hS : ∀ w9, Only [w.heap.size + 1] W w9 → w9.cell? ⟨w2.heap.size, 0, none⟩ = some (.string nm) ∧ w9.cell? ⟨w2.heap.size, 1, none⟩ = some (.int .i64 ver) ∧ w9.cell? ⟨w2.heap.size, 2, none⟩ = some (.slice A2 fs.length cp2) ∧ w9.cell? ⟨w2.heap.size, 3, none⟩ = some (.bool sh) :=
    fun w9 hb => by
      have hk := HX.out.block (hb.block w2.heap.size (by omega) (by simp; omega))
      exact ⟨hk.c0, hk.c1, hk.c2, hk.c3⟩
  have hn1 : ¬ w2.heap.size = w.heap.size := by omega
  have hn2 : ¬ w.heap.size = w2.heap.size := by omega
  refine wp_region_held_drew (S := (fun w9 => w9.cell? ⟨w2.heap.size, 0, none⟩ = some (.string nm) ∧ w9.cell? ⟨w2.heap.size, 1, none⟩ = some (.int .i64 ver) ∧ w9.cell? ⟨w2.heap.size, 2, none⟩ = some (.slice A2 fs.length cp2) ∧ w9.cell? ⟨w2.heap.size, 3, none⟩ = some (.bool sh))) (by kernel_rfl) (by (try dsimp only); (first | (refine ⟨?_, ?_, ?_, ?_⟩ <;> (go_simp; done)) | exact hS _ (by repeat (first | with_reducible exact Only.refl _ _ | with_reducible assumption | with_reducible refine Only.alloc ?_ _ | with_reducible refine Only.drew ?_ | with_reducible refine Only.drewN ?_ _ | (with_reducible refine Only.setNew ?_ ?_ _; rotate_left; ((try simp); (try omega))))))) (fun hHeld => ?_)
  refine take_read (i := 0) 10 (v := ?v0) rfl rfl (by kernel_rfl) (by kernel_rfl) (by kernel_rfl) (fun _ _ _ h => h) (by rfl) ?hy0 (by assumption) ?rest0
  case hy0 => (intro w hSw; (try dsimp only at hSw); go_simp; (try with_reducible rfl))
  try simp only [Act.put, List.setIfInBounds_toArray, List.set_cons_zero, List.set_cons_succ]
  refine take_read (i := 1) 11 (v := ?v1) rfl rfl (by kernel_rfl) (by kernel_rfl) (by kernel_rfl) (fun _ _ _ h => h) (by rfl) ?hy1 (by assumption) ?rest1
  case hy1 => (intro w hSw; (try dsimp only at hSw); go_simp; (try with_reducible rfl))
  try simp only [Act.put, List.setIfInBounds_toArray, List.set_cons_zero, List.set_cons_succ]
  refine take_read (i := 2) 12 (v := ?v2) rfl rfl (by kernel_rfl) (by kernel_rfl) (by kernel_rfl) (fun _ _ _ h => h) (by rfl) ?hy2 (by assumption) ?rest2
  case hy2 => (intro w hSw; (try dsimp only at hSw); go_simp; (try with_reducible rfl))
  try simp only [Act.put, List.setIfInBounds_toArray, List.set_cons_zero, List.set_cons_succ]
  refine take_read (i := 3) 13 (v := ?v3) rfl rfl (by kernel_rfl) (by kernel_rfl) (by kernel_rfl) (fun _ _ _ h => h) (by rfl) ?hy3 (by assumption) ?rest3
  case hy3 => (intro w hSw; (try dsimp only at hSw); go_simp; (try with_reducible rfl))
  try simp only [Act.put, List.setIfInBounds_toArray, List.set_cons_zero, List.set_cons_succ]
  refine wpAnyH_ready (rs := [4]) (by kernel_rfl) (by simp) ?_
  refine AllReadyH.cons rfl (fun K hK => ?_) AllReadyH.nil
  go_simp
  (go_at_call 68; refine (l1Below_any (w.heap.size + 1) 4 _ (by repeat (first | with_reducible assumption | with_reducible refine Cur.alloc ?_ _ | with_reducible refine Cur.drew ?_ | with_reducible refine Cur.drewN ?_ _ | (with_reducible refine Cur.set ?_ ?_ _; rotate_left; ((try simp); (try omega))))) (by omega)).mono ?_; rintro e w3 ⟨u, rfl, ⟨r, rfl, hr0, hr1⟩, ho3, hc3⟩; have hoW3 : Only [w.heap.size + 1] W w3 := (show Only [w.heap.size + 1] W _ from (by repeat (first | with_reducible exact Only.refl _ _ | with_reducible assumption | with_reducible refine Only.alloc ?_ _ | with_reducible refine Only.drew ?_ | with_reducible refine Only.drewN ?_ _ | (with_reducible refine Only.setNew ?_ ?_ _; rotate_left; ((try simp); (try omega)))))).trans ho3; have hB3 : Below w.heap.size w w3 := hBW.trans (hoW3.bel w.heap.size hBW.size (fun y hy => by simp at hy; omega)); have hq3 := HQ.out.block (hoW3.block w.heap.size (by omega) (by simp)); have HOW3 := Lib.hid (HOW.out.turn (Turn.mk hoW3) hpl); have y0 := hq3.c0; have y1 := hq3.c1; have y2 := hq3.c2; have y3 := hq3.c3; have x0 := hq3.fz 0; have x1 := hq3.fz 1; have x2 := hq3.fz 2; have x3 := hq3.fz 3; have hw1 : IntKind.i64.wrap (ver + r) = ver + r := IntWalk.i64_in _ (by omega); have hw2 : IntKind.i64.wrap (ver + r - 2) = ver + r - 2 := IntWalk.i64_in _ (by omega); clear hq3)
  try go_wp2_with fail
  refine hK.out _ _ ?_ (fun hHeld => ?_)
  · (try dsimp only)
    (first | (refine ⟨?_, ?_, ?_, ?_⟩ <;> (go_simp; done)) | exact hS _ (by repeat (first | with_reducible exact Only.refl _ _ | with_reducible assumption | with_reducible refine Only.alloc ?_ _ | with_reducible refine Only.drew ?_ | with_reducible refine Only.drewN ?_ _ | (with_reducible refine Only.setNew ?_ ?_ _; rotate_left; ((try simp); (try omega))))))
  clear hK K
  try simp only [Act.put, List.setIfInBounds_toArray, List.set_cons_zero, List.set_cons_succ]
  refine take_read (i := 5) 15 (v := ?v5) rfl rfl (by kernel_rfl) (by kernel_rfl) (by kernel_rfl) (fun _ _ _ h => h) (by rfl) ?hy5 (by assumption) ?rest5
  case hy5 => (intro w hSw; (try dsimp only at hSw); go_simp; (try with_reducible rfl))
  try simp only [Act.put, List.setIfInBounds_toArray, List.set_cons_zero, List.set_cons_succ]
  refine take_read (i := 6) 16 (v := ?v6) rfl rfl (by kernel_rfl) (by kernel_rfl) (by kernel_rfl) (fun _ _ _ h => h) (by rfl) ?hy6 (by assumption) ?rest6
  case hy6 => (intro w hSw; (try dsimp only at hSw); go_simp; (try with_reducible rfl))
  try simp only [Act.put, List.setIfInBounds_toArray, List.set_cons_zero, List.set_cons_succ]
  refine wpAnyH_ready (rs := [7]) (by kernel_rfl) (by simp) ?_
  refine AllReadyH.cons rfl (fun K hK => ?_) AllReadyH.nil
  first | (go_at_call 68; refine (l1Below_any (w.heap.size + 1) 4 _ (by repeat (first | with_reducible assumption | with_reducible refine Cur.alloc ?_ _ | with_reducible refine Cur.drew ?_ | with_reducible refine Cur.drewN ?_ _ | (with_reducible refine Cur.set ?_ ?_ _; rotate_left; ((try simp); (try omega))))) (by omega)).mono ?_; rintro e w3 ⟨u, rfl, ⟨r, rfl, hr0, hr1⟩, ho3, hc3⟩; have hoW3 : Only [w.heap.size + 1] W w3 := (show Only [w.heap.size + 1] W _ from (by repeat (first | with_reducible exact Only.refl _ _ | with_reducible assumption | with_reducible refine Only.alloc ?_ _ | with_reducible refine Only.drew ?_ | with_reducible refine Only.drewN ?_ _ | (with_reducible refine Only.setNew ?_ ?_ _; rotate_left; ((try simp); (try omega)))))).trans ho3; have hB3 : Below w.heap.size w w3 := hBW.trans (hoW3.bel w.heap.size hBW.size (fun y hy => by simp at hy; omega)); have hq3 := HQ.out.block (hoW3.block w.heap.size (by omega) (by simp)); have HOW3 := Lib.hid (HOW.out.turn (Turn.mk hoW3) hpl); have y0 := hq3.c0; have y1 := hq3.c1; have y2 := hq3.c2; have y3 := hq3.c3; have x0 := hq3.fz 0; have x1 := hq3.fz 1; have x2 := hq3.fz 2; have x3 := hq3.fz 3; have hw1 : IntKind.i64.wrap (ver + r) = ver + r := IntWalk.i64_in _ (by omega); have hw2 : IntKind.i64.wrap (ver + r - 2) = ver + r - 2 := IntWalk.i64_in _ (by omega); clear hq3) | go_simp
  refine hK.out _ _ ?_ (fun hHeld => ?_)
  · (try dsimp only)
    (first | (refine ⟨?_, ?_, ?_, ?_⟩ <;> (go_simp; done)) | exact hS _ (by repeat (first | with_reducible exact Only.refl _ _ | with_reducible assumption | with_reducible refine Only.alloc ?_ _ | with_reducible refine Only.drew ?_ | with_reducible refine Only.drewN ?_ _ | (with_reducible refine Only.setNew ?_ ?_ _; rotate_left; ((try simp); (try omega))))))
  clear hK K
  try simp only [Act.put, List.setIfInBounds_toArray, List.set_cons_zero, List.set_cons_succ]
  refine take_read (i := 8) 3 (v := ?v8) rfl rfl (by kernel_rfl) (by kernel_rfl) (by kernel_rfl) (fun _ _ _ h => h) (by rfl) ?hy8 (by assumption) ?rest8
  case hy8 => (intro w hSw; (try dsimp only at hSw); go_simp; (try with_reducible rfl))
  try simp only [Act.put, List.setIfInBounds_toArray, List.set_cons_zero, List.set_cons_succ]
  refine wpAnyH_done (by kernel_rfl) ?_ _
  go_wp2_with fail
  refine sets_ret4 (a' := .string ⟨#[]⟩) (b' := .int .i64 0) (c' := .slice none 0 0) (d' := .bool false) w.heap.size y0 y1 y2 y3 (fun W9 e9 c0 c1 c2 c3 => ?_)
  refine bodyPost_ret (v := .tuple #[.agg #[.string nm, .int .i64 ver, .slice A2 fs.length cp2, .bool sh], .int .i64 (ver + r - 2)]) (by simp [results, Try.results130, go_sem, c0, c1, c2, c3]) rfl ?_
  clear c0 c1 c2 c3
  subst e9
  obtain ⟨G, hr, hf, -⟩ := HOW3.out.fresh (hw := by decide) (hw2 := by decide)
  replace hr : cStS.rep w3 [.slice A2 fs.length cp2] fs G := hr
  have hlo := hf.1
  exact ⟨⟨nm, ver, fs, sh⟩, _, _, G, rfl, (by repeat (first | with_reducible exact Below.refl _ _ | with_reducible assumption | with_reducible refine bel_alloc ?_ _ | with_reducible refine bel_drew ?_ | with_reducible refine bel_drewN ?_ _ | (with_reducible refine bel_set ?_ ?_ _; rotate_left; ((try simp); (try omega))))), (by show cStS.rep _ [_] fs G; exact (by repeat (first | with_reducible exact hr | with_reducible refine Cod.allocA ?_ _ | with_reducible refine Cod.drewA ?_ | with_reducible refine Cod.drewNA ?_ _ | ((with_reducible refine Cod.setA ?_ ?_ _); rotate_left; ((intro hm9; have hm8 := hlo _ hm9; (try simp at hm8); (try omega))))))), hf.mono (by omega), HSM.out, by omega, by omega⟩
/-- a site, a path and a number drawn -/
def SitePath (w : World) (e : Ending) (w' : World) : Prop := ∃ (x : TSite) (pa : ByteArray) (v2 : Value) (n : Int) (G : List Nat), e = .returned (.tuple #[.agg #[.string x.name, .int .i64 x.ver, v2, .bool x.shared], .string pa, .int .i64 n]) ∧ Below w.heap.size w w' ∧ cStS.rep w' [v2] x.files G ∧ Fresh w.heap.size G ∧ SmallSite x ∧ pa.size ≤ 100 ∧ -3 ≤ n ∧ n ≤ 1000000000003
set_option maxRecDepth 100000 in
set_option maxHeartbeats 8000000 in
theorem drawBodyOf_any (v : Value) (xs : List UInt8) (F : List Nat) (w : World) (h : cUS.rep w [v] xs F) (hn : xs.length ≤ 1048576) :
    Calls Try.prog 76 #[v] w (SitePath w) := by
  go_enter Try.func76, Try.ntmps76
  go_wp2_with fail
  refine (drawServesVersion_any v xs _ _ (by exact Cod.bel h (by repeat (first | with_reducible exact Below.refl _ _ | with_reducible assumption | with_reducible refine bel_alloc ?_ _ | with_reducible refine bel_drew ?_ | with_reducible refine bel_drewN ?_ _ | (with_reducible refine bel_set ?_ ?_ _; rotate_left; ((try simp); (try omega)))))) hn).mono ?_
  rintro e w1 ⟨x, v2, n, G, rfl, hb1, hr1, hf1, hsm, hn0, hn1⟩
  obtain ⟨nm, ver, fs, sh⟩ := x
  simp only at hr1 ⊢
  obtain ⟨A2, cp2, rfl⟩ := cL_form hr1
  have hz1 := hb1.size
  (try simp at hz1)
  have hB1 : Below w.heap.size w w1 := bel_then (by repeat (first | with_reducible exact Below.refl _ _ | with_reducible assumption | with_reducible refine bel_alloc ?_ _ | with_reducible refine bel_drew ?_ | with_reducible refine bel_drewN ?_ _ | (with_reducible refine bel_set ?_ ?_ _; rotate_left; ((try simp); (try omega))))) hb1
  have HQ1 := Lib.hid ((SiteBox.new w 59 ⟨#[]⟩ 0 (.slice none 0 0) false).block (hb1.block w.heap.size (by simp)))
  have HR1 := Lib.hid (And.intro hr1 (And.intro hf1 hsm))
  clear hb1 hr1 hf1 hsm
  go_upto_region 2 with (fail)
  generalize hW : World.alloc w1 _ = w2
  have hbW : Below w1.heap.size w1 w2 := by rw [← hW]; exact bel_alloc (Below.refl _ _) _
  have hz2 : w2.heap.size = w1.heap.size + 1 := by rw [← hW]; clear hW; simp
  have HX := Lib.hid (show SiteBox w2 w1.heap.size nm ver (.slice A2 fs.length cp2) sh from by rw [← hW]; exact SiteBox.new w1 _ _ _ _ _)
  have hB2 : Below w.heap.size w w2 := bel_then hB1 hbW
  have HQ2 := Lib.hid (HQ1.out.block (hbW.block w.heap.size (by omega)))
  have HR2 := Lib.hid (Cod.bel HR1.out.1 hbW)
  clear hW hbW HQ1
  go_wp2_with fail
  refine (l1New_any v xs _ _ (by exact Cod.bel h hB2) hn).mono ?_
  rintro e w3 ⟨rfl, hb3, hc3⟩
  have hz3 := hb3.size
  have hpl := hc3.lt
  have hB3 : Below w.heap.size w w3 := bel_then hB2 hb3
  have HX3 := Lib.hid (HX.out.block (hb3.block w1.heap.size (by omega)))
  have HQ3 := Lib.hid (HQ2.out.block (hb3.block w.heap.size (by omega)))
  have HR3 := Lib.hid (Cod.bel HR2.out hb3)
  clear hb3 HX HQ2 HR2
  rw [hz2] at hc3 hpl hz3 ⊢
  clear hz2
  have hS : ∀ w9, Only [w1.heap.size + 1] w3 w9 → w9.cell? ⟨w1.heap.size, 0, none⟩ = some (.string nm) ∧ w9.cell? ⟨w1.heap.size, 1, none⟩ = some (.int .i64 ver) ∧ w9.cell? ⟨w1.heap.size, 2, none⟩ = some (.slice A2 fs.length cp2) ∧ w9.cell? ⟨w1.heap.size, 3, none⟩ = some (.bool sh) :=
    fun w9 hb => by
      have hk := HX3.out.block (hb.block w1.heap.size (by omega) (by simp))
      exact ⟨hk.c0, hk.c1, hk.c2, hk.c3⟩
  have hn1 : ¬ w1.heap.size = w.heap.size := by omega
  have hn2 : ¬ w.heap.size = w1.heap.size := by omega
  go_upto_region 3 with (fail)
  refine wp_region_held_drew (S := (fun w9 => w9.cell? ⟨w1.heap.size, 0, none⟩ = some (.string nm) ∧ w9.cell? ⟨w1.heap.size, 1, none⟩ = some (.int .i64 ver) ∧ w9.cell? ⟨w1.heap.size, 2, none⟩ = some (.slice A2 fs.length cp2) ∧ w9.cell? ⟨w1.heap.size, 3, none⟩ = some (.bool sh))) (by kernel_rfl) (by (try dsimp only); (first | (refine ⟨?_, ?_, ?_, ?_⟩ <;> (go_simp; done)) | exact hS _ (by repeat (first | with_reducible exact Only.refl _ _ | with_reducible assumption | with_reducible refine Only.alloc ?_ _ | with_reducible refine Only.drew ?_ | with_reducible refine Only.drewN ?_ _ | (with_reducible refine Only.setNew ?_ ?_ _; rotate_left; ((try simp); (try omega))))))) (fun hHeld => ?_)
  refine take_read (i := 0) 15 (v := ?x2_v0) rfl rfl (by kernel_rfl) (by kernel_rfl) (by kernel_rfl) (fun _ _ _ h => h) (by rfl) ?x2_hy0 (by assumption) ?x2_rest0
  case x2_hy0 => (intro w hSw; (try dsimp only at hSw); go_simp; (try with_reducible rfl))
  try simp only [Act.put, List.setIfInBounds_toArray, List.set_cons_zero, List.set_cons_succ]
  refine take_read (i := 1) 16 (v := ?x2_v1) rfl rfl (by kernel_rfl) (by kernel_rfl) (by kernel_rfl) (fun _ _ _ h => h) (by rfl) ?x2_hy1 (by assumption) ?x2_rest1
  case x2_hy1 => (intro w hSw; (try dsimp only at hSw); go_simp; (try with_reducible rfl))
  try simp only [Act.put, List.setIfInBounds_toArray, List.set_cons_zero, List.set_cons_succ]
  refine take_read (i := 3) 18 (v := ?x2_v3) rfl rfl (by kernel_rfl) (by kernel_rfl) (by kernel_rfl) (fun _ _ _ h => h) (by rfl) ?x2_hy3 (by assumption) ?x2_rest3
  case x2_hy3 => (intro w hSw; (try dsimp only at hSw); go_simp; (try with_reducible rfl))
  try simp only [Act.put, List.setIfInBounds_toArray, List.set_cons_zero, List.set_cons_succ]
  refine wpAnyH_ready (rs := [2]) (by kernel_rfl) (by simp) ?_
  refine AllReadyH.cons rfl (fun K hK => ?_) AllReadyH.nil
  go_simp
  (go_at_call 131; refine (l15Path_any (w1.heap.size + 1) _ (by repeat (first | with_reducible assumption | with_reducible refine Cur.alloc ?_ _ | with_reducible refine Cur.drew ?_ | with_reducible refine Cur.drewN ?_ _ | (with_reducible refine Cur.set ?_ ?_ _; rotate_left; ((try simp); (try omega)))))).mono ?_; rintro e w4 ⟨u, rfl, ⟨pa, rfl, hpa⟩, ho4, hc4⟩; have hoW4 : Only [w1.heap.size + 1] w3 w4 := (show Only [w1.heap.size + 1] w3 _ from (by repeat (first | with_reducible exact Only.refl _ _ | with_reducible assumption | with_reducible refine Only.alloc ?_ _ | with_reducible refine Only.drew ?_ | with_reducible refine Only.drewN ?_ _ | (with_reducible refine Only.setNew ?_ ?_ _; rotate_left; ((try simp); (try omega)))))).trans ho4; have hB4 : Below w.heap.size w w4 := hB3.trans (hoW4.bel w.heap.size hB3.size (fun y hy => by simp at hy; omega)); have hq4 := HQ3.out.block (hoW4.block w.heap.size (by omega) (by simp; omega)); have y0 := hq4.c0; have y1 := hq4.c1; have y2 := hq4.c2; have y3 := hq4.c3; have x0 := hq4.fz 0; have x1 := hq4.fz 1; have x2 := hq4.fz 2; have x3 := hq4.fz 3; clear hq4)
  try go_wp2_with fail
  refine hK.out _ _ ?_ (fun hHeld => ?_)
  · (try dsimp only)
    (first | (refine ⟨?_, ?_, ?_, ?_⟩ <;> (go_simp; done)) | exact hS _ (by repeat (first | with_reducible exact Only.refl _ _ | with_reducible assumption | with_reducible refine Only.alloc ?_ _ | with_reducible refine Only.drew ?_ | with_reducible refine Only.drewN ?_ _ | (with_reducible refine Only.setNew ?_ ?_ _; rotate_left; ((try simp); (try omega))))))
  clear hK K
  try simp only [Act.put, List.setIfInBounds_toArray, List.set_cons_zero, List.set_cons_succ]
  refine wpAnyH_ready (rs := [4]) (by kernel_rfl) (by simp) ?_
  refine AllReadyH.cons rfl (fun K hK => ?_) AllReadyH.nil
  first | (go_at_call 131; refine (l15Path_any (w1.heap.size + 1) _ (by repeat (first | with_reducible assumption | with_reducible refine Cur.alloc ?_ _ | with_reducible refine Cur.drew ?_ | with_reducible refine Cur.drewN ?_ _ | (with_reducible refine Cur.set ?_ ?_ _; rotate_left; ((try simp); (try omega)))))).mono ?_; rintro e w4 ⟨u, rfl, ⟨pa, rfl, hpa⟩, ho4, hc4⟩; have hoW4 : Only [w1.heap.size + 1] w3 w4 := (show Only [w1.heap.size + 1] w3 _ from (by repeat (first | with_reducible exact Only.refl _ _ | with_reducible assumption | with_reducible refine Only.alloc ?_ _ | with_reducible refine Only.drew ?_ | with_reducible refine Only.drewN ?_ _ | (with_reducible refine Only.setNew ?_ ?_ _; rotate_left; ((try simp); (try omega)))))).trans ho4; have hB4 : Below w.heap.size w w4 := hB3.trans (hoW4.bel w.heap.size hB3.size (fun y hy => by simp at hy; omega)); have hq4 := HQ3.out.block (hoW4.block w.heap.size (by omega) (by simp; omega)); have y0 := hq4.c0; have y1 := hq4.c1; have y2 := hq4.c2; have y3 := hq4.c3; have x0 := hq4.fz 0; have x1 := hq4.fz 1; have x2 := hq4.fz 2; have x3 := hq4.fz 3; clear hq4) | go_simp
  refine hK.out _ _ ?_ (fun hHeld => ?_)
  · (try dsimp only)
    (first | (refine ⟨?_, ?_, ?_, ?_⟩ <;> (go_simp; done)) | exact hS _ (by repeat (first | with_reducible exact Only.refl _ _ | with_reducible assumption | with_reducible refine Only.alloc ?_ _ | with_reducible refine Only.drew ?_ | with_reducible refine Only.drewN ?_ _ | (with_reducible refine Only.setNew ?_ ?_ _; rotate_left; ((try simp); (try omega))))))
  clear hK K
  try simp only [Act.put, List.setIfInBounds_toArray, List.set_cons_zero, List.set_cons_succ]
  refine take_read (i := 5) 3 (v := ?x2_v5) rfl rfl (by kernel_rfl) (by kernel_rfl) (by kernel_rfl) (fun _ _ _ h => h) (by rfl) ?x2_hy5 (by assumption) ?x2_rest5
  case x2_hy5 => (intro w hSw; (try dsimp only at hSw); go_simp; (try with_reducible rfl))
  try simp only [Act.put, List.setIfInBounds_toArray, List.set_cons_zero, List.set_cons_succ]
  refine take_read (i := 6) 4 (v := ?x2_v6) rfl rfl (by kernel_rfl) (by kernel_rfl) (by kernel_rfl) (fun _ _ _ h => h) (by rfl) ?x2_hy6 (by assumption) ?x2_rest6
  case x2_hy6 => (intro w hSw; (try dsimp only at hSw); go_simp; (try with_reducible rfl))
  try simp only [Act.put, List.setIfInBounds_toArray, List.set_cons_zero, List.set_cons_succ]
  refine wpAnyH_done (by kernel_rfl) ?_ _
  go_wp2_with fail
  refine sets_ret4 (a' := .string ⟨#[]⟩) (b' := .int .i64 0) (c' := .slice none 0 0) (d' := .bool false) w.heap.size y0 y1 y2 y3 (fun W9 e9 c0 c1 c2 c3 => ?_)
  refine bodyPost_ret (v := .tuple #[.agg #[.string nm, .int .i64 ver, .slice A2 fs.length cp2, .bool sh], .string pa, .int .i64 n]) (by simp [results, Try.results76, go_sem, c0, c1, c2, c3]) rfl ?_
  clear c0 c1 c2 c3
  subst e9
  have hfl := HR1.out.2.1.1
  (try simp at hfl)
  have hr4 := Cod.only HR3.out hoW4 (fun b hb hm => by have h9 := Cod.lt _ HR1.out.1 b hb; simp at hm; omega)
  exact ⟨⟨nm, ver, fs, sh⟩, pa, _, n, G, rfl, (by repeat (first | with_reducible exact Below.refl _ _ | with_reducible assumption | with_reducible refine bel_alloc ?_ _ | with_reducible refine bel_drew ?_ | with_reducible refine bel_drewN ?_ _ | (with_reducible refine bel_set ?_ ?_ _; rotate_left; ((try simp); (try omega))))), (by show cStS.rep _ [_] fs G; exact (by repeat (first | with_reducible exact hr4 | with_reducible refine Cod.allocA ?_ _ | with_reducible refine Cod.drewA ?_ | with_reducible refine Cod.drewNA ?_ _ | ((with_reducible refine Cod.setA ?_ ?_ _); rotate_left; ((intro hm9; have hm8 := hfl _ hm9; (try simp at hm8); (try omega))))))), HR1.out.2.1.mono (by simp), HR1.out.2.2, hpa, by omega, by omega⟩
set_option maxRecDepth 100000 in
set_option maxHeartbeats 8000000 in
theorem drawServeFile_any (v : Value) (xs : List UInt8) (F : List Nat) (w : World) (h : cUS.rep w [v] xs F) (hn : xs.length ≤ 1048576) :
    Calls Try.prog 25 #[v] w (SitePath w) := by
  go_enter Try.func25, Try.ntmps25
  go_wp2_with fail
  refine (drawBodyOf_any v xs _ _ (by exact Cod.bel h (by repeat (first | with_reducible exact Below.refl _ _ | with_reducible assumption | with_reducible refine bel_alloc ?_ _ | with_reducible refine bel_drew ?_ | with_reducible refine bel_drewN ?_ _ | (with_reducible refine bel_set ?_ ?_ _; rotate_left; ((try simp); (try omega)))))) hn).mono ?_
  rintro e w1 ⟨x, pa, v2, n, G, rfl, hb1, hr1, hf1, hsm, hpa, hn0, hn1⟩
  obtain ⟨nm, ver, fs, sh⟩ := x
  simp only at hr1 ⊢
  obtain ⟨A2, cp2, rfl⟩ := cL_form hr1
  have hz1 := hb1.size
  (try simp at hz1)
  have hB1 : Below w.heap.size w w1 := bel_then (by repeat (first | with_reducible exact Below.refl _ _ | with_reducible assumption | with_reducible refine bel_alloc ?_ _ | with_reducible refine bel_drew ?_ | with_reducible refine bel_drewN ?_ _ | (with_reducible refine bel_set ?_ ?_ _; rotate_left; ((try simp); (try omega))))) hb1
  have hq := (SiteBox.new w 59 ⟨#[]⟩ 0 (.slice none 0 0) false).block (hb1.block w.heap.size (by simp))
  have y0 := hq.c0; have y1 := hq.c1; have y2 := hq.c2; have y3 := hq.c3; have x0 := hq.fz 0; have x1 := hq.fz 1; have x2 := hq.fz 2; have x3 := hq.fz 3
  have HR1 := Lib.hid (And.intro hr1 (And.intro hf1 hsm))
  clear hb1 hr1 hf1 hsm hq
  go_wp2_with fail
  refine sets_ret4 (a' := .string ⟨#[]⟩) (b' := .int .i64 0) (c' := .slice none 0 0) (d' := .bool false) w.heap.size y0 y1 y2 y3 (fun W9 e9 c0 c1 c2 c3 => ?_)
  refine bodyPost_ret (v := .tuple #[.agg #[.string nm, .int .i64 ver, .slice A2 fs.length cp2, .bool sh], .string pa, .int .i64 n]) (by simp [results, Try.results25, go_sem, c0, c1, c2, c3]) rfl ?_
  clear c0 c1 c2 c3
  subst e9
  have hfl := HR1.out.2.1.1
  (try simp at hfl)
  have hr1 := HR1.out.1
  exact ⟨⟨nm, ver, fs, sh⟩, pa, _, n, G, rfl, (by repeat (first | with_reducible exact Below.refl _ _ | with_reducible assumption | with_reducible refine bel_alloc ?_ _ | with_reducible refine bel_drew ?_ | with_reducible refine bel_drewN ?_ _ | (with_reducible refine bel_set ?_ ?_ _; rotate_left; ((try simp); (try omega))))), (by show cStS.rep _ [_] fs G; exact (by repeat (first | with_reducible exact hr1 | with_reducible refine Cod.allocA ?_ _ | with_reducible refine Cod.drewA ?_ | with_reducible refine Cod.drewNA ?_ _ | ((with_reducible refine Cod.setA ?_ ?_ _); rotate_left; ((intro hm9; have hm8 := hfl _ hm9; (try simp at hm8); (try omega))))))), HR1.out.2.1.mono (by simp), HR1.out.2.2, hpa, by omega, by omega⟩
end Go.Proofs.Ytlicnppfgfjkgaa
