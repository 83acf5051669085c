/-
  DrawInstallFiles: what it hands out. No conditions but the input's length.
-/
import Derived.Test.YtlicnppfgfjkgaaZDrawSet3
namespace Go.Proofs.Ytlicnppfgfjkgaa
open Go.ChangeShapes Go.WideShapes Go.RowKit
set_option linter.unusedVariables false

/-- what DrawInstallFiles hands out -/
def DrawnInst (w : World) (e : Ending) (w' : World) : Prop := ∃ (s : TCSet) (A : Option Addr) (cp : Nat) (F : List Nat) (x : TSite) (A2 : Option Addr) (cp2 : Nat) (v : Int) (on : Bool) (G : List Nat), e = .returned (.tuple #[.agg #[.slice A s.caches.length cp], .agg #[.string x.name, .int .i64 x.ver, .slice A2 x.files.length cp2, .bool x.shared], .int .i64 v, .bool on]) ∧ Below w.heap.size w w' ∧
  cCSet.rep w' [.slice A s.caches.length cp] s F ∧ cStS.rep w' [.slice A2 x.files.length cp2] x.files G ∧ cCSet.sz s ≤ 200000 ∧ SmallSite x ∧ -3 ≤ v ∧ v ≤ 1000000000003 ∧ Fresh w.heap.size F ∧ Fresh w.heap.size G
set_option maxRecDepth 100000 in
set_option maxHeartbeats 8000000 in
theorem drawInstallFiles_any (v : Value) (xs : List UInt8) (F : List Nat) (w : World) (h : cUS.rep w [v] xs F) (hn : xs.length ≤ 1048576) :
    Calls Try.prog 52 #[v] w (DrawnInst w) := by
  go_enter Try.func52, Try.ntmps52
  go_wp2_with fail
  refine (l1New_any v xs _ _ (by exact Cod.bel h (by repeat (first | with_reducible exact Below.refl _ _ | with_reducible assumption | with_reducible refine bel_alloc ?_ _ | with_reducible refine bel_drew ?_ | with_reducible refine bel_drewN ?_ _ | (with_reducible refine bel_set ?_ ?_ _; rotate_left; ((try simp); (try omega)))))) hn).mono ?_
  rintro e w1 ⟨rfl, hb1, hc1⟩
  (try simp at hc1)
  have hz1 := hb1.size
  (try simp at hz1)
  have hB1 : Below w.heap.size w w1 := bel_then (by repeat (first | with_reducible exact Below.refl _ _ | with_reducible assumption | with_reducible refine bel_alloc ?_ _ | with_reducible refine bel_drew ?_ | with_reducible refine bel_drewN ?_ _ | (with_reducible refine bel_set ?_ ?_ _; rotate_left; ((try simp); (try omega))))) hb1
  have hpl := hc1.lt
  have hq0 := SiteBox.new (w.alloc (.cells #[.slice none 0 0] 72)) 59 ⟨#[]⟩ 0 (.slice none 0 0) false
  rw [World.size_alloc] at hq0
  have HQ1 := Lib.hid (hq0.block (hb1.block (w.heap.size + 1) (by simp)))
  clear hq0
  obtain ⟨hcc1, hff1, -⟩ := bcell hb1
  have ra : w1.cell? ⟨w.heap.size, 0, none⟩ = some (.slice none 0 0) := by go_simp
  have za : w1.frozen? ⟨w.heap.size, 0, none⟩ = false := by go_simp
  clear hb1 hcc1 hff1
  go_wp2_with fail
  refine (l17Any_any (w.heap.size + 1 + 1) _ (by exact hc1)).mono ?_
  rintro e w2 ⟨v2, rfl, ⟨s, A, cp, rfl, hsz, F2, hr2, hf2⟩, ho2, hc2⟩
  have hB2 : Below w.heap.size w w2 := hB1.trans (ho2.bel w.heap.size hB1.size (fun y hy => by simp at hy; omega))
  have hz2 := ho2.size
  have hlt2 := Cod.lt _ hr2
  go_upto_region 3 with (fail)
  generalize hW : World.alloc w2 _ = W
  have hWs : W.heap.size = w2.heap.size + 1 := by rw [← hW]; clear hW; simp
  have hcW : Cur W (w.heap.size + 1 + 1) := by rw [← hW]; exact hc2.alloc _
  have hBW : Below w.heap.size w W := by rw [← hW]; exact bel_alloc hB2 _
  have q0 : W.cell? ⟨w2.heap.size, 0, none⟩ = some (.slice A s.caches.length cp) := by rw [← hW]; clear hW; go_simp
  have hrow : W.heap[w.heap.size]? = w1.heap[w.heap.size]? := by
    rw [← hW]
    exact ((bel_alloc (Below.refl w2.heap.size w2) _).block w.heap.size (by omega)).trans (ho2.block w.heap.size (by omega) (by simp; omega))
  have hrow2 : W.heap[w.heap.size + 1]? = w1.heap[w.heap.size + 1]? := by
    rw [← hW]
    exact ((bel_alloc (Below.refl w2.heap.size w2) _).block (w.heap.size + 1) (by omega)).trans (ho2.block (w.heap.size + 1) (by omega) (by simp))
  have hrW : cCSet.rep W [.slice A s.caches.length cp] s F2 := by rw [← hW]; exact Cod.bel hr2 (bel_alloc (Below.refl _ _) _)
  have hpF : w.heap.size + 1 + 1 ∉ F2 := fun hm => by have := hf2.1 _ hm; omega
  have HRW := Lib.hid (And.intro hrW (And.intro hpF hf2))
  have hWz : w2.heap.size < W.heap.size := by omega
  clear hW hr2 hrW hpF hf2 ho2 hc2 hWs hlt2
  obtain ⟨xb, hxb⟩ : ∃ xb, w2.heap.size = xb := ⟨_, rfl⟩
  rw [hxb] at q0 hWz hz2 ⊢
  clear hxb
  go_wp2_with fail
  refine (l16Any_any (w.heap.size + 1 + 1) _ hcW).mono ?_
  rintro e w3 ⟨u, rfl, ⟨x, u2, rfl, hown, hsm⟩, ho3, hc3⟩
  have hz3 := ho3.size
  obtain ⟨nm, ver, fs, sh⟩ := x
  simp only at hown ⊢
  obtain ⟨A2, cp2, e2⟩ := hown.slice
  subst e2
  have hvr := hsm.2.1
  simp only at hvr
  have HOW := Lib.hid hown
  have HSM := Lib.hid hsm
  clear hown hsm
  go_upto_region 4 with (fail)
  obtain ⟨sb, hsb⟩ : ∃ sb, w3.heap.size = sb := ⟨_, rfl⟩
  generalize hX : World.alloc w3 _ = X
  have hXs : X.heap.size = w3.heap.size + 1 := by rw [← hX]; clear hX; simp
  have hbX : Below w3.heap.size w3 X := by rw [← hX]; exact bel_alloc (Below.refl _ _) _
  have hcX : Cur X (w.heap.size + 1 + 1) := hc3.bel hbX
  have hoX : Only [w.heap.size + 1 + 1] W X := Only.belw ho3 hbX
  have HX := Lib.hid (show SiteBox X w3.heap.size nm ver (.slice A2 fs.length cp2) sh from by rw [← hX]; exact SiteBox.new w3 _ _ _ _ _)
  have HOX := Lib.hid (HOW.out.bel hbX)
  have HRX := Lib.hid (Turn.rep (Turn.mk hoX) HRW.out.2.1 HRW.out.1)
  have q1 : X.cell? ⟨xb, 0, none⟩ = some (.slice A s.caches.length cp) := (World.cell?_of_block (a := ⟨xb, 0, none⟩) (hoX.block xb (by omega) (by simp; omega))).trans q0
  have hrX : X.heap[w.heap.size]? = w1.heap[w.heap.size]? := (hoX.block w.heap.size (by omega) (by simp; omega)).trans hrow
  have hrX2 : X.heap[w.heap.size + 1]? = w1.heap[w.heap.size + 1]? := (hoX.block (w.heap.size + 1) (by omega) (by simp)).trans hrow2
  have hBX : Below w.heap.size w X := hBW.trans (hoX.bel w.heap.size hBW.size (fun y hy => by simp at hy; omega))
  clear hX hbX hoX ho3 hc3 hrow hrow2 q0
  rw [hsb]
  rw [hsb] at HX hXs hz3
  have hS : ∀ w9, Only [w.heap.size + 1 + 1] X w9 → w9.cell? ⟨xb, 0, none⟩ = some (.slice A s.caches.length cp) ∧ w9.cell? ⟨sb, 0, none⟩ = some (.string nm) ∧ w9.cell? ⟨sb, 1, none⟩ = some (.int .i64 ver) ∧ w9.cell? ⟨sb, 2, none⟩ = some (.slice A2 fs.length cp2) ∧ w9.cell? ⟨sb, 3, none⟩ = some (.bool sh) :=
    fun w9 hb => by
      have hk := HX.out.block (hb.block sb (by omega) (by simp; omega))
      exact ⟨(World.cell?_of_block (a := ⟨xb, 0, none⟩) (hb.block xb (by omega) (by simp; omega))).trans q1, hk.c0, hk.c1, hk.c2, hk.c3⟩
  have hn1 : ¬ w.heap.size = w.heap.size + 1 + 1 := by omega
  have hn3 : ¬ w.heap.size = w.heap.size + 1 := by omega
  refine wp_region_held_drew (S := (fun w9 => w9.cell? ⟨xb, 0, none⟩ = some (.slice A s.caches.length cp) ∧ w9.cell? ⟨sb, 0, none⟩ = some (.string nm) ∧ w9.cell? ⟨sb, 1, none⟩ = some (.int .i64 ver) ∧ w9.cell? ⟨sb, 2, none⟩ = some (.slice A2 fs.length cp2) ∧ w9.cell? ⟨sb, 3, none⟩ = some (.bool sh))) (by kernel_rfl) (by (try dsimp only); (first | (refine ⟨?_, ?_, ?_, ?_, ?_⟩ <;> (go_simp; done)) | exact hS _ (by repeat (first | with_reducible exact Only.refl _ _ | with_reducible assumption | with_reducible refine Only.alloc ?_ _ | with_reducible refine Only.drew ?_ | with_reducible refine Only.drewN ?_ _ | (with_reducible refine Only.setNew ?_ ?_ _; rotate_left; ((try simp); (try omega))))))) (fun hHeld => ?_)
  refine take_read (i := 0) 15 (v := ?v0) rfl rfl (by kernel_rfl) (by kernel_rfl) (by kernel_rfl) (fun _ _ _ h => h) (by rfl) ?hy0 (by assumption) ?rest0
  case hy0 => (intro w hSw; (try dsimp only at hSw); go_simp; (try with_reducible rfl))
  try simp only [Act.put, List.setIfInBounds_toArray, List.set_cons_zero, List.set_cons_succ]
  refine take_read (i := 1) 16 (v := ?v1) rfl rfl (by kernel_rfl) (by kernel_rfl) (by kernel_rfl) (fun _ _ _ h => h) (by rfl) ?hy1 (by assumption) ?rest1
  case hy1 => (intro w hSw; (try dsimp only at hSw); go_simp; (try with_reducible rfl))
  try simp only [Act.put, List.setIfInBounds_toArray, List.set_cons_zero, List.set_cons_succ]
  refine take_read (i := 2) 17 (v := ?v2) rfl rfl (by kernel_rfl) (by kernel_rfl) (by kernel_rfl) (fun _ _ _ h => h) (by rfl) ?hy2 (by assumption) ?rest2
  case hy2 => (intro w hSw; (try dsimp only at hSw); go_simp; (try with_reducible rfl))
  try simp only [Act.put, List.setIfInBounds_toArray, List.set_cons_zero, List.set_cons_succ]
  refine take_read (i := 3) 18 (v := ?v3) rfl rfl (by kernel_rfl) (by kernel_rfl) (by kernel_rfl) (fun _ _ _ h => h) (by rfl) ?hy3 (by assumption) ?rest3
  case hy3 => (intro w hSw; (try dsimp only at hSw); go_simp; (try with_reducible rfl))
  try simp only [Act.put, List.setIfInBounds_toArray, List.set_cons_zero, List.set_cons_succ]
  refine take_read (i := 4) 19 (v := ?v4) rfl rfl (by kernel_rfl) (by kernel_rfl) (by kernel_rfl) (fun _ _ _ h => h) (by rfl) ?hy4 (by assumption) ?rest4
  case hy4 => (intro w hSw; (try dsimp only at hSw); go_simp; (try with_reducible rfl))
  try simp only [Act.put, List.setIfInBounds_toArray, List.set_cons_zero, List.set_cons_succ]
  refine take_read (i := 8) 23 (v := ?v8) rfl rfl (by kernel_rfl) (by kernel_rfl) (by kernel_rfl) (fun _ _ _ h => h) (by rfl) ?hy8 (by assumption) ?rest8
  case hy8 => (intro w hSw; (try dsimp only at hSw); go_simp; (try with_reducible rfl))
  try simp only [Act.put, List.setIfInBounds_toArray, List.set_cons_zero, List.set_cons_succ]
  refine wpAnyH_ready (rs := [5]) (by kernel_rfl) (by simp) ?_
  refine AllReadyH.cons rfl (fun K hK => ?_) AllReadyH.nil
  go_simp
  (first | (go_at_call 68; refine (l1Below_any (w.heap.size + 1 + 1) 3 _ (by repeat (first | with_reducible assumption | with_reducible refine Cur.alloc ?_ _ | with_reducible refine Cur.drew ?_ | with_reducible refine Cur.drewN ?_ _ | (with_reducible refine Cur.set ?_ ?_ _; rotate_left; ((try simp); (try omega))))) (by omega)).mono ?_; rintro e w4 ⟨u, rfl, ⟨r, rfl, hr0, hr1⟩, ho4, hc4⟩; have hoX4 : Only [w.heap.size + 1 + 1] X w4 := (show Only [w.heap.size + 1 + 1] X _ from (by repeat (first | with_reducible exact Only.refl _ _ | with_reducible assumption | with_reducible refine Only.alloc ?_ _ | with_reducible refine Only.drew ?_ | with_reducible refine Only.drewN ?_ _ | (with_reducible refine Only.setNew ?_ ?_ _; rotate_left; ((try simp); (try omega)))))).trans ho4; have hw1 : IntKind.i64.wrap (ver + r) = ver + r := IntWalk.i64_in _ (by omega); have hw2 : IntKind.i64.wrap (ver + r - 1) = ver + r - 1 := IntWalk.i64_in _ (by omega); clear ho4) | (go_at_call 114; refine (l1Once_any (w.heap.size + 1 + 1) 6 _ (by repeat (first | with_reducible assumption | with_reducible refine Cur.alloc ?_ _ | with_reducible refine Cur.drew ?_ | with_reducible refine Cur.drewN ?_ _ | (with_reducible refine Cur.set ?_ ?_ _; rotate_left; ((try simp); (try omega))))) (by omega)).mono ?_; rintro e w5 ⟨u, rfl, ⟨b, rfl⟩, ho5, hc5⟩; have hoX5 : Only [w.heap.size + 1 + 1] X w5 := (show Only [w.heap.size + 1 + 1] X _ from (by repeat (first | with_reducible exact Only.refl _ _ | with_reducible assumption | with_reducible refine Only.alloc ?_ _ | with_reducible refine Only.drew ?_ | with_reducible refine Only.drewN ?_ _ | (with_reducible refine Only.setNew ?_ ?_ _; rotate_left; ((try simp); (try omega)))))).trans ho5; have hk1 := (hoX5.block w.heap.size (by omega) (by simp; omega)).trans hrX; have hk2 := (hoX5.block (w.heap.size + 1) (by omega) (by simp)).trans hrX2; have ya : w5.cell? ⟨w.heap.size, 0, none⟩ = _ := (World.cell?_of_block hk1).trans ra; have ka : w5.frozen? ⟨w.heap.size, 0, none⟩ = false := (World.frozen?_of_block hk1).trans za; have hq5 := HQ1.out.block hk2; have y0 := hq5.c0; have y1 := hq5.c1; have y2 := hq5.c2; have y3 := hq5.c3; have x0 := hq5.fz 0; have x1 := hq5.fz 1; have x2 := hq5.fz 2; have x3 := hq5.fz 3; have hxn1 : ¬ w.heap.size = xb := (by omega); have hxn2 : ¬ w.heap.size = sb := (by omega); have hxn3 : ¬ w.heap.size + 1 = xb := (by omega); have hxn4 : ¬ w.heap.size + 1 = sb := (by omega); have hxn5 : ¬ w.heap.size + 1 = w.heap.size := (by omega); have hxn6 : ¬ xb = w.heap.size := (by omega); have hxn7 : ¬ sb = w.heap.size := (by omega); have hxn8 : ¬ xb = w.heap.size + 1 := (by omega); have hxn9 : ¬ sb = w.heap.size + 1 := (by omega); have hB5 : Below w.heap.size w w5 := hBX.trans (hoX5.bel w.heap.size hBX.size (fun y hy => by simp at hy; omega)); have HR5 := Lib.hid (Turn.rep (Turn.mk hoX5) HRW.out.2.1 HRX.out); have HO5 := Lib.hid (HOX.out.turn (Turn.mk hoX5) (by omega)); have hz5 := hB5.size; clear hk1 hk2 hq5 ho5))
  try go_wp2_with fail
  refine hK.out _ _ ?_ (fun hHeld => ?_)
  · (try dsimp only)
    (first | (refine ⟨?_, ?_, ?_, ?_, ?_⟩ <;> (go_simp; done)) | exact hS _ (by repeat (first | with_reducible exact Only.refl _ _ | with_reducible assumption | with_reducible refine Only.alloc ?_ _ | with_reducible refine Only.drew ?_ | with_reducible refine Only.drewN ?_ _ | (with_reducible refine Only.setNew ?_ ?_ _; rotate_left; ((try simp); (try omega))))))
  clear hK K
  try simp only [Act.put, List.setIfInBounds_toArray, List.set_cons_zero, List.set_cons_succ]
  refine take_read (i := 6) 21 (v := ?v6) rfl rfl (by kernel_rfl) (by kernel_rfl) (by kernel_rfl) (fun _ _ _ h => h) (by rfl) ?hy6 (by assumption) ?rest6
  case hy6 => (intro w hSw; (try dsimp only at hSw); go_simp; (try with_reducible rfl))
  try simp only [Act.put, List.setIfInBounds_toArray, List.set_cons_zero, List.set_cons_succ]
  refine take_read (i := 7) 22 (v := ?v7) rfl rfl (by kernel_rfl) (by kernel_rfl) (by kernel_rfl) (fun _ _ _ h => h) (by rfl) ?hy7 (by assumption) ?rest7
  case hy7 => (intro w hSw; (try dsimp only at hSw); go_simp; (try with_reducible rfl))
  try simp only [Act.put, List.setIfInBounds_toArray, List.set_cons_zero, List.set_cons_succ]
  refine wpAnyH_ready (rs := [9]) (by kernel_rfl) (by simp) ?_
  refine AllReadyH.cons rfl (fun K hK => ?_) AllReadyH.nil
  go_simp
  (first | (go_at_call 68; refine (l1Below_any (w.heap.size + 1 + 1) 3 _ (by repeat (first | with_reducible assumption | with_reducible refine Cur.alloc ?_ _ | with_reducible refine Cur.drew ?_ | with_reducible refine Cur.drewN ?_ _ | (with_reducible refine Cur.set ?_ ?_ _; rotate_left; ((try simp); (try omega))))) (by omega)).mono ?_; rintro e w4 ⟨u, rfl, ⟨r, rfl, hr0, hr1⟩, ho4, hc4⟩; have hoX4 : Only [w.heap.size + 1 + 1] X w4 := (show Only [w.heap.size + 1 + 1] X _ from (by repeat (first | with_reducible exact Only.refl _ _ | with_reducible assumption | with_reducible refine Only.alloc ?_ _ | with_reducible refine Only.drew ?_ | with_reducible refine Only.drewN ?_ _ | (with_reducible refine Only.setNew ?_ ?_ _; rotate_left; ((try simp); (try omega)))))).trans ho4; have hw1 : IntKind.i64.wrap (ver + r) = ver + r := IntWalk.i64_in _ (by omega); have hw2 : IntKind.i64.wrap (ver + r - 1) = ver + r - 1 := IntWalk.i64_in _ (by omega); clear ho4) | (go_at_call 114; refine (l1Once_any (w.heap.size + 1 + 1) 6 _ (by repeat (first | with_reducible assumption | with_reducible refine Cur.alloc ?_ _ | with_reducible refine Cur.drew ?_ | with_reducible refine Cur.drewN ?_ _ | (with_reducible refine Cur.set ?_ ?_ _; rotate_left; ((try simp); (try omega))))) (by omega)).mono ?_; rintro e w5 ⟨u, rfl, ⟨b, rfl⟩, ho5, hc5⟩; have hoX5 : Only [w.heap.size + 1 + 1] X w5 := (show Only [w.heap.size + 1 + 1] X _ from (by repeat (first | with_reducible exact Only.refl _ _ | with_reducible assumption | with_reducible refine Only.alloc ?_ _ | with_reducible refine Only.drew ?_ | with_reducible refine Only.drewN ?_ _ | (with_reducible refine Only.setNew ?_ ?_ _; rotate_left; ((try simp); (try omega)))))).trans ho5; have hk1 := (hoX5.block w.heap.size (by omega) (by simp; omega)).trans hrX; have hk2 := (hoX5.block (w.heap.size + 1) (by omega) (by simp)).trans hrX2; have ya : w5.cell? ⟨w.heap.size, 0, none⟩ = _ := (World.cell?_of_block hk1).trans ra; have ka : w5.frozen? ⟨w.heap.size, 0, none⟩ = false := (World.frozen?_of_block hk1).trans za; have hq5 := HQ1.out.block hk2; have y0 := hq5.c0; have y1 := hq5.c1; have y2 := hq5.c2; have y3 := hq5.c3; have x0 := hq5.fz 0; have x1 := hq5.fz 1; have x2 := hq5.fz 2; have x3 := hq5.fz 3; have hxn1 : ¬ w.heap.size = xb := (by omega); have hxn2 : ¬ w.heap.size = sb := (by omega); have hxn3 : ¬ w.heap.size + 1 = xb := (by omega); have hxn4 : ¬ w.heap.size + 1 = sb := (by omega); have hxn5 : ¬ w.heap.size + 1 = w.heap.size := (by omega); have hxn6 : ¬ xb = w.heap.size := (by omega); have hxn7 : ¬ sb = w.heap.size := (by omega); have hxn8 : ¬ xb = w.heap.size + 1 := (by omega); have hxn9 : ¬ sb = w.heap.size + 1 := (by omega); have hB5 : Below w.heap.size w w5 := hBX.trans (hoX5.bel w.heap.size hBX.size (fun y hy => by simp at hy; omega)); have HR5 := Lib.hid (Turn.rep (Turn.mk hoX5) HRW.out.2.1 HRX.out); have HO5 := Lib.hid (HOX.out.turn (Turn.mk hoX5) (by omega)); have hz5 := hB5.size; clear hk1 hk2 hq5 ho5))
  try go_wp2_with fail
  refine hK.out _ _ ?_ (fun hHeld => ?_)
  · (try dsimp only)
    (first | (refine ⟨?_, ?_, ?_, ?_, ?_⟩ <;> (go_simp; done)) | exact hS _ (by repeat (first | with_reducible exact Only.refl _ _ | with_reducible assumption | with_reducible refine Only.alloc ?_ _ | with_reducible refine Only.drew ?_ | with_reducible refine Only.drewN ?_ _ | (with_reducible refine Only.setNew ?_ ?_ _; rotate_left; ((try simp); (try omega))))))
  clear hK K
  try simp only [Act.put, List.setIfInBounds_toArray, List.set_cons_zero, List.set_cons_succ]
  refine take_read (i := 10) 25 (v := ?v10) rfl rfl (by kernel_rfl) (by kernel_rfl) (by kernel_rfl) (fun _ _ _ h => h) (by rfl) ?hy10 (by assumption) ?rest10
  case hy10 => (intro w hSw; (try dsimp only at hSw); go_simp; (try with_reducible rfl))
  try simp only [Act.put, List.setIfInBounds_toArray, List.set_cons_zero, List.set_cons_succ]
  refine wpAnyH_ready (rs := [11]) (by kernel_rfl) (by simp) ?_
  refine AllReadyH.cons rfl (fun K hK => ?_) AllReadyH.nil
  first | (first | (go_at_call 68; refine (l1Below_any (w.heap.size + 1 + 1) 3 _ (by repeat (first | with_reducible assumption | with_reducible refine Cur.alloc ?_ _ | with_reducible refine Cur.drew ?_ | with_reducible refine Cur.drewN ?_ _ | (with_reducible refine Cur.set ?_ ?_ _; rotate_left; ((try simp); (try omega))))) (by omega)).mono ?_; rintro e w4 ⟨u, rfl, ⟨r, rfl, hr0, hr1⟩, ho4, hc4⟩; have hoX4 : Only [w.heap.size + 1 + 1] X w4 := (show Only [w.heap.size + 1 + 1] X _ from (by repeat (first | with_reducible exact Only.refl _ _ | with_reducible assumption | with_reducible refine Only.alloc ?_ _ | with_reducible refine Only.drew ?_ | with_reducible refine Only.drewN ?_ _ | (with_reducible refine Only.setNew ?_ ?_ _; rotate_left; ((try simp); (try omega)))))).trans ho4; have hw1 : IntKind.i64.wrap (ver + r) = ver + r := IntWalk.i64_in _ (by omega); have hw2 : IntKind.i64.wrap (ver + r - 1) = ver + r - 1 := IntWalk.i64_in _ (by omega); clear ho4) | (go_at_call 114; refine (l1Once_any (w.heap.size + 1 + 1) 6 _ (by repeat (first | with_reducible assumption | with_reducible refine Cur.alloc ?_ _ | with_reducible refine Cur.drew ?_ | with_reducible refine Cur.drewN ?_ _ | (with_reducible refine Cur.set ?_ ?_ _; rotate_left; ((try simp); (try omega))))) (by omega)).mono ?_; rintro e w5 ⟨u, rfl, ⟨b, rfl⟩, ho5, hc5⟩; have hoX5 : Only [w.heap.size + 1 + 1] X w5 := (show Only [w.heap.size + 1 + 1] X _ from (by repeat (first | with_reducible exact Only.refl _ _ | with_reducible assumption | with_reducible refine Only.alloc ?_ _ | with_reducible refine Only.drew ?_ | with_reducible refine Only.drewN ?_ _ | (with_reducible refine Only.setNew ?_ ?_ _; rotate_left; ((try simp); (try omega)))))).trans ho5; have hk1 := (hoX5.block w.heap.size (by omega) (by simp; omega)).trans hrX; have hk2 := (hoX5.block (w.heap.size + 1) (by omega) (by simp)).trans hrX2; have ya : w5.cell? ⟨w.heap.size, 0, none⟩ = _ := (World.cell?_of_block hk1).trans ra; have ka : w5.frozen? ⟨w.heap.size, 0, none⟩ = false := (World.frozen?_of_block hk1).trans za; have hq5 := HQ1.out.block hk2; have y0 := hq5.c0; have y1 := hq5.c1; have y2 := hq5.c2; have y3 := hq5.c3; have x0 := hq5.fz 0; have x1 := hq5.fz 1; have x2 := hq5.fz 2; have x3 := hq5.fz 3; have hxn1 : ¬ w.heap.size = xb := (by omega); have hxn2 : ¬ w.heap.size = sb := (by omega); have hxn3 : ¬ w.heap.size + 1 = xb := (by omega); have hxn4 : ¬ w.heap.size + 1 = sb := (by omega); have hxn5 : ¬ w.heap.size + 1 = w.heap.size := (by omega); have hxn6 : ¬ xb = w.heap.size := (by omega); have hxn7 : ¬ sb = w.heap.size := (by omega); have hxn8 : ¬ xb = w.heap.size + 1 := (by omega); have hxn9 : ¬ sb = w.heap.size + 1 := (by omega); have hB5 : Below w.heap.size w w5 := hBX.trans (hoX5.bel w.heap.size hBX.size (fun y hy => by simp at hy; omega)); have HR5 := Lib.hid (Turn.rep (Turn.mk hoX5) HRW.out.2.1 HRX.out); have HO5 := Lib.hid (HOX.out.turn (Turn.mk hoX5) (by omega)); have hz5 := hB5.size; clear hk1 hk2 hq5 ho5)) | go_simp
  refine hK.out _ _ ?_ (fun hHeld => ?_)
  · (try dsimp only)
    (first | (refine ⟨?_, ?_, ?_, ?_, ?_⟩ <;> (go_simp; done)) | exact hS _ (by repeat (first | with_reducible exact Only.refl _ _ | with_reducible assumption | with_reducible refine Only.alloc ?_ _ | with_reducible refine Only.drew ?_ | with_reducible refine Only.drewN ?_ _ | (with_reducible refine Only.setNew ?_ ?_ _; rotate_left; ((try simp); (try omega))))))
  clear hK K
  try simp only [Act.put, List.setIfInBounds_toArray, List.set_cons_zero, List.set_cons_succ]
  refine wpAnyH_ready (rs := [12]) (by kernel_rfl) (by simp) ?_
  refine AllReadyH.cons rfl (fun K hK => ?_) AllReadyH.nil
  first | (first | (go_at_call 68; refine (l1Below_any (w.heap.size + 1 + 1) 3 _ (by repeat (first | with_reducible assumption | with_reducible refine Cur.alloc ?_ _ | with_reducible refine Cur.drew ?_ | with_reducible refine Cur.drewN ?_ _ | (with_reducible refine Cur.set ?_ ?_ _; rotate_left; ((try simp); (try omega))))) (by omega)).mono ?_; rintro e w4 ⟨u, rfl, ⟨r, rfl, hr0, hr1⟩, ho4, hc4⟩; have hoX4 : Only [w.heap.size + 1 + 1] X w4 := (show Only [w.heap.size + 1 + 1] X _ from (by repeat (first | with_reducible exact Only.refl _ _ | with_reducible assumption | with_reducible refine Only.alloc ?_ _ | with_reducible refine Only.drew ?_ | with_reducible refine Only.drewN ?_ _ | (with_reducible refine Only.setNew ?_ ?_ _; rotate_left; ((try simp); (try omega)))))).trans ho4; have hw1 : IntKind.i64.wrap (ver + r) = ver + r := IntWalk.i64_in _ (by omega); have hw2 : IntKind.i64.wrap (ver + r - 1) = ver + r - 1 := IntWalk.i64_in _ (by omega); clear ho4) | (go_at_call 114; refine (l1Once_any (w.heap.size + 1 + 1) 6 _ (by repeat (first | with_reducible assumption | with_reducible refine Cur.alloc ?_ _ | with_reducible refine Cur.drew ?_ | with_reducible refine Cur.drewN ?_ _ | (with_reducible refine Cur.set ?_ ?_ _; rotate_left; ((try simp); (try omega))))) (by omega)).mono ?_; rintro e w5 ⟨u, rfl, ⟨b, rfl⟩, ho5, hc5⟩; have hoX5 : Only [w.heap.size + 1 + 1] X w5 := (show Only [w.heap.size + 1 + 1] X _ from (by repeat (first | with_reducible exact Only.refl _ _ | with_reducible assumption | with_reducible refine Only.alloc ?_ _ | with_reducible refine Only.drew ?_ | with_reducible refine Only.drewN ?_ _ | (with_reducible refine Only.setNew ?_ ?_ _; rotate_left; ((try simp); (try omega)))))).trans ho5; have hk1 := (hoX5.block w.heap.size (by omega) (by simp; omega)).trans hrX; have hk2 := (hoX5.block (w.heap.size + 1) (by omega) (by simp)).trans hrX2; have ya : w5.cell? ⟨w.heap.size, 0, none⟩ = _ := (World.cell?_of_block hk1).trans ra; have ka : w5.frozen? ⟨w.heap.size, 0, none⟩ = false := (World.frozen?_of_block hk1).trans za; have hq5 := HQ1.out.block hk2; have y0 := hq5.c0; have y1 := hq5.c1; have y2 := hq5.c2; have y3 := hq5.c3; have x0 := hq5.fz 0; have x1 := hq5.fz 1; have x2 := hq5.fz 2; have x3 := hq5.fz 3; have hxn1 : ¬ w.heap.size = xb := (by omega); have hxn2 : ¬ w.heap.size = sb := (by omega); have hxn3 : ¬ w.heap.size + 1 = xb := (by omega); have hxn4 : ¬ w.heap.size + 1 = sb := (by omega); have hxn5 : ¬ w.heap.size + 1 = w.heap.size := (by omega); have hxn6 : ¬ xb = w.heap.size := (by omega); have hxn7 : ¬ sb = w.heap.size := (by omega); have hxn8 : ¬ xb = w.heap.size + 1 := (by omega); have hxn9 : ¬ sb = w.heap.size + 1 := (by omega); have hB5 : Below w.heap.size w w5 := hBX.trans (hoX5.bel w.heap.size hBX.size (fun y hy => by simp at hy; omega)); have HR5 := Lib.hid (Turn.rep (Turn.mk hoX5) HRW.out.2.1 HRX.out); have HO5 := Lib.hid (HOX.out.turn (Turn.mk hoX5) (by omega)); have hz5 := hB5.size; clear hk1 hk2 hq5 ho5)) | go_simp
  refine hK.out _ _ ?_ (fun hHeld => ?_)
  · (try dsimp only)
    (first | (refine ⟨?_, ?_, ?_, ?_, ?_⟩ <;> (go_simp; done)) | exact hS _ (by repeat (first | with_reducible exact Only.refl _ _ | with_reducible assumption | with_reducible refine Only.alloc ?_ _ | with_reducible refine Only.drew ?_ | with_reducible refine Only.drewN ?_ _ | (with_reducible refine Only.setNew ?_ ?_ _; rotate_left; ((try simp); (try omega))))))
  clear hK K
  try simp only [Act.put, List.setIfInBounds_toArray, List.set_cons_zero, List.set_cons_succ]
  refine take_read (i := 13) 4 (v := ?v13) rfl rfl (by kernel_rfl) (by kernel_rfl) (by kernel_rfl) (fun _ _ _ h => h) (by rfl) ?hy13 (by assumption) ?rest13
  case hy13 => (intro w hSw; (try dsimp only at hSw); go_simp; (try with_reducible rfl))
  try simp only [Act.put, List.setIfInBounds_toArray, List.set_cons_zero, List.set_cons_succ]
  refine take_read (i := 14) 5 (v := ?v14) rfl rfl (by kernel_rfl) (by kernel_rfl) (by kernel_rfl) (fun _ _ _ h => h) (by rfl) ?hy14 (by assumption) ?rest14
  case hy14 => (intro w hSw; (try dsimp only at hSw); go_simp; (try with_reducible rfl))
  try simp only [Act.put, List.setIfInBounds_toArray, List.set_cons_zero, List.set_cons_succ]
  refine wpAnyH_done (by kernel_rfl) ?_ _
  go_wp2_with fail
  clear hS hHeld hcW hBW hcX hc4 hc5 hoX4 hoX5 hBX hB2 hB1 hrX hrX2 q1 ra za
  refine bodyPost_ret (v := .tuple #[.agg #[.slice A s.caches.length cp], .agg #[.string nm, .int .i64 ver, .slice A2 fs.length cp2, .bool sh], .int .i64 (ver + r - 1), .bool (!b)]) (by simp [results, Try.results52, go_sem, *]) rfl ?_
  obtain ⟨G, hr, hf, -⟩ := HO5.out.fresh (hw := by decide) (hw2 := by decide)
  replace hr : cStS.rep w5 [.slice A2 fs.length cp2] fs G := hr
  have hf' : Fresh (w.heap.size + 1 + 1) G := hf.mono (by omega)
  have hlo := hf'.1
  have hr6 := HR5.out
  have hf2' : Fresh (w.heap.size + 1 + 1) F2 := HRW.out.2.2.mono (by omega)
  have hlo2 := hf2'.1
  exact ⟨s, A, cp, F2, ⟨nm, ver, fs, sh⟩, A2, cp2, _, _, G, rfl, (by repeat (first | with_reducible exact Below.refl _ _ | with_reducible assumption | with_reducible refine bel_alloc ?_ _ | with_reducible refine bel_drew ?_ | with_reducible refine bel_drewN ?_ _ | (with_reducible refine bel_set ?_ ?_ _; rotate_left; ((try simp); (try omega))))), (by repeat (first | with_reducible exact hr6 | with_reducible refine Cod.allocA ?_ _ | with_reducible refine Cod.drewA ?_ | with_reducible refine Cod.drewNA ?_ _ | ((with_reducible refine Cod.setA ?_ ?_ _); rotate_left; ((intro hm9; have hm8 := hlo2 _ hm9; (try simp at hm8); (try omega)))))), (by show cStS.rep _ [_] fs G; exact (by repeat (first | with_reducible exact hr | with_reducible refine Cod.allocA ?_ _ | with_reducible refine Cod.drewA ?_ | with_reducible refine Cod.drewNA ?_ _ | ((with_reducible refine Cod.setA ?_ ?_ _); rotate_left; ((intro hm9; have hm8 := hlo _ hm9; (try simp at hm8); (try omega))))))), hsz, HSM.out, by omega, by omega, hf2'.mono (by omega), hf'.mono (by omega)⟩
end Go.Proofs.Ytlicnppfgfjkgaa
