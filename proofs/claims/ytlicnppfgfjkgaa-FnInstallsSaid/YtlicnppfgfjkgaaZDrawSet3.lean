/-
  DrawStoreResponse and DrawInstallFiles: what they hand out. No conditions but the input's length.
-/
import Derived.Test.YtlicnppfgfjkgaaZDrawSet2
import Derived.Test.YtlicnppfgfjkgaaZDrawSite2
namespace Go.Proofs.Ytlicnppfgfjkgaa
open Go.ChangeShapes Go.WideShapes Go.RowKit
set_option linter.unusedVariables false

/-- what DrawStoreResponse hands out -/
def DrawnStore (w : World) (e : Ending) (w' : World) : Prop := ∃ (s : TCSet) (A : Option Addr) (cp : Nat) (F : List Nat) (v : Int) (st pa : ByteArray) (vs : Array Value) (y : TResp) (G : List Nat), e = .returned (.tuple #[.agg #[.slice A s.caches.length cp], .int .i64 v, .string st, .string pa, .agg vs]) ∧ Below w.heap.size w w' ∧
  cCSet.rep w' [.slice A s.caches.length cp] s F ∧ cResp.rep w' vs.toList y G ∧ cCSet.sz s ≤ 200000 ∧ 1 ≤ v ∧ v ≤ 4 ∧ st.size ≤ 100 ∧ pa.size ≤ 100 ∧ cResp.sz y ≤ 256 ∧ Fresh w.heap.size F ∧ Fresh w.heap.size G
set_option maxRecDepth 100000 in
set_option maxHeartbeats 8000000 in
theorem drawStoreResponse_any (v : Value) (xs : List UInt8) (F : List Nat) (w : World) (h : cUS.rep w [v] xs F) (hn : xs.length ≤ 1048576) :
    Calls Try.prog 36 #[v] w (DrawnStore w) := by
  go_enter Try.func36, Try.ntmps36
  go_wp2_with fail
  refine (l1New_any v xs _ _ (by exact Cod.bel h (by repeat (first | with_reducible exact Below.refl _ _ | with_reducible assumption | with_reducible refine bel_alloc ?_ _ | with_reducible refine bel_drew ?_ | with_reducible refine bel_drewN ?_ _ | (with_reducible refine bel_set ?_ ?_ _; rotate_left; ((try simp); (try omega)))))) hn).mono ?_
  rintro e w1 ⟨rfl, hb1, hc1⟩
  (try simp at hc1)
  have hz1 := hb1.size
  (try simp at hz1)
  have hB1 : Below w.heap.size w w1 := bel_then (by repeat (first | with_reducible exact Below.refl _ _ | with_reducible assumption | with_reducible refine bel_alloc ?_ _ | with_reducible refine bel_drew ?_ | with_reducible refine bel_drewN ?_ _ | (with_reducible refine bel_set ?_ ?_ _; rotate_left; ((try simp); (try omega))))) hb1
  have hpl := hc1.lt
  obtain ⟨hcc1, hff1, -⟩ := bcell hb1
  have ra : w1.cell? ⟨w.heap.size, 0, none⟩ = some (.slice none 0 0) := by go_simp
  have za : w1.frozen? ⟨w.heap.size, 0, none⟩ = false := by go_simp
  have rb : w1.cell? ⟨w.heap.size + 1, 0, none⟩ = some (.int .i64 0) := by go_simp
  have zb : w1.frozen? ⟨w.heap.size + 1, 0, none⟩ = false := by go_simp
  have rc : w1.cell? ⟨w.heap.size + 1, 1, none⟩ = some (.int .i64 0) := by go_simp
  have zc : w1.frozen? ⟨w.heap.size + 1, 1, none⟩ = false := by go_simp
  have rd : w1.cell? ⟨w.heap.size + 1, 2, none⟩ = some (.int .i64 0) := by go_simp
  have zd : w1.frozen? ⟨w.heap.size + 1, 2, none⟩ = false := by go_simp
  have rf : w1.cell? ⟨w.heap.size + 1, 3, none⟩ = some (.slice none 0 0) := by go_simp
  have zf : w1.frozen? ⟨w.heap.size + 1, 3, none⟩ = false := by go_simp
  have rg : w1.cell? ⟨w.heap.size + 1, 4, none⟩ = some (.bool false) := by go_simp
  have zg : w1.frozen? ⟨w.heap.size + 1, 4, none⟩ = false := by go_simp
  clear hb1 hcc1 hff1
  go_wp2_with fail
  refine (l17Any_any (w.heap.size + 1 + 1) _ (by exact hc1)).mono ?_
  rintro e w2 ⟨v2, rfl, ⟨s, A, cp, rfl, hsz, F2, hr2, hf2⟩, ho2, hc2⟩
  have hB2 : Below w.heap.size w w2 := hB1.trans (ho2.bel w.heap.size hB1.size (fun y hy => by simp at hy; omega))
  have hz2 := ho2.size
  have hlt2 := Cod.lt _ hr2
  go_upto_region 3 with (fail)
  generalize hW : World.alloc w2 _ = W
  have hWs : W.heap.size = w2.heap.size + 1 := by rw [← hW]; clear hW; simp
  have hcW : Cur W (w.heap.size + 1 + 1) := by rw [← hW]; exact hc2.alloc _
  have hBW : Below w.heap.size w W := by rw [← hW]; exact bel_alloc hB2 _
  have q0 : W.cell? ⟨w2.heap.size, 0, none⟩ = some (.slice A s.caches.length cp) := by rw [← hW]; clear hW; go_simp
  have hrow : W.heap[w.heap.size]? = w1.heap[w.heap.size]? := by
    rw [← hW]
    exact ((bel_alloc (Below.refl w2.heap.size w2) _).block w.heap.size (by omega)).trans (ho2.block w.heap.size (by omega) (by simp; omega))
  have hrow2 : W.heap[w.heap.size + 1]? = w1.heap[w.heap.size + 1]? := by
    rw [← hW]
    exact ((bel_alloc (Below.refl w2.heap.size w2) _).block (w.heap.size + 1) (by omega)).trans (ho2.block (w.heap.size + 1) (by omega) (by simp))
  have hrW : cCSet.rep W [.slice A s.caches.length cp] s F2 := by rw [← hW]; exact Cod.bel hr2 (bel_alloc (Below.refl _ _) _)
  have hpF : w.heap.size + 1 + 1 ∉ F2 := fun hm => by have := hf2.1 _ hm; omega
  have HRW := Lib.hid (And.intro hrW (And.intro hpF hf2))
  have hWz : w2.heap.size < W.heap.size := by omega
  clear hW hr2 hrW hpF hf2 ho2 hc2 hWs hlt2
  obtain ⟨xb, hxb⟩ : ∃ xb, w2.heap.size = xb := ⟨_, rfl⟩
  rw [hxb] at q0 hWz hz2 ⊢
  clear hxb
  go_wp2_with fail
  refine (l1Below_any (w.heap.size + 1 + 1) 4 _ hcW (by omega)).mono ?_
  rintro e w3 ⟨u, rfl, ⟨q, rfl, hq0, hq1⟩, ho3, hc3⟩
  have hz3 := ho3.size
  go_wp2_with fail
  refine (l15Site_any (w.heap.size + 1 + 1) _ hc3).mono ?_
  rintro e w4 ⟨u, rfl, ⟨st, rfl, hst⟩, ho4, hc4⟩
  have hz4 := ho4.size
  have hoW4 : Only [w.heap.size + 1 + 1] W w4 := ho3.trans ho4
  clear ho3 ho4
  go_wp2_with fail
  refine (l1Str_any (w.heap.size + 1 + 1) _ [⟨#[105, 110, 100, 101, 120]⟩, ⟨#[115, 116, 121, 108, 101]⟩, ⟨#[99, 111, 100, 101]⟩, ⟨#[100, 97, 116, 97]⟩, ⟨#[]⟩, ⟨#[81]⟩] _ _ (hc4.alloc _) (by exact rowStr _ _ [⟨#[105, 110, 100, 101, 120]⟩, ⟨#[115, 116, 121, 108, 101]⟩, ⟨#[99, 111, 100, 101]⟩, ⟨#[100, 97, 116, 97]⟩, ⟨#[]⟩, ⟨#[81]⟩] 6 rfl (by simp) (by decide) (by decide)) (by simp) (by simp; omega)).mono ?_
  rintro e w5 ⟨u, rfl, ⟨pa, rfl, hpa⟩, ho5, hc5⟩
  have hz5 := ho5.size
  (try simp at hz5)
  have hpa1 : pa.size ≤ 100 := (by decide : ∀ x ∈ ([⟨#[105, 110, 100, 101, 120]⟩, ⟨#[115, 116, 121, 108, 101]⟩, ⟨#[99, 111, 100, 101]⟩, ⟨#[100, 97, 116, 97]⟩, ⟨#[]⟩, ⟨#[81]⟩] : List ByteArray), x.size ≤ 100) pa hpa
  have hoW5 : Only [w.heap.size + 1 + 1] W w5 := (show Only [w.heap.size + 1 + 1] W _ from (by repeat (first | with_reducible exact Only.refl _ _ | with_reducible assumption | with_reducible refine Only.alloc ?_ _ | with_reducible refine Only.drew ?_ | with_reducible refine Only.drewN ?_ _ | (with_reducible refine Only.setNew ?_ ?_ _; rotate_left; ((try simp); (try omega)))))).trans ho5
  clear ho5 hpa hoW4
  have hS : ∀ w9, Only [w.heap.size + 1 + 1] W w9 → w9.cell? ⟨xb, 0, none⟩ = some (.slice A s.caches.length cp) :=
    fun w9 hb => (World.cell?_of_block (a := ⟨xb, 0, none⟩) (hb.block xb (by omega) (by simp; omega))).trans q0
  have hn1 : ¬ w.heap.size = w.heap.size + 1 + 1 := by omega
  have hn2 : ¬ w.heap.size + 1 = w.heap.size + 1 + 1 := by omega
  have hn3 : ¬ w.heap.size = w.heap.size + 1 := by omega
  have hn4 : ¬ w.heap.size + 1 = w.heap.size := by omega
  go_upto_region 6 with (fail)
  refine wp_region_held_drew (S := (fun w9 => w9.cell? ⟨xb, 0, none⟩ = some (.slice A s.caches.length cp))) (by kernel_rfl) (by (try dsimp only); (first | ((repeat (with_reducible refine setNeC (by omega) ?_)); with_reducible exact hx6) | exact hS _ (by repeat (first | with_reducible exact Only.refl _ _ | with_reducible assumption | with_reducible refine Only.alloc ?_ _ | with_reducible refine Only.drew ?_ | with_reducible refine Only.drewN ?_ _ | (with_reducible refine Only.setNew ?_ ?_ _; rotate_left; ((try simp); (try omega))))))) (fun hHeld => ?_)
  refine take_read (i := 0) 24 (v := ?v0) rfl rfl (by kernel_rfl) (by kernel_rfl) (by kernel_rfl) (fun _ _ _ h => h) (by rfl) ?hy0 (by assumption) ?rest0
  case hy0 => (intro w hSw; (try dsimp only at hSw); go_simp; (try with_reducible rfl))
  try simp only [Act.put, List.setIfInBounds_toArray, List.set_cons_zero, List.set_cons_succ]
  refine take_read (i := 1) 25 (v := ?v1) rfl rfl (by kernel_rfl) (by kernel_rfl) (by kernel_rfl) (fun _ _ _ h => h) (by rfl) ?hy1 (by assumption) ?rest1
  case hy1 => (intro w hSw; (try dsimp only at hSw); go_simp; (try with_reducible rfl))
  try simp only [Act.put, List.setIfInBounds_toArray, List.set_cons_zero, List.set_cons_succ]
  refine take_read (i := 2) 26 (v := ?v2) rfl rfl (by kernel_rfl) (by kernel_rfl) (by kernel_rfl) (fun _ _ _ h => h) (by rfl) ?hy2 (by assumption) ?rest2
  case hy2 => (intro w hSw; (try dsimp only at hSw); go_simp; (try with_reducible rfl))
  try simp only [Act.put, List.setIfInBounds_toArray, List.set_cons_zero, List.set_cons_succ]
  refine take_read (i := 3) 27 (v := ?v3) rfl rfl (by kernel_rfl) (by kernel_rfl) (by kernel_rfl) (fun _ _ _ h => h) (by rfl) ?hy3 (by assumption) ?rest3
  case hy3 => (intro w hSw; (try dsimp only at hSw); go_simp; (try with_reducible rfl))
  try simp only [Act.put, List.setIfInBounds_toArray, List.set_cons_zero, List.set_cons_succ]
  refine take_read (i := 4) 28 (v := ?v4) rfl rfl (by kernel_rfl) (by kernel_rfl) (by kernel_rfl) (fun _ _ _ h => h) (by rfl) ?hy4 (by assumption) ?rest4
  case hy4 => (intro w hSw; (try dsimp only at hSw); go_simp; (try with_reducible rfl))
  try simp only [Act.put, List.setIfInBounds_toArray, List.set_cons_zero, List.set_cons_succ]
  refine wpAnyH_ready (rs := [5]) (by kernel_rfl) (by simp) ?_
  refine AllReadyH.cons rfl (fun K hK => ?_) AllReadyH.nil
  go_simp
  (go_at_call 91; refine (l15Response_any (w.heap.size + 1 + 1) _ (by repeat (first | with_reducible assumption | with_reducible refine Cur.alloc ?_ _ | with_reducible refine Cur.drew ?_ | with_reducible refine Cur.drewN ?_ _ | (with_reducible refine Cur.set ?_ ?_ _; rotate_left; ((try simp); (try omega)))))).mono ?_; rintro e w6 ⟨u, rfl, ⟨vs, y, G, rfl, hu, hul, hfu⟩, ho6, hc6⟩; obtain ⟨u3, F3, rfl, rfl, huok, m3⟩ := TResp.outA hu; obtain ⟨U, cu, hue⟩ := cL_form m3; subst hue; have hoW6 : Only [w.heap.size + 1 + 1] W w6 := (show Only [w.heap.size + 1 + 1] W _ from (by repeat (first | with_reducible exact Only.refl _ _ | with_reducible assumption | with_reducible refine Only.alloc ?_ _ | with_reducible refine Only.drew ?_ | with_reducible refine Only.drewN ?_ _ | (with_reducible refine Only.setNew ?_ ?_ _; rotate_left; ((try simp); (try omega)))))).trans ho6; have hk3 := (hoW6.block w.heap.size (by omega) (by simp; omega)).trans hrow; have hk4 := (hoW6.block (w.heap.size + 1) (by omega) (by simp)).trans hrow2; have ya : w6.cell? ⟨w.heap.size, 0, none⟩ = _ := (World.cell?_of_block hk3).trans ra; have ka : w6.frozen? ⟨w.heap.size, 0, none⟩ = false := (World.frozen?_of_block hk3).trans za; have yb : w6.cell? ⟨w.heap.size + 1, 0, none⟩ = _ := (World.cell?_of_block hk4).trans rb; have kb : w6.frozen? ⟨w.heap.size + 1, 0, none⟩ = false := (World.frozen?_of_block hk4).trans zb; have yc : w6.cell? ⟨w.heap.size + 1, 1, none⟩ = _ := (World.cell?_of_block hk4).trans rc; have kc : w6.frozen? ⟨w.heap.size + 1, 1, none⟩ = false := (World.frozen?_of_block hk4).trans zc; have yd : w6.cell? ⟨w.heap.size + 1, 2, none⟩ = _ := (World.cell?_of_block hk4).trans rd; have kd : w6.frozen? ⟨w.heap.size + 1, 2, none⟩ = false := (World.frozen?_of_block hk4).trans zd; have yf : w6.cell? ⟨w.heap.size + 1, 3, none⟩ = _ := (World.cell?_of_block hk4).trans rf; have kf : w6.frozen? ⟨w.heap.size + 1, 3, none⟩ = false := (World.frozen?_of_block hk4).trans zf; have yg : w6.cell? ⟨w.heap.size + 1, 4, none⟩ = _ := (World.cell?_of_block hk4).trans rg; have kg : w6.frozen? ⟨w.heap.size + 1, 4, none⟩ = false := (World.frozen?_of_block hk4).trans zg; have hx6 := hS w6 hoW6; have hxn : w.heap.size < xb := (by omega); have hS6 := setNeC (v := .slice A s.caches.length cp) (i := 0) (Nat.ne_of_lt hxn) hx6; have hxn2 : ¬ w.heap.size = xb := (by omega); have hxn3 : ¬ xb = w.heap.size := (by omega); have hxn4 : ¬ w.heap.size + 1 = xb := (by omega); have hxn5 : ¬ xb = w.heap.size + 1 := (by omega); have hB6 : Below w.heap.size w w6 := hBW.trans (hoW6.bel w.heap.size hBW.size (fun y hy => by simp at hy; omega)); have hfu' : Fresh (w.heap.size + 1 + 1) G := hfu.mono (by (try simp); (try omega)); have hr6 := Turn.rep (Turn.mk hoW6) HRW.out.2.1 HRW.out.1; have HR6 := Lib.hid (And.intro hr6 m3); clear hk3 hk4 hu hr6 m3)
  try go_wp2_with fail
  refine hK.out _ _ ?_ (fun hHeld => ?_)
  · (try dsimp only)
    (first | ((repeat (with_reducible refine setNeC (by omega) ?_)); with_reducible exact hx6) | exact hS _ (by repeat (first | with_reducible exact Only.refl _ _ | with_reducible assumption | with_reducible refine Only.alloc ?_ _ | with_reducible refine Only.drew ?_ | with_reducible refine Only.drewN ?_ _ | (with_reducible refine Only.setNew ?_ ?_ _; rotate_left; ((try simp); (try omega))))))
  clear hK K
  try simp only [Act.put, List.setIfInBounds_toArray, List.set_cons_zero, List.set_cons_succ]
  refine wpAnyH_ready (rs := [6]) (by kernel_rfl) (by simp) ?_
  refine AllReadyH.cons rfl (fun K hK => ?_) AllReadyH.nil
  first | (go_at_call 91; refine (l15Response_any (w.heap.size + 1 + 1) _ (by repeat (first | with_reducible assumption | with_reducible refine Cur.alloc ?_ _ | with_reducible refine Cur.drew ?_ | with_reducible refine Cur.drewN ?_ _ | (with_reducible refine Cur.set ?_ ?_ _; rotate_left; ((try simp); (try omega)))))).mono ?_; rintro e w6 ⟨u, rfl, ⟨vs, y, G, rfl, hu, hul, hfu⟩, ho6, hc6⟩; obtain ⟨u3, F3, rfl, rfl, huok, m3⟩ := TResp.outA hu; obtain ⟨U, cu, hue⟩ := cL_form m3; subst hue; have hoW6 : Only [w.heap.size + 1 + 1] W w6 := (show Only [w.heap.size + 1 + 1] W _ from (by repeat (first | with_reducible exact Only.refl _ _ | with_reducible assumption | with_reducible refine Only.alloc ?_ _ | with_reducible refine Only.drew ?_ | with_reducible refine Only.drewN ?_ _ | (with_reducible refine Only.setNew ?_ ?_ _; rotate_left; ((try simp); (try omega)))))).trans ho6; have hk3 := (hoW6.block w.heap.size (by omega) (by simp; omega)).trans hrow; have hk4 := (hoW6.block (w.heap.size + 1) (by omega) (by simp)).trans hrow2; have ya : w6.cell? ⟨w.heap.size, 0, none⟩ = _ := (World.cell?_of_block hk3).trans ra; have ka : w6.frozen? ⟨w.heap.size, 0, none⟩ = false := (World.frozen?_of_block hk3).trans za; have yb : w6.cell? ⟨w.heap.size + 1, 0, none⟩ = _ := (World.cell?_of_block hk4).trans rb; have kb : w6.frozen? ⟨w.heap.size + 1, 0, none⟩ = false := (World.frozen?_of_block hk4).trans zb; have yc : w6.cell? ⟨w.heap.size + 1, 1, none⟩ = _ := (World.cell?_of_block hk4).trans rc; have kc : w6.frozen? ⟨w.heap.size + 1, 1, none⟩ = false := (World.frozen?_of_block hk4).trans zc; have yd : w6.cell? ⟨w.heap.size + 1, 2, none⟩ = _ := (World.cell?_of_block hk4).trans rd; have kd : w6.frozen? ⟨w.heap.size + 1, 2, none⟩ = false := (World.frozen?_of_block hk4).trans zd; have yf : w6.cell? ⟨w.heap.size + 1, 3, none⟩ = _ := (World.cell?_of_block hk4).trans rf; have kf : w6.frozen? ⟨w.heap.size + 1, 3, none⟩ = false := (World.frozen?_of_block hk4).trans zf; have yg : w6.cell? ⟨w.heap.size + 1, 4, none⟩ = _ := (World.cell?_of_block hk4).trans rg; have kg : w6.frozen? ⟨w.heap.size + 1, 4, none⟩ = false := (World.frozen?_of_block hk4).trans zg; have hx6 := hS w6 hoW6; have hxn : w.heap.size < xb := (by omega); have hS6 := setNeC (v := .slice A s.caches.length cp) (i := 0) (Nat.ne_of_lt hxn) hx6; have hxn2 : ¬ w.heap.size = xb := (by omega); have hxn3 : ¬ xb = w.heap.size := (by omega); have hxn4 : ¬ w.heap.size + 1 = xb := (by omega); have hxn5 : ¬ xb = w.heap.size + 1 := (by omega); have hB6 : Below w.heap.size w w6 := hBW.trans (hoW6.bel w.heap.size hBW.size (fun y hy => by simp at hy; omega)); have hfu' : Fresh (w.heap.size + 1 + 1) G := hfu.mono (by (try simp); (try omega)); have hr6 := Turn.rep (Turn.mk hoW6) HRW.out.2.1 HRW.out.1; have HR6 := Lib.hid (And.intro hr6 m3); clear hk3 hk4 hu hr6 m3) | go_simp
  refine hK.out _ _ ?_ (fun hHeld => ?_)
  · (try dsimp only)
    (first | ((repeat (with_reducible refine setNeC (by omega) ?_)); with_reducible exact hx6) | exact hS _ (by repeat (first | with_reducible exact Only.refl _ _ | with_reducible assumption | with_reducible refine Only.alloc ?_ _ | with_reducible refine Only.drew ?_ | with_reducible refine Only.drewN ?_ _ | (with_reducible refine Only.setNew ?_ ?_ _; rotate_left; ((try simp); (try omega))))))
  clear hK K
  try simp only [Act.put, List.setIfInBounds_toArray, List.set_cons_zero, List.set_cons_succ]
  refine take_read (i := 7) 3 (v := ?v7) rfl rfl (by kernel_rfl) (by kernel_rfl) (by kernel_rfl) (fun _ _ _ h => h) (by rfl) ?hy7 (by assumption) ?rest7
  case hy7 => (intro w hSw; (try dsimp only at hSw); go_simp; (try with_reducible rfl))
  try simp only [Act.put, List.setIfInBounds_toArray, List.set_cons_zero, List.set_cons_succ]
  refine take_read (i := 8) 4 (v := ?v8) rfl rfl (by kernel_rfl) (by kernel_rfl) (by kernel_rfl) (fun _ _ _ h => h) (by rfl) ?hy8 (by assumption) ?rest8
  case hy8 => (intro w hSw; (try dsimp only at hSw); go_simp; (try with_reducible rfl))
  try simp only [Act.put, List.setIfInBounds_toArray, List.set_cons_zero, List.set_cons_succ]
  refine take_read (i := 9) 5 (v := ?v9) rfl rfl (by kernel_rfl) (by kernel_rfl) (by kernel_rfl) (fun _ _ _ h => h) (by rfl) ?hy9 (by assumption) ?rest9
  case hy9 => (intro w hSw; (try dsimp only at hSw); go_simp; (try with_reducible rfl))
  try simp only [Act.put, List.setIfInBounds_toArray, List.set_cons_zero, List.set_cons_succ]
  refine wpAnyH_ready (rs := [10]) (by kernel_rfl) (by simp) ?_
  refine AllReadyH.cons rfl (fun K hK => ?_) AllReadyH.nil
  first | (go_at_call 91; refine (l15Response_any (w.heap.size + 1 + 1) _ (by repeat (first | with_reducible assumption | with_reducible refine Cur.alloc ?_ _ | with_reducible refine Cur.drew ?_ | with_reducible refine Cur.drewN ?_ _ | (with_reducible refine Cur.set ?_ ?_ _; rotate_left; ((try simp); (try omega)))))).mono ?_; rintro e w6 ⟨u, rfl, ⟨vs, y, G, rfl, hu, hul, hfu⟩, ho6, hc6⟩; obtain ⟨u3, F3, rfl, rfl, huok, m3⟩ := TResp.outA hu; obtain ⟨U, cu, hue⟩ := cL_form m3; subst hue; have hoW6 : Only [w.heap.size + 1 + 1] W w6 := (show Only [w.heap.size + 1 + 1] W _ from (by repeat (first | with_reducible exact Only.refl _ _ | with_reducible assumption | with_reducible refine Only.alloc ?_ _ | with_reducible refine Only.drew ?_ | with_reducible refine Only.drewN ?_ _ | (with_reducible refine Only.setNew ?_ ?_ _; rotate_left; ((try simp); (try omega)))))).trans ho6; have hk3 := (hoW6.block w.heap.size (by omega) (by simp; omega)).trans hrow; have hk4 := (hoW6.block (w.heap.size + 1) (by omega) (by simp)).trans hrow2; have ya : w6.cell? ⟨w.heap.size, 0, none⟩ = _ := (World.cell?_of_block hk3).trans ra; have ka : w6.frozen? ⟨w.heap.size, 0, none⟩ = false := (World.frozen?_of_block hk3).trans za; have yb : w6.cell? ⟨w.heap.size + 1, 0, none⟩ = _ := (World.cell?_of_block hk4).trans rb; have kb : w6.frozen? ⟨w.heap.size + 1, 0, none⟩ = false := (World.frozen?_of_block hk4).trans zb; have yc : w6.cell? ⟨w.heap.size + 1, 1, none⟩ = _ := (World.cell?_of_block hk4).trans rc; have kc : w6.frozen? ⟨w.heap.size + 1, 1, none⟩ = false := (World.frozen?_of_block hk4).trans zc; have yd : w6.cell? ⟨w.heap.size + 1, 2, none⟩ = _ := (World.cell?_of_block hk4).trans rd; have kd : w6.frozen? ⟨w.heap.size + 1, 2, none⟩ = false := (World.frozen?_of_block hk4).trans zd; have yf : w6.cell? ⟨w.heap.size + 1, 3, none⟩ = _ := (World.cell?_of_block hk4).trans rf; have kf : w6.frozen? ⟨w.heap.size + 1, 3, none⟩ = false := (World.frozen?_of_block hk4).trans zf; have yg : w6.cell? ⟨w.heap.size + 1, 4, none⟩ = _ := (World.cell?_of_block hk4).trans rg; have kg : w6.frozen? ⟨w.heap.size + 1, 4, none⟩ = false := (World.frozen?_of_block hk4).trans zg; have hx6 := hS w6 hoW6; have hxn : w.heap.size < xb := (by omega); have hS6 := setNeC (v := .slice A s.caches.length cp) (i := 0) (Nat.ne_of_lt hxn) hx6; have hxn2 : ¬ w.heap.size = xb := (by omega); have hxn3 : ¬ xb = w.heap.size := (by omega); have hxn4 : ¬ w.heap.size + 1 = xb := (by omega); have hxn5 : ¬ xb = w.heap.size + 1 := (by omega); have hB6 : Below w.heap.size w w6 := hBW.trans (hoW6.bel w.heap.size hBW.size (fun y hy => by simp at hy; omega)); have hfu' : Fresh (w.heap.size + 1 + 1) G := hfu.mono (by (try simp); (try omega)); have hr6 := Turn.rep (Turn.mk hoW6) HRW.out.2.1 HRW.out.1; have HR6 := Lib.hid (And.intro hr6 m3); clear hk3 hk4 hu hr6 m3) | go_simp
  refine hK.out _ _ ?_ (fun hHeld => ?_)
  · (try dsimp only)
    (first | ((repeat (with_reducible refine setNeC (by omega) ?_)); with_reducible exact hx6) | exact hS _ (by repeat (first | with_reducible exact Only.refl _ _ | with_reducible assumption | with_reducible refine Only.alloc ?_ _ | with_reducible refine Only.drew ?_ | with_reducible refine Only.drewN ?_ _ | (with_reducible refine Only.setNew ?_ ?_ _; rotate_left; ((try simp); (try omega))))))
  clear hK K
  try simp only [Act.put, List.setIfInBounds_toArray, List.set_cons_zero, List.set_cons_succ]
  refine wpAnyH_done (by kernel_rfl) ?_ _
  go_wp2_with fail
  refine bodyPost_ret (v := .tuple #[.agg #[.slice A s.caches.length cp], .int .i64 (1 + q), .string st, .string pa, .agg #[.int .i64 y.type, .int .i64 y.status, .int .i64 y.ver, .slice U y.body.length cu, .bool y.shares]]) (by simp [results, Try.results36, go_sem, *]) rfl ?_
  have hlow := hfu'.1
  have hlow2 : ∀ b, b ∈ F2 → w.heap.size + 1 + 1 ≤ b := fun b hb => by have := HRW.out.2.2.1 b hb; omega
  have hr6 := HR6.out.1
  have m3 := HR6.out.2
  exact ⟨s, A, cp, F2, 1 + q, st, pa, _, y, G, rfl, (by repeat (first | with_reducible exact Below.refl _ _ | with_reducible assumption | with_reducible refine bel_alloc ?_ _ | with_reducible refine bel_drew ?_ | with_reducible refine bel_drewN ?_ _ | (with_reducible refine bel_set ?_ ?_ _; rotate_left; ((try simp); (try omega))))), (by repeat (first | with_reducible exact hr6 | with_reducible refine Cod.allocA ?_ _ | with_reducible refine Cod.drewA ?_ | with_reducible refine Cod.drewNA ?_ _ | ((with_reducible refine Cod.setA ?_ ?_ _); rotate_left; ((intro hm9; have hm8 := hlow2 _ hm9; (try simp at hm8); (try omega)))))), TResp.mk_ huok (by repeat (first | with_reducible exact m3 | with_reducible refine Cod.allocA ?_ _ | with_reducible refine Cod.drewA ?_ | with_reducible refine Cod.drewNA ?_ _ | ((with_reducible refine Cod.setA ?_ ?_ _); rotate_left; ((intro hm9; have hm8 := hlow _ hm9; (try simp at hm8); (try omega)))))), hsz, by omega, by omega, hst, hpa1, smallResp_sz hul, HRW.out.2.2.mono (by omega), hfu'.mono (by omega)⟩
end Go.Proofs.Ytlicnppfgfjkgaa
