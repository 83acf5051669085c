/-
  A row of the call's own cut in two; slices.Delete of one cache. No conditions.
-/
import Derived.Test.YtlicnppfgfjkgaaZCopySetI
import Derived.Lib.SliceRun
namespace Go.Proofs.Ytlicnppfgfjkgaa
open Go.ChangeShapes Go.WideShapes Go.RowKit
set_option linter.unusedVariables false

section
variable {α : Type} {c : Cod α} {e : TypeId} {B : Nat} {w w' : World} {A : Option Addr} {n cp : Nat} {xs : List α} {Fi : List Nat}
theorem Own.split (hw : 0 < c.wd) (h : Own c e B w (.slice A n cp) xs Fi) {k j : Nat} (hkj : k ≤ j) (hj : j ≤ xs.length) (hn : 0 < xs.length) :
    ∃ g F1 F2, A = some ⟨g, 0, none⟩ ∧ n = xs.length ∧ n ≤ cp ∧ cp ≤ maxLen ∧ Own c e B w (.slice A k cp) (xs.take k) F1 ∧ AppSrc c w (.slice (if cp = j then A else some ⟨g, j * c.wd, none⟩) (n - j) (cp - j)) (xs.drop j) F2 ∧
      (F1 ++ F2).Sublist Fi ∧ ownB (.slice A k cp) = some g ∧ ownB (.slice A n cp) = some g ∧ B ≤ g ∧ (∀ i, i < cp * c.wd → ∃ u, w.cell? ⟨g, i, none⟩ = some u) ∧ ∀ i, w.frozen? ⟨g, i, none⟩ = false := by
  rcases h.form with ⟨rfl, -⟩ | ⟨g, cap, cur, us, hv, hB, hh, hnc, hcm, hsz, ht, ho, hr⟩
  · simp at hn
  · simp only [Value.slice.injEq] at hv
    obtain ⟨rfl, rfl, rfl⟩ := hv
    rw [← List.take_append_drop j xs] at hr
    obtain ⟨u12, u3, G12, G3, hus, rfl, r12, r3⟩ := Cod.reps_cut hr
    rw [← List.take_append_drop k (xs.take j), List.take_take, Nat.min_eq_left hkj] at r12
    obtain ⟨u1, u2, G1, G2, hu12, rfl, r1, r2⟩ := Cod.reps_cut r12
    have hl1 := Cod.reps_len r1
    rw [List.length_take, Nat.min_eq_left (Nat.le_trans hkj hj)] at hl1
    have hl2 := Cod.reps_len r2
    rw [List.length_drop, List.length_take, Nat.min_eq_left hj] at hl2
    have hl12 : u12.length = j * c.wd := by rw [hu12, List.length_append, hl1, hl2, ← Nat.add_mul, Nat.add_sub_cancel' hkj]
    have hus' : us = u1 ++ (u2 ++ u3) := by rw [hus, hu12, List.append_assoc]
    have hkl : k * c.wd ≤ xs.length * c.wd := Nat.mul_le_mul_right _ (Nat.le_trans hkj hj)
    have htk : cur.toList.take (k * c.wd) = u1 := by
      have : (cur.toList.take (xs.length * c.wd)).take (k * c.wd) = u1 := by rw [ht, hus', ← hl1]; simp
      rwa [List.take_take, Nat.min_eq_left hkl] at this
    refine ⟨g, G1, G3, rfl, rfl, hnc, hcm, .inr ⟨u1, ⟨by rw [hl1, List.length_take, Nat.min_eq_left (Nat.le_trans hkj hj)], .inr ⟨g, cap + 1, cur, by rw [List.length_take, Nat.min_eq_left (Nat.le_trans hkj hj)], hB, hh, by rw [List.length_take]; omega, hcm, hsz, by rw [List.length_take, Nat.min_eq_left (Nat.le_trans hkj hj)]; exact htk⟩⟩, r1⟩, ?_, ?_, rfl, rfl, hB, fun i hi => ⟨cur[i]'(by rw [hsz]; exact hi), by rw [(show Blk w g e cur from hh).cell, Array.getElem?_eq_getElem]⟩, fun i => (show Blk w g e cur from hh).frozen i⟩
    · refine ⟨_, cap + 1 - j, u3, by rw [List.length_drop], r3, fun hp => ?_⟩
      rw [List.length_drop] at hp
      rw [if_neg (by omega)]
      refine ⟨_, rfl, fun i u hu => ?_⟩
      rw [Addr.add_lit]
      have h1 : us[j * c.wd + i]? = some u := by rw [hus, List.getElem?_append_right (by omega), hl12, Nat.add_sub_cancel_left]; exact hu
      have h2 := (List.getElem?_eq_some_iff.1 h1).1
      rw [ho.1] at h2
      exact (ho.cellAt _ h2).trans h1
    · rw [List.append_assoc]
      exact (List.Sublist.refl G1).append (List.sublist_append_right _ _)
theorem Own.setTail (h : Own c e B w (.slice A n cp) xs Fi) {g o : Nat} (ho : xs.length * c.wd ≤ o) (hg : g ∉ Fi) (u : Value) : Own c e B (w.setCell ⟨g, o, none⟩ u) (.slice A n cp) xs Fi := by
  rcases h.form with h | ⟨g', cap, cur, us, hv, hB, hh, hnc, hcm, hsz, ht, ho', hr⟩
  · exact .inl h
  · have hr' : c.reps (w.setCell ⟨g, o, none⟩ u) us xs Fi := Cod.reps_keep hr fun b hb => Below.heap_setCell _ _ _ _ (fun e => hg (by have e' : b = g := e; rw [← e']; exact hb))
    rw [hv]
    by_cases hgg : g' = g
    · subst hgg
      refine .inr ⟨us, ⟨ho'.1, .inr ⟨g', cap + 1, cur.setIfInBounds o u, rfl, hB, (show Blk w g' e cur from hh).set_ o u, hnc, hcm, by simpa using hsz, ?_⟩⟩, hr'⟩
      rw [Array.toList_setIfInBounds, List.take_set, List.set_eq_of_length_le (by rw [ht, ho'.1]; exact ho)]; exact ht
    · exact .inr ⟨us, ⟨ho'.1, .inr ⟨g', cap + 1, cur, rfl, hB, (Below.heap_setCell _ _ _ _ hgg).trans hh, hnc, hcm, hsz, ht⟩⟩, hr'⟩
end

theorem Own.room {α : Type} {c : Cod α} {e : TypeId} {B : Nat} {w : World} {g n cp : Nat} {xs : List α} {Fi : List Nat} (h : Own c e B w (.slice (some ⟨g, 0, none⟩) n cp) xs Fi) (hcp : 0 < cp) : (∀ i, i < cp * c.wd → ∃ u, w.cell? ⟨g, i, none⟩ = some u) ∧ ∀ i, w.frozen? ⟨g, i, none⟩ = false := by
  rcases h.form with ⟨-, -, A, hv⟩ | ⟨g', cap, cur, us, hv, hB, hh, hnc, hcm, hsz, ht, ho', hr⟩
  · simp only [Value.slice.injEq] at hv; omega
  · simp only [Value.slice.injEq, Option.some.injEq, Addr.mk.injEq, and_true] at hv
    obtain ⟨rfl, -, rfl⟩ := hv
    exact ⟨fun i hi => ⟨cur[i]'(by rw [hsz]; exact hi), by rw [(show Blk w g e cur from hh).cell, Array.getElem?_eq_getElem]⟩, fun i => (show Blk w g e cur from hh).frozen i⟩
/-- clear of one element -/
theorem run_clear_one {P : Program} (w : World) (t e ty : TypeId) (z z0 z1 : Value) (ht : P.underlying t = some (.slice e)) (hv : ∀ w, (zeroValue e).run P w = .ok z w) (hz : z.cells = #[z0, z1]) (h0 : z0.oneCell' = true) (h1 : z1.oneCell' = true) (b o c : Nat)
    (hc : ∀ j, j < 2 → ∃ u, w.cell? ⟨b, o + j, none⟩ = some u) (hf : ∀ j, w.frozen? ⟨b, o + j, none⟩ = false) :
    (Builtin.clear_ #[t] ty #[.slice (some ⟨b, o, none⟩) 1 c]).run P w = .ok (.tuple #[]) ((w.setCell ⟨b, o, none⟩ z0).setCell ⟨b, o + 1, none⟩ z1) := by
  have hzc : (Builtin.zeroCells z.cells 1).toList = [z0, z1] := by rw [hz]; simp [Builtin.zeroCells, Array.range]
  have hst := run_storeCells_cells (P := P) b o [z0, z1] 0 w (fun j hj => by obtain ⟨u, hu⟩ := hc j hj; rw [Nat.add_zero, hu]; rfl) (fun j _ => by rw [Nat.add_zero]; exact hf j) (by intro v hv'; simp at hv'; rcases hv' with rfl | rfl <;> assumption)
  simp only [Nat.add_zero] at hst
  simp [Builtin.clear_, run_underlying ht, hv, hzc, hst, World.setCells]

section
variable {α : Type} {c : Cod α} {e : TypeId} {B : Nat} {A : Option Addr} {n cp : Nat} {xs ys : List α} {Fi Fy : List Nat} {P : Program} (w : World)
/-- append where there is room: in place -/
theorem app_room (t ty : TypeId) (i : TypeInfo) (ht : P.underlying t = some (.slice e)) (hi : P.info? e = some i) (hsize : i.size = c.wd)
    (hown : Own c e B w (.slice A n cp) xs Fi) (hcp : 0 < cp) (x : Value) (hx : AppSrc c w x ys Fy) (hroom : n + ys.length ≤ cp) {v' : Value} {w' : World}
    (hr : (Builtin.append_ #[t, t] ty #[.slice A n cp, x]).run P w = .ok v' w') : v' = .slice A (n + ys.length) cp := by
  obtain ⟨D, d, news, rfl, hrep, hA⟩ := hx
  cases ys with
  | nil =>
    have hr2 := run_append_zero w t ty e i ht hi A D n cp d (by simpa using hroom)
    rw [List.length_nil] at hr
    rw [hr2] at hr
    injection hr with h1 h2
    rw [← h1]; rfl
  | cons y ys =>
    obtain ⟨ad, rfl, hc⟩ := hA (by simp)
    rcases hown.form with ⟨rfl, -, A', hv⟩ | ⟨g, cap, cur, us, hv, hB, hh, hnc, hcm, hsz, ht', ho, hro⟩
    · simp only [Value.slice.injEq] at hv
      omega
    · simp only [Value.slice.injEq] at hv
      obtain ⟨rfl, rfl, rfl⟩ := hv
      have hl := Cod.reps_len hrep
      have h2 := run_append_room (P := P) w t ty e i ht hi g xs.length (cap + 1) cur hh ad (y :: ys).length d news (by rw [hl, hsize]) hc (Cod.reps_ones hrep) hroom (by rw [hl, hsz, hsize, ← Nat.add_mul]; exact Nat.mul_le_mul_right _ hroom)
      rw [h2] at hr
      injection hr with h1 h2
      exact h1.symm
theorem step_room {ops : Array Oper} {o : Oper} {a : Act} {K : Act → World → Prop} {Q : Exit → Act → World → Prop} {E : Prop} (hgd : o.guard = none) (s x' : Operand) (t : TypeId)
    (ho : o.op = .call { callee := .builtin .append, args := #[s, x'], argTypes := #[t, t] })
    (i : TypeInfo) (z : Value) (bytes : Nat) (ht : P.underlying t = some (.slice e)) (hi : P.info? e = some i) (hz : i.zero = some z)
    (hsize : i.size = c.wd) (hby : i.bytes = bytes) (hzs : z.cells.size = c.wd) (hw : 0 < c.wd)
    (hs : a.eval s = .slice A n cp) (hn : n = xs.length) (hown : Own c e B w (.slice A n cp) xs Fi) (hcp : 0 < cp) (x : Value) (hx' : a.eval x' = x) (hx : AppSrc c w x ys Fy)
    (h63 : xs.length + ys.length ≤ maxLen) (hbytes : (xs.length + ys.length) * bytes ≤ 140737488355328) (hB : B ≤ w.heap.size)
    (hd : ∀ g, ownB (.slice A n cp) = some g → g ∉ Fi ∧ g ∉ Fy) (m : Nat) (hm : n + ys.length = m) (hroom : m ≤ cp)
    (h : ∀ w', Own c e B w' (.slice A m cp) (xs ++ ys) (Fi ++ Fy) → w.grownBy w' (ownB (.slice A n cp)) → K (a.put o.dst (.slice A m cp)) w') :
    if Region.wanted o (yielded ops a.tmps) = true then Oper.wp P o a w K Q else E := by
  have hw' : Region.wanted o (yielded ops a.tmps) = true := by simp [Region.wanted, hgd]
  rw [if_pos hw']
  obtain ⟨v', w', hrun, h2, h3, h4⟩ := run_app (P := P) w t o.type i z bytes ht hi hz hsize hby hzs hw hown x hx h63 hbytes hB hd
  obtain rfl := app_room w t o.type i ht hi hsize hown hcp x hx (by omega) hrun
  rw [hm] at hrun h2
  unfold Oper.wp execOp
  simp only [ho, resolve, invoke, builtin, Sem.run_bind, Sem.run_pure, Result.andThen_ok, List.map_toArray, List.map_cons, List.map_nil, hs, hx', hrun]
  exact h w' h2 h3
end

set_option maxRecDepth 100000 in
set_option maxHeartbeats 4000000 in
theorem deleteCache_any (A : Option Addr) (m cp k : Nat) (xs : List TCache) (Fi : List Nat) (B : Nat) (w : World) (h : Own cCacheO 125 B w (.slice A (m + 1) cp) xs Fi) (hd : ∀ g, ownB (.slice A (m + 1) cp) = some g → g ∉ Fi) (hxm : xs.length = m + 1) (hk : k ≤ m) (hn : m ≤ 1048576) (hB : B ≤ w.heap.size) :
    Calls Try.prog 102 #[.slice A (m + 1) cp, .int .i64 k, .int .i64 (k + 1)] w fun e w' => ∃ F, e = .returned (.slice A m cp) ∧ Own cCacheO 125 B w' (.slice A m cp) (xs.take k ++ xs.drop (k + 1)) F ∧ F.Sublist Fi ∧ Below B w w' ∧ (∀ i, i < w.heap.size → ownB (.slice A (m + 1) cp) ≠ some i → w'.heap[i]? = w.heap[i]?) := by
  obtain ⟨i0, hi0, hz0, hz1, hz2⟩ := info_parts infoCache
  obtain ⟨g, G1, G2, rfl, -, hncp, hcm, ho1, hsrc, hsub, hg1, hg2, hBg, hcells, hfrz⟩ := h.split (by decide) (k := k) (j := k + 1) (by omega) (by omega) (by omega)
  have hgw : g < w.heap.size := (h.lt g hg2).2
  have hgn : g ∉ G1 ++ G2 := fun hm => hd g hg2 (hsub.subset hm)
  unfold maxLen at hcm
  rw [show m + 1 - (k + 1) = m - k by omega] at hsrc
  have HO := Lib.hid (And.intro ho1 (And.intro hsrc (And.intro hgn hcells)))
  clear ho1 hsrc hgn hcells h
  have hki : ((k : Int) + 1 ≤ (m : Int) + 1) := by omega
  have hk0 : (0 : Int) ≤ (k : Int) + 1 := by omega
  have hkc : k ≤ cp := by omega
  have hkc1 : k + 1 ≤ m + 1 := by omega
  have hkc2 : k + 1 ≤ cp := by omega
  have hmc : m ≤ cp := by omega
  have hcm1 : ¬ cp = m := by omega
  have hl1 : (xs.take k).length = k := by rw [List.length_take]; omega
  have hl2 : (xs.drop (k + 1)).length = m - k := by rw [List.length_drop]; omega
  have HL := Lib.hid (And.intro hl1 hl2)
  clear hl1 hl2
  go_enter Try.func102, Try.ntmps102
  go_wp2_with fail
  refine wp_regionT (S := (fun _ => True)) [6, 7] (by kernel_rfl) (by (try dsimp only); (first | done | trivial)) (fun hHeld => ?_)
  refine takeT_read (i := 0) 8 20 (v := ?v0) rfl rfl (by kernel_rfl) (by kernel_rfl) (by kernel_rfl) (by kernel_rfl) (by kernel_rfl) (by kernel_rfl) (fun _ _ _ h => h) (by rfl) ?hy0 (by assumption) ?rest0
  case hy0 => (intro w hSw; (try dsimp only at hSw); go_simp; (try with_reducible rfl))
  try simp only [Act.put, List.setIfInBounds_toArray, List.set_cons_zero, List.set_cons_succ]
  refine takeT_read (i := 1) 8 21 (v := ?v1) rfl rfl (by kernel_rfl) (by kernel_rfl) (by kernel_rfl) (by kernel_rfl) (by kernel_rfl) (by kernel_rfl) (fun _ _ _ h => h) (by rfl) ?hy1 (by assumption) ?rest1
  case hy1 => (intro w hSw; (try dsimp only at hSw); go_simp; (try with_reducible rfl))
  try simp only [Act.put, List.setIfInBounds_toArray, List.set_cons_zero, List.set_cons_succ]
  refine takeT_read (i := 2) 8 22 (v := ?v2) rfl rfl (by kernel_rfl) (by kernel_rfl) (by kernel_rfl) (by kernel_rfl) (by kernel_rfl) (by kernel_rfl) (fun _ _ _ h => h) (by rfl) ?hy2 (by assumption) ?rest2
  case hy2 => (intro w hSw; (try dsimp only at hSw); go_simp; (try with_reducible rfl))
  try simp only [Act.put, List.setIfInBounds_toArray, List.set_cons_zero, List.set_cons_succ]
  refine takeT_read (i := 3) 8 23 (v := ?v3) rfl rfl (by kernel_rfl) (by kernel_rfl) (by kernel_rfl) (by kernel_rfl) (by kernel_rfl) (by kernel_rfl) (fun _ _ _ h => h) (by rfl) ?hy3 (by assumption) ?rest3
  case hy3 => (intro w hSw; (try dsimp only at hSw); go_simp; (try with_reducible rfl))
  try simp only [Act.put, List.setIfInBounds_toArray, List.set_cons_zero, List.set_cons_succ]
  refine takeT_read (i := 4) 8 24 (v := ?v4) rfl rfl (by kernel_rfl) (by kernel_rfl) (by kernel_rfl) (by kernel_rfl) (by kernel_rfl) (by kernel_rfl) (fun _ _ _ h => h) (by rfl) ?hy4 (by assumption) ?rest4
  case hy4 => (intro w hSw; (try dsimp only at hSw); go_simp; (try with_reducible rfl))
  try simp only [Act.put, List.setIfInBounds_toArray, List.set_cons_zero, List.set_cons_succ]
  refine takeT_read (i := 5) 8 25 (v := ?v5) rfl rfl (by kernel_rfl) (by kernel_rfl) (by kernel_rfl) (by kernel_rfl) (by kernel_rfl) (by kernel_rfl) (fun _ _ _ h => h) (by rfl) ?hy5 (by assumption) ?rest5
  case hy5 => (intro w hSw; (try dsimp only at hSw); go_simp; (try with_reducible rfl))
  try simp only [Act.put, List.setIfInBounds_toArray, List.set_cons_zero, List.set_cons_succ]
  refine stepT_end 6 (by kernel_rfl) rfl (by kernel_rfl) (fun K hK => ?_)
  (refine step_room (c := cCacheO) (B := B) (ys := xs.drop (k + 1)) _ rfl _ _ _ rfl i0 _ _ Try.underlying70 hi0 hz0 hz1 hz2 rfl (by decide) rfl HL.out.1.symm (HO.out.1.bel (by repeat (first | with_reducible exact Below.refl _ _ | with_reducible assumption | with_reducible refine bel_alloc ?_ _ | with_reducible refine bel_drew ?_ | with_reducible refine bel_drewN ?_ _ | (with_reducible refine bel_set ?_ ?_ _; rotate_left; ((try simp); (try omega)))))) (by omega) _ rfl (HO.out.2.1.bel (by repeat (first | with_reducible exact Below.refl _ _ | with_reducible assumption | with_reducible refine bel_alloc ?_ _ | with_reducible refine bel_drew ?_ | with_reducible refine bel_drewN ?_ _ | (with_reducible refine bel_set ?_ ?_ _; rotate_left; ((try simp); (try omega)))))) (by rw [HL.out.1, HL.out.2]; unfold maxLen; omega) (by rw [HL.out.1, HL.out.2]; omega) hB (fun g' hg' => by have hg9 : g' = g := Option.some.inj (hg'.symm.trans hg1); rw [hg9]; have hn9 := HO.out.2.2.1; simpa using hn9) m (by rw [HL.out.2]; omega) (by omega) ?_; intro w2 ho2 hgr2)
  refine hK.out _ _ ?_
  clear hK K
  refine stepT_end 7 (by kernel_rfl) rfl (by kernel_rfl) (fun K hK => ?_)
  go_simp
  refine hK.out _ _ ?_
  clear hK K
  refine doneT (by kernel_rfl) ?_ _
  obtain ⟨hcs, hfs⟩ := ho2.room (by omega)
  have hcl : ∀ ty, (Builtin.clear_ #[70] ty #[.slice (some ⟨g, m * 2, none⟩) 1 (cp - m)]).run Try.prog w2 = .ok (.tuple #[]) ((w2.setCell ⟨g, m * 2, none⟩ (.int .i64 0)).setCell ⟨g, m * 2 + 1, none⟩ (.slice none 0 0)) :=
    fun ty => run_clear_one w2 _ 125 ty _ _ _ Try.underlying70 Try.zeroValue125 rfl rfl rfl g (m * 2) _ (fun j hj => hcs _ (by show m * 2 + j < cp * 2; omega)) (fun j => hfs _)
  have HO2 := Lib.hid (And.intro ho2 hgr2)
  clear ho2 hgr2 hcs hfs
  go_wp2_with fail
  all_goals subst_vars
  all_goals (refine bodyPost_ret (v := .slice (some ⟨g, 0, none⟩) m _) (by simp [results, Try.results102, go_sem, *]; rfl) rfl ?_)
  all_goals (refine ⟨rfl, G1 ++ G2, ?_, hsub, ?_, ?_⟩)
  all_goals first
    | (refine Own.setTail (Own.setTail HO2.out.1 ?_ HO.out.2.2.1 _) ?_ HO.out.2.2.1 _ <;> (show _ * 2 ≤ _; simp only [List.length_append, HL.out.1, HL.out.2]; omega))
    | (have hb2 : Below B w.drew _ := (Below.refl _ _).grown HO2.out.2 (by simpa using hB) (fun b hb => by have hg9 : b = g := Option.some.inj (hb.symm.trans hg1); omega)
       exact belB_set hBg (belB_set hBg ((belB_drew (Below.refl _ _)).trans hb2) _) _)
    | (intro i hi hne
       have hne2 : g ≠ i := (by first | exact fun e9 => hne (hg2.trans (congrArg some e9)) | simpa using hne)
       exact (Below.heap_setCell _ _ _ _ (by simpa using Ne.symm hne2)).trans ((Below.heap_setCell _ _ _ _ (by simpa using Ne.symm hne2)).trans (HO2.out.2.block i (by simpa using hi) (by rw [hg1]; simpa using Ne.symm hne2))))
end Go.Proofs.Ytlicnppfgfjkgaa
