/-
  The draw of a set of caches, of any kind. No conditions.
-/
import Derived.Test.YtlicnppfgfjkgaaZDrawSet
import Derived.Test.YtlicnppfgfjkgaaZNest
import Derived.Test.YtlicnppfgfjkgaaZA
namespace Go.Proofs.Ytlicnppfgfjkgaa
open Go.ChangeShapes Go.WideShapes Go.RowKit
set_option linter.unusedVariables false

section
variable {B : Nat} {w1 w4 : World} {n d1 : Nat} {cs : List TCache} {G1 : List Nat} {k : Nat} {hk : k < cs.length} {g : Nat} {cur : Array Value} {E5 : Option Addr} {e5 : Nat} {FiE : List Nat}
/-- one entry more, where blocks apart from the set's may have changed since -/
theorem nest_appF (H : NestAt B w1 n d1 cs G1 k hk g cur E5 e5 FiE) {w5 : World} {v2 : Value} {y : TCached} {G3 : List Nat} (L : Nat) (hL : w1.heap.size ≤ L) (hL4 : L ≤ w4.heap.size) (hs4 : w1.heap.size ≤ w4.heap.size) (hbk : ∀ b, b ∈ G1 → w4.heap[b]? = w1.heap[b]?) (hG3L : Fresh L G3) (hG3l : ∀ b, b ∈ G3 → b < w4.heap.size)
    (ho : Own cCached 129 B w5 v2 (cs[k].entries ++ [y]) (FiE ++ G3)) (hg2 : w4.grownBy w5 (ownB (.slice E5 cs[k].entries.length e5))) (hat : ∀ g', ownB v2 = some g' → ownB (.slice E5 cs[k].entries.length e5) = some g' ∨ w4.heap.size ≤ g') :
    ∃ G', cCachesO.rep (w5.setCell ⟨g, k * 2 + 1, none⟩ v2) [.slice (some ⟨g, 0, none⟩) n d1] (cs.set k ⟨cs[k].ver, cs[k].entries ++ [y]⟩) G' ∧ Fresh B G' ∧ (∀ b, b ∈ G' → b ∈ G1 ∨ L ≤ b) := by
  have hG3 := hG3L.mono hL
  have hglt := H.glt
  have hrow : ∀ b, b ∈ G1 → ownB (.slice E5 cs[k].entries.length e5) ≠ some b → w5.heap[b]? = w1.heap[b]? := fun b hbG hne => (hg2.block b (Nat.lt_of_lt_of_le (H.lt b hbG) hs4) (fun e => hne e.symm)).trans (hbk b hbG)
  have hgr : ownB (.slice E5 cs[k].entries.length e5) ≠ some g := fun e => (H.ne g e).2.1 rfl
  have hblk5 : Blk w5 g 125 cur := (hrow g H.gG hgr).trans H.blk
  have hv2 : ∀ g', ownB v2 = some g' → g' ≠ g := fun g' hg' e => by
    rcases hat g' hg' with h9 | h9
    · exact hgr (e ▸ h9)
    · omega
  have hFi : ∀ b, b ∈ FiE ++ G3 → b ≠ g := fun b hb e => by
    rcases List.mem_append.1 hb with hb | hb
    · exact (H.inG b hb).2 e
    · have := hG3.1 b hb; omega
  have hO : Own cCached 129 B (w5.setCell ⟨g, k * 2 + 1, none⟩ v2) v2 (cs[k].entries ++ [y]) (FiE ++ G3) :=
    ho.keep (fun g' hg' => Below.heap_setCell _ _ _ _ (hv2 g' hg')) (fun b hb => Below.heap_setCell _ _ _ _ (hFi b hb))
  have hfr : Fresh B (FiE ++ G3) := ⟨fun b hb => by
    rcases List.mem_append.1 hb with hb | hb
    · exact H.fresh.1 b hb
    · have := hG3.1 b hb; have := H.gB; omega, List.nodup_append.2 ⟨H.fresh.2, hG3.2, fun a ha b hb e => by have h1 := H.lt a (H.inG a ha).1; have h2 := hG3.1 b hb; omega⟩⟩
  obtain ⟨hr2, hf2⟩ := hO.toO (hw2 := by decide) hfr (fun g' hg' hm => by
    rcases hat g' hg' with h9 | h9
    · rcases List.mem_append.1 hm with hm | hm
      · exact (H.ne g' h9).1 hm
      · have h1 := H.lt g' (H.ne g' h9).2.2; have h2 := hG3.1 g' hm; omega
    · rcases List.mem_append.1 hm with hm | hm
      · have h1 := H.lt g' (H.inG g' hm).1; omega
      · have h1 := hG3l g' hm; omega)
  have hc1 := H.csz
  refine H.upd L hL _ (cur.setIfInBounds (k * 2 + 1) v2) v2 _ _ (hblk5.set_ _ _) (by simp) (fun o ho => Array.getElem?_setIfInBounds_ne (by omega)) (by rw [Array.getElem?_setIfInBounds_ne (by omega)]; exact H.c0) (by rw [Array.getElem?_setIfInBounds, if_pos rfl, if_pos (by omega)]) hr2 (fun b hbG hbg hbn => ?_) hf2.2 (fun b hb => ?_)
  · refine (Below.heap_setCell _ _ _ _ hbg).trans (hrow b hbG (fun e => hbn (by simp [mem_ownL, e])))
  · rcases List.mem_append.1 hb with hb | hb
    · rcases hat b (mem_ownL.1 hb) with h9 | h9
      · exact .inl (by simp [mem_ownL, h9])
      · exact .inr (by omega)
    · rcases List.mem_append.1 hb with hb | hb
      · exact .inl (by simp [hb])
      · exact .inr (hG3L.1 b hb)
end
theorem setEntry_sz {s : TCSet} (h : 0 < s.caches.length) (e : TCached) : cCSet.sz (⟨s.caches.set 0 ⟨s.caches[0].ver, s.caches[0].entries ++ [e]⟩⟩ : TCSet) = cCSet.sz s + cCached.sz e + 1 := by
  obtain ⟨cs⟩ := s
  cases cs with
  | nil => simp at h
  | cons c cs =>
    have h1 : cCSet.sz (⟨c :: cs⟩ : TCSet) = (0 + Cod.szs cCached c.entries) + 1 + Cod.szs cCache cs := rfl
    have h2 : cCSet.sz (⟨(⟨c.ver, c.entries ++ [e]⟩ : TCache) :: cs⟩ : TCSet) = (0 + Cod.szs cCached (c.entries ++ [e])) + 1 + Cod.szs cCache cs := rfl
    show cCSet.sz (⟨(⟨c.ver, c.entries ++ [e]⟩ : TCache) :: cs⟩ : TCSet) = _
    rw [h1, h2, szs_app]
    have h3 : Cod.szs cCached [e] = cCached.sz e + 1 + 0 := rfl
    omega
section
variable {p : Nat} {w0 W W' : World} {xb : Nat} {s s2 : TCSet} {A A2 : Option Addr} {cp cp2 : Nat} {G G2 Fi : List Nat}
/-- the row of caches appended to, and the new row stored -/
theorem CSt.app (h : CSt p w0 xb W s A cp G) {c : TCache} {w5 : World} {A5 : Option Addr} {c5 : Nat} (hFi : Fresh w0.heap.size Fi) (hnF : ∀ g, ownB (.slice A s.caches.length cp) = some g → g ∉ Fi) (hG : G = ownL (.slice A s.caches.length cp) ++ Fi)
    (hg : W.grownBy w5 (ownB (.slice A s.caches.length cp))) (ho : Own cCacheO 125 w0.heap.size w5 (.slice A5 (s.caches.length + 1) c5) (s.caches ++ [c]) Fi)
    (hat : ∀ g, ownB (.slice A5 (s.caches.length + 1) c5) = some g → ownB (.slice A s.caches.length cp) = some g ∨ W.heap.size ≤ g) :
    CSt p w0 xb (w5.setCell ⟨xb, 0, none⟩ (.slice A5 (s.caches.length + 1) c5)) ⟨s.caches ++ [c]⟩ A5 c5 (ownL (.slice A5 (s.caches.length + 1) c5) ++ Fi) := by
  obtain ⟨l1, l2, l3⟩ := h.lt
  have hrG : ∀ g, ownB (.slice A s.caches.length cp) = some g → g ∈ G := fun g hg => by rw [hG]; exact List.mem_append_left _ (mem_ownL.2 hg)
  have hFG : ∀ b, b ∈ Fi → b ∈ G := fun b hb => by rw [hG]; exact List.mem_append_right _ hb
  have hlt := Cod.lt _ h.rep
  have b1 := hg.block xb l3 (fun e => (h.ne xb (hrG xb e.symm)).1 rfl)
  have b2 := hg.block w0.heap.size (by omega) (fun e => (h.ne _ (hrG _ e.symm)).2 rfl)
  have hne5 : ∀ g, ownB (.slice A5 (s.caches.length + 1) c5) = some g → g ≠ xb ∧ g ≠ w0.heap.size ∧ g ∉ Fi ∧ w0.heap.size ≤ g := fun g hg5 => by
    rcases hat g hg5 with h9 | h9
    · exact ⟨(h.ne g (hrG g h9)).1, (h.ne g (hrG g h9)).2, hnF g h9, h.fr.1 g (hrG g h9)⟩
    · exact ⟨by omega, by omega, fun hm => by have := hlt g (hFG g hm); omega, by omega⟩
  have e : (⟨s.caches ++ [c]⟩ : TCSet).caches.length = s.caches.length + 1 := by simp
  have hok := ho.keep (w' := w5.setCell ⟨xb, 0, none⟩ (.slice A5 (s.caches.length + 1) c5)) (fun g hg5 => Below.heap_setCell _ _ _ _ (hne5 g hg5).1) (fun b hb => Below.heap_setCell _ _ _ _ (h.ne b (hFG b hb)).1)
  obtain ⟨hrp, hfp⟩ := hok.toO (hw2 := by decide) hFi (fun g hg5 => (hne5 g hg5).2.2.1)
  have hsz : W.heap.size ≤ w5.heap.size := hg.size
  refine ⟨by rw [e]; exact cell?_set_same ((World.cell?_of_block b1).trans h.x), by rw [frozen?_set]; exact (World.frozen?_of_block b1).trans h.xz, setNeC (by omega) ((World.cell?_of_block b2).trans h.q), by rw [frozen?_set]; exact (World.frozen?_of_block b2).trans h.qz, by rw [e]; exact hrp, hfp, fun b hb => ?_, ?_, ?_, l1, l2, by simp; omega⟩
  · rcases List.mem_append.1 hb with hb | hb
    · have := hne5 b (mem_ownL.1 hb); exact ⟨this.1, this.2.1⟩
    · exact h.ne b (hFG b hb)
  · exact (Cur.grown h.cur hg (fun g hg9 => by have := h.fr.1 g (hrG g hg9); omega)).set (q := ⟨xb, 0, none⟩) (show p < xb by omega) _
  · exact (Only.grown h.only hg (fun g hg9 => h.fr.1 g (hrG g hg9))).setNew (show w0.heap.size ≤ xb by omega) _
end
set_option maxRecDepth 100000 in
set_option maxHeartbeats 8000000 in
theorem l17Any_any (p : Nat) (w : World) (h : Cur w p) :
    Calls Try.prog 90 #[.pointer (some ⟨p, 0, none⟩)] w (Draws p w fun v w' => ∃ (s : TCSet) (A : Option Addr) (cp : Nat), v = .agg #[.slice A s.caches.length cp] ∧ cCSet.sz s ≤ 200000 ∧ ∃ F, cCSet.rep w' [.slice A s.caches.length cp] s F ∧ Fresh w.heap.size F) := by
  obtain ⟨i0, hi0, hz0, hz1, hz2⟩ := info_parts infoCache
  have hpl := h.lt
  go_enter Try.func90, Try.ntmps90
  go_wp2_with fail
  refine (l17Set_any p _ (h.alloc _)).mono ?_
  rintro e w1 ⟨v, rfl, ⟨s, A, cp, G, rfl, hrep, hfr, hnb, hsz⟩, ho1, hc1⟩
  (try simp at hfr)
  have hz1' := ho1.size
  (try simp at hz1')
  have hO1 : Only [p] w w1 := (show Only [p] w _ from (by repeat (first | with_reducible exact Only.refl _ _ | with_reducible assumption | with_reducible refine Only.alloc ?_ _ | with_reducible refine Only.drew ?_ | with_reducible refine Only.drewN ?_ _ | (with_reducible refine Only.setNew ?_ ?_ _; rotate_left; ((try simp); (try omega)))))).trans ho1
  have hq1 : w1.cell? ⟨w.heap.size, 0, none⟩ = some (.slice none 0 0) := (World.cell?_of_block (ho1.block w.heap.size (by simp) (by simp; omega))).trans (by go_simp)
  have hqz1 : w1.frozen? ⟨w.heap.size, 0, none⟩ = false := (World.frozen?_of_block (ho1.block w.heap.size (by simp) (by simp; omega))).trans (by go_simp)
  have hlt1 := Cod.lt _ hrep
  go_upto_region 2 with (fail)
  generalize hW : World.alloc _ _ = W
  have hst : CSt p w w1.heap.size W s A cp G := by
    rw [← hW]
    clear hW
    have hbl := bel_alloc (Below.refl w1.heap.size w1) (.cells #[.slice A s.caches.length cp] 72)
    exact ⟨by go_simp, by go_simp, (hbl.cell (p := ⟨w.heap.size, 0, none⟩) (by simp; omega)).trans hq1, (hbl.frozen (p := ⟨w.heap.size, 0, none⟩) (by simp; omega)).trans hqz1, Cod.bel hrep (bel_alloc (Below.refl _ _) _), hfr.mono (by omega), fun b hb => ⟨by have := hlt1 b hb; omega, by have := hfr.1 b hb; omega⟩, hc1.alloc _, hO1.alloc _, hpl, by omega, by simp⟩
  have HS := Lib.hid hst
  clear hW hst hrep hfr hnb ho1 hc1 hO1 hq1 hqz1 hlt1
  generalize w1.heap.size = xb at *
  go_wp2_with fail
  refine (l1Below_any p 12 _ HS.out.cur (by omega)).mono ?_
  rintro e w4 ⟨v, rfl, ⟨q, rfl, hq0, hq1⟩, ho4, hc4⟩
  have H2 := Lib.hid (HS.out.turn ho4 hc4)
  clear HS ho4 hc4
  have hlt := H2.out.lt
  have hj : q = 0 ∨ q = 1 ∨ q = 2 ∨ ((q == 0) = false ∧ (q == 1) = false ∧ (q == 2) = false) := by
    by_cases h0 : q = 0
    · exact .inl h0
    by_cases h1 : q = 1
    · exact .inr (.inl h1)
    by_cases h2 : q = 2
    · exact .inr (.inr (.inl h2))
    · exact .inr (.inr (.inr (by simp [h0, h1, h2])))
  rcases hj with hj | hj | hj | hj
  · subst hj
    have hx0 := H2.out.x
    have hxz := H2.out.xz
    have hnl := cset_len (show cCSet.sz s ≤ 1048576 by omega)
    have hpw : p < w4.heap.size := by omega
    have hrow : cIS.rep (w4.alloc (.cells #[.int .i64 0, .int .i64 1, .int .i64 9, .int .i64 1000000000001] 3)) [.slice (some ⟨w4.heap.size, 0, none⟩) 4 4] [0, 1, 9, 1000000000001] [w4.heap.size] := rowInt w4 3 [0, 1, 9, 1000000000001] 4 rfl (by simp) (by decide) (by decide)
    have hcu0 := H2.out.cur
    have hS : ∀ w9, Only [p] w4 w9 → w9.cell? ⟨xb, 0, none⟩ = some (.slice A s.caches.length cp) := fun w9 hb => (World.cell?_of_block (a := ⟨xb, 0, none⟩) (hb.block xb (by omega) (by simp; omega))).trans hx0
    go_wp2_with fail
    refine wp_regionT (S := (fun w9 => w9.cell? ⟨xb, 0, none⟩ = some (.slice A s.caches.length cp))) [7, 8, 9] (by kernel_rfl) (by (try dsimp only); exact hS _ (by repeat (first | with_reducible exact Only.refl _ _ | with_reducible assumption | with_reducible refine Only.alloc ?_ _ | with_reducible refine Only.drew ?_ | with_reducible refine Only.drewN ?_ _ | (with_reducible refine Only.setNew ?_ ?_ _; rotate_left; ((try simp); (try omega)))))) (fun hHeld => ?_)
    refine takeT_read (i := 0) 10 11 (v := ?v0) rfl rfl (by kernel_rfl) (by kernel_rfl) (by kernel_rfl) (by kernel_rfl) (by kernel_rfl) (by kernel_rfl) (fun _ _ _ h => h) (by rfl) ?hy0 (by assumption) ?rest0
    case hy0 => (intro w hSw; (try dsimp only at hSw); go_simp; (try with_reducible rfl))
    try simp only [Act.put, List.setIfInBounds_toArray, List.set_cons_zero, List.set_cons_succ]
    refine takeT_read (i := 1) 10 12 (v := ?v1) rfl rfl (by kernel_rfl) (by kernel_rfl) (by kernel_rfl) (by kernel_rfl) (by kernel_rfl) (by kernel_rfl) (fun _ _ _ h => h) (by rfl) ?hy1 (by assumption) ?rest1
    case hy1 => (intro w hSw; (try dsimp only at hSw); go_simp; (try with_reducible rfl))
    try simp only [Act.put, List.setIfInBounds_toArray, List.set_cons_zero, List.set_cons_succ]
    refine takeT_read (i := 2) 10 13 (v := ?v2) rfl rfl (by kernel_rfl) (by kernel_rfl) (by kernel_rfl) (by kernel_rfl) (by kernel_rfl) (by kernel_rfl) (fun _ _ _ h => h) (by rfl) ?hy2 (by assumption) ?rest2
    case hy2 => (intro w hSw; (try dsimp only at hSw); go_simp; (try with_reducible rfl))
    try simp only [Act.put, List.setIfInBounds_toArray, List.set_cons_zero, List.set_cons_succ]
    refine stepT 3 (by kernel_rfl) rfl (fun K hK => ?_)
    first | (go_at_call 123; refine (l1Int_any p _ [0, 1, 9, 1000000000001] _ _ (by repeat (first | with_reducible assumption | with_reducible refine Cur.alloc ?_ _ | with_reducible refine Cur.drew ?_ | with_reducible refine Cur.drewN ?_ _ | (with_reducible refine Cur.set ?_ ?_ _; rotate_left; ((try simp); (try omega))))) (by exact Cod.bel hrow (by repeat (first | with_reducible exact Below.refl _ _ | with_reducible assumption | with_reducible refine bel_alloc ?_ _ | with_reducible refine bel_drew ?_ | with_reducible refine bel_drewN ?_ _ | (with_reducible refine bel_set ?_ ?_ _; rotate_left; ((try simp); (try omega)))))) (by simp) (by (try simp); omega)).mono ?_; rintro e w5 ⟨v, rfl, ⟨z, rfl, hz⟩, ho5, hc5⟩; have hoW5 : Only [p] w4 w5 := (show Only [p] w4 _ from (by repeat (first | with_reducible exact Only.refl _ _ | with_reducible assumption | with_reducible refine Only.alloc ?_ _ | with_reducible refine Only.drew ?_ | with_reducible refine Only.drewN ?_ _ | (with_reducible refine Only.setNew ?_ ?_ _; rotate_left; ((try simp); (try omega)))))).trans ho5; have H5 := Lib.hid (H2.out.turn hoW5 hc5); have hzz5 := hoW5.size; have hzr : 0 ≤ z ∧ z ≤ 1000000000001 := (by simp at hz; omega); have hlt5 := H5.out.lt; obtain ⟨Fi, hGF, hown5, hFi, hnF, hgB⟩ := cO_own H5.out.rep H5.out.fr; replace hown5 : Own cCacheO 125 w.heap.size w5 (.slice A s.caches.length cp) s.caches Fi := hown5; have HO5 := Lib.hid (And.intro hown5 (And.intro hFi (And.intro hnF hGF))); clear hown5 hFi hnF hGF hgB hz) | go_simp
    refine hK.out _ _ ?_ (fun hHeld => ?_)
    · (try dsimp only)
      exact hS _ (by repeat (first | with_reducible exact Only.refl _ _ | with_reducible assumption | with_reducible refine Only.alloc ?_ _ | with_reducible refine Only.drew ?_ | with_reducible refine Only.drewN ?_ _ | (with_reducible refine Only.setNew ?_ ?_ _; rotate_left; ((try simp); (try omega)))))
    clear hK K
    refine stepT 4 (by kernel_rfl) rfl (fun K hK => ?_)
    go_simp
    (go_at_call 123; refine (l1Int_any p _ [0, 1, 9, 1000000000001] _ _ (by repeat (first | with_reducible assumption | with_reducible refine Cur.alloc ?_ _ | with_reducible refine Cur.drew ?_ | with_reducible refine Cur.drewN ?_ _ | (with_reducible refine Cur.set ?_ ?_ _; rotate_left; ((try simp); (try omega))))) (by exact Cod.bel hrow (by repeat (first | with_reducible exact Below.refl _ _ | with_reducible assumption | with_reducible refine bel_alloc ?_ _ | with_reducible refine bel_drew ?_ | with_reducible refine bel_drewN ?_ _ | (with_reducible refine bel_set ?_ ?_ _; rotate_left; ((try simp); (try omega)))))) (by simp) (by (try simp); omega)).mono ?_; rintro e w5 ⟨v, rfl, ⟨z, rfl, hz⟩, ho5, hc5⟩; have hoW5 : Only [p] w4 w5 := (show Only [p] w4 _ from (by repeat (first | with_reducible exact Only.refl _ _ | with_reducible assumption | with_reducible refine Only.alloc ?_ _ | with_reducible refine Only.drew ?_ | with_reducible refine Only.drewN ?_ _ | (with_reducible refine Only.setNew ?_ ?_ _; rotate_left; ((try simp); (try omega)))))).trans ho5; have H5 := Lib.hid (H2.out.turn hoW5 hc5); have hzz5 := hoW5.size; have hzr : 0 ≤ z ∧ z ≤ 1000000000001 := (by simp at hz; omega); have hlt5 := H5.out.lt; obtain ⟨Fi, hGF, hown5, hFi, hnF, hgB⟩ := cO_own H5.out.rep H5.out.fr; replace hown5 : Own cCacheO 125 w.heap.size w5 (.slice A s.caches.length cp) s.caches Fi := hown5; have HO5 := Lib.hid (And.intro hown5 (And.intro hFi (And.intro hnF hGF))); clear hown5 hFi hnF hGF hgB hz)
    try go_wp2_with fail
    refine hK.out _ _ ?_ (fun hHeld => ?_)
    · (try dsimp only)
      exact hS _ (by repeat (first | with_reducible exact Only.refl _ _ | with_reducible assumption | with_reducible refine Only.alloc ?_ _ | with_reducible refine Only.drew ?_ | with_reducible refine Only.drewN ?_ _ | (with_reducible refine Only.setNew ?_ ?_ _; rotate_left; ((try simp); (try omega)))))
    clear hK K
    refine takeT_read (i := 5) 10 16 (v := ?v5) rfl rfl (by kernel_rfl) (by kernel_rfl) (by kernel_rfl) (by kernel_rfl) (by kernel_rfl) (by kernel_rfl) (fun _ _ _ h => h) (by rfl) ?hy5 (by assumption) ?rest5
    case hy5 => (intro w hSw; (try dsimp only at hSw); go_simp; (try with_reducible rfl))
    refine stepT 6 (by kernel_rfl) rfl (fun K hK => ?_)
    first | (go_at_call 123; refine (l1Int_any p _ [0, 1, 9, 1000000000001] _ _ (by repeat (first | with_reducible assumption | with_reducible refine Cur.alloc ?_ _ | with_reducible refine Cur.drew ?_ | with_reducible refine Cur.drewN ?_ _ | (with_reducible refine Cur.set ?_ ?_ _; rotate_left; ((try simp); (try omega))))) (by exact Cod.bel hrow (by repeat (first | with_reducible exact Below.refl _ _ | with_reducible assumption | with_reducible refine bel_alloc ?_ _ | with_reducible refine bel_drew ?_ | with_reducible refine bel_drewN ?_ _ | (with_reducible refine bel_set ?_ ?_ _; rotate_left; ((try simp); (try omega)))))) (by simp) (by (try simp); omega)).mono ?_; rintro e w5 ⟨v, rfl, ⟨z, rfl, hz⟩, ho5, hc5⟩; have hoW5 : Only [p] w4 w5 := (show Only [p] w4 _ from (by repeat (first | with_reducible exact Only.refl _ _ | with_reducible assumption | with_reducible refine Only.alloc ?_ _ | with_reducible refine Only.drew ?_ | with_reducible refine Only.drewN ?_ _ | (with_reducible refine Only.setNew ?_ ?_ _; rotate_left; ((try simp); (try omega)))))).trans ho5; have H5 := Lib.hid (H2.out.turn hoW5 hc5); have hzz5 := hoW5.size; have hzr : 0 ≤ z ∧ z ≤ 1000000000001 := (by simp at hz; omega); have hlt5 := H5.out.lt; obtain ⟨Fi, hGF, hown5, hFi, hnF, hgB⟩ := cO_own H5.out.rep H5.out.fr; replace hown5 : Own cCacheO 125 w.heap.size w5 (.slice A s.caches.length cp) s.caches Fi := hown5; have HO5 := Lib.hid (And.intro hown5 (And.intro hFi (And.intro hnF hGF))); clear hown5 hFi hnF hGF hgB hz) | go_simp
    refine hK.out _ _ ?_ (fun hHeld => ?_)
    · (try dsimp only)
      exact hS _ (by repeat (first | with_reducible exact Only.refl _ _ | with_reducible assumption | with_reducible refine Only.alloc ?_ _ | with_reducible refine Only.drew ?_ | with_reducible refine Only.drewN ?_ _ | (with_reducible refine Only.setNew ?_ ?_ _; rotate_left; ((try simp); (try omega)))))
    clear hK K
    refine stepT_end 7 (by kernel_rfl) rfl (by kernel_rfl) (fun K hK => ?_)
    (refine step_app (c := cCacheO) (B := w.heap.size) (xs := s.caches) (ys := [⟨z, []⟩]) (Fi := Fi) (Fy := []) _ rfl _ _ _ rfl i0 _ _ Try.underlying70 hi0 hz0 hz1 hz2 rfl (by decide) rfl (HO5.out.1.bel (by repeat (first | with_reducible exact Below.refl _ _ | with_reducible assumption | with_reducible refine bel_alloc ?_ _ | with_reducible refine bel_drew ?_ | with_reducible refine bel_drewN ?_ _ | (with_reducible refine bel_set ?_ ?_ _; rotate_left; ((try simp); (try omega)))))) (.slice (some ⟨w5.heap.size, 0, none⟩) 1 1) rfl (AppSrc.bel (src_new (w := w5) (vs := #[.int .i64 z, .slice none 0 0]) 125 _ rfl (TCache.mkO (x := ⟨z, []⟩) ⟨by simp; omega⟩ ⟨_, [], rfl, Own.empty none, by simp [ownL, ownB]⟩)) (by repeat (first | with_reducible exact Below.refl _ _ | with_reducible assumption | with_reducible refine bel_alloc ?_ _ | with_reducible refine bel_drew ?_ | with_reducible refine bel_drewN ?_ _ | (with_reducible refine bel_set ?_ ?_ _; rotate_left; ((try simp); (try omega)))))) (by unfold maxLen; simp; omega) (by simp; omega) (by (try simp); (try omega)) (fun g hg => ⟨HO5.out.2.2.1 g hg, by simp⟩) ?_; intro v2 w6 ho6 hg6 hat6; obtain ⟨A6, c6, e6⟩ := ho6.slice; rw [List.length_append, List.length_singleton] at e6; subst e6; replace ho6 : Own cCacheO 125 w.heap.size w6 (.slice A6 (s.caches.length + 1) c6) (s.caches ++ [⟨z, []⟩]) Fi := (by simpa using ho6); have hrG : ∀ g, ownB (.slice A s.caches.length cp) = some g → g ∈ G := (fun g hg => by rw [HO5.out.2.2.2]; exact List.mem_append_left _ (mem_ownL.2 hg)); have hb6 := hg6.block xb (by (try simp); omega) (fun e => (H2.out.ne xb (hrG xb e.symm)).1 rfl); have y2 := (World.cell?_of_block (a := ⟨xb, 0, none⟩) hb6).trans (H5.out.bel (bel_alloc (Below.refl _ _) _)).x; have yz2 := (World.frozen?_of_block (a := ⟨xb, 0, none⟩) hb6).trans (H5.out.bel (bel_alloc (Below.refl _ _) _)).xz)
    refine hK.out _ _ ?_
    clear hK K
    refine stepT_end 8 (by kernel_rfl) rfl (by kernel_rfl) (fun K hK => ?_)
    go_simp
    refine hK.out _ _ ?_
    clear hK K
    refine stepT_end 9 (by kernel_rfl) rfl (by kernel_rfl) (fun K hK => ?_)
    go_simp
    refine hK.out _ _ ?_
    clear hK K
    refine doneT (by kernel_rfl) ?_ _
    have HB := Lib.hid (CSt.app (c := ⟨z, []⟩) (H5.out.bel (bel_alloc (Below.refl _ _) _)) HO5.out.2.1 HO5.out.2.2.1 HO5.out.2.2.2 hg6 ho6 hat6)
    have hsz' : cCSet.sz (⟨s.caches ++ [⟨z, []⟩]⟩ : TCSet) = cCSet.sz s + 1 := by show Cod.szs cCache (s.caches ++ [_]) = _; rw [szs_app]; rfl
    clear ho6 hg6 hat6 hb6 y2 yz2 hS hrow hrG HO5
    generalize (⟨s.caches ++ [⟨z, []⟩]⟩ : TCSet) = s' at HB hsz'
    generalize World.setCell w6 _ _ = wz at HB ⊢
    have fx := HB.out.x
    have fz := HB.out.xz
    have fq := HB.out.q
    have fqz := HB.out.qz
    have flt := HB.out.lt
    go_wp2_with fail
    refine bodyPost_ret (v := .agg #[.slice A6 (s'.caches.length) c6]) (by simp [results, Try.results90, go_sem, *]) rfl ?_
    obtain ⟨FS, hwk, hwG, hfF⟩ := HB.out.weakr
    have hon := HB.out.only
    have hcu := HB.out.cur
    exact ⟨_, rfl, ⟨_, _, _, rfl, by omega, FS, Cod.keep _ hwk (fun b hb => Below.heap_setCell _ _ _ _ (HB.out.ne b (hwG b hb)).2), hfF⟩, hon.setNew (Nat.le_refl _) _, hcu.set (show p < w.heap.size from hpl) _⟩
  · subst hj
    by_cases hn0 : 0 < s.caches.length
    · obtain ⟨j0, hj0, hy0, hy1, hy2⟩ := info_parts infoCached
      have hx0 := H2.out.x
      have hxz := H2.out.xz
      have hnl := cset_len (show cCSet.sz s ≤ 1048576 by omega)
      have hnE := entries_len (show cCSet.sz s ≤ 1048576 by omega) hn0
      obtain ⟨g, cur, E5, e5, FiE, rfl, HN⟩ := nest_upd H2.out.rep H2.out.fr hn0
      have hg4 : g < w4.heap.size := HN.glt
      have hgG := HN.gG
      have p1 : w4.cell? ⟨g, 1, none⟩ = some (.slice E5 s.caches[0].entries.length e5) := (HN.blk.cell 1).trans (by simpa using HN.c1)
      have hgz : ∀ i, w4.frozen? ⟨g, i, none⟩ = false := fun i => HN.blk.frozen i
      have hgp : ¬ g = p := fun e => H2.out.np (e ▸ hgG)
      have hgx := H2.out.ne g hgG
      have HH := Lib.hid HN
      clear HN
      have hpw : p < w4.heap.size := by omega
      have hrow : cStS.rep (w4.alloc (.cells #[.string ⟨#[105, 110, 100, 101, 120]⟩, .string ⟨#[]⟩, .string ⟨#[122, 122]⟩] 9)) [.slice (some ⟨w4.heap.size, 0, none⟩) 3 3] [⟨#[105, 110, 100, 101, 120]⟩, ⟨#[]⟩, ⟨#[122, 122]⟩] [w4.heap.size] := rowStr w4 9 [⟨#[105, 110, 100, 101, 120]⟩, ⟨#[]⟩, ⟨#[122, 122]⟩] 3 rfl (by simp) (by decide) (by decide)
      have hcu0 := H2.out.cur
      have hnI : (0 : Int) < (s.caches.length : Int) := by omega
      have hS : ∀ w9, Only [p] w4 w9 → w9.cell? ⟨xb, 0, none⟩ = some (.slice (some ⟨g, 0, none⟩) s.caches.length cp) ∧ w9.cell? ⟨g, 1, none⟩ = some (.slice E5 s.caches[0].entries.length e5) := fun w9 hb => ⟨(World.cell?_of_block (a := ⟨xb, 0, none⟩) (hb.block xb (by omega) (by simp; omega))).trans hx0, (World.cell?_of_block (a := ⟨g, 1, none⟩) (hb.block g hg4 (by simpa using hgp))).trans p1⟩
      go_wp2_with fail
      refine wp_regionT (S := (fun w9 => w9.cell? ⟨xb, 0, none⟩ = some (.slice (some ⟨g, 0, none⟩) s.caches.length cp) ∧ w9.cell? ⟨g, 1, none⟩ = some (.slice E5 s.caches[0].entries.length e5))) [17] (by kernel_rfl) (by (try dsimp only); (first | exact hS6 | exact hS _ (by repeat (first | with_reducible exact Only.refl _ _ | with_reducible assumption | with_reducible refine Only.alloc ?_ _ | with_reducible refine Only.drew ?_ | with_reducible refine Only.drewN ?_ _ | (with_reducible refine Only.setNew ?_ ?_ _; rotate_left; ((try simp); (try omega))))))) (fun hHeld => ?_)
      refine takeT_read (i := 0) 18 26 (v := ?x2_v0) rfl rfl (by kernel_rfl) (by kernel_rfl) (by kernel_rfl) (by kernel_rfl) (by kernel_rfl) (by kernel_rfl) (fun _ _ _ h => h) (by rfl) ?x2_hy0 (by assumption) ?x2_rest0
      case x2_hy0 => (intro w hSw; (try dsimp only at hSw); go_simp; (try with_reducible rfl))
      try simp only [Act.put, List.setIfInBounds_toArray, List.set_cons_zero, List.set_cons_succ]
      refine takeT_read (i := 1) 18 27 (v := ?x2_v1) rfl rfl (by kernel_rfl) (by kernel_rfl) (by kernel_rfl) (by kernel_rfl) (by kernel_rfl) (by kernel_rfl) (fun _ _ _ h => h) (by rfl) ?x2_hy1 (by assumption) ?x2_rest1
      case x2_hy1 => (intro w hSw; (try dsimp only at hSw); go_simp; (try with_reducible rfl))
      try simp only [Act.put, List.setIfInBounds_toArray, List.set_cons_zero, List.set_cons_succ]
      refine takeT_read (i := 2) 18 28 (v := ?x2_v2) rfl rfl (by kernel_rfl) (by kernel_rfl) (by kernel_rfl) (by kernel_rfl) (by kernel_rfl) (by kernel_rfl) (fun _ _ _ h => h) (by rfl) ?x2_hy2 (by assumption) ?x2_rest2
      case x2_hy2 => (intro w hSw; (try dsimp only at hSw); go_simp; (try with_reducible rfl))
      try simp only [Act.put, List.setIfInBounds_toArray, List.set_cons_zero, List.set_cons_succ]
      refine takeT_read (i := 3) 18 29 (v := ?x2_v3) rfl rfl (by kernel_rfl) (by kernel_rfl) (by kernel_rfl) (by kernel_rfl) (by kernel_rfl) (by kernel_rfl) (fun _ _ _ h => h) (by rfl) ?x2_hy3 (by assumption) ?x2_rest3
      case x2_hy3 => (intro w hSw; (try dsimp only at hSw); go_simp; (try with_reducible rfl))
      try simp only [Act.put, List.setIfInBounds_toArray, List.set_cons_zero, List.set_cons_succ]
      refine takeT_read (i := 4) 18 30 (v := ?x2_v4) rfl rfl (by kernel_rfl) (by kernel_rfl) (by kernel_rfl) (by kernel_rfl) (by kernel_rfl) (by kernel_rfl) (fun _ _ _ h => h) (by rfl) ?x2_hy4 (by assumption) ?x2_rest4
      case x2_hy4 => (intro w hSw; (try dsimp only at hSw); go_simp; (try with_reducible rfl))
      try simp only [Act.put, List.setIfInBounds_toArray, List.set_cons_zero, List.set_cons_succ]
      refine takeT_read (i := 5) 18 31 (v := ?x2_v5) rfl rfl (by kernel_rfl) (by kernel_rfl) (by kernel_rfl) (by kernel_rfl) (by kernel_rfl) (by kernel_rfl) (fun _ _ _ h => h) (by rfl) ?x2_hy5 (by assumption) ?x2_rest5
      case x2_hy5 => (intro w hSw; (try dsimp only at hSw); go_simp; (try with_reducible rfl))
      try simp only [Act.put, List.setIfInBounds_toArray, List.set_cons_zero, List.set_cons_succ]
      refine takeT_read (i := 6) 18 32 (v := ?x2_v6) rfl rfl (by kernel_rfl) (by kernel_rfl) (by kernel_rfl) (by kernel_rfl) (by kernel_rfl) (by kernel_rfl) (fun _ _ _ h => h) (by rfl) ?x2_hy6 (by assumption) ?x2_rest6
      case x2_hy6 => (intro w hSw; (try dsimp only at hSw); go_simp; (try with_reducible rfl))
      try simp only [Act.put, List.setIfInBounds_toArray, List.set_cons_zero, List.set_cons_succ]
      refine takeT_read (i := 7) 18 33 (v := ?x2_v7) rfl rfl (by kernel_rfl) (by kernel_rfl) (by kernel_rfl) (by kernel_rfl) (by kernel_rfl) (by kernel_rfl) (fun _ _ _ h => h) (by rfl) ?x2_hy7 (by assumption) ?x2_rest7
      case x2_hy7 => (intro w hSw; (try dsimp only at hSw); go_simp; (try with_reducible rfl))
      try simp only [Act.put, List.setIfInBounds_toArray, List.set_cons_zero, List.set_cons_succ]
      refine takeT_read (i := 10) 18 36 (v := ?x2_v10) rfl rfl (by kernel_rfl) (by kernel_rfl) (by kernel_rfl) (by kernel_rfl) (by kernel_rfl) (by kernel_rfl) (fun _ _ _ h => h) (by rfl) ?x2_hy10 (by assumption) ?x2_rest10
      case x2_hy10 => (intro w hSw; (try dsimp only at hSw); go_simp; (try with_reducible rfl))
      try simp only [Act.put, List.setIfInBounds_toArray, List.set_cons_zero, List.set_cons_succ]
      refine stepT 8 (by kernel_rfl) rfl (fun K hK => ?_)
      first | (first | (go_at_call 69; refine (l1Str_any p _ [⟨#[105, 110, 100, 101, 120]⟩, ⟨#[]⟩, ⟨#[122, 122]⟩] _ _ (by repeat (first | with_reducible assumption | with_reducible refine Cur.alloc ?_ _ | with_reducible refine Cur.drew ?_ | with_reducible refine Cur.drewN ?_ _ | (with_reducible refine Cur.set ?_ ?_ _; rotate_left; ((try simp); (try omega))))) (by exact Cod.bel hrow (by repeat (first | with_reducible exact Below.refl _ _ | with_reducible assumption | with_reducible refine bel_alloc ?_ _ | with_reducible refine bel_drew ?_ | with_reducible refine bel_drewN ?_ _ | (with_reducible refine bel_set ?_ ?_ _; rotate_left; ((try simp); (try omega)))))) (by simp) (by (try simp); omega)).mono ?_; rintro e w5 ⟨v, rfl, ⟨pa, rfl, hs⟩, ho5, hc5⟩; have hoW5 : Only [p] w4 w5 := (show Only [p] w4 _ from (by repeat (first | with_reducible exact Only.refl _ _ | with_reducible assumption | with_reducible refine Only.alloc ?_ _ | with_reducible refine Only.drew ?_ | with_reducible refine Only.drewN ?_ _ | (with_reducible refine Only.setNew ?_ ?_ _; rotate_left; ((try simp); (try omega)))))).trans ho5; have hz5 := hoW5.size; have hpa : pa.size ≤ 100 := ((by decide : ∀ x ∈ ([⟨#[105, 110, 100, 101, 120]⟩, ⟨#[]⟩, ⟨#[122, 122]⟩] : List ByteArray), x.size ≤ 100) pa hs); clear ho5 hs) | (go_at_call 91; refine (l15Response_any p _ (by repeat (first | with_reducible assumption | with_reducible refine Cur.alloc ?_ _ | with_reducible refine Cur.drew ?_ | with_reducible refine Cur.drewN ?_ _ | (with_reducible refine Cur.set ?_ ?_ _; rotate_left; ((try simp); (try omega)))))).mono ?_; rintro e w7 ⟨u, rfl, ⟨vs7, y, F7, rfl, hr7, hsm7, hf7⟩, ho7, hc7⟩; have hoW7 : Only [p] w4 w7 := (show Only [p] w4 _ from (by repeat (first | with_reducible exact Only.refl _ _ | with_reducible assumption | with_reducible refine Only.alloc ?_ _ | with_reducible refine Only.drew ?_ | with_reducible refine Only.drewN ?_ _ | (with_reducible refine Only.setNew ?_ ?_ _; rotate_left; ((try simp); (try omega)))))).trans ho7; have H7 := Lib.hid (H2.out.turn hoW7 hc7); have hz7 := hoW7.size; obtain ⟨u7, _, rfl, rfl, hoky, n7⟩ := TResp.outA hr7; obtain ⟨Y7, d7, hy7⟩ := cL_form n7; subst hy7; have hf7' : Fresh w4.heap.size F7 := (hf7.mono (by (try simp); (try omega))); have hl7 := Cod.lt _ hr7; have hown7 : Own cCached 129 w.heap.size w7 (.slice E5 s.caches[0].entries.length e5) s.caches[0].entries FiE := (HH.out.own.keep (fun g' hg' => hoW7.block g' (HH.out.lt g' (HH.out.ne g' hg').2.2) (by simp; intro e; exact H2.out.np (e ▸ (HH.out.ne g' hg').2.2))) (fun b hb => hoW7.block b (HH.out.lt b (HH.out.inG b hb).1) (by simp; intro e; exact H2.out.np (e ▸ (HH.out.inG b hb).1)))); have hokE : (⟨⟨#[98, 97, 110, 107]⟩, pa, y⟩ : TCached).Ok := ⟨show (⟨#[98, 97, 110, 107]⟩ : ByteArray).size ≤ maxLen from (by decide), show pa.size ≤ maxLen from (by unfold maxLen; omega), hoky.h0, hoky.h1, hoky.h2⟩; have HW7 := Lib.hid (And.intro hown7 (And.intro hf7' (And.intro hl7 n7))); have hlt7 := H7.out.lt; have hysz := smallResp_sz hsm7; clear ho7 hown7 hf7' hl7 n7 hr7 hf7)) | go_simp
      refine hK.out _ _ ?_ (fun hHeld => ?_)
      · (try dsimp only)
        (first | exact hS6 | exact hS _ (by repeat (first | with_reducible exact Only.refl _ _ | with_reducible assumption | with_reducible refine Only.alloc ?_ _ | with_reducible refine Only.drew ?_ | with_reducible refine Only.drewN ?_ _ | (with_reducible refine Only.setNew ?_ ?_ _; rotate_left; ((try simp); (try omega))))))
      clear hK K
      refine stepT 9 (by kernel_rfl) rfl (fun K hK => ?_)
      go_simp
      (first | (go_at_call 69; refine (l1Str_any p _ [⟨#[105, 110, 100, 101, 120]⟩, ⟨#[]⟩, ⟨#[122, 122]⟩] _ _ (by repeat (first | with_reducible assumption | with_reducible refine Cur.alloc ?_ _ | with_reducible refine Cur.drew ?_ | with_reducible refine Cur.drewN ?_ _ | (with_reducible refine Cur.set ?_ ?_ _; rotate_left; ((try simp); (try omega))))) (by exact Cod.bel hrow (by repeat (first | with_reducible exact Below.refl _ _ | with_reducible assumption | with_reducible refine bel_alloc ?_ _ | with_reducible refine bel_drew ?_ | with_reducible refine bel_drewN ?_ _ | (with_reducible refine bel_set ?_ ?_ _; rotate_left; ((try simp); (try omega)))))) (by simp) (by (try simp); omega)).mono ?_; rintro e w5 ⟨v, rfl, ⟨pa, rfl, hs⟩, ho5, hc5⟩; have hoW5 : Only [p] w4 w5 := (show Only [p] w4 _ from (by repeat (first | with_reducible exact Only.refl _ _ | with_reducible assumption | with_reducible refine Only.alloc ?_ _ | with_reducible refine Only.drew ?_ | with_reducible refine Only.drewN ?_ _ | (with_reducible refine Only.setNew ?_ ?_ _; rotate_left; ((try simp); (try omega)))))).trans ho5; have hz5 := hoW5.size; have hpa : pa.size ≤ 100 := ((by decide : ∀ x ∈ ([⟨#[105, 110, 100, 101, 120]⟩, ⟨#[]⟩, ⟨#[122, 122]⟩] : List ByteArray), x.size ≤ 100) pa hs); clear ho5 hs) | (go_at_call 91; refine (l15Response_any p _ (by repeat (first | with_reducible assumption | with_reducible refine Cur.alloc ?_ _ | with_reducible refine Cur.drew ?_ | with_reducible refine Cur.drewN ?_ _ | (with_reducible refine Cur.set ?_ ?_ _; rotate_left; ((try simp); (try omega)))))).mono ?_; rintro e w7 ⟨u, rfl, ⟨vs7, y, F7, rfl, hr7, hsm7, hf7⟩, ho7, hc7⟩; have hoW7 : Only [p] w4 w7 := (show Only [p] w4 _ from (by repeat (first | with_reducible exact Only.refl _ _ | with_reducible assumption | with_reducible refine Only.alloc ?_ _ | with_reducible refine Only.drew ?_ | with_reducible refine Only.drewN ?_ _ | (with_reducible refine Only.setNew ?_ ?_ _; rotate_left; ((try simp); (try omega)))))).trans ho7; have H7 := Lib.hid (H2.out.turn hoW7 hc7); have hz7 := hoW7.size; obtain ⟨u7, _, rfl, rfl, hoky, n7⟩ := TResp.outA hr7; obtain ⟨Y7, d7, hy7⟩ := cL_form n7; subst hy7; have hf7' : Fresh w4.heap.size F7 := (hf7.mono (by (try simp); (try omega))); have hl7 := Cod.lt _ hr7; have hown7 : Own cCached 129 w.heap.size w7 (.slice E5 s.caches[0].entries.length e5) s.caches[0].entries FiE := (HH.out.own.keep (fun g' hg' => hoW7.block g' (HH.out.lt g' (HH.out.ne g' hg').2.2) (by simp; intro e; exact H2.out.np (e ▸ (HH.out.ne g' hg').2.2))) (fun b hb => hoW7.block b (HH.out.lt b (HH.out.inG b hb).1) (by simp; intro e; exact H2.out.np (e ▸ (HH.out.inG b hb).1)))); have hokE : (⟨⟨#[98, 97, 110, 107]⟩, pa, y⟩ : TCached).Ok := ⟨show (⟨#[98, 97, 110, 107]⟩ : ByteArray).size ≤ maxLen from (by decide), show pa.size ≤ maxLen from (by unfold maxLen; omega), hoky.h0, hoky.h1, hoky.h2⟩; have HW7 := Lib.hid (And.intro hown7 (And.intro hf7' (And.intro hl7 n7))); have hlt7 := H7.out.lt; have hysz := smallResp_sz hsm7; clear ho7 hown7 hf7' hl7 n7 hr7 hf7))
      try go_wp2_with fail
      refine hK.out _ _ ?_ (fun hHeld => ?_)
      · (try dsimp only)
        (first | exact hS6 | exact hS _ (by repeat (first | with_reducible exact Only.refl _ _ | with_reducible assumption | with_reducible refine Only.alloc ?_ _ | with_reducible refine Only.drew ?_ | with_reducible refine Only.drewN ?_ _ | (with_reducible refine Only.setNew ?_ ?_ _; rotate_left; ((try simp); (try omega))))))
      clear hK K
      refine stepT 11 (by kernel_rfl) rfl (fun K hK => ?_)
      go_simp
      (first | (go_at_call 69; refine (l1Str_any p _ [⟨#[105, 110, 100, 101, 120]⟩, ⟨#[]⟩, ⟨#[122, 122]⟩] _ _ (by repeat (first | with_reducible assumption | with_reducible refine Cur.alloc ?_ _ | with_reducible refine Cur.drew ?_ | with_reducible refine Cur.drewN ?_ _ | (with_reducible refine Cur.set ?_ ?_ _; rotate_left; ((try simp); (try omega))))) (by exact Cod.bel hrow (by repeat (first | with_reducible exact Below.refl _ _ | with_reducible assumption | with_reducible refine bel_alloc ?_ _ | with_reducible refine bel_drew ?_ | with_reducible refine bel_drewN ?_ _ | (with_reducible refine bel_set ?_ ?_ _; rotate_left; ((try simp); (try omega)))))) (by simp) (by (try simp); omega)).mono ?_; rintro e w5 ⟨v, rfl, ⟨pa, rfl, hs⟩, ho5, hc5⟩; have hoW5 : Only [p] w4 w5 := (show Only [p] w4 _ from (by repeat (first | with_reducible exact Only.refl _ _ | with_reducible assumption | with_reducible refine Only.alloc ?_ _ | with_reducible refine Only.drew ?_ | with_reducible refine Only.drewN ?_ _ | (with_reducible refine Only.setNew ?_ ?_ _; rotate_left; ((try simp); (try omega)))))).trans ho5; have hz5 := hoW5.size; have hpa : pa.size ≤ 100 := ((by decide : ∀ x ∈ ([⟨#[105, 110, 100, 101, 120]⟩, ⟨#[]⟩, ⟨#[122, 122]⟩] : List ByteArray), x.size ≤ 100) pa hs); clear ho5 hs) | (go_at_call 91; refine (l15Response_any p _ (by repeat (first | with_reducible assumption | with_reducible refine Cur.alloc ?_ _ | with_reducible refine Cur.drew ?_ | with_reducible refine Cur.drewN ?_ _ | (with_reducible refine Cur.set ?_ ?_ _; rotate_left; ((try simp); (try omega)))))).mono ?_; rintro e w7 ⟨u, rfl, ⟨vs7, y, F7, rfl, hr7, hsm7, hf7⟩, ho7, hc7⟩; have hoW7 : Only [p] w4 w7 := (show Only [p] w4 _ from (by repeat (first | with_reducible exact Only.refl _ _ | with_reducible assumption | with_reducible refine Only.alloc ?_ _ | with_reducible refine Only.drew ?_ | with_reducible refine Only.drewN ?_ _ | (with_reducible refine Only.setNew ?_ ?_ _; rotate_left; ((try simp); (try omega)))))).trans ho7; have H7 := Lib.hid (H2.out.turn hoW7 hc7); have hz7 := hoW7.size; obtain ⟨u7, _, rfl, rfl, hoky, n7⟩ := TResp.outA hr7; obtain ⟨Y7, d7, hy7⟩ := cL_form n7; subst hy7; have hf7' : Fresh w4.heap.size F7 := (hf7.mono (by (try simp); (try omega))); have hl7 := Cod.lt _ hr7; have hown7 : Own cCached 129 w.heap.size w7 (.slice E5 s.caches[0].entries.length e5) s.caches[0].entries FiE := (HH.out.own.keep (fun g' hg' => hoW7.block g' (HH.out.lt g' (HH.out.ne g' hg').2.2) (by simp; intro e; exact H2.out.np (e ▸ (HH.out.ne g' hg').2.2))) (fun b hb => hoW7.block b (HH.out.lt b (HH.out.inG b hb).1) (by simp; intro e; exact H2.out.np (e ▸ (HH.out.inG b hb).1)))); have hokE : (⟨⟨#[98, 97, 110, 107]⟩, pa, y⟩ : TCached).Ok := ⟨show (⟨#[98, 97, 110, 107]⟩ : ByteArray).size ≤ maxLen from (by decide), show pa.size ≤ maxLen from (by unfold maxLen; omega), hoky.h0, hoky.h1, hoky.h2⟩; have HW7 := Lib.hid (And.intro hown7 (And.intro hf7' (And.intro hl7 n7))); have hlt7 := H7.out.lt; have hysz := smallResp_sz hsm7; clear ho7 hown7 hf7' hl7 n7 hr7 hf7))
      try go_wp2_with fail
      refine hK.out _ _ ?_ (fun hHeld => ?_)
      · (try dsimp only)
        (first | exact hS6 | exact hS _ (by repeat (first | with_reducible exact Only.refl _ _ | with_reducible assumption | with_reducible refine Only.alloc ?_ _ | with_reducible refine Only.drew ?_ | with_reducible refine Only.drewN ?_ _ | (with_reducible refine Only.setNew ?_ ?_ _; rotate_left; ((try simp); (try omega))))))
      clear hK K
      refine takeT_read (i := 12) 18 38 (v := ?x2_v12) rfl rfl (by kernel_rfl) (by kernel_rfl) (by kernel_rfl) (by kernel_rfl) (by kernel_rfl) (by kernel_rfl) (fun _ _ _ h => h) (by rfl) ?x2_hy12 (by assumption) ?x2_rest12
      case x2_hy12 => (intro w hSw; (try dsimp only at hSw); go_simp; (try with_reducible rfl))
      refine stepT 13 (by kernel_rfl) rfl (fun K hK => ?_)
      first | (first | (go_at_call 69; refine (l1Str_any p _ [⟨#[105, 110, 100, 101, 120]⟩, ⟨#[]⟩, ⟨#[122, 122]⟩] _ _ (by repeat (first | with_reducible assumption | with_reducible refine Cur.alloc ?_ _ | with_reducible refine Cur.drew ?_ | with_reducible refine Cur.drewN ?_ _ | (with_reducible refine Cur.set ?_ ?_ _; rotate_left; ((try simp); (try omega))))) (by exact Cod.bel hrow (by repeat (first | with_reducible exact Below.refl _ _ | with_reducible assumption | with_reducible refine bel_alloc ?_ _ | with_reducible refine bel_drew ?_ | with_reducible refine bel_drewN ?_ _ | (with_reducible refine bel_set ?_ ?_ _; rotate_left; ((try simp); (try omega)))))) (by simp) (by (try simp); omega)).mono ?_; rintro e w5 ⟨v, rfl, ⟨pa, rfl, hs⟩, ho5, hc5⟩; have hoW5 : Only [p] w4 w5 := (show Only [p] w4 _ from (by repeat (first | with_reducible exact Only.refl _ _ | with_reducible assumption | with_reducible refine Only.alloc ?_ _ | with_reducible refine Only.drew ?_ | with_reducible refine Only.drewN ?_ _ | (with_reducible refine Only.setNew ?_ ?_ _; rotate_left; ((try simp); (try omega)))))).trans ho5; have hz5 := hoW5.size; have hpa : pa.size ≤ 100 := ((by decide : ∀ x ∈ ([⟨#[105, 110, 100, 101, 120]⟩, ⟨#[]⟩, ⟨#[122, 122]⟩] : List ByteArray), x.size ≤ 100) pa hs); clear ho5 hs) | (go_at_call 91; refine (l15Response_any p _ (by repeat (first | with_reducible assumption | with_reducible refine Cur.alloc ?_ _ | with_reducible refine Cur.drew ?_ | with_reducible refine Cur.drewN ?_ _ | (with_reducible refine Cur.set ?_ ?_ _; rotate_left; ((try simp); (try omega)))))).mono ?_; rintro e w7 ⟨u, rfl, ⟨vs7, y, F7, rfl, hr7, hsm7, hf7⟩, ho7, hc7⟩; have hoW7 : Only [p] w4 w7 := (show Only [p] w4 _ from (by repeat (first | with_reducible exact Only.refl _ _ | with_reducible assumption | with_reducible refine Only.alloc ?_ _ | with_reducible refine Only.drew ?_ | with_reducible refine Only.drewN ?_ _ | (with_reducible refine Only.setNew ?_ ?_ _; rotate_left; ((try simp); (try omega)))))).trans ho7; have H7 := Lib.hid (H2.out.turn hoW7 hc7); have hz7 := hoW7.size; obtain ⟨u7, _, rfl, rfl, hoky, n7⟩ := TResp.outA hr7; obtain ⟨Y7, d7, hy7⟩ := cL_form n7; subst hy7; have hf7' : Fresh w4.heap.size F7 := (hf7.mono (by (try simp); (try omega))); have hl7 := Cod.lt _ hr7; have hown7 : Own cCached 129 w.heap.size w7 (.slice E5 s.caches[0].entries.length e5) s.caches[0].entries FiE := (HH.out.own.keep (fun g' hg' => hoW7.block g' (HH.out.lt g' (HH.out.ne g' hg').2.2) (by simp; intro e; exact H2.out.np (e ▸ (HH.out.ne g' hg').2.2))) (fun b hb => hoW7.block b (HH.out.lt b (HH.out.inG b hb).1) (by simp; intro e; exact H2.out.np (e ▸ (HH.out.inG b hb).1)))); have hokE : (⟨⟨#[98, 97, 110, 107]⟩, pa, y⟩ : TCached).Ok := ⟨show (⟨#[98, 97, 110, 107]⟩ : ByteArray).size ≤ maxLen from (by decide), show pa.size ≤ maxLen from (by unfold maxLen; omega), hoky.h0, hoky.h1, hoky.h2⟩; have HW7 := Lib.hid (And.intro hown7 (And.intro hf7' (And.intro hl7 n7))); have hlt7 := H7.out.lt; have hysz := smallResp_sz hsm7; clear ho7 hown7 hf7' hl7 n7 hr7 hf7)) | go_simp
      refine hK.out _ _ ?_ (fun hHeld => ?_)
      · (try dsimp only)
        (first | exact hS6 | exact hS _ (by repeat (first | with_reducible exact Only.refl _ _ | with_reducible assumption | with_reducible refine Only.alloc ?_ _ | with_reducible refine Only.drew ?_ | with_reducible refine Only.drewN ?_ _ | (with_reducible refine Only.setNew ?_ ?_ _; rotate_left; ((try simp); (try omega))))))
      clear hK K
      refine stepT 14 (by kernel_rfl) rfl (fun K hK => ?_)
      (refine step_app (c := cCached) (B := w.heap.size) (xs := s.caches[0].entries) (ys := [⟨⟨#[98, 97, 110, 107]⟩, pa, y⟩]) (Fi := FiE) (Fy := F7) _ rfl _ _ _ rfl j0 _ _ Try.underlying123 hj0 hy0 hy1 hy2 rfl (by decide) rfl (HW7.out.1.bel (by repeat (first | with_reducible exact Below.refl _ _ | with_reducible assumption | with_reducible refine bel_alloc ?_ _ | with_reducible refine bel_drew ?_ | with_reducible refine bel_drewN ?_ _ | (with_reducible refine bel_set ?_ ?_ _; rotate_left; ((try simp); (try omega)))))) (.slice (some ⟨w7.heap.size, 0, none⟩) 1 1) rfl (AppSrc.bel (src_new (w := w7) (vs := #[.string ⟨#[98, 97, 110, 107]⟩, .string pa, .int .i64 y.type, .int .i64 y.status, .int .i64 y.ver, .slice Y7 y.body.length d7, .bool y.shares]) 129 _ rfl (TCached.mk_ (x := ⟨⟨#[98, 97, 110, 107]⟩, pa, y⟩) hokE HW7.out.2.2.2)) (by repeat (first | with_reducible exact Below.refl _ _ | with_reducible assumption | with_reducible refine bel_alloc ?_ _ | with_reducible refine bel_drew ?_ | with_reducible refine bel_drewN ?_ _ | (with_reducible refine bel_set ?_ ?_ _; rotate_left; ((try simp); (try omega)))))) (by unfold maxLen; simp; omega) (by simp; omega) (by (try simp); (try omega)) (fun g' hg' => ⟨(HH.out.ne g' hg').1, fun hm => by have h1 := HH.out.lt g' (HH.out.ne g' hg').2.2; have h2 := HW7.out.2.1.1 g' hm; omega⟩) ?_; intro v2 w6 ho6 hg6 hat6; obtain ⟨A2, c2, e2⟩ := ho6.slice; rw [List.length_append, List.length_singleton] at e2; subst e2; have hba := bel_alloc (Below.refl w7.heap.size w7) (.cells #[.string ⟨#[98, 97, 110, 107]⟩, .string pa, .int .i64 y.type, .int .i64 y.status, .int .i64 y.ver, .slice Y7 y.body.length d7, .bool y.shares] 129); have h7x := H7.out.bel hba; have rx := hg6.block xb (by (try simp); omega) (fun e => (H2.out.ne xb (HH.out.ne xb e.symm).2.2).1 rfl); have rq := hg6.block w.heap.size (by (try simp); omega) (fun e => (H2.out.ne _ (HH.out.ne _ e.symm).2.2).2 rfl); have rg := (hg6.block g (by (try simp); omega) (fun e => (HH.out.ne g e.symm).2.1 rfl)).trans ((hba.block g (by omega)).trans (hoW7.block g hg4 (by simpa using hgp))); have g6 := (World.cell?_of_block (a := ⟨g, 1, none⟩) rg).trans p1; have f6 := (World.frozen?_of_block (a := ⟨g, 1, none⟩) rg).trans (hgz 1); have x6 := (World.cell?_of_block (a := ⟨xb, 0, none⟩) rx).trans h7x.x; have hS6 : w6.cell? ⟨xb, 0, none⟩ = some (.slice (some ⟨g, 0, none⟩) s.caches.length cp) ∧ w6.cell? ⟨g, 1, none⟩ = some (.slice E5 s.caches[0].entries.length e5) := ⟨x6, g6⟩)
      refine hK.out _ _ ?_ (fun hHeld => ?_)
      · (try dsimp only)
        (first | exact hS6 | exact hS _ (by repeat (first | with_reducible exact Only.refl _ _ | with_reducible assumption | with_reducible refine Only.alloc ?_ _ | with_reducible refine Only.drew ?_ | with_reducible refine Only.drewN ?_ _ | (with_reducible refine Only.setNew ?_ ?_ _; rotate_left; ((try simp); (try omega))))))
      clear hK K
      refine takeT_read (i := 15) 18 41 (v := ?x2_v15) rfl rfl (by kernel_rfl) (by kernel_rfl) (by kernel_rfl) (by kernel_rfl) (by kernel_rfl) (by kernel_rfl) (fun _ _ _ h => h) (by rfl) ?x2_hy15 (by assumption) ?x2_rest15
      case x2_hy15 => (intro w hSw; (try dsimp only at hSw); go_simp; (try with_reducible rfl))
      refine takeT_read (i := 16) 18 42 (v := ?x2_v16) rfl rfl (by kernel_rfl) (by kernel_rfl) (by kernel_rfl) (by kernel_rfl) (by kernel_rfl) (by kernel_rfl) (fun _ _ _ h => h) (by rfl) ?x2_hy16 (by assumption) ?x2_rest16
      case x2_hy16 => (intro w hSw; (try dsimp only at hSw); go_simp; (try with_reducible rfl))
      refine stepT_end 17 (by kernel_rfl) rfl (by kernel_rfl) (fun K hK => ?_)
      go_simp
      refine hK.out _ _ ?_
      clear hK K
      refine doneT (by kernel_rfl) ?_ _
      have hbk : ∀ b, b ∈ G → (w7.alloc (.cells #[.string ⟨#[98, 97, 110, 107]⟩, .string pa, .int .i64 y.type, .int .i64 y.status, .int .i64 y.ver, .slice Y7 y.body.length d7, .bool y.shares] 129)).heap[b]? = w4.heap[b]? := fun b hb => (hba.block b (by have := HH.out.lt b hb; omega)).trans (hoW7.block b (HH.out.lt b hb) (by simp; intro e; exact H2.out.np (e ▸ hb)))
      obtain ⟨G', hrp, hfp, hin⟩ := nest_appF HH.out w4.heap.size (Nat.le_refl _) (by (try simp); omega) (by (try simp); omega) hbk HW7.out.2.1 (fun b hb => by have := HW7.out.2.2.1 b hb; (try simp); omega) ho6 hg6 hat6
      have hgl := HH.out.gB
      have hrl : ∀ g', ownB (.slice E5 s.caches[0].entries.length e5) = some g' → w.heap.size ≤ g' := fun g' hg' => H2.out.fr.1 g' (HH.out.ne g' hg').2.2
      have hz6 := hg6.size
      (try simp at hz6)
      have hsz' := setEntry_sz hn0 (⟨⟨#[98, 97, 110, 107]⟩, pa, y⟩ : TCached)
      have hse : cCached.sz (⟨⟨#[98, 97, 110, 107]⟩, pa, y⟩ : TCached) = 4 + (pa.size + cResp.sz y) := rfl
      have hbx : CSt p w xb (w6.setCell ⟨g, 1, none⟩ (.slice A2 (s.caches[0].entries.length + 1) c2)) ⟨s.caches.set 0 ⟨s.caches[0].ver, s.caches[0].entries ++ [⟨⟨#[98, 97, 110, 107]⟩, pa, y⟩]⟩⟩ (some ⟨g, 0, none⟩) cp G' :=
        ⟨by rw [show (⟨s.caches.set 0 ⟨s.caches[0].ver, s.caches[0].entries ++ [⟨⟨#[98, 97, 110, 107]⟩, pa, y⟩]⟩⟩ : TCSet).caches.length = s.caches.length from List.length_set ..]; exact setNeC hgx.1 x6, by rw [frozen?_set]; exact (World.frozen?_of_block rx).trans h7x.xz, setNeC hgx.2 ((World.cell?_of_block rq).trans h7x.q), by rw [frozen?_set]; exact (World.frozen?_of_block rq).trans h7x.qz, by rw [show (⟨s.caches.set 0 ⟨s.caches[0].ver, s.caches[0].entries ++ [⟨⟨#[98, 97, 110, 107]⟩, pa, y⟩]⟩⟩ : TCSet).caches.length = s.caches.length from List.length_set ..]; simpa using hrp, hfp, fun b hb => by
          rcases hin b hb with h9 | h9
          · exact H2.out.ne b h9
          · exact ⟨by omega, by omega⟩, (Cur.grown h7x.cur hg6 (fun g' hg' => by have := hrl g' hg'; omega)).set (q := ⟨g, 1, none⟩) (show p < g by omega) _, (Only.grown h7x.only hg6 hrl).setNew (show w.heap.size ≤ g by omega) _, by omega, by omega, by simp; omega⟩
      have HB := Lib.hid hbx
      clear hbx hrp hfp hin hbk ho6 hg6 hat6 rx rq rg g6 f6 x6 hS6 h7x hba hS hrow HH HW7 H7 p1 hgz
      generalize (⟨s.caches.set 0 ⟨s.caches[0].ver, s.caches[0].entries ++ [⟨⟨#[98, 97, 110, 107]⟩, pa, y⟩]⟩⟩ : TCSet) = s' at HB hsz'
      generalize World.setCell w6 _ _ = wz at HB ⊢
      have fx := HB.out.x
      have fz := HB.out.xz
      have fq := HB.out.q
      have fqz := HB.out.qz
      have flt := HB.out.lt
      go_wp2_with fail
      refine bodyPost_ret (v := .agg #[.slice (some ⟨g, 0, none⟩) (s'.caches.length) cp]) (by simp [results, Try.results90, go_sem, *]) rfl ?_
      obtain ⟨FS, hwk, hwG, hfF⟩ := HB.out.weakr
      have hon := HB.out.only
      have hcu := HB.out.cur
      exact ⟨_, rfl, ⟨_, _, _, rfl, by omega, FS, Cod.keep _ hwk (fun b hb => Below.heap_setCell _ _ _ _ (HB.out.ne b (hwG b hb)).2), hfF⟩, hon.setNew (Nat.le_refl _) _, hcu.set (show p < w.heap.size from hpl) _⟩
    · have hn9 : s.caches.length = 0 := by omega
      have hnI : ¬ (0 : Int) < (s.caches.length : Int) := by omega
      have fx := H2.out.x
      have fz := H2.out.xz
      have fq := H2.out.q
      have fqz := H2.out.qz
      have flt := H2.out.lt
      go_wp2_with fail
      refine bodyPost_ret (v := .agg #[.slice A (s.caches.length) cp]) (by simp [results, Try.results90, go_sem, *]) rfl ?_
      obtain ⟨FS, hwk, hwG, hfF⟩ := H2.out.weakr
      have hon := H2.out.only
      have hcu := H2.out.cur
      exact ⟨_, rfl, ⟨_, _, _, rfl, by omega, FS, Cod.keep _ hwk (fun b hb => Below.heap_setCell _ _ _ _ (H2.out.ne b (hwG b hb)).2), hfF⟩, hon.setNew (Nat.le_refl _) _, hcu.set (show p < w.heap.size from hpl) _⟩
  · subst hj
    have hx0 := H2.out.x
    go_wp2_with fail
    go_loopw [4] (fun i wr => ∃ k : Nat, i = .int .i64 k ∧ 1 ≤ k ∧ k ≤ 5 ∧ ∃ s A cp G, CSt p w xb wr s A cp G ∧ cCSet.sz s ≤ 100000 + 9000 * k) (fun i _ => 5 - (intOf i).toNat)
    case atStart => exact ⟨1, rfl, by omega, by omega, _, _, _, _, H2.out, by omega⟩
    case round =>
      clear H2 hx0
      obtain ⟨k, rfl, hk1, hk5, s, A, cp, G, hst, hsz⟩ := hrel
      have HS := Lib.hid hst
      have hlt := hst.lt
      clear hst
      by_cases hpos : k ≤ 4
      · obtain ⟨FS, hwk, hwG, -⟩ := HS.out.weakr
        have HWK := Lib.hid hwk
        clear hwk hwG
        have hx0 := HS.out.x
        have hkk : (k : Int) ≤ 4 := by omega
        go_wp2_with fail
        refine (specOpenCacheO_any _ s FS k _ (by exact Cod.bel HWK.out (by repeat (first | with_reducible exact Below.refl _ _ | with_reducible assumption | with_reducible refine bel_alloc ?_ _ | with_reducible refine bel_drew ?_ | with_reducible refine bel_drewN ?_ _ | (with_reducible refine bel_set ?_ ?_ _; rotate_left; ((try simp); (try omega)))))) (by omega) (by omega)).mono ?_
        have hosz := openCache_sz s k
        rintro e w5 ⟨vs5, G5, rfl, hb5, hr5, hf5⟩
        obtain ⟨A5, c5, rfl, n5⟩ := TCSet.outO hr5
        have hB5 : Below wr.heap.size wr w5 := bel_then (by repeat (first | with_reducible exact Below.refl _ _ | with_reducible assumption | with_reducible refine bel_alloc ?_ _ | with_reducible refine bel_drew ?_ | with_reducible refine bel_drewN ?_ _ | (with_reducible refine bel_set ?_ ?_ _; rotate_left; ((try simp); (try omega))))) hb5
        have HX5 := Lib.hid (HS.out.bel hB5)
        have y0 := HX5.out.x
        have y1 := HX5.out.xz
        have H5 := Lib.hid (And.intro n5 (hf5.mono (show wr.heap.size ≤ _ by (try simp); (try omega))))
        clear hb5 hr5 hf5 n5
        go_wp2_with fail
        go_roundw
        case rel => exact ⟨k + 1, by go_num, by omega, by omega, _, A5, c5, G5, HS.out.put hB5 H5.out.1 H5.out.2, by omega⟩
        case measure => simp [intOf]; omega
      · have hkk : ¬ (k : Int) ≤ 4 := by omega
        have fx := HS.out.x
        have fz := HS.out.xz
        have fq := HS.out.q
        have fqz := HS.out.qz
        have flt := HS.out.lt
        go_wp2_with fail
        refine bodyPost_ret (v := .agg #[.slice A (s.caches.length) cp]) (by simp [results, Try.results90, go_sem, *]) rfl ?_
        obtain ⟨FS, hwk, hwG, hfF⟩ := HS.out.weakr
        have hon := HS.out.only
        have hcu := HS.out.cur
        exact ⟨_, rfl, ⟨_, _, _, rfl, by omega, FS, Cod.keep _ hwk (fun b hb => Below.heap_setCell _ _ _ _ (HS.out.ne b (hwG b hb)).2), hfF⟩, hon.setNew (Nat.le_refl _) _, hcu.set (show p < w.heap.size from hpl) _⟩
  · obtain ⟨j0, j1, j2⟩ := hj
    have fx := H2.out.x
    have fz := H2.out.xz
    have fq := H2.out.q
    have fqz := H2.out.qz
    have flt := H2.out.lt
    go_wp2_with fail
    refine bodyPost_ret (v := .agg #[.slice A (s.caches.length) cp]) (by simp [results, Try.results90, go_sem, *]) rfl ?_
    obtain ⟨FS, hwk, hwG, hfF⟩ := H2.out.weakr
    have hon := H2.out.only
    have hcu := H2.out.cur
    exact ⟨_, rfl, ⟨_, _, _, rfl, by omega, FS, Cod.keep _ hwk (fun b hb => Below.heap_setCell _ _ _ _ (H2.out.ne b (hwG b hb)).2), hfF⟩, hon.setNew (Nat.le_refl _) _, hcu.set (show p < w.heap.size from hpl) _⟩
end Go.Proofs.Ytlicnppfgfjkgaa
