/-
  SizeCaches of the program and of the reference. No conditions.
-/
import Derived.Test.YtlicnppfgfjkgaaZA
import Derived.Test.YtlicnppfgfjkgaaZResp
import Derived.LoopTactic
namespace Go.Proofs.Ytlicnppfgfjkgaa
open Go.ChangeShapes Go.WideShapes Go.RowKit
set_option linter.unusedVariables false

def entrySize (e : TCached) : Int := storedSize e.resp (e.resp.type == 3)
def sumBy {α : Type} (f : α → Int) : List α → Int
  | [] => 0
  | x :: xs => f x + sumBy f xs
theorem sumBy_succ {α : Type} (f : α → Int) : ∀ (xs : List α) (k : Nat) (h : k < xs.length), sumBy f (xs.take (k + 1)) = sumBy f (xs.take k) + f xs[k]
  | x :: xs, 0, _ => by simp [sumBy]
  | x :: xs, k + 1, h => by
    have := sumBy_succ f xs k (by simpa using h)
    simp only [List.take_succ_cons, sumBy, List.getElem_cons_succ]
    omega
theorem sumBy_le {α : Type} (f : α → Int) (g : α → Nat) (c : Int) (hc : 0 ≤ c) (h : ∀ x, 0 ≤ f x ∧ f x ≤ c * (g x + 1 : Nat)) : ∀ xs : List α, 0 ≤ sumBy f xs ∧ sumBy f xs ≤ c * ((xs.map fun x => g x + 1).sum : Nat)
  | [] => by simp [sumBy]
  | x :: xs => by
    have h1 := h x
    have h2 := sumBy_le f g c hc h xs
    simp only [sumBy, List.map_cons, List.sum_cons]
    rw [Int.natCast_add, Int.mul_add]
    omega
def cacheSize (c : TCache) : Int := sumBy entrySize c.entries
def sizeCaches (s : TCSet) : Int := sumBy cacheSize s.caches
theorem entrySize_le (e : TCached) : 0 ≤ entrySize e ∧ entrySize e ≤ 76 * (cCached.sz e + 1 : Nat) := by
  have h1 := Cod.len_le cU e.resp.body
  have h2 : cCached.sz e = e.site.size + (e.path.size + (0 + (0 + (0 + (cU.szs e.resp.body + 0))))) := rfl
  unfold entrySize storedSize
  cases (e.resp.type == 3)
  · simp only [cond_false]; omega
  · simp only [cond_true]; omega
theorem szs_map {α : Type} (c : Cod α) : ∀ xs : List α, (xs.map fun x => c.sz x + 1).sum = Cod.szs c xs
  | [] => rfl
  | x :: xs => by simp [Cod.szs, szs_map c xs]
theorem cacheSize_le (c : TCache) : 0 ≤ cacheSize c ∧ cacheSize c ≤ 76 * (cCache.sz c + 1 : Nat) := by
  have h := sumBy_le entrySize cCached.sz 76 (by decide) entrySize_le c.entries
  rw [szs_map] at h
  have h2 : cCache.sz c = 0 + Cod.szs cCached c.entries := rfl
  unfold cacheSize
  omega
theorem entries_le (c : TCache) (k : Nat) : 0 ≤ sumBy entrySize (c.entries.take k) ∧ sumBy entrySize (c.entries.take k) ≤ 76 * (cCache.sz c + 1 : Nat) := by
  have h := sumBy_le entrySize cCached.sz 76 (by decide) entrySize_le (c.entries.take k)
  rw [szs_map, Cod.szs_sum] at h
  have h2 : cCache.sz c = 0 + Cod.szs cCached c.entries := rfl
  have h3 := Cod.sumSz_le cCached c.entries k
  have h4 := Cod.szs_sum cCached c.entries
  have h5 : (c.entries.take k).length ≤ c.entries.length := List.length_take_le' _ _
  omega
theorem caches_le (s : TCSet) (k : Nat) : 0 ≤ sumBy cacheSize (s.caches.take k) ∧ sumBy cacheSize (s.caches.take k) ≤ 76 * (cCSet.sz s : Nat) := by
  have h := sumBy_le cacheSize cCache.sz 76 (by decide) cacheSize_le (s.caches.take k)
  rw [szs_map, Cod.szs_sum] at h
  have h2 : cCSet.sz s = Cod.szs cCache s.caches := rfl
  have h3 := Cod.sumSz_le cCache s.caches k
  have h4 := Cod.szs_sum cCache s.caches
  have h5 : (s.caches.take k).length ≤ s.caches.length := List.length_take_le' _ _
  omega

theorem sz_cache {s : TCSet} {k : Nat} (h : k < s.caches.length) : cCache.sz s.caches[k] ≤ cCSet.sz s := Cod.sz_mem cCache s.caches _ (List.getElem_mem h)
theorem sz_entry {c : TCache} {k : Nat} (h : k < c.entries.length) : cResp.sz c.entries[k].resp ≤ cCache.sz c := by
  have h1 := Cod.sz_mem cCached c.entries _ (List.getElem_mem h)
  have h2 : cCached.sz c.entries[k] = c.entries[k].site.size + (c.entries[k].path.size + cResp.sz c.entries[k].resp) := rfl
  have h3 : cCache.sz c = 0 + Cod.szs cCached c.entries := rfl
  omega
set_option maxRecDepth 100000 in
set_option maxHeartbeats 4000000 in
theorem implSizeCaches_any (vs : Array Value) (x : TCSet) (F : List Nat) (w : World) (h : cCSet.rep w vs.toList x F) (hn : cCSet.sz x ≤ 1048576) :
    Calls Try.prog 43 #[.agg vs] w (Gives w (.int .i64 (sizeCaches x))) := by
  obtain ⟨v0, F0, rfl, -, -, m0⟩ := TCSet.outA h
  obtain ⟨A, cp, rfl⟩ := cL_form m0
  obtain ⟨-, hcp, hm⟩ := cL_len m0
  have hnl : x.caches.length ≤ 1048576 := Nat.le_trans (Cod.len_le cCache x.caches) hn
  clear h
  obtain ⟨n, hxn⟩ : ∃ n, x.caches.length = n := ⟨_, rfl⟩
  have HN := Lib.hid hxn
  rw [hxn] at hcp hnl ⊢
  clear hxn
  unfold maxLen at hm
  go_enter Try.func43, Try.ntmps43
  go_wp2
  generalize hW : World.alloc _ _ = W
  have hWs : W.heap.size = w.heap.size + 1 := by rw [← hW]; clear hW; simp
  have hbW : Below w.heap.size w W := by rw [← hW]; exact (by repeat (first | with_reducible exact Below.refl _ _ | with_reducible assumption | with_reducible refine bel_alloc ?_ _ | with_reducible refine bel_drew ?_ | with_reducible refine bel_drewN ?_ _ | (with_reducible refine bel_set ?_ ?_ _; rotate_left; ((try simp); (try omega)))))
  have HK := Lib.hid (show W.cell? ⟨w.heap.size, 0, none⟩ = some (.slice A n cp) from by (rw [← hW]; clear hW; go_simp))
  clear hW
  go_loopw [3, 11] (fun c i wr => ∃ k : Nat, k ≤ n ∧ i = .int .i64 k ∧ (∃ cv : Int, c = .int .i64 cv ∧ cv = sumBy cacheSize (x.caches.take k)) ∧ Below W.heap.size W wr) (fun _ i _ => n - (intOf i).toNat)
  case atStart => exact ⟨0, Nat.zero_le _, rfl, ⟨0, rfl, by simp [sumBy]⟩, Below.refl _ _⟩
  case round =>
    obtain ⟨k, hk, rfl, ⟨cv, rfl, he⟩, hB⟩ := hrel
    have hle := caches_le x k
    rw [← he] at hle
    have HE := Lib.hid he
    clear he
    have hws_wr : w.heap.size < wr.heap.size := by have := hB.size; omega
    have hbw : Below w.heap.size w wr := bel_then hbW hB
    have k0_wr : wr.cell? ⟨w.heap.size, 0, none⟩ = some (.slice A n cp) := (hB.cell (p := ⟨w.heap.size, 0, none⟩) (by (try simp); (try omega))).trans HK.out
    have hkb : (k : Int) ≤ 1048576 := by omega
    by_cases hlt : k < n
    · have hkx : k < x.caches.length := by rw [HN.out]; exact hlt
      obtain ⟨g, o, vs, F1, rfl, hgF, hx, -, hc⟩ := cL_get (hw := by decide) (hw2 := by decide) m0 hkx
      obtain ⟨v1, F2, rfl, -, -, m1⟩ := TCache.out hx
      obtain ⟨E5, e5, e5'⟩ := cL_form m1
      subst e5'
      obtain ⟨-, hcp5, hm5⟩ := cL_len m1
      have hgw : g < w.heap.size := Cod.lt _ m0 g hgF
      have p0 := (hbw.cell (p := ⟨g, o + k * 2, none⟩) hgw).trans ((hc 0 _ rfl).1)
      have p1 := (hbw.cell (p := ⟨g, o + k * 2 + 1, none⟩) hgw).trans ((hc 1 _ rfl).1)
      clear hc hx
      have hzc := sz_cache hkx
      have hnl5 : x.caches[k].entries.length ≤ 1048576 := by
        have h1 := Cod.len_le cCached x.caches[k].entries
        have h3 : cCache.sz x.caches[k] = 0 + Cod.szs cCached x.caches[k].entries := rfl
        omega
      obtain ⟨m, hxm⟩ : ∃ m, x.caches[k].entries.length = m := ⟨_, rfl⟩
      have HM := Lib.hid hxm
      rw [hxm] at hcp5 hnl5 p1
      clear hxm
      unfold maxLen at hm5
      have hki : (k : Int) < (n : Int) := by omega
      have hgr : g < wr.heap.size := by omega
      obtain ⟨wo, rfl⟩ : ∃ wo : World, wo = wr := ⟨_, rfl⟩
      go_wp2
      go_loopw [3, 18] (fun c i wr => ∃ j : Nat, j ≤ m ∧ i = .int .i64 j ∧ (∃ dv : Int, c = .int .i64 dv ∧ dv = cv + sumBy entrySize (x.caches[k].entries.take j)) ∧ Below wo.heap.size wo wr) (fun _ i _ => m - (intOf i).toNat)
      case atStart => exact ⟨0, Nat.zero_le _, rfl, ⟨cv, rfl, by simp [sumBy]⟩, (by repeat (first | with_reducible exact Below.refl _ _ | with_reducible assumption | with_reducible refine bel_alloc ?_ _ | with_reducible refine bel_drew ?_ | with_reducible refine bel_drewN ?_ _ | (with_reducible refine bel_set ?_ ?_ _; rotate_left; ((try simp); (try omega)))))⟩
      case round =>
        obtain ⟨j, hj, rfl, ⟨dv, rfl, hde⟩, hB2⟩ := hrel
        have hdl := entries_le x.caches[k] j
        have hdb : 0 ≤ dv ∧ dv ≤ 200000000 := by rw [hde]; omega
        have HD := Lib.hid hde
        clear hde
        have hbw2 : Below w.heap.size w wr := bel_then hbw hB2
        have hz9 := hB2.size
        have hws9 : w.heap.size < wr.heap.size := by omega
        have hjb : (j : Int) ≤ 1048576 := by omega
        have s0 : wr.cell? ⟨w.heap.size, 0, none⟩ = some (.slice (some ⟨g, o, none⟩) n cp) := (hB2.cell (p := ⟨w.heap.size, 0, none⟩) (by (try simp); (try omega))).trans k0_wr
        have s1 : wr.cell? ⟨g, o + k * 2 + 1, none⟩ = some (.slice E5 m e5) := (hB2.cell (p := ⟨g, o + k * 2 + 1, none⟩) (by (try simp); (try omega))).trans p1
        have hgr2 : g < wr.heap.size := by omega
        by_cases hltj : j < m
        · have hjx : j < x.caches[k].entries.length := by rw [HM.out]; exact hltj
          obtain ⟨g2, o2, vs2, F3, rfl, hgF2, hx2, -, hc2⟩ := cL_get (hw := by decide) (hw2 := by decide) m1 hjx
          obtain ⟨v5, F4, rfl, -, hok5, m5⟩ := TCached.out hx2
          obtain ⟨A5, c5, e5'⟩ := cL_form m5
          subst e5'
          have hgw2 : g2 < w.heap.size := Cod.lt _ m1 g2 hgF2
          have r0 := (hbw2.cell (p := ⟨g2, o2 + j * 7, none⟩) hgw2).trans ((hc2 0 _ rfl).1)
          have r1 := (hbw2.cell (p := ⟨g2, o2 + j * 7 + 1, none⟩) hgw2).trans ((hc2 1 _ rfl).1)
          have r2 := (hbw2.cell (p := ⟨g2, o2 + j * 7 + 2, none⟩) hgw2).trans ((hc2 2 _ rfl).1)
          have r3 := (hbw2.cell (p := ⟨g2, o2 + j * 7 + 3, none⟩) hgw2).trans ((hc2 3 _ rfl).1)
          have r4 := (hbw2.cell (p := ⟨g2, o2 + j * 7 + 4, none⟩) hgw2).trans ((hc2 4 _ rfl).1)
          have r5 := (hbw2.cell (p := ⟨g2, o2 + j * 7 + 5, none⟩) hgw2).trans ((hc2 5 _ rfl).1)
          have r6 := (hbw2.cell (p := ⟨g2, o2 + j * 7 + 6, none⟩) hgw2).trans ((hc2 6 _ rfl).1)
          clear hc2 hx2
          have hji : (j : Int) < (m : Int) := by omega
          have hokr : x.caches[k].entries[j].resp.Ok := ⟨hok5.h2, hok5.h3, hok5.h4⟩
          have hze := sz_entry hjx
          have hsz : 0 ≤ entrySize x.caches[k].entries[j] ∧ entrySize x.caches[k].entries[j] ≤ 80000000 := by
            have h1 := entrySize_le x.caches[k].entries[j]
            have h2 := Cod.sz_mem cCached x.caches[k].entries _ (List.getElem_mem hjx)
            have h3 : cCache.sz x.caches[k] = 0 + Cod.szs cCached x.caches[k].entries := rfl
            omega
          have hsucc := sumBy_succ entrySize x.caches[k].entries j hjx
          have HS := Lib.hid hsucc
          clear hsucc
          obtain ⟨q, hq⟩ : ∃ q, entrySize x.caches[k].entries[j] = q := ⟨_, rfl⟩
          have HQ := Lib.hid hq
          rw [hq] at hsz
          clear hq
          go_wp2_with fail
          refine (implStoredSize_any _ x.caches[k].entries[j].resp _ _ _ (by exact TResp.mk_ hokr (Cod.bel m5 (by repeat (first | with_reducible exact Below.refl _ _ | with_reducible assumption | with_reducible refine bel_alloc ?_ _ | with_reducible refine bel_drew ?_ | with_reducible refine bel_drewN ?_ _ | (with_reducible refine bel_set ?_ ?_ _; rotate_left; ((try simp); (try omega))))))) (by omega)).mono ?_
          rw [show storedSize x.caches[k].entries[j].resp (x.caches[k].entries[j].resp.type == 3) = q from HQ.out]
          rintro e w1 ⟨rfl, hb1⟩
          have hB3 : Below wo.heap.size wo w1 := bel_then (by repeat (first | with_reducible exact Below.refl _ _ | with_reducible assumption | with_reducible refine bel_alloc ?_ _ | with_reducible refine bel_drew ?_ | with_reducible refine bel_drewN ?_ _ | (with_reducible refine bel_set ?_ ?_ _; rotate_left; ((try simp); (try omega))))) hb1
          clear hb1
          go_wp2_with fail
          go_roundw
          case rel => exact ⟨j + 1, by omega, by go_num, ⟨_, rfl, by rw [HS.out, HQ.out, HD.out]; omega⟩, (by repeat (first | with_reducible exact Below.refl _ _ | with_reducible assumption | with_reducible refine bel_alloc ?_ _ | with_reducible refine bel_drew ?_ | with_reducible refine bel_drewN ?_ _ | (with_reducible refine bel_set ?_ ?_ _; rotate_left; ((try simp); (try omega)))))⟩
          case measure => simp [intOf]; omega
        · obtain rfl : j = m := by omega
          have hfin : dv = sumBy cacheSize (x.caches.take (k + 1)) := by
            rw [sumBy_succ cacheSize x.caches k hkx, ← HE.out, HD.out, List.take_of_length_le (by rw [HM.out]; exact Nat.le_refl _)]; rfl
          have HF := Lib.hid hfin
          clear hfin
          go_wp2
          go_roundw
          case rel => exact ⟨k + 1, by omega, by go_num, ⟨_, rfl, HF.out⟩, (show Below W.heap.size W wr from hB.trans (hB2.mono (by have := hB.size; omega)))⟩
          case measure => simp [intOf]; omega
    · obtain rfl : k = n := by omega
      have HF := Lib.hid (show cv = sizeCaches x by rw [HE.out, List.take_of_length_le (by rw [HN.out]; exact Nat.le_refl _)]; rfl)
      go_wp2
      go_ret
      exact ⟨ret_int HF.out, (by repeat (first | with_reducible exact Below.refl _ _ | with_reducible assumption | with_reducible refine bel_alloc ?_ _ | with_reducible refine bel_drew ?_ | with_reducible refine bel_drewN ?_ _ | (with_reducible refine bel_set ?_ ?_ _; rotate_left; ((try simp); (try omega)))))⟩
end Go.Proofs.Ytlicnppfgfjkgaa
