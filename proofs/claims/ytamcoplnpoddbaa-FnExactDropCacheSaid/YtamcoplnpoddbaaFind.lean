/-
  FindCache, entryAt (l17Find) of the program and of the reference; slices.IndexFunc at their closures. No conditions.
-/
import Derived.Test.YtamcoplnpoddbaaTCSet
import Derived.Test.YtamcoplnpoddbaaSearch
import Derived.LoopTactic
import Derived.StillTailTactics
namespace Go.Proofs.Ytamcoplnpoddbaa
open Go.ChangeShapes Go.WideShapes Go.RowKit
set_option linter.unusedVariables false

def findCache (s : TCSet) (v : Int) : Int := idxP (fun c => c.ver == v) s.caches
set_option maxRecDepth 100000 in
set_option maxHeartbeats 1000000 in
theorem indexCache_any (A : Option Addr) (cp : Nat) (b : Nat) (xs : List TCache) (v : Int) (F : List Nat) (w : World) (h : cCacheS.rep w [.slice A xs.length cp] xs F) (hv : w.cell? ⟨b, 0, none⟩ = some (.int .i64 v)) (hb : b < w.heap.size) :
    Calls Try.prog 73 #[.slice A xs.length cp, .func (.func 74) #[] #[.pointer (some ⟨b, 0, none⟩)]] w (Gives w (.int .i64 (idxP (fun c => c.ver == v) xs))) := by
  obtain ⟨-, hcp, hm⟩ := cL_len h
  obtain ⟨n, hxn⟩ : ∃ n, xs.length = n := ⟨_, rfl⟩
  have HN := Lib.hid hxn
  rw [hxn] at hcp ⊢
  clear hxn
  unfold maxLen at hm
  go_enter Try.func73, Try.ntmps73
  go_wp2
  go_loopw [8] (fun i wr => ∃ k : Nat, k ≤ n ∧ i = .int .i64 k ∧ noneTo (fun c : TCache => c.ver == v) xs k = true ∧ Below w.heap.size w wr) (fun i _ => n - (intOf i).toNat)
  case atStart => exact ⟨0, Nat.zero_le _, rfl, noneTo_zero _ _, Below.refl _ _⟩
  case round =>
    obtain ⟨k, hk, rfl, hno, hB⟩ := hrel
    have HO := Lib.hid hno
    clear hno
    have hvr : wr.cell? ⟨b, 0, none⟩ = some (.int .i64 v) := (hB.cell (p := ⟨b, 0, none⟩) hb).trans hv
    have hbr : b < wr.heap.size := Nat.lt_of_lt_of_le hb hB.size
    have hbne : ¬ b = wr.heap.size := by omega
    by_cases hlt : k < n
    · have hkx : k < xs.length := by rw [HN.out]; exact hlt
      obtain ⟨g, o, vs, F1, rfl, hgF, hx, -, hc⟩ := cL_get (hw := by decide) (hw2 := by decide) (Cod.bel h hB) hkx
      obtain ⟨v1, F2, rfl, -, hok, m1⟩ := TCache.out hx
      have q0 : wr.cell? ⟨g, o + k * 2, none⟩ = some _ := (hc 0 _ rfl).1
      have q1 : wr.cell? ⟨g, o + k * 2 + 1, none⟩ = some _ := (hc 1 _ rfl).1
      clear hc hx
      cases he : (xs[k].ver == v)
      · have HI := Lib.hid he
        go_wp2
        go_roundw
        case rel => exact ⟨k + 1, by omega, by go_num, noneTo_succ _ xs k hkx HO.out HI.out, (by repeat (first | with_reducible exact Below.refl _ _ | with_reducible assumption | with_reducible refine bel_alloc ?_ _ | with_reducible refine bel_drew ?_ | with_reducible refine bel_drewN ?_ _ | (with_reducible refine bel_set ?_ ?_ _; rotate_left; ((try simp); (try omega)))))⟩
        case measure => simp [intOf]; omega
      · have HI := Lib.hid (idxP_hit (fun c : TCache => c.ver == v) xs k hkx HO.out he)
        go_wp2
        go_ret
        exact ⟨ret_int HI.out.symm, (by repeat (first | with_reducible exact Below.refl _ _ | with_reducible assumption | with_reducible refine bel_alloc ?_ _ | with_reducible refine bel_drew ?_ | with_reducible refine bel_drewN ?_ _ | (with_reducible refine bel_set ?_ ?_ _; rotate_left; ((try simp); (try omega)))))⟩
    · obtain rfl : k = n := by omega
      have HI := Lib.hid (idxP_miss (fun c : TCache => c.ver == v) xs (by rw [HN.out]; exact HO.out))
      go_wp2
      go_ret
      exact ⟨ret_int HI.out.symm, (by repeat (first | with_reducible exact Below.refl _ _ | with_reducible assumption | with_reducible refine bel_alloc ?_ _ | with_reducible refine bel_drew ?_ | with_reducible refine bel_drewN ?_ _ | (with_reducible refine bel_set ?_ ?_ _; rotate_left; ((try simp); (try omega)))))⟩
set_option maxRecDepth 100000 in
set_option maxHeartbeats 1000000 in
theorem implFindCache_any (vs : Array Value) (x : TCSet) (F : List Nat) (v : Int) (w : World) (h : cCSet.rep w vs.toList x F) (hn : cCSet.sz x ≤ 1048576) (_hv : -9223372036854775808 ≤ v ∧ v ≤ 9223372036854775807) :
    Calls Try.prog 35 #[.agg vs, .int .i64 v] w (Gives w (.int .i64 (findCache x v))) := by
  obtain ⟨v0, F0, rfl, -, hok, m0⟩ := TCSet.outA h
  clear h
  obtain ⟨A, cp, rfl⟩ := cL_form m0
  go_enter Try.func35, Try.ntmps35
  go_wp2_with fail
  refine (indexCache_any A cp (w.heap.size + 1) x.caches v _ _ (by exact Cod.bel m0 (by repeat (first | with_reducible exact Below.refl _ _ | with_reducible assumption | with_reducible refine bel_alloc ?_ _ | with_reducible refine bel_drew ?_ | with_reducible refine bel_drewN ?_ _ | (with_reducible refine bel_set ?_ ?_ _; rotate_left; ((try simp); (try omega)))))) (by go_simp) (by simp)).mono ?_
  rintro e w1 ⟨rfl, hb1⟩
  have hB : Below w.heap.size w w1 := bel_then (by repeat (first | with_reducible exact Below.refl _ _ | with_reducible assumption | with_reducible refine bel_alloc ?_ _ | with_reducible refine bel_drew ?_ | with_reducible refine bel_drewN ?_ _ | (with_reducible refine bel_set ?_ ?_ _; rotate_left; ((try simp); (try omega))))) hb1
  clear hb1
  go_wp2_with fail
  go_ret
  exact ⟨rfl, (by repeat (first | with_reducible exact Below.refl _ _ | with_reducible assumption | with_reducible refine bel_alloc ?_ _ | with_reducible refine bel_drew ?_ | with_reducible refine bel_drewN ?_ _ | (with_reducible refine bel_set ?_ ?_ _; rotate_left; ((try simp); (try omega)))))⟩
set_option maxRecDepth 100000 in
set_option maxHeartbeats 1000000 in
theorem specFindCache_any (vs : Array Value) (x : TCSet) (F : List Nat) (v : Int) (w : World) (h : cCSet.rep w vs.toList x F) (hn : cCSet.sz x ≤ 1048576) (_hv : -9223372036854775808 ≤ v ∧ v ≤ 9223372036854775807) :
    Calls Try.prog 33 #[.agg vs, .int .i64 v] w (Gives w (.int .i64 (findCache x v))) := by
  obtain ⟨v0, F0, rfl, -, hok, m0⟩ := TCSet.outA h
  clear h
  obtain ⟨A, cp, rfl⟩ := cL_form m0
  obtain ⟨-, hcp, hm⟩ := cL_len m0
  obtain ⟨n, hxn⟩ : ∃ n, x.caches.length = n := ⟨_, rfl⟩
  have HN := Lib.hid hxn
  rw [hxn] at hcp ⊢
  clear hxn
  unfold maxLen at hm
  go_enter Try.func33, Try.ntmps33
  go_wp2
  generalize hW : World.alloc _ _ = W
  have hWs : W.heap.size = w.heap.size + 1 := by rw [← hW]; clear hW; simp
  have hbW : Below w.heap.size w W := by rw [← hW]; exact (by repeat (first | with_reducible exact Below.refl _ _ | with_reducible assumption | with_reducible refine bel_alloc ?_ _ | with_reducible refine bel_drew ?_ | with_reducible refine bel_drewN ?_ _ | (with_reducible refine bel_set ?_ ?_ _; rotate_left; ((try simp); (try omega)))))
  have HK := Lib.hid (show W.cell? ⟨w.heap.size, 0, none⟩ = some (.slice A n cp) from by (rw [← hW]; clear hW; go_simp))
  clear hW
  go_loopw [5] (fun i wr => ∃ k : Nat, k ≤ n ∧ i = .int .i64 k ∧ noneTo (fun c : TCache => c.ver == v) x.caches k = true ∧ Below W.heap.size W wr) (fun i _ => n - (intOf i).toNat)
  case atStart => exact ⟨0, Nat.zero_le _, rfl, noneTo_zero _ _, Below.refl _ _⟩
  case round =>
    obtain ⟨k, hk, rfl, hno, hB⟩ := hrel
    have HO := Lib.hid hno
    clear hno
    have hws_wr : w.heap.size < wr.heap.size := by have := hB.size; omega
    have hbw : Below w.heap.size w wr := bel_then hbW hB
    have k0_wr : wr.cell? ⟨w.heap.size, 0, none⟩ = some (.slice A n cp) := (hB.cell (p := ⟨w.heap.size, 0, none⟩) (by (try simp); (try omega))).trans HK.out
    by_cases hlt : k < n
    · have hkx : k < x.caches.length := by rw [HN.out]; exact hlt
      obtain ⟨g, o, vs, F1, rfl, hgF, hx, -, hc⟩ := cL_get (hw := by decide) (hw2 := by decide) (Cod.bel m0 hbw) hkx
      obtain ⟨v1, F2, rfl, -, hok, m1⟩ := TCache.out hx
      have q0 : wr.cell? ⟨g, o + k * 2, none⟩ = some _ := (hc 0 _ rfl).1
      have q1 : wr.cell? ⟨g, o + k * 2 + 1, none⟩ = some _ := (hc 1 _ rfl).1
      clear hc hx
      cases he : (x.caches[k].ver == v)
      · have HI := Lib.hid he
        go_wp2
        go_roundw
        case rel => exact ⟨k + 1, by omega, by go_num, noneTo_succ _ x.caches k hkx HO.out HI.out, hB⟩
        case measure => simp [intOf]; omega
      · have HI := Lib.hid (idxP_hit (fun c : TCache => c.ver == v) x.caches k hkx HO.out he)
        go_wp2
        go_ret
        exact ⟨ret_int HI.out.symm, (by repeat (first | with_reducible exact Below.refl _ _ | with_reducible assumption | with_reducible refine bel_alloc ?_ _ | with_reducible refine bel_drew ?_ | with_reducible refine bel_drewN ?_ _ | (with_reducible refine bel_set ?_ ?_ _; rotate_left; ((try simp); (try omega)))))⟩
    · obtain rfl : k = n := by omega
      have HI := Lib.hid (idxP_miss (fun c : TCache => c.ver == v) x.caches (by rw [HN.out]; exact HO.out))
      go_wp2
      go_ret
      exact ⟨ret_int HI.out.symm, (by repeat (first | with_reducible exact Below.refl _ _ | with_reducible assumption | with_reducible refine bel_alloc ?_ _ | with_reducible refine bel_drew ?_ | with_reducible refine bel_drewN ?_ _ | (with_reducible refine bel_set ?_ ?_ _; rotate_left; ((try simp); (try omega)))))⟩
end Go.Proofs.Ytamcoplnpoddbaa
