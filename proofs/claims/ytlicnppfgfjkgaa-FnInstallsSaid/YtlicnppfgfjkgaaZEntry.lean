/-
  entryAt of the program, l17Find of the reference; slices.IndexFunc at that closure. No conditions.
-/
import Derived.Test.YtlicnppfgfjkgaaZA
import Derived.LoopTactic
import Derived.StillTailTactics
namespace Go.Proofs.Ytlicnppfgfjkgaa
open Go.ChangeShapes Go.WideShapes Go.RowKit
set_option linter.unusedVariables false

def sameEntry (e : TCached) (st pa : ByteArray) : Bool := strEq e.site st && strEq e.path pa
def entryIx (es : List TCached) (st pa : ByteArray) : Int := idxP (fun e => sameEntry e st pa) es
set_option maxRecDepth 100000 in
set_option maxHeartbeats 2000000 in
theorem indexEntry_any (A : Option Addr) (cp : Nat) (b1 b2 : Nat) (xs : List TCached) (st pa : ByteArray) (F : List Nat) (w : World) (h : cCachedS.rep w [.slice A xs.length cp] xs F) (hv1 : w.cell? ⟨b1, 0, none⟩ = some (.string st)) (hb1 : b1 < w.heap.size) (hv2 : w.cell? ⟨b2, 0, none⟩ = some (.string pa)) (hb2 : b2 < w.heap.size) :
    Calls Try.prog 138 #[.slice A xs.length cp, .func (.func 139) #[] #[.pointer (some ⟨b1, 0, none⟩), .pointer (some ⟨b2, 0, none⟩)]] w (Gives w (.int .i64 (entryIx xs st pa))) := by
  obtain ⟨-, hcp, hm⟩ := cL_len h
  obtain ⟨n, hxn⟩ : ∃ n, xs.length = n := ⟨_, rfl⟩
  have HN := Lib.hid hxn
  rw [hxn] at hcp ⊢
  clear hxn
  unfold maxLen at hm
  go_enter Try.func138, Try.ntmps138
  go_wp2
  go_loopw [8] (fun i wr => ∃ k : Nat, k ≤ n ∧ i = .int .i64 k ∧ noneTo (fun e : TCached => sameEntry e st pa) xs k = true ∧ Below w.heap.size w wr) (fun i _ => n - (intOf i).toNat)
  case atStart => exact ⟨0, Nat.zero_le _, rfl, noneTo_zero _ _, Below.refl _ _⟩
  case round =>
    obtain ⟨k, hk, rfl, hno, hB⟩ := hrel
    have HO := Lib.hid hno
    clear hno
    have hvr1 : wr.cell? ⟨b1, 0, none⟩ = some (.string st) := (hB.cell (p := ⟨b1, 0, none⟩) hb1).trans hv1
    have hvr2 : wr.cell? ⟨b2, 0, none⟩ = some (.string pa) := (hB.cell (p := ⟨b2, 0, none⟩) hb2).trans hv2
    have hbr1 : b1 < wr.heap.size := Nat.lt_of_lt_of_le hb1 hB.size
    have hbr2 : b2 < wr.heap.size := Nat.lt_of_lt_of_le hb2 hB.size
    have hbne1 : ¬ b1 = wr.heap.size := by omega
    have hbne2 : ¬ b2 = wr.heap.size := by omega
    by_cases hlt : k < n
    · have hkx : k < xs.length := by rw [HN.out]; exact hlt
      obtain ⟨g, o, vs, F1, rfl, hgF, hx, -, hc⟩ := cL_get (hw := by decide) (hw2 := by decide) (Cod.bel h hB) hkx
      obtain ⟨v5, F2, rfl, -, hok, m1⟩ := TCached.out hx
      obtain ⟨A5, c5, hv5⟩ := cL_form m1
      subst hv5
      have q0 : wr.cell? ⟨g, o + k * 7, none⟩ = some _ := (hc 0 _ rfl).1
      have q1 : wr.cell? ⟨g, o + k * 7 + 1, none⟩ = some _ := (hc 1 _ rfl).1
      have q2 : wr.cell? ⟨g, o + k * 7 + 2, none⟩ = some _ := (hc 2 _ rfl).1
      have q3 : wr.cell? ⟨g, o + k * 7 + 3, none⟩ = some _ := (hc 3 _ rfl).1
      have q4 : wr.cell? ⟨g, o + k * 7 + 4, none⟩ = some _ := (hc 4 _ rfl).1
      have q5 : wr.cell? ⟨g, o + k * 7 + 5, none⟩ = some _ := (hc 5 _ rfl).1
      have q6 : wr.cell? ⟨g, o + k * 7 + 6, none⟩ = some _ := (hc 6 _ rfl).1
      clear hc hx
      have HC := fun h1 => Lib.hid (idxP_hit (fun e : TCached => sameEntry e st pa) xs k hkx HO.out h1)
      have hse : sameEntry xs[k] st pa = (xs[k].site.toList == st.toList && xs[k].path.toList == pa.toList) := rfl
      have HSE := Lib.hid hse
      clear hse
      cases e1 : (xs[k].site.toList == st.toList)
      · have HI := Lib.hid (show sameEntry xs[k] st pa = false by rw [HSE.out]; simp [*])
        clear HC
        go_wp2
        go_roundw
        case rel => exact ⟨k + 1, by omega, by go_num, noneTo_succ _ xs k hkx HO.out HI.out, (by repeat (first | with_reducible exact Below.refl _ _ | with_reducible assumption | with_reducible refine bel_alloc ?_ _ | with_reducible refine bel_drew ?_ | with_reducible refine bel_drewN ?_ _ | (with_reducible refine bel_set ?_ ?_ _; rotate_left; ((try simp); (try omega)))))⟩
        case measure => simp [intOf]; omega
      ·
        cases e2 : (xs[k].path.toList == pa.toList)
        · have HI := Lib.hid (show sameEntry xs[k] st pa = false by rw [HSE.out]; simp [*])
          clear HC
          go_wp2
          go_roundw
          case rel => exact ⟨k + 1, by omega, by go_num, noneTo_succ _ xs k hkx HO.out HI.out, (by repeat (first | with_reducible exact Below.refl _ _ | with_reducible assumption | with_reducible refine bel_alloc ?_ _ | with_reducible refine bel_drew ?_ | with_reducible refine bel_drewN ?_ _ | (with_reducible refine bel_set ?_ ?_ _; rotate_left; ((try simp); (try omega)))))⟩
          case measure => simp [intOf]; omega
        ·
          have HI := HC (by rw [HSE.out, e1, e2]; rfl)
          clear HC
          go_wp2
          go_ret
          exact ⟨ret_int HI.out.symm, (by repeat (first | with_reducible exact Below.refl _ _ | with_reducible assumption | with_reducible refine bel_alloc ?_ _ | with_reducible refine bel_drew ?_ | with_reducible refine bel_drewN ?_ _ | (with_reducible refine bel_set ?_ ?_ _; rotate_left; ((try simp); (try omega)))))⟩
    · obtain rfl : k = n := by omega
      have HI := Lib.hid (idxP_miss (fun e : TCached => sameEntry e st pa) xs (by rw [HN.out]; exact HO.out))
      go_wp2
      go_ret
      exact ⟨ret_int HI.out.symm, (by repeat (first | with_reducible exact Below.refl _ _ | with_reducible assumption | with_reducible refine bel_alloc ?_ _ | with_reducible refine bel_drew ?_ | with_reducible refine bel_drewN ?_ _ | (with_reducible refine bel_set ?_ ?_ _; rotate_left; ((try simp); (try omega)))))⟩
set_option maxRecDepth 100000 in
set_option maxHeartbeats 1000000 in
theorem implEntry_any (ver : Int) (A : Option Addr) (n cp : Nat) (es : List TCached) (st pa : ByteArray) (F : List Nat) (w : World) (h : cCachedS.rep w [.slice A n cp] es F) :
    Calls Try.prog 93 #[.agg #[.int .i64 ver, .slice A n cp], .string st, .string pa] w (Gives w (.int .i64 (entryIx es st pa))) := by
  obtain ⟨rfl, -, -⟩ := cL_len h
  go_enter Try.func93, Try.ntmps93
  go_wp2_with fail
  refine (indexEntry_any A cp (w.heap.size + 1) (w.heap.size + 1 + 1) es st pa _ _ (by exact Cod.bel h (by repeat (first | with_reducible exact Below.refl _ _ | with_reducible assumption | with_reducible refine bel_alloc ?_ _ | with_reducible refine bel_drew ?_ | with_reducible refine bel_drewN ?_ _ | (with_reducible refine bel_set ?_ ?_ _; rotate_left; ((try simp); (try omega)))))) (by go_simp) (by simp) (by go_simp) (by simp)).mono ?_
  rintro e w1 ⟨rfl, hb1⟩
  have hB : Below w.heap.size w w1 := bel_then (by repeat (first | with_reducible exact Below.refl _ _ | with_reducible assumption | with_reducible refine bel_alloc ?_ _ | with_reducible refine bel_drew ?_ | with_reducible refine bel_drewN ?_ _ | (with_reducible refine bel_set ?_ ?_ _; rotate_left; ((try simp); (try omega))))) hb1
  clear hb1
  go_wp2_with fail
  go_ret
  exact ⟨rfl, (by repeat (first | with_reducible exact Below.refl _ _ | with_reducible assumption | with_reducible refine bel_alloc ?_ _ | with_reducible refine bel_drew ?_ | with_reducible refine bel_drewN ?_ _ | (with_reducible refine bel_set ?_ ?_ _; rotate_left; ((try simp); (try omega)))))⟩
set_option maxRecDepth 100000 in
set_option maxHeartbeats 2000000 in
theorem specEntry_any (ver : Int) (A : Option Addr) (n cp : Nat) (es : List TCached) (st pa : ByteArray) (F : List Nat) (w : World) (h : cCachedS.rep w [.slice A n cp] es F) :
    Calls Try.prog 98 #[.agg #[.int .i64 ver, .slice A n cp], .string st, .string pa] w (Gives w (.int .i64 (entryIx es st pa))) := by
  obtain ⟨hxn, hcp, hm⟩ := cL_len h
  have HN := Lib.hid hxn.symm
  clear hxn
  unfold maxLen at hm
  go_enter Try.func98, Try.ntmps98
  go_wp2
  generalize hW : World.alloc _ _ = W
  have hWs : W.heap.size = w.heap.size + 1 := by rw [← hW]; clear hW; simp
  have hbW : Below w.heap.size w W := by rw [← hW]; exact (by repeat (first | with_reducible exact Below.refl _ _ | with_reducible assumption | with_reducible refine bel_alloc ?_ _ | with_reducible refine bel_drew ?_ | with_reducible refine bel_drewN ?_ _ | (with_reducible refine bel_set ?_ ?_ _; rotate_left; ((try simp); (try omega)))))
  have HK := Lib.hid (show W.cell? ⟨w.heap.size, 0, none⟩ = some (.int .i64 ver) ∧ W.cell? ⟨w.heap.size, 1, none⟩ = some (.slice A n cp) from by refine ⟨?_, ?_⟩ <;> (rw [← hW]; clear hW; go_simp))
  clear hW
  go_loopw [7] (fun i wr => ∃ k : Nat, k ≤ n ∧ i = .int .i64 k ∧ noneTo (fun e : TCached => sameEntry e st pa) es k = true ∧ Below W.heap.size W wr) (fun i _ => n - (intOf i).toNat)
  case atStart => exact ⟨0, Nat.zero_le _, rfl, noneTo_zero _ _, Below.refl _ _⟩
  case round =>
    obtain ⟨k, hk, rfl, hno, hB⟩ := hrel
    have HO := Lib.hid hno
    clear hno
    have hws_wr : w.heap.size < wr.heap.size := by have := hB.size; omega
    have hbw : Below w.heap.size w wr := bel_then hbW hB
    have k0_wr : wr.cell? ⟨w.heap.size, 0, none⟩ = some (.int .i64 ver) := (hB.cell (p := ⟨w.heap.size, 0, none⟩) (by (try simp); (try omega))).trans HK.out.1
    have k1_wr : wr.cell? ⟨w.heap.size, 1, none⟩ = some (.slice A n cp) := (hB.cell (p := ⟨w.heap.size, 1, none⟩) (by (try simp); (try omega))).trans HK.out.2
    by_cases hlt : k < n
    · have hkx : k < es.length := by rw [HN.out]; exact hlt
      obtain ⟨g, o, vs, F1, rfl, hgF, hx, -, hc⟩ := cL_get (hw := by decide) (hw2 := by decide) (Cod.bel h hbw) hkx
      obtain ⟨v5, F2, rfl, -, hok, m1⟩ := TCached.out hx
      obtain ⟨A5, c5, hv5⟩ := cL_form m1
      subst hv5
      have q0 : wr.cell? ⟨g, o + k * 7, none⟩ = some _ := (hc 0 _ rfl).1
      have q1 : wr.cell? ⟨g, o + k * 7 + 1, none⟩ = some _ := (hc 1 _ rfl).1
      have q2 : wr.cell? ⟨g, o + k * 7 + 2, none⟩ = some _ := (hc 2 _ rfl).1
      have q3 : wr.cell? ⟨g, o + k * 7 + 3, none⟩ = some _ := (hc 3 _ rfl).1
      have q4 : wr.cell? ⟨g, o + k * 7 + 4, none⟩ = some _ := (hc 4 _ rfl).1
      have q5 : wr.cell? ⟨g, o + k * 7 + 5, none⟩ = some _ := (hc 5 _ rfl).1
      have q6 : wr.cell? ⟨g, o + k * 7 + 6, none⟩ = some _ := (hc 6 _ rfl).1
      clear hc hx
      have HC := fun h1 => Lib.hid (idxP_hit (fun e : TCached => sameEntry e st pa) es k hkx HO.out h1)
      have hse : sameEntry es[k] st pa = (es[k].site.toList == st.toList && es[k].path.toList == pa.toList) := rfl
      have HSE := Lib.hid hse
      clear hse
      cases e1 : (es[k].site.toList == st.toList)
      · have HI := Lib.hid (show sameEntry es[k] st pa = false by rw [HSE.out]; simp [*])
        clear HC
        go_wp2
        go_roundw
        case rel => exact ⟨k + 1, by omega, by go_num, noneTo_succ _ es k hkx HO.out HI.out, hB⟩
        case measure => simp [intOf]; omega
      ·
        cases e2 : (es[k].path.toList == pa.toList)
        · have HI := Lib.hid (show sameEntry es[k] st pa = false by rw [HSE.out]; simp [*])
          clear HC
          go_wp2
          go_roundw
          case rel => exact ⟨k + 1, by omega, by go_num, noneTo_succ _ es k hkx HO.out HI.out, hB⟩
          case measure => simp [intOf]; omega
        ·
          have HI := HC (by rw [HSE.out, e1, e2]; rfl)
          clear HC
          go_wp2
          go_ret
          exact ⟨ret_int HI.out.symm, (by repeat (first | with_reducible exact Below.refl _ _ | with_reducible assumption | with_reducible refine bel_alloc ?_ _ | with_reducible refine bel_drew ?_ | with_reducible refine bel_drewN ?_ _ | (with_reducible refine bel_set ?_ ?_ _; rotate_left; ((try simp); (try omega)))))⟩
    · obtain rfl : k = n := by omega
      have HI := Lib.hid (idxP_miss (fun e : TCached => sameEntry e st pa) es (by rw [HN.out]; exact HO.out))
      go_wp2
      go_ret
      exact ⟨ret_int HI.out.symm, (by repeat (first | with_reducible exact Below.refl _ _ | with_reducible assumption | with_reducible refine bel_alloc ?_ _ | with_reducible refine bel_drew ?_ | with_reducible refine bel_drewN ?_ _ | (with_reducible refine bel_set ?_ ?_ _; rotate_left; ((try simp); (try omega)))))⟩
end Go.Proofs.Ytlicnppfgfjkgaa
