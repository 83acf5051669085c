/-
  Slices of Cached: held. No conditions but the budget of the laws.
-/
import Derived.Test.YtlicnppfgfjkgaaRows
import Derived.Test.YtlicnppfgfjkgaaZA
import Derived.LoopTactic
import Derived.Deep.RegionHeld3
import Derived.Test.YtlicnppfgfjkgaaZMk0Cached
import Derived.Test.YtlicnppfgfjkgaaZMark
import Derived.Test.YtlicnppfgfjkgaaZHdSU
namespace Go.Proofs.Ytlicnppfgfjkgaa
open Go.ChangeShapes Go.WideShapes Go.RowKit
set_option linter.unusedVariables false

set_option maxRecDepth 100000 in
set_option maxHeartbeats 2000000 in
theorem heldCachedS_any (v : Value) (xs : List TCached) (F : List Nat) (k0 : Int) (w : World) (h : cCachedS.rep w [v] (cCachedS.mrk k0 xs) F) (h0 : 0 ≤ k0) (h1 : k0 + ((cCachedS.cn xs : Nat) : Int) ≤ 900000000) :
    Calls Try.prog 151 #[v, .int .i64 k0] w (Gives w (.int .i64 (k0 + ((cCachedS.cn xs : Nat) : Int)))) := by
  change (cL cCached _ _).rep w [v] (Cod.mks cCached k0 xs) F at h
  change k0 + ((Cod.cns cCached xs : Nat) : Int) ≤ 900000000 at h1
  change Calls _ _ _ _ (Gives w (.int .i64 (k0 + ((Cod.cns cCached xs : Nat) : Int))))
  obtain ⟨A, cp, rfl⟩ := cL_form h
  obtain ⟨-, hcp, hm⟩ := cL_len h
  have hlen := Cod.mks_len cCached k0 xs
  obtain ⟨n, hxn⟩ : ∃ n, xs.length = n := ⟨_, rfl⟩
  have HN := Lib.hid hxn
  have HL := Lib.hid (hlen.trans hxn)
  rw [hlen, hxn] at hcp ⊢
  clear hxn hlen
  have hcle := Cod.cns_take_le cCached xs
  unfold maxLen at hm
  go_enter Try.func151, Try.ntmps151
  go_wp2
  go_loopw [1, 5] (fun a i wr => ∃ k : Nat, k ≤ n ∧ i = .int .i64 k ∧ (∃ kv : Int, a = .int .i64 kv ∧ 0 ≤ kv ∧ kv ≤ 900000000 ∧ kv = k0 + ((Cod.cns cCached (xs.take k) : Nat) : Int)) ∧ Below w.heap.size w wr) (fun _ i _ => n - (intOf i).toNat)
  case atStart => exact ⟨0, Nat.zero_le _, rfl, ⟨_, rfl, h0, by omega, by simp [Cod.cns]⟩, Below.refl _ _⟩
  case round =>
    obtain ⟨k, hk, rfl, ⟨kv, rfl, hkv0, hkv1, he⟩, hB⟩ := hrel
    by_cases hlt : k < n
    · have hkx : k < xs.length := by rw [HN.out]; exact hlt
      have hkm : k < (Cod.mks cCached k0 xs).length := by rw [HL.out]; exact hlt
      obtain ⟨g, o, vs, F1, rfl, hgF, hx, -, hc⟩ := cL_get (hw := by decide) (hw2 := by decide) (Cod.bel h hB) hkm
      rw [Cod.mks_get cCached k0 xs k hkx hkm, ← he] at hx
      have hsucc := Cod.cns_succ cCached xs k hkx
      have hle2 := hcle (k + 1)
      have hcn := TCached.cn_eq xs[k]
      have hb9 : kv + ((Cod.cn cCached xs[k] : Nat) : Int) ≤ 900000000 := by omega
      have HE := Lib.hid (And.intro he hsucc)
      clear he hsucc hle2 hcle
      obtain ⟨u5_, Q5, rfl, rfl, -, m5⟩ := TCached.out hx
      change cUS.rep wr [_] (cUS.mrk (kv + 1 + 1 + 1 + 1 + 1) xs[k].resp.body) _ at m5
      obtain ⟨A5, c5, hv5⟩ := cL_form m5
      subst hv5
      have q0_0 : wr.cell? ⟨g, o + k * 7, none⟩ = some (.string (markText (kv))) := (hc 0 _ rfl).1
      have q1_0 : wr.cell? ⟨g, o + k * 7 + 1, none⟩ = some (.string (markText (kv + 1))) := (hc 1 _ rfl).1
      have q2_0 : wr.cell? ⟨g, o + k * 7 + 2, none⟩ = some (.int .i64 (kv + 1 + 1)) := (hc 2 _ rfl).1
      have q3_0 : wr.cell? ⟨g, o + k * 7 + 3, none⟩ = some (.int .i64 (kv + 1 + 1 + 1)) := (hc 3 _ rfl).1
      have q4_0 : wr.cell? ⟨g, o + k * 7 + 4, none⟩ = some (.int .i64 (kv + 1 + 1 + 1 + 1)) := (hc 4 _ rfl).1
      have q5_0 : wr.cell? ⟨g, o + k * 7 + 5, none⟩ = some (_) := (hc 5 _ rfl).1
      have q6_0 : wr.cell? ⟨g, o + k * 7 + 6, none⟩ = some (.bool ((kv + 1 + 1 + 1 + 1 + 1 + ((cUS.cn xs[k].resp.body : Nat) : Int)) % 3 == 0)) := (hc 6 _ rfl).1
      clear hc
      have hgr : g < wr.heap.size := Nat.lt_of_lt_of_le (Cod.lt _ h g hgF) hB.size
      have hwb : Below wr.heap.size wr wr := Below.refl _ _
      go_wp2_with fail
      have hS1 : ∀ w9, Below wr.heap.size wr w9 → Below wr.heap.size wr w9 ∧ w9.cell? ⟨g, o + k * 7, none⟩ = some (.string (markText (kv))) := fun w9 hb => ⟨hb, (hb.cell (p := ⟨g, o + k * 7, none⟩) hgr).trans q0_0⟩
      go_region_held3 (fun w9 => Below wr.heap.size wr w9 ∧ w9.cell? ⟨g, o + k * 7, none⟩ = some (.string (markText (kv)))) (exact hS1 _ (by repeat (first | with_reducible exact Below.refl _ _ | with_reducible assumption | with_reducible refine bel_alloc ?_ _ | with_reducible refine bel_drew ?_ | with_reducible refine bel_drewN ?_ _ | (with_reducible refine bel_set ?_ ?_ _; rotate_left; ((try simp); (try omega)))))) (first | (go_at_call 155; refine (markText_any _ _ (by omega)).mono ?_; rintro e w1 ⟨rfl, hb1⟩; have hbw1 : Below wr.heap.size wr w1 := bel_then (by repeat (first | with_reducible exact Below.refl _ _ | with_reducible assumption | with_reducible refine bel_alloc ?_ _ | with_reducible refine bel_drew ?_ | with_reducible refine bel_drewN ?_ _ | (with_reducible refine bel_set ?_ ?_ _; rotate_left; ((try simp); (try omega))))) hb1))
      clear hS1
      have q1_1 : w1.cell? ⟨g, o + k * 7 + 1, none⟩ = some (.string (markText (kv + 1))) := (hbw1.cell (p := ⟨g, o + k * 7 + 1, none⟩) hgr).trans q1_0
      have q2_1 : w1.cell? ⟨g, o + k * 7 + 2, none⟩ = some (.int .i64 (kv + 1 + 1)) := (hbw1.cell (p := ⟨g, o + k * 7 + 2, none⟩) hgr).trans q2_0
      have q3_1 : w1.cell? ⟨g, o + k * 7 + 3, none⟩ = some (.int .i64 (kv + 1 + 1 + 1)) := (hbw1.cell (p := ⟨g, o + k * 7 + 3, none⟩) hgr).trans q3_0
      have q4_1 : w1.cell? ⟨g, o + k * 7 + 4, none⟩ = some (.int .i64 (kv + 1 + 1 + 1 + 1)) := (hbw1.cell (p := ⟨g, o + k * 7 + 4, none⟩) hgr).trans q4_0
      have q5_1 : w1.cell? ⟨g, o + k * 7 + 5, none⟩ = some (_) := (hbw1.cell (p := ⟨g, o + k * 7 + 5, none⟩) hgr).trans q5_0
      have q6_1 : w1.cell? ⟨g, o + k * 7 + 6, none⟩ = some (.bool ((kv + 1 + 1 + 1 + 1 + 1 + ((cUS.cn xs[k].resp.body : Nat) : Int)) % 3 == 0)) := (hbw1.cell (p := ⟨g, o + k * 7 + 6, none⟩) hgr).trans q6_0
      go_wp2_with fail
      have hS2 : ∀ w9, Below wr.heap.size wr w9 → Below wr.heap.size wr w9 ∧ w9.cell? ⟨g, o + k * 7 + 1, none⟩ = some (.string (markText (kv + 1))) := fun w9 hb => ⟨hb, (hb.cell (p := ⟨g, o + k * 7 + 1, none⟩) hgr).trans q1_0⟩
      go_region_held3 (fun w9 => Below wr.heap.size wr w9 ∧ w9.cell? ⟨g, o + k * 7 + 1, none⟩ = some (.string (markText (kv + 1)))) (exact hS2 _ (by repeat (first | with_reducible exact Below.refl _ _ | with_reducible assumption | with_reducible refine bel_alloc ?_ _ | with_reducible refine bel_drew ?_ | with_reducible refine bel_drewN ?_ _ | (with_reducible refine bel_set ?_ ?_ _; rotate_left; ((try simp); (try omega)))))) (first | (go_at_call 155; refine (markText_any _ _ (by omega)).mono ?_; rintro e w2 ⟨rfl, hb2⟩; have hbw2 : Below wr.heap.size wr w2 := bel_then (by repeat (first | with_reducible exact Below.refl _ _ | with_reducible assumption | with_reducible refine bel_alloc ?_ _ | with_reducible refine bel_drew ?_ | with_reducible refine bel_drewN ?_ _ | (with_reducible refine bel_set ?_ ?_ _; rotate_left; ((try simp); (try omega))))) hb2))
      clear hS2
      have q2_2 : w2.cell? ⟨g, o + k * 7 + 2, none⟩ = some (.int .i64 (kv + 1 + 1)) := (hbw2.cell (p := ⟨g, o + k * 7 + 2, none⟩) hgr).trans q2_0
      have q3_2 : w2.cell? ⟨g, o + k * 7 + 3, none⟩ = some (.int .i64 (kv + 1 + 1 + 1)) := (hbw2.cell (p := ⟨g, o + k * 7 + 3, none⟩) hgr).trans q3_0
      have q4_2 : w2.cell? ⟨g, o + k * 7 + 4, none⟩ = some (.int .i64 (kv + 1 + 1 + 1 + 1)) := (hbw2.cell (p := ⟨g, o + k * 7 + 4, none⟩) hgr).trans q4_0
      have q5_2 : w2.cell? ⟨g, o + k * 7 + 5, none⟩ = some (_) := (hbw2.cell (p := ⟨g, o + k * 7 + 5, none⟩) hgr).trans q5_0
      have q6_2 : w2.cell? ⟨g, o + k * 7 + 6, none⟩ = some (.bool ((kv + 1 + 1 + 1 + 1 + 1 + ((cUS.cn xs[k].resp.body : Nat) : Int)) % 3 == 0)) := (hbw2.cell (p := ⟨g, o + k * 7 + 6, none⟩) hgr).trans q6_0
      go_wp2_with fail
      refine (heldByteS_any _ xs[k].resp.body _ _ _ (by exact Cod.bel m5 hbw2) (by omega) (by omega)).mono ?_
      rintro e w3 ⟨rfl, hb3⟩
      have hbw3 : Below wr.heap.size wr w3 := bel_then hbw2 hb3
      have q6_3 : w3.cell? ⟨g, o + k * 7 + 6, none⟩ = some (.bool ((kv + 1 + 1 + 1 + 1 + 1 + ((cUS.cn xs[k].resp.body : Nat) : Int)) % 3 == 0)) := (hbw3.cell (p := ⟨g, o + k * 7 + 6, none⟩) hgr).trans q6_0
      go_wp2_with fail
      have hB9 : Below w.heap.size w w3 := bel_then hB hbw3
      go_roundw
      case rel => exact ⟨k + 1, by omega, by go_num, ⟨_, rfl, by omega, by omega, by have hh := HE.out; omega⟩, hB9⟩
      case measure => simp [intOf]; omega
    · obtain rfl : k = n := by omega
      have HE := Lib.hid he
      clear he
      go_wp2_with fail
      go_ret
      exact ⟨ret_int (by have hh := HE.out; rw [List.take_of_length_le (by rw [HN.out]; exact Nat.le_refl _)] at hh; omega), hB⟩

end Go.Proofs.Ytlicnppfgfjkgaa
