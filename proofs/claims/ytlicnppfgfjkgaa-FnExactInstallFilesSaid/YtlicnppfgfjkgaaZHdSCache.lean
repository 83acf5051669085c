/-
  Slices of Cache: held. No conditions but the budget of the laws.
-/
import Derived.Test.YtlicnppfgfjkgaaRows
import Derived.Test.YtlicnppfgfjkgaaZA
import Derived.LoopTactic
import Derived.Deep.RegionHeld3
import Derived.Test.YtlicnppfgfjkgaaZMk0Cache
import Derived.Test.YtlicnppfgfjkgaaZMark
import Derived.Test.YtlicnppfgfjkgaaZHdSCached
namespace Go.Proofs.Ytlicnppfgfjkgaa
open Go.ChangeShapes Go.WideShapes Go.RowKit
set_option linter.unusedVariables false

set_option maxRecDepth 100000 in
set_option maxHeartbeats 2000000 in
theorem heldCacheS_any (v : Value) (xs : List TCache) (F : List Nat) (k0 : Int) (w : World) (h : cCacheS.rep w [v] (cCacheS.mrk k0 xs) F) (h0 : 0 ≤ k0) (h1 : k0 + ((cCacheS.cn xs : Nat) : Int) ≤ 900000000) :
    Calls Try.prog 112 #[v, .int .i64 k0] w (Gives w (.int .i64 (k0 + ((cCacheS.cn xs : Nat) : Int)))) := by
  change (cL cCache _ _).rep w [v] (Cod.mks cCache k0 xs) F at h
  change k0 + ((Cod.cns cCache xs : Nat) : Int) ≤ 900000000 at h1
  change Calls _ _ _ _ (Gives w (.int .i64 (k0 + ((Cod.cns cCache xs : Nat) : Int))))
  obtain ⟨A, cp, rfl⟩ := cL_form h
  obtain ⟨-, hcp, hm⟩ := cL_len h
  have hlen := Cod.mks_len cCache k0 xs
  obtain ⟨n, hxn⟩ : ∃ n, xs.length = n := ⟨_, rfl⟩
  have HN := Lib.hid hxn
  have HL := Lib.hid (hlen.trans hxn)
  rw [hlen, hxn] at hcp ⊢
  clear hxn hlen
  have hcle := Cod.cns_take_le cCache xs
  unfold maxLen at hm
  go_enter Try.func112, Try.ntmps112
  go_wp2
  go_loopw [1, 5] (fun a i wr => ∃ k : Nat, k ≤ n ∧ i = .int .i64 k ∧ (∃ kv : Int, a = .int .i64 kv ∧ 0 ≤ kv ∧ kv ≤ 900000000 ∧ kv = k0 + ((Cod.cns cCache (xs.take k) : Nat) : Int)) ∧ Below w.heap.size w wr) (fun _ i _ => n - (intOf i).toNat)
  case atStart => exact ⟨0, Nat.zero_le _, rfl, ⟨_, rfl, h0, by omega, by simp [Cod.cns]⟩, Below.refl _ _⟩
  case round =>
    obtain ⟨k, hk, rfl, ⟨kv, rfl, hkv0, hkv1, he⟩, hB⟩ := hrel
    by_cases hlt : k < n
    · have hkx : k < xs.length := by rw [HN.out]; exact hlt
      have hkm : k < (Cod.mks cCache k0 xs).length := by rw [HL.out]; exact hlt
      obtain ⟨g, o, vs, F1, rfl, hgF, hx, -, hc⟩ := cL_get (hw := by decide) (hw2 := by decide) (Cod.bel h hB) hkm
      rw [Cod.mks_get cCache k0 xs k hkx hkm, ← he] at hx
      have hsucc := Cod.cns_succ cCache xs k hkx
      have hle2 := hcle (k + 1)
      have hcn := TCache.cn_eq xs[k]
      have hb9 : kv + ((Cod.cn cCache xs[k] : Nat) : Int) ≤ 900000000 := by omega
      have HE := Lib.hid (And.intro he hsucc)
      clear he hsucc hle2 hcle
      obtain ⟨u1_, Q1, rfl, rfl, -, m1⟩ := TCache.out hx
      change cCachedS.rep wr [_] (cCachedS.mrk (kv + 1) xs[k].entries) _ at m1
      obtain ⟨A1, c1, hv1⟩ := cL_form m1
      subst hv1
      have q0_0 : wr.cell? ⟨g, o + k * 2, none⟩ = some (.int .i64 (kv)) := (hc 0 _ rfl).1
      have q1_0 : wr.cell? ⟨g, o + k * 2 + 1, none⟩ = some (_) := (hc 1 _ rfl).1
      clear hc
      have hgr : g < wr.heap.size := Nat.lt_of_lt_of_le (Cod.lt _ h g hgF) hB.size
      have hwb : Below wr.heap.size wr wr := Below.refl _ _
      go_wp2_with fail
      refine (heldCachedS_any _ xs[k].entries _ _ _ (by exact Cod.bel m1 hwb) (by omega) (by omega)).mono ?_
      rintro e w1 ⟨rfl, hb1⟩
      have hbw1 : Below wr.heap.size wr w1 := bel_then hwb hb1
      go_wp2_with fail
      have hB9 : Below w.heap.size w w1 := bel_then hB hbw1
      go_roundw
      case rel => exact ⟨k + 1, by omega, by go_num, ⟨_, rfl, by omega, by omega, by have hh := HE.out; omega⟩, hB9⟩
      case measure => simp [intOf]; omega
    · obtain rfl : k = n := by omega
      have HE := Lib.hid he
      clear he
      go_wp2_with fail
      go_ret
      exact ⟨ret_int (by have hh := HE.out; rw [List.take_of_length_le (by rw [HN.out]; exact Nat.le_refl _)] at hh; omega), hB⟩

end Go.Proofs.Ytlicnppfgfjkgaa
