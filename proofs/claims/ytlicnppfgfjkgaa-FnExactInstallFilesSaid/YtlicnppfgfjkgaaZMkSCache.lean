/-
  Slices of Cache: mark. No conditions but the budget of the laws.
-/
import Derived.Test.YtlicnppfgfjkgaaRows
import Derived.Test.YtlicnppfgfjkgaaZA
import Derived.LoopTactic
import Derived.Test.YtlicnppfgfjkgaaZMk0Cache
import Derived.Test.YtlicnppfgfjkgaaZMark
import Derived.Test.YtlicnppfgfjkgaaZMkSCached
namespace Go.Proofs.Ytlicnppfgfjkgaa
open Go.ChangeShapes Go.WideShapes Go.RowKit
set_option linter.unusedVariables false

def MarkedCacheS (w : World) (v : Value) (F : List Nat) (n : Int) (xs : List TCache) (e : Ending) (w' : World) : Prop := e = .returned (.int .i64 n) ∧ Only F w w' ∧ cCacheS.rep w' [v] xs F
set_option maxRecDepth 100000 in
set_option maxHeartbeats 2000000 in
theorem markCacheS_any (v : Value) (xs : List TCache) (F : List Nat) (k0 : Int) (w : World) (h : cCacheS.rep w [v] xs F) (hnd : F.Nodup) (h0 : 0 ≤ k0) (h1 : k0 + ((cCacheS.cn xs : Nat) : Int) ≤ 900000000) :
    Calls Try.prog 111 #[v, .int .i64 k0] w (MarkedCacheS w v F (k0 + ((cCacheS.cn xs : Nat) : Int)) (cCacheS.mrk k0 xs)) := by
  change k0 + ((Cod.cns cCache xs : Nat) : Int) ≤ 900000000 at h1
  change Calls _ _ _ _ (MarkedCacheS w v F (k0 + ((Cod.cns cCache xs : Nat) : Int)) (Cod.mks cCache k0 xs))
  obtain ⟨A, cp, rfl⟩ := cL_form h
  obtain ⟨-, hcp, hm⟩ := cL_len h
  have hml := Cod.mkTo_len cCache k0 xs
  obtain ⟨n, hxn⟩ : ∃ n, xs.length = n := ⟨_, rfl⟩
  have HN := Lib.hid hxn
  have HM := Lib.hid (fun i => (hml i).trans hxn)
  rw [hxn] at hcp h ⊢
  clear hxn hml
  have hcle := Cod.cns_take_le cCache xs
  have h' : (cL cCache (by decide) (by decide)).rep w [.slice A n cp] (Cod.mkTo cCache k0 xs 0) F := by rw [Cod.mkTo_zero]; exact h
  unfold maxLen at hm
  go_enter Try.func111, Try.ntmps111
  go_wp2
  go_loopw [1, 5] (fun a i wr => ∃ k : Nat, k ≤ n ∧ i = .int .i64 k ∧ (∃ kv : Int, a = .int .i64 kv ∧ 0 ≤ kv ∧ kv ≤ 900000000 ∧ kv = k0 + ((Cod.cns cCache (xs.take k) : Nat) : Int)) ∧ Only F w wr ∧ (cL cCache (by decide) (by decide)).rep wr [.slice A n cp] (Cod.mkTo cCache k0 xs k) F) (fun _ i _ => n - (intOf i).toNat)
  case atStart => exact ⟨0, Nat.zero_le _, rfl, ⟨_, rfl, h0, by omega, by simp [Cod.cns]⟩, Only.refl _ _, h'⟩
  case round =>
    obtain ⟨k, hk, rfl, ⟨kv, rfl, hkv0, hkv1, he⟩, hO, hR⟩ := hrel
    by_cases hlt : k < n
    · have hkx : k < xs.length := by rw [HN.out]; exact hlt
      have hkm : k < (Cod.mkTo cCache k0 xs k).length := by rw [HM.out]; exact hlt
      obtain ⟨g, o, vs, Fi, rfl, hgF, hgi, hFi, hndi, hx, R0, hfr, hup⟩ := cL_upd (hw := by decide) (hw2 := by decide) hR hnd hkm
      rw [Cod.mkTo_get cCache k0 xs k hkx hkm] at hx
      have hsucc := Cod.cns_succ cCache xs k hkx
      have hle2 := hcle (k + 1)
      have hset := Cod.mkTo_set cCache k0 xs k hkx
      rw [← he] at hset
      have hcn := TCache.cn_eq xs[k]
      have hb9 : kv + ((Cod.cn cCache xs[k] : Nat) : Int) ≤ 900000000 := by omega
      have HE := Lib.hid (And.intro he (And.intro hsucc hset))
      clear he hsucc hle2 hcle hset
      obtain ⟨u1_, Q1, rfl, rfl, hok, m1⟩ := TCache.out hx
      obtain ⟨A1, c1, hv1⟩ := cL_form m1
      subst hv1
      change RS wr wr g (o + k * 2) _ _ at R0
      have hgr : g < wr.heap.size := R0.glt
      have q0_wr : wr.cell? ⟨g, o + k * 2, none⟩ = some _ := R0.cell 0 _ rfl
      have f0_wr : wr.frozen? ⟨g, o + k * 2, none⟩ = false := (R0.frz _).trans (hfr 0 (by decide))
      have q1_wr : wr.cell? ⟨g, o + k * 2 + 1, none⟩ = some _ := R0.cell 1 _ rfl
      have f1_wr : wr.frozen? ⟨g, o + k * 2 + 1, none⟩ = false := (R0.frz _).trans (hfr 1 (by decide))
      go_wp2_with fail
      have R1 := R0.set0 (by simp) (.int .i64 (kv))
      have m1_1 := Cod.set_ m1 hgi (o + k * 2) (.int .i64 (kv))
      refine (markCachedS_any _ xs[k].entries _ _ _ (by exact m1_1) hndi (by omega) (by omega)).mono ?_
      rintro e w1 ⟨rfl, ho1, hr1⟩
      have R2 := R1.sub ho1 (fun x hx => hx) hgi
      go_wp2_with fail
      have hrow := hup _ _ (cCache.mrk kv xs[k]) (by exact R2) (by exact TCache.mk_ (x := cCache.mrk kv xs[k]) ⟨by show -9223372036854775808 ≤ kv ∧ kv ≤ 9223372036854775807; omega⟩ hr1)
      rw [HE.out.2.2] at hrow
      have hO9 := hO.trans (R2.only.mono (G := F) (fun x hx => (List.mem_cons.1 hx).elim (fun e1 => e1 ▸ hgF) (hFi x)))
      go_roundw
      case rel => exact ⟨k + 1, by omega, by go_num, ⟨_, rfl, by omega, by omega, by have hh := HE.out; omega⟩, hO9, hrow⟩
      case measure => simp [intOf]; omega
    · obtain rfl : k = n := by omega
      have HE := Lib.hid he
      clear he
      go_wp2_with fail
      go_ret
      exact ⟨ret_int (by have hh := HE.out; rw [List.take_of_length_le (by rw [HN.out]; exact Nat.le_refl _)] at hh; omega), hO, by have hh := hR; rw [← HN.out, Cod.mkTo_end] at hh; rw [← HN.out]; exact hh⟩

end Go.Proofs.Ytlicnppfgfjkgaa
