/-
  Slices of Cached: mark. No conditions but the budget of the laws.
-/
import Derived.Test.YtlicnppfgfjkgaaRows
import Derived.Test.YtlicnppfgfjkgaaZA
import Derived.LoopTactic
import Derived.Test.YtlicnppfgfjkgaaZMk0Cached
import Derived.Test.YtlicnppfgfjkgaaZMark
import Derived.Test.YtlicnppfgfjkgaaZMkSU
namespace Go.Proofs.Ytlicnppfgfjkgaa
open Go.ChangeShapes Go.WideShapes Go.RowKit
set_option linter.unusedVariables false

def MarkedCachedS (w : World) (v : Value) (F : List Nat) (n : Int) (xs : List TCached) (e : Ending) (w' : World) : Prop := e = .returned (.int .i64 n) ∧ Only F w w' ∧ cCachedS.rep w' [v] xs F
set_option maxRecDepth 100000 in
set_option maxHeartbeats 2000000 in
theorem markCachedS_any (v : Value) (xs : List TCached) (F : List Nat) (k0 : Int) (w : World) (h : cCachedS.rep w [v] xs F) (hnd : F.Nodup) (h0 : 0 ≤ k0) (h1 : k0 + ((cCachedS.cn xs : Nat) : Int) ≤ 900000000) :
    Calls Try.prog 150 #[v, .int .i64 k0] w (MarkedCachedS w v F (k0 + ((cCachedS.cn xs : Nat) : Int)) (cCachedS.mrk k0 xs)) := by
  change k0 + ((Cod.cns cCached xs : Nat) : Int) ≤ 900000000 at h1
  change Calls _ _ _ _ (MarkedCachedS w v F (k0 + ((Cod.cns cCached xs : Nat) : Int)) (Cod.mks cCached k0 xs))
  obtain ⟨A, cp, rfl⟩ := cL_form h
  obtain ⟨-, hcp, hm⟩ := cL_len h
  have hml := Cod.mkTo_len cCached k0 xs
  obtain ⟨n, hxn⟩ : ∃ n, xs.length = n := ⟨_, rfl⟩
  have HN := Lib.hid hxn
  have HM := Lib.hid (fun i => (hml i).trans hxn)
  rw [hxn] at hcp h ⊢
  clear hxn hml
  have hcle := Cod.cns_take_le cCached xs
  have h' : (cL cCached (by decide) (by decide)).rep w [.slice A n cp] (Cod.mkTo cCached k0 xs 0) F := by rw [Cod.mkTo_zero]; exact h
  unfold maxLen at hm
  go_enter Try.func150, Try.ntmps150
  go_wp2
  go_loopw [1, 5] (fun a i wr => ∃ k : Nat, k ≤ n ∧ i = .int .i64 k ∧ (∃ kv : Int, a = .int .i64 kv ∧ 0 ≤ kv ∧ kv ≤ 900000000 ∧ kv = k0 + ((Cod.cns cCached (xs.take k) : Nat) : Int)) ∧ Only F w wr ∧ (cL cCached (by decide) (by decide)).rep wr [.slice A n cp] (Cod.mkTo cCached k0 xs k) F) (fun _ i _ => n - (intOf i).toNat)
  case atStart => exact ⟨0, Nat.zero_le _, rfl, ⟨_, rfl, h0, by omega, by simp [Cod.cns]⟩, Only.refl _ _, h'⟩
  case round =>
    obtain ⟨k, hk, rfl, ⟨kv, rfl, hkv0, hkv1, he⟩, hO, hR⟩ := hrel
    by_cases hlt : k < n
    · have hkx : k < xs.length := by rw [HN.out]; exact hlt
      have hkm : k < (Cod.mkTo cCached k0 xs k).length := by rw [HM.out]; exact hlt
      obtain ⟨g, o, vs, Fi, rfl, hgF, hgi, hFi, hndi, hx, R0, hfr, hup⟩ := cL_upd (hw := by decide) (hw2 := by decide) hR hnd hkm
      rw [Cod.mkTo_get cCached k0 xs k hkx hkm] at hx
      have hsucc := Cod.cns_succ cCached xs k hkx
      have hle2 := hcle (k + 1)
      have hset := Cod.mkTo_set cCached k0 xs k hkx
      rw [← he] at hset
      have hcn := TCached.cn_eq xs[k]
      have hb9 : kv + ((Cod.cn cCached xs[k] : Nat) : Int) ≤ 900000000 := by omega
      have HE := Lib.hid (And.intro he (And.intro hsucc hset))
      clear he hsucc hle2 hcle hset
      obtain ⟨u5_, Q5, rfl, rfl, hok, m5⟩ := TCached.out hx
      obtain ⟨A5, c5, hv5⟩ := cL_form m5
      subst hv5
      change RS wr wr g (o + k * 7) _ _ at R0
      have hgr : g < wr.heap.size := R0.glt
      have q0_wr : wr.cell? ⟨g, o + k * 7, none⟩ = some _ := R0.cell 0 _ rfl
      have f0_wr : wr.frozen? ⟨g, o + k * 7, none⟩ = false := (R0.frz _).trans (hfr 0 (by decide))
      have q1_wr : wr.cell? ⟨g, o + k * 7 + 1, none⟩ = some _ := R0.cell 1 _ rfl
      have f1_wr : wr.frozen? ⟨g, o + k * 7 + 1, none⟩ = false := (R0.frz _).trans (hfr 1 (by decide))
      have q2_wr : wr.cell? ⟨g, o + k * 7 + 2, none⟩ = some _ := R0.cell 2 _ rfl
      have f2_wr : wr.frozen? ⟨g, o + k * 7 + 2, none⟩ = false := (R0.frz _).trans (hfr 2 (by decide))
      have q3_wr : wr.cell? ⟨g, o + k * 7 + 3, none⟩ = some _ := R0.cell 3 _ rfl
      have f3_wr : wr.frozen? ⟨g, o + k * 7 + 3, none⟩ = false := (R0.frz _).trans (hfr 3 (by decide))
      have q4_wr : wr.cell? ⟨g, o + k * 7 + 4, none⟩ = some _ := R0.cell 4 _ rfl
      have f4_wr : wr.frozen? ⟨g, o + k * 7 + 4, none⟩ = false := (R0.frz _).trans (hfr 4 (by decide))
      have q5_wr : wr.cell? ⟨g, o + k * 7 + 5, none⟩ = some _ := R0.cell 5 _ rfl
      have f5_wr : wr.frozen? ⟨g, o + k * 7 + 5, none⟩ = false := (R0.frz _).trans (hfr 5 (by decide))
      have q6_wr : wr.cell? ⟨g, o + k * 7 + 6, none⟩ = some _ := R0.cell 6 _ rfl
      have f6_wr : wr.frozen? ⟨g, o + k * 7 + 6, none⟩ = false := (R0.frz _).trans (hfr 6 (by decide))
      go_wp2_with fail
      refine (markText_any _ _ (by omega)).mono ?_
      rintro e w1 ⟨rfl, hb1⟩
      have R1 := R0.bel hb1
      have m5_1 := Cod.bel m5 hb1
      have q0_w1 : w1.cell? ⟨g, o + k * 7, none⟩ = some _ := R1.cell 0 _ rfl
      have f0_w1 : w1.frozen? ⟨g, o + k * 7, none⟩ = false := (R1.frz _).trans (hfr 0 (by decide))
      have q1_w1 : w1.cell? ⟨g, o + k * 7 + 1, none⟩ = some _ := R1.cell 1 _ rfl
      have f1_w1 : w1.frozen? ⟨g, o + k * 7 + 1, none⟩ = false := (R1.frz _).trans (hfr 1 (by decide))
      have q2_w1 : w1.cell? ⟨g, o + k * 7 + 2, none⟩ = some _ := R1.cell 2 _ rfl
      have f2_w1 : w1.frozen? ⟨g, o + k * 7 + 2, none⟩ = false := (R1.frz _).trans (hfr 2 (by decide))
      have q3_w1 : w1.cell? ⟨g, o + k * 7 + 3, none⟩ = some _ := R1.cell 3 _ rfl
      have f3_w1 : w1.frozen? ⟨g, o + k * 7 + 3, none⟩ = false := (R1.frz _).trans (hfr 3 (by decide))
      have q4_w1 : w1.cell? ⟨g, o + k * 7 + 4, none⟩ = some _ := R1.cell 4 _ rfl
      have f4_w1 : w1.frozen? ⟨g, o + k * 7 + 4, none⟩ = false := (R1.frz _).trans (hfr 4 (by decide))
      have q5_w1 : w1.cell? ⟨g, o + k * 7 + 5, none⟩ = some _ := R1.cell 5 _ rfl
      have f5_w1 : w1.frozen? ⟨g, o + k * 7 + 5, none⟩ = false := (R1.frz _).trans (hfr 5 (by decide))
      have q6_w1 : w1.cell? ⟨g, o + k * 7 + 6, none⟩ = some _ := R1.cell 6 _ rfl
      have f6_w1 : w1.frozen? ⟨g, o + k * 7 + 6, none⟩ = false := (R1.frz _).trans (hfr 6 (by decide))
      go_wp2_with fail
      have R2 := R1.set0 (by simp) (.string (markText (kv)))
      have m5_2 := Cod.set_ m5_1 hgi (o + k * 7) (.string (markText (kv)))
      refine (markText_any _ _ (by omega)).mono ?_
      rintro e w2 ⟨rfl, hb2⟩
      have R3 := R2.bel hb2
      have m5_3 := Cod.bel m5_2 hb2
      have q1_w2 : w2.cell? ⟨g, o + k * 7 + 1, none⟩ = some _ := R3.cell 1 _ rfl
      have f1_w2 : w2.frozen? ⟨g, o + k * 7 + 1, none⟩ = false := (R3.frz _).trans (hfr 1 (by decide))
      have q2_w2 : w2.cell? ⟨g, o + k * 7 + 2, none⟩ = some _ := R3.cell 2 _ rfl
      have f2_w2 : w2.frozen? ⟨g, o + k * 7 + 2, none⟩ = false := (R3.frz _).trans (hfr 2 (by decide))
      have q3_w2 : w2.cell? ⟨g, o + k * 7 + 3, none⟩ = some _ := R3.cell 3 _ rfl
      have f3_w2 : w2.frozen? ⟨g, o + k * 7 + 3, none⟩ = false := (R3.frz _).trans (hfr 3 (by decide))
      have q4_w2 : w2.cell? ⟨g, o + k * 7 + 4, none⟩ = some _ := R3.cell 4 _ rfl
      have f4_w2 : w2.frozen? ⟨g, o + k * 7 + 4, none⟩ = false := (R3.frz _).trans (hfr 4 (by decide))
      have q5_w2 : w2.cell? ⟨g, o + k * 7 + 5, none⟩ = some _ := R3.cell 5 _ rfl
      have f5_w2 : w2.frozen? ⟨g, o + k * 7 + 5, none⟩ = false := (R3.frz _).trans (hfr 5 (by decide))
      have q6_w2 : w2.cell? ⟨g, o + k * 7 + 6, none⟩ = some _ := R3.cell 6 _ rfl
      have f6_w2 : w2.frozen? ⟨g, o + k * 7 + 6, none⟩ = false := (R3.frz _).trans (hfr 6 (by decide))
      go_wp2_with fail
      have R4 := R3.set (j := 1) (by simp) (.string (markText (kv + 1)))
      have m5_4 := Cod.set_ m5_3 hgi (o + k * 7 + 1) (.string (markText (kv + 1)))
      have R5 := R4.set (j := 2) (by simp) (.int .i64 (kv + 1 + 1))
      have m5_5 := Cod.set_ m5_4 hgi (o + k * 7 + 2) (.int .i64 (kv + 1 + 1))
      have R6 := R5.set (j := 3) (by simp) (.int .i64 (kv + 1 + 1 + 1))
      have m5_6 := Cod.set_ m5_5 hgi (o + k * 7 + 3) (.int .i64 (kv + 1 + 1 + 1))
      have R7 := R6.set (j := 4) (by simp) (.int .i64 (kv + 1 + 1 + 1 + 1))
      have m5_7 := Cod.set_ m5_6 hgi (o + k * 7 + 4) (.int .i64 (kv + 1 + 1 + 1 + 1))
      refine (markByteS_any _ xs[k].resp.body _ _ _ (by exact m5_7) hndi (by omega) (by omega)).mono ?_
      rintro e w3 ⟨rfl, ho3, hr3⟩
      have R8 := R7.sub ho3 (fun x hx => hx) hgi
      have q6_w3 : w3.cell? ⟨g, o + k * 7 + 6, none⟩ = some _ := R8.cell 6 _ rfl
      have f6_w3 : w3.frozen? ⟨g, o + k * 7 + 6, none⟩ = false := (R8.frz _).trans (hfr 6 (by decide))
      go_wp2_with fail
      have R9 := R8.set (j := 6) (by simp) (.bool ((kv + 1 + 1 + 1 + 1 + 1 + ((cUS.cn xs[k].resp.body : Nat) : Int)) % 3 == 0))
      have m5_9 := Cod.set_ hr3 hgi (o + k * 7 + 6) (.bool ((kv + 1 + 1 + 1 + 1 + 1 + ((cUS.cn xs[k].resp.body : Nat) : Int)) % 3 == 0))
      have hrow := hup _ _ (cCached.mrk kv xs[k]) (by exact R9) (by exact TCached.mk_ (x := cCached.mrk kv xs[k]) ⟨show (markText (kv)).size ≤ maxLen from markText_size (by omega), show (markText (kv + 1)).size ≤ maxLen from markText_size (by omega), by show -9223372036854775808 ≤ kv + 1 + 1 ∧ kv + 1 + 1 ≤ 9223372036854775807; omega, by show -9223372036854775808 ≤ kv + 1 + 1 + 1 ∧ kv + 1 + 1 + 1 ≤ 9223372036854775807; omega, by show -9223372036854775808 ≤ kv + 1 + 1 + 1 + 1 ∧ kv + 1 + 1 + 1 + 1 ≤ 9223372036854775807; omega⟩ m5_9)
      rw [HE.out.2.2] at hrow
      have hO9 := hO.trans (R9.only.mono (G := F) (fun x hx => (List.mem_cons.1 hx).elim (fun e1 => e1 ▸ hgF) (hFi x)))
      go_roundw
      case rel => exact ⟨k + 1, by omega, by go_num, ⟨_, rfl, by omega, by omega, by have hh := HE.out; omega⟩, hO9, hrow⟩
      case measure => simp [intOf]; omega
    · obtain rfl : k = n := by omega
      have HE := Lib.hid he
      clear he
      go_wp2_with fail
      go_ret
      exact ⟨ret_int (by have hh := HE.out; rw [List.take_of_length_le (by rw [HN.out]; exact Nat.le_refl _)] at hh; omega), hO, by have hh := hR; rw [← HN.out, Cod.mkTo_end] at hh; rw [← HN.out]; exact hh⟩

end Go.Proofs.Ytlicnppfgfjkgaa
