/-
  Slices of uint8: held. No conditions but the budget of the laws.
-/
import Derived.Test.YtlicnppfgfjkgaaRows
import Derived.Test.YtlicnppfgfjkgaaZA
import Derived.LoopTactic
import Derived.Deep.RegionHeld3
namespace Go.Proofs.Ytlicnppfgfjkgaa
open Go.ChangeShapes Go.WideShapes Go.RowKit
set_option linter.unusedVariables false

set_option maxRecDepth 100000 in
set_option maxHeartbeats 2000000 in
theorem heldByteS_any (v : Value) (xs : List UInt8) (F : List Nat) (k0 : Int) (w : World) (h : cUS.rep w [v] (cUS.mrk k0 xs) F) (h0 : 0 ≤ k0) (h1 : k0 + ((cUS.cn xs : Nat) : Int) ≤ 900000000) :
    Calls Try.prog 169 #[v, .int .i64 k0] w (Gives w (.int .i64 (k0 + ((cUS.cn xs : Nat) : Int)))) := by
  change (cL cU _ _).rep w [v] (Cod.mks cU k0 xs) F at h
  change k0 + ((Cod.cns cU xs : Nat) : Int) ≤ 900000000 at h1
  change Calls _ _ _ _ (Gives w (.int .i64 (k0 + ((Cod.cns cU xs : Nat) : Int))))
  obtain ⟨A, cp, rfl⟩ := cL_form h
  obtain ⟨-, hcp, hm⟩ := cL_len h
  have hlen := Cod.mks_len cU k0 xs
  obtain ⟨n, hxn⟩ : ∃ n, xs.length = n := ⟨_, rfl⟩
  have HN := Lib.hid hxn
  have HL := Lib.hid (hlen.trans hxn)
  rw [hlen, hxn] at hcp ⊢
  clear hxn hlen
  have hcle := Cod.cns_take_le cU xs
  unfold maxLen at hm
  go_enter Try.func169, Try.ntmps169
  go_wp2
  go_loopw [1, 5] (fun a i wr => ∃ k : Nat, k ≤ n ∧ i = .int .i64 k ∧ (∃ kv : Int, a = .int .i64 kv ∧ 0 ≤ kv ∧ kv ≤ 900000000 ∧ kv = k0 + ((Cod.cns cU (xs.take k) : Nat) : Int)) ∧ Below w.heap.size w wr) (fun _ i _ => n - (intOf i).toNat)
  case atStart => exact ⟨0, Nat.zero_le _, rfl, ⟨_, rfl, h0, by omega, by simp [Cod.cns]⟩, Below.refl _ _⟩
  case round =>
    obtain ⟨k, hk, rfl, ⟨kv, rfl, hkv0, hkv1, he⟩, hB⟩ := hrel
    by_cases hlt : k < n
    · have hkx : k < xs.length := by rw [HN.out]; exact hlt
      have hkm : k < (Cod.mks cU k0 xs).length := by rw [HL.out]; exact hlt
      obtain ⟨g, o, vs, F1, rfl, hgF, hx, -, hc⟩ := cL_get (hw := by decide) (hw2 := by decide) (Cod.bel h hB) hkm
      rw [Cod.mks_get cU k0 xs k hkx hkm, ← he] at hx
      have hsucc := Cod.cns_succ cU xs k hkx
      have hle2 := hcle (k + 1)
      have hb9 : kv + ((Cod.cn cU xs[k] : Nat) : Int) ≤ 900000000 := by omega
      have HE := Lib.hid (And.intro he hsucc)
      clear he hsucc hle2 hcle
      obtain ⟨rfl, rfl⟩ := hx
      have q0 : wr.cell? ⟨g, o + k, none⟩ = some (.int .u8 (kv % 256)) := by
        have h2 := (hc 0 _ rfl).1
        rw [show cU.wd = 1 from rfl, Nat.mul_one, Nat.add_zero] at h2
        rw [h2, show cU.mrk kv xs[k] = UInt8.ofNat (kv % 256).toNat from rfl, mark_byte]
      clear hc
      have hcn : ((Cod.cn cU xs[k] : Nat) : Int) = 1 := rfl
      go_wp2_with fail
      go_roundw
      case rel => exact ⟨k + 1, by omega, by go_num, ⟨_, rfl, by omega, by omega, by have hh := HE.out; omega⟩, hB⟩
      case measure => simp [intOf]; omega
    · obtain rfl : k = n := by omega
      have HE := Lib.hid he
      clear he
      go_wp2_with fail
      go_ret
      exact ⟨ret_int (by have hh := HE.out; rw [List.take_of_length_le (by rw [HN.out]; exact Nat.le_refl _)] at hh; omega), hB⟩

end Go.Proofs.Ytlicnppfgfjkgaa
