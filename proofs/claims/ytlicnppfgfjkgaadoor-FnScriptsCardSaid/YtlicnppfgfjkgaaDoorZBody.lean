/-
  BodyOf of the program and of the reference. No conditions.
-/
import Derived.Test.YtlicnppfgfjkgaaDoorZA
import Derived.Test.YtlicnppfgfjkgaaDoorZCopyResp
import Derived.Laws.BitsLemmas
namespace Go.Proofs.YtlicnppfgfjkgaaDoor
open Go.ChangeShapes Go.WideShapes Go.RowKit
set_option linter.unusedVariables false

def bodyHash (s : TSite) (pa : ByteArray) (v : Int) : Int := keyedHash (IntKind.i64.wrap (1 + v)) [103, derive 107 s.name, derive 109 pa]
def bodyByte (h : Int) (j : Nat) : UInt8 := UInt8.ofNat ((h / 2 ^ (8 * (5 - j))) % 256).toNat
def bodyTo (h : Int) (k : Nat) : List UInt8 := if k = 0 then [] else bodyTo h (k - 1) ++ [bodyByte h (k - 1)]
termination_by k
decreasing_by omega
def bodyOf (s : TSite) (pa : ByteArray) (v : Int) : List UInt8 := bodyTo (bodyHash s pa v) 6
theorem bodyTo_zero (h : Int) : bodyTo h 0 = [] := by unfold bodyTo; rfl
theorem bodyTo_succ (h : Int) (k : Nat) : bodyTo h k ++ [bodyByte h k] = bodyTo h (k + 1) := by
  conv => rhs; unfold bodyTo
  rw [if_neg (by omega), Nat.add_sub_cancel]
theorem bodyTo_len (h : Int) : ∀ k : Nat, (bodyTo h k).length = k
  | 0 => by rw [bodyTo_zero]; rfl
  | k + 1 => by rw [← bodyTo_succ, List.length_append, bodyTo_len h k]; rfl
theorem derive_range (k : Int) (s : ByteArray) : 1 ≤ derive k s ∧ derive k s < 2147483647 := by
  have h := hashL_range (([k] ++ bytesInts s.data.toList) ++ [k])
  unfold derive
  split
  · omega
  · exact ⟨by have h2 : 0 ≤ keyedHash k (bytesInts s.data.toList) := h.1; omega, h.2⟩
theorem keyed_range (k : Int) (l : List Int) : 0 ≤ keyedHash k l ∧ keyedHash k l < 2147483647 := hashL_range _
theorem and255 (n : Int) : bits .and .i64 n 255 = n % 256 := by
  have h255 : (BitVec.ofInt 64 255).toNat = 2 ^ 8 - 1 := by decide
  have key : (BitVec.ofInt 64 n &&& BitVec.ofInt 64 255).toNat = (n % ((2 ^ 64 : Nat) : Int)).toNat % 2 ^ 8 := by
    rw [BitVec.toNat_and, BitVec.toNat_ofInt, h255, Nat.and_two_pow_sub_one_eq_mod]
  show IntKind.i64.wrap ((BitVec.ofInt 64 n &&& BitVec.ofInt 64 255).toNat : Nat) = n % 256
  rw [key, IntKind.wrap_i64]
  omega
theorem bodyByte_nat (q : Int) (j : Nat) : ((bodyByte q j).toNat : Int) = (q / 2 ^ (8 * (5 - j))) % 256 := by
  unfold bodyByte
  generalize q / 2 ^ (8 * (5 - j)) = z
  rw [UInt8.toNat_ofNat']; omega
theorem src_u8 {w : World} {b : UInt8} {B : Int} (h : (b.toNat : Int) = B) : AppSrc cU (w.alloc (.cells #[.int .u8 B] 5)) (.slice (some ⟨w.heap.size, 0, none⟩) 1 1) [b] [] := by
  subst h
  exact ⟨_, 1, [.int .u8 (b.toNat : Int)], rfl, Cod.reps_one ⟨rfl, rfl⟩, fun _ => ⟨_, rfl, fun j u hu => by cases j with | zero => (simp at hu; subst hu; rw [Addr.add_lit]; exact (Blk.new w 5 #[.int .u8 (b.toNat : Int)]).cell 0) | succ j => simp at hu⟩⟩
theorem src_three {w : World} {a b c : Int} (ha : -9223372036854775808 ≤ a ∧ a ≤ 9223372036854775807) (hb : -9223372036854775808 ≤ b ∧ b ≤ 9223372036854775807) (hc : -9223372036854775808 ≤ c ∧ c ≤ 9223372036854775807) :
    cIS.rep (w.alloc (.cells #[.int .i64 a, .int .i64 b, .int .i64 c] 3)) [.slice (some ⟨w.heap.size, 0, none⟩) 3 3] [a, b, c] [w.heap.size] :=
  ⟨_, 3, rfl, Nat.le_refl _, by decide, .inr ⟨by simp, w.heap.size, 0, [], [.int .i64 a, .int .i64 b, .int .i64 c], rfl, rfl, fun j u hu => ⟨by rw [Nat.zero_add, (Blk.new w 3 _).cell]; simpa using hu, (Blk.new w 3 _).frozen _⟩,
    ⟨[_], _, [], [], rfl, rfl, ⟨rfl, rfl, ha⟩, ⟨[_], _, [], [], rfl, rfl, ⟨rfl, rfl, hb⟩, ⟨[_], _, [], [], rfl, rfl, ⟨rfl, rfl, hc⟩, rfl, rfl⟩⟩⟩⟩⟩

theorem bodyOf_sz (x : TSite) (pa : ByteArray) (v : Int) : cUS.sz (bodyOf x pa v) ≤ 12 := by
  have h1 : cUS.sz (bodyOf x pa v) = cU.szs (bodyOf x pa v) := rfl
  rw [h1, Cod.szs_flat (fun _ => rfl)]
  unfold bodyOf
  rw [bodyTo_len]; omega
theorem bodyOf_len (x : TSite) (pa : ByteArray) (v : Int) : (bodyOf x pa v).length = 6 := bodyTo_len _ _
end Go.Proofs.YtlicnppfgfjkgaaDoor
