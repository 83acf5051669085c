/-
  FormatInt of the program and of the reference, at numbers that are not negative. The one condition: the library's table of powers of ten holds what its text lays.
-/
import Derived.Test.YtlicnppfgfjkgaaDoorFmtPlain2
import Derived.Test.YtlicnppfgfjkgaaDoorShelfA
import Derived.Test.YtlicnppfgfjkgaaDoorRows
import Derived.Lib.SmallJoins
import Derived.Lib.AppendIntMem
import Derived.LoopTactic
namespace Go.Proofs.YtlicnppfgfjkgaaDoor
open Go.ChangeShapes Go.WideShapes Go.RowKit
set_option linter.unusedVariables false

/-- the library's table of powers of ten, as its text lays it -/
def Tab (w : World) : Prop := Lib.TabIs Tryd.prog w "internal/strconv.uint64pow10" .u64 Lib.pow10Tab
theorem tabNamed : ∃ g, Tryd.prog.globalNamed "internal/strconv.uint64pow10" = some g := Option.isSome_iff_exists.1 (by kernel_rfl)
theorem Tab.bel {w w' : World} (h : Tab w) (hb : Below w.heap.size w w') : Tab w' := by
  obtain ⟨g, hg⟩ := tabNamed
  exact Joins.tab_stays hg h hb (Nat.le_refl _)

theorem tab_of {r : List (String × DataW Unit)} {w : World} (h : laidMet Tryd.prog (("internal/strconv.uint64pow10", Rows.laid_internal_strconv_uint64pow10) :: r) w) : Tab w :=
  by
    obtain ⟨g, hg, ht⟩ := Option.bind_eq_some_iff.1 (show ((Tryd.prog.globalNamed "internal/strconv.uint64pow10").bind fun g => (Tryd.prog.globals[g]?).map (·.type)) = some 103 by kernel_rfl)
    exact Lib.tabIs_of_head (zs := Lib.pow10Tab) (k := .u64) hg ht Tryd.underlying103 Tryd.underlying90 (by kernel_rfl) (by kernel_rfl) h

theorem implFormatInt_any (n : Int) (h0 : 0 ≤ n) (h1 : n ≤ 9223372036854775807) (w : World) (ht : Tab w) :
    Calls Tryd.prog 29 #[.int .i64 n] w (Gives w (.string (baOf (Lib.decDigits n.toNat)))) := by
  go_enter Tryd.func29, Tryd.ntmps29
  go_wp2_with (go_at_call 48; refine (Tryd.strconv_Itoa n (by omega) h1 _ ht).mono ?_; rintro e w1 ⟨rfl, k, os, rfl⟩)
  go_ret
  refine ⟨?_, Lib.below_grow _ _ (Nat.le_refl _) _ _⟩
  rw [itoa_nat h0]; rfl

/-- what stands, and what is still to come -/
def DigInv (n : Nat) (x : Nat) (s : ByteArray) : Prop := (x ≠ 0 ∧ Lib.decDigits x ++ s.data.toList = Lib.decDigits n) ∨ (x = 0 ∧ s.data.toList = Lib.decDigits n)
theorem DigInv.start {n : Nat} (h : n ≠ 0) : DigInv n n ⟨#[]⟩ := .inl ⟨h, by simp⟩
theorem DigInv.step {n x : Nat} {s : ByteArray} (h : DigInv n x s) (hx : x ≠ 0) : DigInv n (x / 10) (baOf [UInt8.ofNat (48 + x % 10)] ++ s) := by
  rcases h with ⟨-, h⟩ | ⟨h0, -⟩
  · have e : (baOf [UInt8.ofNat (48 + x % 10)] ++ s).data.toList = UInt8.ofNat (48 + x % 10) :: s.data.toList := by
      rw [ByteArray.data_append]; simp [baOf]
    by_cases h10 : x < 10
    · right
      refine ⟨by omega, ?_⟩
      rw [e, ← h, Lib.decDigits_one h10, Nat.mod_eq_of_lt h10]; rfl
    · left
      refine ⟨by omega, ?_⟩
      rw [e, ← h]
      conv => rhs; rw [Lib.decDigits, dif_neg h10]
      simp
  · exact absurd h0 hx
theorem DigInv.size {n x : Nat} {s : ByteArray} (h : DigInv n x s) (hn : n ≤ 1000000000000000) : s.size ≤ 16 := by
  have h1 := nDigits_le 15 n (by omega)
  rw [← Lib.decDigits_length] at h1
  rw [Lib.size_eq s]
  rcases h with ⟨-, h⟩ | ⟨-, h⟩
  · rw [← h, List.length_append] at h1; omega
  · rw [← h] at h1; exact h1
set_option maxRecDepth 100000 in
set_option maxHeartbeats 2000000 in
theorem specFormatInt_any (n : Int) (h0 : 0 ≤ n) (h1 : n ≤ 1000000000000000) (w : World) :
    Calls Tryd.prog 43 #[.int .i64 n] w (Gives w (.string (baOf (Lib.decDigits n.toNat)))) := by
  obtain ⟨m, rfl⟩ : ∃ m : Nat, n = m := ⟨n.toNat, by omega⟩
  rw [Int.toNat_natCast]
  by_cases hz : m = 0
  · subst hz
    go_enter Tryd.func43, Tryd.ntmps43
    go_wp2
    go_ret
    exact ⟨by rw [Lib.decDigits_one (by decide)]; rfl, (by repeat (first | with_reducible exact Below.refl _ _ | with_reducible assumption | with_reducible refine bel_alloc ?_ _ | with_reducible refine bel_drew ?_ | with_reducible refine bel_drewN ?_ _ | (with_reducible refine bel_set ?_ ?_ _; rotate_left; ((try simp); (try omega)))))⟩
  · have hz' : ¬ (m : Int) = 0 := by omega
    go_enter Tryd.func43, Tryd.ntmps43
    go_wp2
    go_loopw [3, 4] (fun s x wr => ∃ (k : Nat) (sb : ByteArray), x = .int .i64 k ∧ s = .string sb ∧ k ≤ m ∧ DigInv m k sb ∧ Below w.heap.size w wr) (fun _ x _ => (intOf x).toNat)
    case atStart => exact ⟨m, ⟨#[]⟩, rfl, rfl, Nat.le_refl _, DigInv.start hz, Below.refl _ _⟩
    case round =>
      obtain ⟨k, sb, rfl, rfl, hkm, hD, hB⟩ := hrel
      have HD := Lib.hid hD
      clear hD
      by_cases hk : k = 0
      · have hk' : (k : Int) = 0 := by omega
        go_wp2
        go_ret
        rcases HD.out with ⟨h, -⟩ | ⟨-, h⟩
        · exact absurd hk h
        · exact ⟨by rw [← h, baOf_of]; rfl, hB⟩
      · have hk' : ¬ (k : Int) = 0 := by omega
        have hq : (k : Int) % 10 = ((k % 10 : Nat) : Int) := by omega
        have hdv : (k : Int) / 10 = ((k / 10 : Nat) : Int) := by omega
        have hconv := run_convert_bytes_back (P := Tryd.prog) (wr.alloc (.cells #[.int .u8 (48 + ((k % 10 : Nat) : Int))] 5)) 22 9 5 ⟨wr.heap.size, 0, none⟩ 1 [UInt8.ofNat (48 + k % 10)] Tryd.underlying22 Tryd.underlying5 Tryd.underlying9 (fun j hj => by
          obtain rfl : j = 0 := by simpa using hj
          show World.cell? _ (Addr.add ⟨wr.heap.size, 0, none⟩ 0) = some (.int .u8 (((UInt8.ofNat (48 + k % 10)).toNat : Nat) : Int))
          rw [dig_of (k % 10) (by omega), add_at, (Blk.new wr _ _).cell]
          rfl)
        simp only [List.length_singleton] at hconv
        have HST := Lib.hid (And.intro (HD.out.step hk) (And.intro (show k / 10 ≤ m by omega) (show k / 10 < k by omega)))
        have hsz := HD.out.size (by omega)
        have hd0 : k % 10 < 10 := by omega
        generalize UInt8.ofNat (48 + k % 10) = ch at *
        generalize k % 10 = d at *
        generalize k / 10 = x at *
        have hd1 : ¬ (d : Int) < 0 := by omega
        have hcs : (⟨#[ch]⟩ : ByteArray).size = 1 := rfl
        go_wp2
        go_roundw
        case rel => exact ⟨x, _, rfl, rfl, HST.out.2.1, HST.out.1, (by repeat (first | with_reducible exact Below.refl _ _ | with_reducible assumption | with_reducible refine bel_alloc ?_ _ | with_reducible refine bel_drew ?_ | with_reducible refine bel_drewN ?_ _ | (with_reducible refine bel_set ?_ ?_ _; rotate_left; ((try simp); (try omega)))))⟩
        case measure => have := HST.out.2.2; simp [intOf]; omega
end Go.Proofs.YtlicnppfgfjkgaaDoor
