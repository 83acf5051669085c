/-
  Names and ranges as plain functions on bytes. No conditions.
-/
import Derived.Test.YtlicnppfgfjkgaaZA
namespace Go.Proofs.Ytlicnppfgfjkgaa

/-- n lies from lo to hi -/
def inR (n lo hi : Int) : Bool := decide (lo ≤ n) && decide (n ≤ hi)
theorem inR_true {n lo hi : Int} (h : inR n lo hi = true) : lo ≤ n ∧ n ≤ hi := by simpa [inR] using h
theorem inR_false {n lo hi : Int} (h : inR n lo hi = false) : n < lo ∨ hi < n := by
  simp [inR] at h; omega
theorem inR_mk {n lo hi : Int} (h1 : lo ≤ n) (h2 : n ≤ hi) : inR n lo hi = true := by simp [inR, h1, h2]
theorem inR_low {n lo hi : Int} (h : n < lo) : inR n lo hi = false := by simp [inR]; omega
theorem inR_high {n lo hi : Int} (h : hi < n) : inR n lo hi = false := by simp [inR]; omega

/-- a letter from a to z -/
def isLow (c : UInt8) : Bool := decide (97 ≤ (c.toNat : Int)) && decide ((c.toNat : Int) ≤ 122)
/-- the first k bytes are letters -/
def lowTo (s : ByteArray) (k : Nat) : Bool := (s.data.toList.take k).all isLow
theorem lowTo_zero (s : ByteArray) : lowTo s 0 = true := by simp [lowTo]
theorem lowTo_succ (s : ByteArray) (k : Nat) (h : k < s.size) : lowTo s (k + 1) = (lowTo s k && isLow s[k]) := by
  have e : s.data.toList.take (k + 1) = s.data.toList.take k ++ [s[k]] := by
    rw [List.take_succ_eq_append_getElem (by simpa using h)]; rfl
  unfold lowTo
  rw [e, List.all_append]; simp
theorem lowTo_le (s : ByteArray) {j k : Nat} (hjk : j ≤ k) (h : lowTo s j = false) : lowTo s k = false := by
  unfold lowTo at h ⊢
  cases hk : (s.data.toList.take k).all isLow with
  | false => rfl
  | true =>
    have : (s.data.toList.take j).all isLow = true := by
      rw [List.all_eq_true] at hk ⊢
      intro x hx
      refine hk x ?_
      have : s.data.toList.take j = (s.data.toList.take k).take j := by rw [List.take_take, Nat.min_eq_left hjk]
      rw [this] at hx
      exact List.mem_of_mem_take hx
    rw [this] at h; cases h

/-- up to most letters, at least one -/
def isWord (s : ByteArray) (most : Int) : Bool := lowTo s s.size && inR s.size 1 most
def isName (s : ByteArray) : Bool := isWord s 8
theorem isWord_bad {s : ByteArray} {most : Int} {k : Nat} (h : k < s.size) (hb : isLow s[k] = false) : isWord s most = false := by
  have : lowTo s (k + 1) = false := by rw [lowTo_succ s k h, hb]; simp
  unfold isWord
  rw [lowTo_le s (by omega) this]; rfl
theorem isWord_end {s : ByteArray} {most : Int} (h : lowTo s s.size = true) : isWord s most = inR s.size 1 most := by
  unfold isWord; rw [h]; rfl
theorem isLow_lt {c : UInt8} (h : (c.toNat : Int) < 97) : isLow c = false := by simp [isLow]; omega
theorem isLow_gt {c : UInt8} (h : (122 : Int) < c.toNat) : isLow c = false := by simp [isLow]; omega
theorem isLow_mk {c : UInt8} (h1 : (97 : Int) ≤ c.toNat) (h2 : (c.toNat : Int) ≤ 122) : isLow c = true := by simp [isLow]; omega
theorem isName_size {s : ByteArray} (h : isName s = true) : 1 ≤ s.size ∧ s.size ≤ 8 := by
  unfold isName isWord at h
  rw [Bool.and_eq_true] at h
  have := inR_true h.2
  omega
end Go.Proofs.Ytlicnppfgfjkgaa
