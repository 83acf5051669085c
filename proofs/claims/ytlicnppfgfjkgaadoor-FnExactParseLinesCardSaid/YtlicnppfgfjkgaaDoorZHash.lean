/-
  Mod, Hash, KeyedHash, BytesToInts, DeriveFromString of the program and of the reference. No conditions.
-/
import Derived.Test.YtlicnppfgfjkgaaDoorZA
import Derived.Test.YtlicnppfgfjkgaaDoorZServes
import Derived.IntWalk
import Derived.Laws.IdiomStrings
namespace Go.Proofs.YtlicnppfgfjkgaaDoor
open Go.ChangeShapes Go.WideShapes Go.RowKit
set_option linter.unusedVariables false

def hashStep (d x : Int) : Int := (d * 1000003 + x % 2147483647 + 13) % 2147483647
def hashL (l : List Int) : Int := l.foldl hashStep 11
theorem hashL_range (l : List Int) : 0 ≤ hashL l ∧ hashL l < 2147483647 := by
  have : ∀ (l : List Int) (d : Int), 0 ≤ d ∧ d < 2147483647 → 0 ≤ l.foldl hashStep d ∧ l.foldl hashStep d < 2147483647 := by
    intro l
    induction l with
    | nil => exact fun d h => h
    | cons x l ih => exact fun d h => ih _ (by unfold hashStep; omega)
  exact this l 11 (by omega)
theorem hashL_take {l : List Int} {k : Nat} (h : k < l.length) : hashL (l.take (k + 1)) = hashStep (hashL (l.take k)) l[k] := by
  unfold hashL
  rw [List.take_succ_eq_append_getElem h, List.foldl_append]; rfl
def keyedHash (k : Int) (l : List Int) : Int := hashL (([k] ++ l) ++ [k])
def bytesInts (b : List UInt8) : List Int := (b.length : Int) :: b.map fun x => (x.toNat : Int)
def derive (k : Int) (s : ByteArray) : Int := if keyedHash k (bytesInts s.data.toList) = 0 then 1 else keyedHash k (bytesInts s.data.toList)

theorem tmod_mod (n : Int) : (n.tmod 2147483647 + 2147483647).tmod 2147483647 = n % 2147483647 := by
  rcases Int.le_total 0 n with h | h
  · rw [Int.tmod_eq_emod_of_nonneg h, Int.tmod_eq_emod_of_nonneg (by omega)]; omega
  · have h1 : n.tmod 2147483647 = -((-n) % 2147483647) := by rw [← Int.tmod_eq_emod_of_nonneg (by omega : 0 ≤ -n), Int.neg_tmod, Int.neg_neg]
    rw [h1, Int.tmod_eq_emod_of_nonneg (by omega)]; omega
theorem tmod_neg {n : Int} (h : n.tmod 2147483647 < 0) : n.tmod 2147483647 + 2147483647 = n % 2147483647 := by
  rcases Int.le_total 0 n with h0 | h0
  · rw [Int.tmod_eq_emod_of_nonneg h0] at h; omega
  · have h1 : n.tmod 2147483647 = -((-n) % 2147483647) := by rw [← Int.tmod_eq_emod_of_nonneg (by omega : 0 ≤ -n), Int.neg_tmod, Int.neg_neg]
    rw [h1] at h ⊢; omega
theorem tmod_pos {n : Int} (h : ¬ n.tmod 2147483647 < 0) : n.tmod 2147483647 = n % 2147483647 := by
  rcases Int.le_total 0 n with h0 | h0
  · rw [Int.tmod_eq_emod_of_nonneg h0]
  · have h1 : n.tmod 2147483647 = -((-n) % 2147483647) := by rw [← Int.tmod_eq_emod_of_nonneg (by omega : 0 ≤ -n), Int.neg_tmod, Int.neg_neg]
    rw [h1] at h ⊢; omega
theorem tmod_bounds (n : Int) : -2147483647 < n.tmod 2147483647 ∧ n.tmod 2147483647 < 2147483647 := by
  rcases Int.le_total 0 n with h0 | h0
  · rw [Int.tmod_eq_emod_of_nonneg h0]; omega
  · have h1 : n.tmod 2147483647 = -((-n) % 2147483647) := by rw [← Int.tmod_eq_emod_of_nonneg (by omega : 0 ≤ -n), Int.neg_tmod, Int.neg_neg]
    rw [h1]; omega


theorem Own.of_new {α : Type} {c : Cod α} {w : World} {vs : Array Value} {xs : List α} {F : List Nat} (T : TypeId) (n : Nat) (hn : n = xs.length) (hc : 0 < n) (hm : n ≤ maxLen) (hs : vs.size = n * c.wd) (h : c.reps (w.alloc (.cells vs T)) vs.toList xs F) :
    Own c T w.heap.size (w.alloc (.cells vs T)) (.slice (some ⟨w.heap.size, 0, none⟩) n n) xs F := by
  subst hn
  refine .inr ⟨vs.toList, ⟨by simpa using hs, .inr ⟨w.heap.size, xs.length, vs, rfl, Nat.le_refl _, heap_alloc_new w _, Nat.le_refl _, hm, hs, ?_⟩⟩, h⟩
  rw [List.take_of_length_le (by simpa using Nat.le_of_eq hs)]
theorem repsI {w : World} {n : Int} (h : -9223372036854775808 ≤ n ∧ n ≤ 9223372036854775807) : cI.reps w (#[Value.int .i64 n] : Array Value).toList [n] [] := Cod.reps_one ⟨rfl, rfl, h.1, h.2⟩


/-! ### KeyedHash -/

/-! ### A text's bytes as numbers -/
theorem repsU (w : World) : ∀ l : List UInt8, cU.reps w (l.map fun b => Value.int .u8 (b.toNat : Int)) l []
  | [] => ⟨rfl, rfl⟩
  | b :: l => ⟨[_], _, [], [], rfl, rfl, ⟨rfl, rfl⟩, repsU w l⟩
theorem conv_str (w : World) (s : ByteArray) (hs : s.size ≤ maxLen) : ∃ cp w' F, Sem.run Tryd.prog (convert 9 22 (.string s)) w = .ok (.slice (some ⟨w.heap.size, 0, none⟩) s.size cp) w' ∧ Below w.heap.size w w' ∧
    cUS.rep w' [.slice (some ⟨w.heap.size, 0, none⟩) s.data.toList.length cp] s.data.toList F := by
  have hlen : s.data.toList.length = s.size := (Array.length_toList : s.data.toList.length = s.data.size)
  have hle := grownCap_ge w s.size 0 5
  have hcm := grownCap_le_maxLen w s.size 0 5 hs
  refine ⟨grownCap w s.size 0 5, _, if s.data.toList = [] then [] else [w.heap.size], run_bytes_of_string (P := Tryd.prog) w _ _ _ s Tryd.underlying9 Tryd.underlying22 Tryd.underlying5, bel_alloc (Below.refl _ _).drew _, ?_⟩
  by_cases h0 : s.data.toList = []
  · rw [if_pos h0]
    rw [h0]
    exact ⟨_, _, rfl, Nat.zero_le _, hcm, .inl ⟨rfl, rfl⟩⟩
  · rw [if_neg h0]
    refine ⟨_, _, rfl, by rw [hlen]; exact hle, hcm, .inr ⟨h0, w.heap.size, 0, [], _, rfl, rfl, fun j u hu => ?_, repsU _ _⟩⟩
    have hj : j < s.data.size := by
      have := (List.getElem?_eq_some_iff.1 hu).1
      simpa using this
    have hu2 : u = .int .u8 (s.data[j].toNat : Int) := by
      rw [List.getElem?_map] at hu
      simp at hu
      obtain ⟨a, ha, hau⟩ := hu
      rw [Array.getElem?_eq_getElem hj, Option.some.injEq] at ha
      rw [← hau, ← ha]
    subst hu2
    have hh : (w.drew.alloc (.cells (bytesRow s (grownCap w s.size 0 5)) 5 ((bytesRow s (grownCap w s.size 0 5)).size, (bytesRow s (grownCap w s.size 0 5)).size + 1))).heap[w.heap.size]? = some (.cells (bytesRow s (grownCap w s.size 0 5)) 5 ((bytesRow s (grownCap w s.size 0 5)).size, (bytesRow s (grownCap w s.size 0 5)).size + 1)) := heap_alloc_new w.drew _
    have hbs : j < (bytesRow s (grownCap w s.size 0 5)).size := by
      have h9 := bytesRow_at s (grownCap w s.size 0 5) j hj
      exact (Array.getElem?_eq_some_iff.1 h9).1
    refine ⟨?_, ?_⟩
    · rw [cell_of_row _ w.heap.size (0 + j) _ _ _ hh, Nat.zero_add]
      exact bytesRow_at s _ j hj
    · unfold World.frozen?
      rw [hh]
      simp; omega
end Go.Proofs.YtlicnppfgfjkgaaDoor
