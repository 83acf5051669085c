/-
  Plain: files of a version and of the next one are different; what release says of a site. No conditions.
-/
import Derived.Test.YtlicnppfgfjkgaaZA
import Derived.Test.YtlicnppfgfjkgaaZServe
import Derived.Test.YtlicnppfgfjkgaaZRelease
namespace Go.Proofs.Ytlicnppfgfjkgaa
open Go.ChangeShapes Go.WideShapes Go.RowKit
set_option linter.unusedVariables false

theorem hash_next (k a b : Int) : hashL [k, 103, a, b, k] ≠ hashL [k + 1, 103, a, b, k + 1] := by
  simp only [hashL, List.foldl_cons, List.foldl_nil, hashStep]
  omega
theorem bodyTo_inj {h h' : Int} (h0 : 0 ≤ h ∧ h < 2147483647) (h1 : 0 ≤ h' ∧ h' < 2147483647) (e : bodyTo h 6 = bodyTo h' 6) : h = h' := by
  have get : ∀ j, j < 6 → ((h / 2 ^ (8 * (5 - j))) % 256 : Int) = (h' / 2 ^ (8 * (5 - j))) % 256 := by
    intro j hj
    rw [← bodyByte_nat, ← bodyByte_nat]
    rw [← bodyTo_succ h 5, ← bodyTo_succ h 4, ← bodyTo_succ h 3, ← bodyTo_succ h 2, ← bodyTo_succ h 1, ← bodyTo_succ h 0, bodyTo_zero,
      ← bodyTo_succ h' 5, ← bodyTo_succ h' 4, ← bodyTo_succ h' 3, ← bodyTo_succ h' 2, ← bodyTo_succ h' 1, ← bodyTo_succ h' 0, bodyTo_zero] at e
    simp only [List.nil_append, List.cons_append, List.cons.injEq, and_true] at e
    obtain ⟨e0, e1, e2, e3, e4, e5⟩ := e
    match j, hj with
    | 0, _ => rw [e0]
    | 1, _ => rw [e1]
    | 2, _ => rw [e2]
    | 3, _ => rw [e3]
    | 4, _ => rw [e4]
    | 5, _ => rw [e5]
  have g2 := get 2 (by decide); have g3 := get 3 (by decide); have g4 := get 4 (by decide); have g5 := get 5 (by decide)
  simp only [show (2 : Int) ^ (8 * (5 - 2)) = 16777216 from by decide, show (2 : Int) ^ (8 * (5 - 3)) = 65536 from by decide, show (2 : Int) ^ (8 * (5 - 4)) = 256 from by decide, show (2 : Int) ^ (8 * (5 - 5)) = 1 from by decide] at g2 g3 g4 g5
  omega
theorem bodyOf_next (s : TSite) (pa : ByteArray) (v : Int) (h : 1 ≤ v ∧ v ≤ 1000000000000) : bytesEq (bodyOf s pa v) (bodyOf s pa (v + 1)) = false := by
  rw [bytesEq_eq, beq_eq_false_iff_ne]
  intro e
  have h1 := bodyTo_inj (keyed_range _ _) (keyed_range _ _) e
  unfold bodyHash keyedHash at h1
  rw [show IntKind.i64.wrap (1 + v) = 1 + v from IntWalk.i64_in _ (by omega), show IntKind.i64.wrap (1 + (v + 1)) = 1 + v + 1 from (IntWalk.i64_in _ (by omega)).trans (by omega)] at h1
  exact hash_next _ _ _ h1
end Go.Proofs.Ytlicnppfgfjkgaa
