/-
  IsSite and ServesVersion of the program and of the reference. No conditions.
-/
import Derived.Test.YtlicnppfgfjkgaaDoorZA
import Derived.Test.YtlicnppfgfjkgaaDoorZAll
import Derived.StillTailTactics
namespace Go.Proofs.YtlicnppfgfjkgaaDoor
open Go.ChangeShapes Go.WideShapes Go.RowKit
set_option linter.unusedVariables false

def siteAt (fs : List ByteArray) (i : Nat) : Bool :=
  match fs[i]? with
  | some f => isName f && (i == 0 || match fs[i - 1]? with | some g => strLess g f | none => false)
  | none => false
theorem siteAt_zero {fs : List ByteArray} (h : 0 < fs.length) : siteAt fs 0 = isName fs[0] := by
  unfold siteAt; rw [List.getElem?_eq_getElem h]; simp
theorem siteAt_succ {fs : List ByteArray} {k : Nat} (h : k < fs.length) (h0 : 0 < k) (h1 : k - 1 < fs.length) : siteAt fs k = (isName fs[k] && strLess fs[k - 1] fs[k]) := by
  unfold siteAt
  rw [List.getElem?_eq_getElem h, List.getElem?_eq_getElem h1]
  have : (k == 0) = false := by simp; omega
  simp [this]
theorem siteAt_name {fs : List ByteArray} {k : Nat} (h : k < fs.length) (hn : isName fs[k] = false) : siteAt fs k = false := by
  unfold siteAt
  rw [List.getElem?_eq_getElem h]; simp [hn]
def isSite (x : TSite) : Bool := allTo (siteAt x.files) x.files.length && isName x.name && inR x.ver 1 1000000000000 && inR x.files.length 1 6

end Go.Proofs.YtlicnppfgfjkgaaDoor
