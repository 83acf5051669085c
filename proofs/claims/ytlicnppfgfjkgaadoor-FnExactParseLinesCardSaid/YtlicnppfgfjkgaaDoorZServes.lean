/-
  ServesVersion, VersionFor, Max and l1Next of the program and of the reference. No conditions.
-/
import Derived.Test.YtlicnppfgfjkgaaDoorZSiteOk
import Derived.Test.YtlicnppfgfjkgaaDoorZTReg
import Derived.Test.YtlicnppfgfjkgaaDoorZRegion
namespace Go.Proofs.YtlicnppfgfjkgaaDoor
open Go.ChangeShapes Go.WideShapes Go.RowKit
set_option linter.unusedVariables false

def maxI (a b : Int) : Int := if a < b then b else a
theorem serves_ints (a v : Int) : inR v (maxI 1 (a - 1)) a = (decide (a - 2 < v) && decide (v ≤ a) && decide (1 ≤ v)) := by
  have h : maxI 1 (a - 1) ≤ v ↔ (a - 2 < v ∧ 1 ≤ v) := by
    unfold maxI
    split
    · exact ⟨fun h => ⟨by omega, by omega⟩, fun h => by omega⟩
    · exact ⟨fun h => ⟨by omega, by omega⟩, fun h => by omega⟩
  rw [Bool.eq_iff_iff]
  simp only [inR, Bool.and_eq_true, decide_eq_true_eq, h]
  exact ⟨fun h => ⟨⟨h.1.1, h.2⟩, h.1.2⟩, fun h => ⟨⟨h.1.1, h.2⟩, h.1.2⟩⟩
def servesVersion (x : TSite) (v : Int) : Bool := isSite x && inR v (maxI 1 (x.ver - 1)) x.ver
theorem isSite_ver {x : TSite} (h : isSite x = true) : 1 ≤ x.ver ∧ x.ver ≤ 1000000000000 := by
  simp only [isSite, Bool.and_eq_true] at h
  exact inR_true h.1.2

def versionFor (r : TReg) (x : TSite) (online : Bool) : Int := bif r.act != 0 then r.act else bif online then x.ver else 0
end Go.Proofs.YtlicnppfgfjkgaaDoor
