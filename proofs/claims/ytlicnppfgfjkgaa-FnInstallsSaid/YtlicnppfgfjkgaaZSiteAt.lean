/-
  A site that lies in a box of the call's own, and stays while nothing below turns; its files' cells. No conditions.
-/
import Derived.Test.YtlicnppfgfjkgaaZSetAt
import Derived.Test.YtlicnppfgfjkgaaZDrawSite2
namespace Go.Proofs.Ytlicnppfgfjkgaa
open Go.ChangeShapes Go.WideShapes Go.RowKit
set_option linter.unusedVariables false

structure SiteAt (W : World) (b : Nat) (x : TSite) (A : Option Addr) (cp : Nat) (G : List Nat) : Prop where
  c0 : W.cell? ⟨b, 0, none⟩ = some (.string x.name)
  c1 : W.cell? ⟨b, 1, none⟩ = some (.int .i64 x.ver)
  c2 : W.cell? ⟨b, 2, none⟩ = some (.slice A x.files.length cp)
  c3 : W.cell? ⟨b, 3, none⟩ = some (.bool x.shared)
  r : cSite.rep W [.string x.name, .int .i64 x.ver, .slice A x.files.length cp, .bool x.shared] x G
  lt : b < W.heap.size
theorem SiteAt.bel {W W' : World} {b : Nat} {x : TSite} {A : Option Addr} {cp : Nat} {G : List Nat} (h : SiteAt W b x A cp G) (hb : Below W.heap.size W W') : SiteAt W' b x A cp G :=
  ⟨(hb.cell (p := ⟨b, 0, none⟩) h.lt).trans h.c0, (hb.cell (p := ⟨b, 1, none⟩) h.lt).trans h.c1, (hb.cell (p := ⟨b, 2, none⟩) h.lt).trans h.c2, (hb.cell (p := ⟨b, 3, none⟩) h.lt).trans h.c3, Cod.bel h.r hb, Nat.lt_of_lt_of_le h.lt hb.size⟩
theorem SiteAt.new {w : World} {x : TSite} {A : Option Addr} {cp : Nat} {G : List Nat} (T : TypeId) (ho : x.Ok) (h : cStS.rep w [.slice A x.files.length cp] x.files G) : SiteAt (w.alloc (.cells #[.string x.name, .int .i64 x.ver, .slice A x.files.length cp, .bool x.shared] T)) w.heap.size x A cp G :=
  ⟨(Blk.new w T _).cell 0, (Blk.new w T _).cell 1, (Blk.new w T _).cell 2, (Blk.new w T _).cell 3, TSite.mk_ ho (Cod.bel h (bel_alloc (Below.refl _ _) _)), by simp⟩
theorem SiteAt.file {W : World} {b : Nat} {x : TSite} {A : Option Addr} {cp : Nat} {G : List Nat} (h : SiteAt W b x A cp G) {i : Nat} (hi : i < x.files.length) : ∃ g o, A = some ⟨g, o, none⟩ ∧ g < W.heap.size ∧ W.cell? ⟨g, o + i, none⟩ = some (.string x.files[i]) := by
  obtain ⟨v2, F2, e, rfl, -, m2⟩ := TSite.out h.r
  obtain ⟨rfl⟩ : v2 = .slice A x.files.length cp := by simp at e; exact e.symm
  obtain ⟨g, o, vs9, F9, rfl, hgF, hx9, -, hc9⟩ := cL_get (hw := by decide) (hw2 := by decide) m2 hi
  obtain ⟨rfl, -, -⟩ := hx9
  have qf := (hc9 0 _ rfl).1
  rw [show cS.wd = 1 from rfl, Nat.mul_one, Nat.add_zero] at qf
  exact ⟨g, o, rfl, Cod.lt _ m2 g hgF, qf⟩
theorem RespAt.body {W : World} {b : Nat} {y : TResp} {U : Option Addr} {cu : Nat} {G : List Nat} (h : RespAt W b y U cu G) : cUS.rep W [.slice U y.body.length cu] y.body G := by
  obtain ⟨v3, F3, e, rfl, -, m3⟩ := TResp.out h.r
  obtain ⟨rfl⟩ : v3 = .slice U y.body.length cu := by simp at e; exact e.symm
  exact m3
theorem szStr_le : ∀ fs : List ByteArray, (∀ f, f ∈ fs → f.size ≤ 100) → cS.szs fs ≤ 101 * fs.length
  | [], _ => Nat.le_refl _
  | f :: fs, h => by
    have h1 := h f (by simp)
    have h2 := szStr_le fs fun y hy => h y (by simp [hy])
    have e : cS.szs (f :: fs) = f.size + 1 + cS.szs fs := rfl
    rw [e, List.length_cons]
    omega
theorem smallSite_le {x : TSite} (h : SmallSite x) : cSite.sz x ≤ 1048576 := by
  have h1 := szStr_le x.files h.2.2.2
  have h2 := h.2.2.1
  have h3 := h.1
  have e : cSite.sz x = x.name.size + (0 + (cS.szs x.files + 0)) := rfl
  omega
theorem smallSite_ok {x : TSite} (h : SmallSite x) : x.Ok := ⟨by have := h.1; unfold maxLen; omega, by have := h.2.1; omega⟩
end Go.Proofs.Ytlicnppfgfjkgaa
