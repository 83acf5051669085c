/-
  A set of caches, a response, a site that lie in a box of the call's own, and stay while nothing below turns. No conditions.
-/
import Derived.Test.YtlicnppfgfjkgaaZSiteBox
import Derived.Test.YtlicnppfgfjkgaaZTCSet
import Derived.Test.YtlicnppfgfjkgaaZA
namespace Go.Proofs.Ytlicnppfgfjkgaa
open Go.ChangeShapes Go.WideShapes Go.RowKit
set_option linter.unusedVariables false

structure SetAt (W : World) (b : Nat) (s : TCSet) (A : Option Addr) (cp : Nat) (F : List Nat) : Prop where
  c : W.cell? ⟨b, 0, none⟩ = some (.slice A s.caches.length cp)
  r : cCSet.rep W [.slice A s.caches.length cp] s F
  lt : b < W.heap.size
theorem SetAt.bel {W W' : World} {b : Nat} {s : TCSet} {A : Option Addr} {cp : Nat} {F : List Nat} (h : SetAt W b s A cp F) (hb : Below W.heap.size W W') : SetAt W' b s A cp F :=
  ⟨(hb.cell (p := ⟨b, 0, none⟩) h.lt).trans h.c, Cod.bel h.r hb, Nat.lt_of_lt_of_le h.lt hb.size⟩
theorem SetAt.new {w : World} {s : TCSet} {A : Option Addr} {cp : Nat} {F : List Nat} (T : TypeId) (h : cCSet.rep w [.slice A s.caches.length cp] s F) : SetAt (w.alloc (.cells #[.slice A s.caches.length cp] T)) w.heap.size s A cp F :=
  ⟨(Blk.new w T _).cell 0, Cod.bel h (bel_alloc (Below.refl _ _) _), by simp⟩
structure RespAt (W : World) (b : Nat) (y : TResp) (U : Option Addr) (cu : Nat) (G : List Nat) : Prop where
  c0 : W.cell? ⟨b, 0, none⟩ = some (.int .i64 y.type)
  c1 : W.cell? ⟨b, 1, none⟩ = some (.int .i64 y.status)
  c2 : W.cell? ⟨b, 2, none⟩ = some (.int .i64 y.ver)
  c3 : W.cell? ⟨b, 3, none⟩ = some (.slice U y.body.length cu)
  c4 : W.cell? ⟨b, 4, none⟩ = some (.bool y.shares)
  r : cResp.rep W [.int .i64 y.type, .int .i64 y.status, .int .i64 y.ver, .slice U y.body.length cu, .bool y.shares] y G
  lt : b < W.heap.size
theorem RespAt.bel {W W' : World} {b : Nat} {y : TResp} {U : Option Addr} {cu : Nat} {G : List Nat} (h : RespAt W b y U cu G) (hb : Below W.heap.size W W') : RespAt W' b y U cu G :=
  ⟨(hb.cell (p := ⟨b, 0, none⟩) h.lt).trans h.c0, (hb.cell (p := ⟨b, 1, none⟩) h.lt).trans h.c1, (hb.cell (p := ⟨b, 2, none⟩) h.lt).trans h.c2, (hb.cell (p := ⟨b, 3, none⟩) h.lt).trans h.c3, (hb.cell (p := ⟨b, 4, none⟩) h.lt).trans h.c4, Cod.bel h.r hb, Nat.lt_of_lt_of_le h.lt hb.size⟩
theorem RespAt.new {w : World} {y : TResp} {U : Option Addr} {cu : Nat} {G : List Nat} (T : TypeId) (h : cResp.rep w [.int .i64 y.type, .int .i64 y.status, .int .i64 y.ver, .slice U y.body.length cu, .bool y.shares] y G) : RespAt (w.alloc (.cells #[.int .i64 y.type, .int .i64 y.status, .int .i64 y.ver, .slice U y.body.length cu, .bool y.shares] T)) w.heap.size y U cu G :=
  ⟨(Blk.new w T _).cell 0, (Blk.new w T _).cell 1, (Blk.new w T _).cell 2, (Blk.new w T _).cell 3, (Blk.new w T _).cell 4, Cod.bel h (bel_alloc (Below.refl _ _) _), by simp⟩
theorem bel_one (w : World) (o : Obj) : Below w.heap.size w (w.alloc o) := bel_alloc (Below.refl _ _) o
theorem resp_form {w : World} {vs : Array Value} {y : TResp} {G : List Nat} (h : cResp.rep w vs.toList y G) : ∃ U cu, vs = #[.int .i64 y.type, .int .i64 y.status, .int .i64 y.ver, .slice U y.body.length cu, .bool y.shares] ∧ cUS.rep w [.slice U y.body.length cu] y.body G ∧ y.Ok := by
  obtain ⟨u3, F3, rfl, rfl, ho, m3⟩ := TResp.outA h
  obtain ⟨U, cu, hue⟩ := cL_form m3
  subst hue
  exact ⟨U, cu, rfl, m3, ho⟩
theorem set_form {w : World} {vs : Array Value} {s : TCSet} {F : List Nat} (h : cCSet.rep w vs.toList s F) : ∃ A cp, vs = #[.slice A s.caches.length cp] := by
  obtain ⟨v0, F0, rfl, -, -, m0⟩ := TCSet.outA h
  obtain ⟨A, cp, rfl⟩ := cL_form m0
  exact ⟨A, cp, rfl⟩
end Go.Proofs.Ytlicnppfgfjkgaa
