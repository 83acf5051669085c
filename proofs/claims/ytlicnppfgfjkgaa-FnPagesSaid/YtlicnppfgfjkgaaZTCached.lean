/-
  The type Cached: how it reads. No conditions but the budget of the laws.
-/
import Derived.Test.YtlicnppfgfjkgaaRows
import Derived.Test.YtlicnppfgfjkgaaZA
import Derived.LoopTactic
namespace Go.Proofs.Ytlicnppfgfjkgaa
open Go.ChangeShapes Go.WideShapes Go.RowKit
set_option linter.unusedVariables false

structure TCached where
  site : ByteArray
  path : ByteArray
  resp : TResp

def cCached : Cod TCached := cM (cP cS (cP cS (cP cI (cP cI (cP cI (cP cUS cB)))))) (fun x => (x.site, x.path, x.resp.type, x.resp.status, x.resp.ver, x.resp.body, x.resp.shares)) (fun a => ⟨a.1, a.2.1, ⟨a.2.2.1, a.2.2.2.1, a.2.2.2.2.1, a.2.2.2.2.2.1, a.2.2.2.2.2.2⟩⟩) (fun _ => rfl)

structure TCached.Ok (x : TCached) : Prop where
  h0 : x.site.size ≤ maxLen
  h1 : x.path.size ≤ maxLen
  h2 : -9223372036854775808 ≤ x.resp.type ∧ x.resp.type ≤ 9223372036854775807
  h3 : -9223372036854775808 ≤ x.resp.status ∧ x.resp.status ≤ 9223372036854775807
  h4 : -9223372036854775808 ≤ x.resp.ver ∧ x.resp.ver ≤ 9223372036854775807

theorem TCached.out {w : World} {vs : List Value} {x : TCached} {F : List Nat} (h : cCached.rep w vs x F) :
    ∃ v5 F5, vs = [Value.string x.site, .string x.path, .int .i64 x.resp.type, .int .i64 x.resp.status, .int .i64 x.resp.ver, v5, .bool x.resp.shares] ∧ F = F5 ∧ x.Ok ∧ cUS.rep w [v5] x.resp.body F5 := by

  obtain ⟨a0, b0, G0, H0, rfl, rfl, ⟨rfl, rfl, h0⟩, a1, b1, G1, H1, rfl, rfl, ⟨rfl, rfl, h1⟩, a2, b2, G2, H2, rfl, rfl, ⟨rfl, rfl, h2⟩, a3, b3, G3, H3, rfl, rfl, ⟨rfl, rfl, h3⟩, a4, b4, G4, H4, rfl, rfl, ⟨rfl, rfl, h4⟩, a5, b5, G5, H5, rfl, rfl, h5, rfl, rfl⟩ := h
  obtain ⟨A5, cp5, rfl, k5⟩ := h5
  exact ⟨_, G5, rfl, by simp, ⟨h0, h1, h2, h3, h4⟩, ⟨A5, cp5, rfl, k5⟩⟩

theorem TCached.mk_ {w : World} {x : TCached} {v5 : Value} {F5 : List Nat} (h : x.Ok) (k5 : cUS.rep w [v5] x.resp.body F5) : cCached.rep w [Value.string x.site, .string x.path, .int .i64 x.resp.type, .int .i64 x.resp.status, .int .i64 x.resp.ver, v5, .bool x.resp.shares] x (F5) := by

  exact ⟨[_], _, [], F5, rfl, by simp, ⟨rfl, rfl, h.h0⟩, ⟨[_], _, [], F5, rfl, by simp, ⟨rfl, rfl, h.h1⟩, ⟨[_], _, [], F5, rfl, by simp, ⟨rfl, rfl, h.h2⟩, ⟨[_], _, [], F5, rfl, by simp, ⟨rfl, rfl, h.h3⟩, ⟨[_], _, [], F5, rfl, by simp, ⟨rfl, rfl, h.h4⟩, ⟨[_], _, F5, [], rfl, by simp, k5, ⟨rfl, rfl⟩⟩⟩⟩⟩⟩⟩

/-- by its parts -/
def cCachedN : Cod TCached := cM (cP cS (cP cS cResp)) (fun x => (x.site, x.path, x.resp)) (fun a => ⟨a.1, a.2.1, a.2.2⟩) (fun _ => rfl)

theorem cCachedN_flat {w : World} {vs : List Value} {x : TCached} {F : List Nat} (h : cCachedN.rep w vs x F) : cCached.rep w vs x F := by

  obtain ⟨a0, b0, G0, H0, rfl, rfl, ⟨rfl, rfl, n0⟩, a1, b1, G1, H1, rfl, rfl, ⟨rfl, rfl, n1⟩, n2⟩ := h

  obtain ⟨w2_3, Q2_3, rfl, rfl, e2, m2_3⟩ := TResp.out n2

  have key := TCached.mk_ (w := w) (x := x) ⟨n0, n1, e2.h0, e2.h1, e2.h2⟩ m2_3

  simpa using key

theorem opens_lCached : Opens Try.prog 188 cCached := by
  have h : Opens Try.prog 188 cCachedN := opens_map (opens_struct Try.underlying188 (by kernel_rfl) (opensFs_cons rfl (opens_string Try.underlying9 (by kernel_rfl)) (opensFs_cons rfl (opens_string Try.underlying9 (by kernel_rfl)) (opensFs_one rfl opens_lResp))))
  exact ⟨h.1, fun H enc w fuel cs x hx hz => by obtain ⟨a, F, ha⟩ := h.2 H enc w fuel cs x hx hz; exact ⟨a, F, cCachedN_flat ha⟩⟩

theorem TCached.outA {w : World} {vs : Array Value} {x : TCached} {F : List Nat} (h : cCached.rep w vs.toList x F) :
    ∃ v5 F5, vs = #[Value.string x.site, .string x.path, .int .i64 x.resp.type, .int .i64 x.resp.status, .int .i64 x.resp.ver, v5, .bool x.resp.shares] ∧ F = F5 ∧ x.Ok ∧ cUS.rep w [v5] x.resp.body F5 := by
  obtain ⟨a0, a1, e, f, r⟩ := TCached.out h
  exact ⟨a0, a1, Array.toList_inj.1 e, f, r⟩

end Go.Proofs.Ytlicnppfgfjkgaa
