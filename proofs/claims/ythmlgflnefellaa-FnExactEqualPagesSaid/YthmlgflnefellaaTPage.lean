/-
  The type Page: how it reads. No conditions but the budget of the laws.
-/
import Derived.Test.YthmlgflnefellaaRows
import Derived.Test.YthmlgflnefellaaMem
import Derived.LoopTactic
import Derived.Test.YthmlgflnefellaaTMach
import Derived.Test.YthmlgflnefellaaTSLoaded
namespace Go.Proofs.Ythmlgflnefellaa
open Go.ChangeShapes Go.WideShapes Go.RowKit
set_option linter.unusedVariables false

structure TPage where
  id : Int
  site : ByteArray
  top : ByteArray
  ver : Int
  loaded : List TLoaded
  mach : TMach

def cPage : Cod TPage := cM (cP cI (cP cS (cP cS (cP cI (cP cLoadedS (cP cInsS (cP cI (cP cIS (cP cI (cP cB cB)))))))))) (fun x => (x.id, x.site, x.top, x.ver, x.loaded, x.mach.script, x.mach.pc, x.mach.regs, x.mach.steps, x.mach.done, x.mach.wait)) (fun a => ⟨a.1, a.2.1, a.2.2.1, a.2.2.2.1, a.2.2.2.2.1, ⟨a.2.2.2.2.2.1, a.2.2.2.2.2.2.1, a.2.2.2.2.2.2.2.1, a.2.2.2.2.2.2.2.2.1, a.2.2.2.2.2.2.2.2.2.1, a.2.2.2.2.2.2.2.2.2.2⟩⟩) (fun _ => rfl)

structure TPage.Ok (x : TPage) : Prop where
  h0 : -9223372036854775808 ≤ x.id ∧ x.id ≤ 9223372036854775807
  h1 : x.site.size ≤ maxLen
  h2 : x.top.size ≤ maxLen
  h3 : -9223372036854775808 ≤ x.ver ∧ x.ver ≤ 9223372036854775807
  h6 : -9223372036854775808 ≤ x.mach.pc ∧ x.mach.pc ≤ 9223372036854775807
  h8 : -9223372036854775808 ≤ x.mach.steps ∧ x.mach.steps ≤ 9223372036854775807

theorem TPage.out {w : World} {vs : List Value} {x : TPage} {F : List Nat} (h : cPage.rep w vs x F) :
    ∃ v4 v5 v7 F4 F5 F7, vs = [Value.int .i64 x.id, .string x.site, .string x.top, .int .i64 x.ver, v4, v5, .int .i64 x.mach.pc, v7, .int .i64 x.mach.steps, .bool x.mach.done, .bool x.mach.wait] ∧ F = F4 ++ F5 ++ F7 ∧ x.Ok ∧ cLoadedS.rep w [v4] x.loaded F4 ∧ cInsS.rep w [v5] x.mach.script F5 ∧ cIS.rep w [v7] x.mach.regs F7 := by

  obtain ⟨a0, b0, G0, H0, rfl, rfl, ⟨rfl, rfl, h0⟩, a1, b1, G1, H1, rfl, rfl, ⟨rfl, rfl, h1⟩, a2, b2, G2, H2, rfl, rfl, ⟨rfl, rfl, h2⟩, a3, b3, G3, H3, rfl, rfl, ⟨rfl, rfl, h3⟩, a4, b4, G4, H4, rfl, rfl, h4, a5, b5, G5, H5, rfl, rfl, h5, a6, b6, G6, H6, rfl, rfl, ⟨rfl, rfl, h6⟩, a7, b7, G7, H7, rfl, rfl, h7, a8, b8, G8, H8, rfl, rfl, ⟨rfl, rfl, h8⟩, a9, b9, G9, H9, rfl, rfl, ⟨rfl, rfl⟩, rfl, rfl⟩ := h
  obtain ⟨A4, cp4, rfl, k4⟩ := h4
  obtain ⟨A5, cp5, rfl, k5⟩ := h5
  obtain ⟨A7, cp7, rfl, k7⟩ := h7
  exact ⟨_, _, _, G4, G5, G7, rfl, by simp, ⟨h0, h1, h2, h3, h6, h8⟩, ⟨A4, cp4, rfl, k4⟩, ⟨A5, cp5, rfl, k5⟩, ⟨A7, cp7, rfl, k7⟩⟩

theorem TPage.mk_ {w : World} {x : TPage} {v4 : Value} {v5 : Value} {v7 : Value} {F4 : List Nat} {F5 : List Nat} {F7 : List Nat} (h : x.Ok) (k4 : cLoadedS.rep w [v4] x.loaded F4) (k5 : cInsS.rep w [v5] x.mach.script F5) (k7 : cIS.rep w [v7] x.mach.regs F7) : cPage.rep w [Value.int .i64 x.id, .string x.site, .string x.top, .int .i64 x.ver, v4, v5, .int .i64 x.mach.pc, v7, .int .i64 x.mach.steps, .bool x.mach.done, .bool x.mach.wait] x (F4 ++ F5 ++ F7) := by

  exact ⟨[_], _, [], F4 ++ F5 ++ F7, rfl, by simp, ⟨rfl, rfl, h.h0⟩, ⟨[_], _, [], F4 ++ F5 ++ F7, rfl, by simp, ⟨rfl, rfl, h.h1⟩, ⟨[_], _, [], F4 ++ F5 ++ F7, rfl, by simp, ⟨rfl, rfl, h.h2⟩, ⟨[_], _, [], F4 ++ F5 ++ F7, rfl, by simp, ⟨rfl, rfl, h.h3⟩, ⟨[_], _, F4, F5 ++ F7, rfl, by simp, k4, ⟨[_], _, F5, F7, rfl, by simp, k5, ⟨[_], _, [], F7, rfl, by simp, ⟨rfl, rfl, h.h6⟩, ⟨[_], _, F7, [], rfl, by simp, k7, ⟨[_], _, [], [], rfl, by simp, ⟨rfl, rfl, h.h8⟩, ⟨[_], _, [], [], rfl, by simp, ⟨rfl, rfl⟩, ⟨rfl, rfl⟩⟩⟩⟩⟩⟩⟩⟩⟩⟩⟩

/-- by its parts -/
def cPageN : Cod TPage := cM (cP cI (cP cS (cP cS (cP cI (cP cLoadedS cMach))))) (fun x => (x.id, x.site, x.top, x.ver, x.loaded, x.mach)) (fun a => ⟨a.1, a.2.1, a.2.2.1, a.2.2.2.1, a.2.2.2.2.1, a.2.2.2.2.2⟩) (fun _ => rfl)

theorem cPageN_flat {w : World} {vs : List Value} {x : TPage} {F : List Nat} (h : cPageN.rep w vs x F) : cPage.rep w vs x F := by

  obtain ⟨a0, b0, G0, H0, rfl, rfl, ⟨rfl, rfl, n0⟩, a1, b1, G1, H1, rfl, rfl, ⟨rfl, rfl, n1⟩, a2, b2, G2, H2, rfl, rfl, ⟨rfl, rfl, n2⟩, a3, b3, G3, H3, rfl, rfl, ⟨rfl, rfl, n3⟩, a4, b4, G4, H4, rfl, rfl, n4, n5⟩ := h

  obtain ⟨A4, cp4, rfl, k4⟩ := n4

  obtain ⟨w5_0, w5_2, Q5_0, Q5_2, rfl, rfl, e5, m5_0, m5_2⟩ := TMach.out n5

  have key := TPage.mk_ (w := w) (x := x) ⟨n0, n1, n2, n3, e5.h1, e5.h3⟩ ⟨A4, cp4, rfl, k4⟩ m5_0 m5_2

  simpa using key

theorem opens_lPage : Opens Try.prog 69 cPage := by
  have h : Opens Try.prog 69 cPageN := opens_map (opens_struct Try.underlying69 (by kernel_rfl) (opensFs_cons rfl (opens_int Try.underlying3 (by kernel_rfl)) (opensFs_cons rfl (opens_string Try.underlying9 (by kernel_rfl)) (opensFs_cons rfl (opens_string Try.underlying9 (by kernel_rfl)) (opensFs_cons rfl (opens_int Try.underlying3 (by kernel_rfl)) (opensFs_cons rfl opens_lLoadedS (opensFs_one rfl opens_lMach)))))))
  exact ⟨h.1, fun H enc w fuel cs x hx hz => by obtain ⟨a, F, ha⟩ := h.2 H enc w fuel cs x hx hz; exact ⟨a, F, cPageN_flat ha⟩⟩

theorem TPage.outA {w : World} {vs : Array Value} {x : TPage} {F : List Nat} (h : cPage.rep w vs.toList x F) :
    ∃ v4 v5 v7 F4 F5 F7, vs = #[Value.int .i64 x.id, .string x.site, .string x.top, .int .i64 x.ver, v4, v5, .int .i64 x.mach.pc, v7, .int .i64 x.mach.steps, .bool x.mach.done, .bool x.mach.wait] ∧ F = F4 ++ F5 ++ F7 ∧ x.Ok ∧ cLoadedS.rep w [v4] x.loaded F4 ∧ cInsS.rep w [v5] x.mach.script F5 ∧ cIS.rep w [v7] x.mach.regs F7 := by
  obtain ⟨a0, a1, a2, a3, a4, a5, e, f, r⟩ := TPage.out h
  exact ⟨a0, a1, a2, a3, a4, a5, Array.toList_inj.1 e, f, r⟩

end Go.Proofs.Ythmlgflnefellaa
