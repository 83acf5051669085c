/-
  The type Site: how it reads. No conditions but the budget of the laws.
-/
import Derived.Test.YteipaolcmjfhdaaRows
import Derived.Test.YteipaolcmjfhdaaMem
import Derived.LoopTactic
import Derived.Test.YteipaolcmjfhdaaTSSt
namespace Go.Proofs.Yteipaolcmjfhdaa
open Go.ChangeShapes Go.WideShapes Go.RowKit
set_option linter.unusedVariables false

structure TSite where
  name : ByteArray
  ver : Int
  files : List ByteArray
  shared : Bool

def cSite : Cod TSite := cM (cP cS (cP cI (cP cStS cB))) (fun x => (x.name, x.ver, x.files, x.shared)) (fun a => ⟨a.1, a.2.1, a.2.2.1, a.2.2.2⟩) (fun _ => rfl)

structure TSite.Ok (x : TSite) : Prop where
  h0 : x.name.size ≤ maxLen
  h1 : -9223372036854775808 ≤ x.ver ∧ x.ver ≤ 9223372036854775807

theorem TSite.out {w : World} {vs : List Value} {x : TSite} {F : List Nat} (h : cSite.rep w vs x F) :
    ∃ v2 F2, vs = [Value.string x.name, .int .i64 x.ver, v2, .bool x.shared] ∧ F = F2 ∧ x.Ok ∧ cStS.rep w [v2] x.files F2 := by

  obtain ⟨a0, b0, G0, H0, rfl, rfl, ⟨rfl, rfl, h0⟩, a1, b1, G1, H1, rfl, rfl, ⟨rfl, rfl, h1⟩, a2, b2, G2, H2, rfl, rfl, h2, rfl, rfl⟩ := h
  obtain ⟨A2, cp2, rfl, k2⟩ := h2
  exact ⟨_, G2, rfl, by simp, ⟨h0, h1⟩, ⟨A2, cp2, rfl, k2⟩⟩

theorem TSite.mk_ {w : World} {x : TSite} {v2 : Value} {F2 : List Nat} (h : x.Ok) (k2 : cStS.rep w [v2] x.files F2) : cSite.rep w [Value.string x.name, .int .i64 x.ver, v2, .bool x.shared] x (F2) := by

  exact ⟨[_], _, [], F2, rfl, by simp, ⟨rfl, rfl, h.h0⟩, ⟨[_], _, [], F2, rfl, by simp, ⟨rfl, rfl, h.h1⟩, ⟨[_], _, F2, [], rfl, by simp, k2, ⟨rfl, rfl⟩⟩⟩⟩

theorem opens_lSite : Opens Try.prog 74 cSite := opens_map (opens_struct Try.underlying74 (by kernel_rfl) (opensFs_cons rfl (opens_string Try.underlying9 (by kernel_rfl)) (opensFs_cons rfl (opens_int Try.underlying3 (by kernel_rfl)) (opensFs_cons rfl opens_StS (opensFs_one rfl (opens_bool Try.underlying4 (by kernel_rfl)))))))

theorem TSite.outA {w : World} {vs : Array Value} {x : TSite} {F : List Nat} (h : cSite.rep w vs.toList x F) :
    ∃ v2 F2, vs = #[Value.string x.name, .int .i64 x.ver, v2, .bool x.shared] ∧ F = F2 ∧ x.Ok ∧ cStS.rep w [v2] x.files F2 := by
  obtain ⟨a0, a1, e, f, r⟩ := TSite.out h
  exact ⟨a0, a1, Array.toList_inj.1 e, f, r⟩

end Go.Proofs.Yteipaolcmjfhdaa
