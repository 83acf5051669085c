/-
  InstallFiles: what it computes; sizes. No conditions.
-/
import Derived.Test.YtlicnppfgfjkgaaZOpenS
import Derived.Test.YtlicnppfgfjkgaaZStoreI
import Derived.Test.YtlicnppfgfjkgaaZServe
import Derived.Test.YtlicnppfgfjkgaaZA
namespace Go.Proofs.Ytlicnppfgfjkgaa
open Go.ChangeShapes Go.WideShapes Go.RowKit
set_option linter.unusedVariables false

/-- the set behind the first k files -/
def instAt (x : TSite) (v : Int) (s0 : TCSet × Bool) : Nat → TCSet × Bool
  | 0 => s0
  | k + 1 => match x.files[k]? with
    | some f => bif (instAt x v s0 k).2 then storeResponse (instAt x v s0 k).1 v x.name f (serveFile x f v) else instAt x v s0 k
    | none => instAt x v s0 k
def installFiles (s : TCSet) (x : TSite) (v : Int) (on : Bool) : TCSet × Bool :=
  bif on && servesVersion x v && (instAt x v (openCache s v) x.files.length).2 then ((instAt x v (openCache s v) x.files.length).1, true) else (s, false)
theorem instAt_yes {x : TSite} {v : Int} {s0 : TCSet × Bool} {k : Nat} (h : k < x.files.length) (ho : (instAt x v s0 k).2 = true) : instAt x v s0 (k + 1) = storeResponse (instAt x v s0 k).1 v x.name x.files[k] (serveFile x x.files[k] v) := by
  simp only [instAt]
  rw [List.getElem?_eq_getElem h, ho]; rfl
theorem instAt_no {x : TSite} {v : Int} {s0 : TCSet × Bool} {k : Nat} (ho : (instAt x v s0 k).2 = false) : instAt x v s0 (k + 1) = instAt x v s0 k := by
  simp only [instAt]
  cases x.files[k]? with
  | none => rfl
  | some f => simp only [ho]; rfl
theorem instAt_off {x : TSite} {v : Int} {s0 : TCSet × Bool} {k : Nat} (ho : (instAt x v s0 k).2 = false) : ∀ m, k ≤ m → (instAt x v s0 m).2 = false
  | 0, h => by
    obtain rfl : k = 0 := by omega
    exact ho
  | m + 1, h => by
    by_cases hk : k = m + 1
    · rw [← hk]; exact ho
    · have := instAt_off ho m (by omega)
      rw [instAt_no this]; exact this
theorem openCache_small {s : TCSet} {v : Int} (h : (openCache s v).2 = true) : cCSet.sz (openCache s v).1 ≤ 9000 := by
  unfold openCache at h ⊢
  cases hc : isCacheSet s && isCacheSet (openOut s v) with
  | false => rw [hc] at h; cases h
  | true =>
    rw [Bool.and_eq_true] at hc
    exact cset_small hc.2
theorem store_small {s : TCSet} {v : Int} {st pa : ByteArray} {x : TResp} (h : (storeResponse s v st pa x).2 = true) : cCSet.sz (storeResponse s v st pa x).1 ≤ 9000 := by
  unfold storeResponse storeAt at h ⊢
  split at h
  · cases h
  · rename_i hk
    rw [if_neg hk]
    cases hc : isCacheSet s && isCacheSet (storeOut s (findCache s v).toNat ⟨st, pa, x⟩) with
    | false => rw [hc] at h; cases h
    | true =>
      rw [Bool.and_eq_true] at hc
      exact cset_small hc.2
theorem instAt_small {x : TSite} {v : Int} {s0 : TCSet × Bool} (h0 : s0.2 = true → cCSet.sz s0.1 ≤ 9000) : ∀ k, (instAt x v s0 k).2 = true → cCSet.sz (instAt x v s0 k).1 ≤ 9000
  | 0, h => h0 h
  | k + 1, h => by
    cases ho : (instAt x v s0 k).2 with
    | false => rw [instAt_no ho] at h ⊢; exact instAt_small h0 k h
    | true =>
      by_cases hk : k < x.files.length
      · rw [instAt_yes hk ho] at h ⊢
        exact store_small h
      · have e : instAt x v s0 (k + 1) = instAt x v s0 k := by
          simp only [instAt]
          rw [List.getElem?_eq_none (by omega)]
        rw [e] at h ⊢
        exact instAt_small h0 k h
theorem installFiles_sz (s : TCSet) (x : TSite) (v : Int) (on : Bool) : cCSet.sz (installFiles s x v on).1 ≤ cCSet.sz s + 9000 := by
  unfold installFiles
  cases hc : on && servesVersion x v && (instAt x v (openCache s v) x.files.length).2 with
  | false => show cCSet.sz s ≤ _; omega
  | true =>
    simp only [Bool.and_eq_true] at hc
    have := instAt_small (x := x) (v := v) (s0 := openCache s v) (fun h => openCache_small h) _ hc.2
    show cCSet.sz (instAt x v (openCache s v) x.files.length).1 ≤ _
    omega
theorem install_open {s : TCSet} {x : TSite} {v : Int} {on : Bool} (h : (openCache s v).2 = false) : installFiles s x v on = (s, false) := by
  unfold installFiles
  rw [instAt_off (k := 0) (x := x) (v := v) (s0 := openCache s v) h _ (Nat.zero_le _), Bool.and_false]; rfl
theorem site_parts {w : World} {vs : List Value} {x : TSite} {F : List Nat} (h : cSite.rep w vs x F) (hn : cSite.sz x ≤ 1048576) : x.name.size ≤ 1048576 ∧ x.files.length ≤ 1048576 ∧ ∀ f, f ∈ x.files → f.size ≤ 1048576 := by
  have e : cSite.sz x = x.name.size + (0 + (cS.szs x.files + 0)) := rfl
  have h1 : x.files.length ≤ cS.szs x.files := Cod.len_le cS x.files
  have h2 : ∀ (fs : List ByteArray) (f : ByteArray), f ∈ fs → f.size ≤ cS.szs fs := by
    intro fs
    induction fs with
    | nil => intro f hf; simp at hf
    | cons g fs ih =>
      intro f hf
      have e2 : cS.szs (g :: fs) = g.size + 1 + cS.szs fs := rfl
      rcases List.mem_cons.1 hf with rfl | hf
      · omega
      · have := ih f hf; omega
  exact ⟨by omega, by omega, fun f hf => by have := h2 _ f hf; omega⟩
end Go.Proofs.Ytlicnppfgfjkgaa
