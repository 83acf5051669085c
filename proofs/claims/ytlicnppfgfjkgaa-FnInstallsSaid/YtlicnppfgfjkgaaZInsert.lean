/-
  slices.Insert of one value into a row of the call's own: memory's side, in plain words. No conditions.
-/
import Derived.Test.YtlicnppfgfjkgaaZOwnUpd2
import Derived.Laws.CopyRow
import Derived.Lib.AppendZerosOnto
import Derived.Lib.Overlaps
import Derived.Laws.Externs
namespace Go.Proofs.Ytlicnppfgfjkgaa
open Go.RowKit
set_option linter.unusedVariables false

/-- Only block g has turned: it holds these cells. -/
structure RowSet (w w' : World) (g : Nat) (e : TypeId) (cs : Array Value) : Prop where
  blk : Blk w' g e cs
  size : w'.heap.size = w.heap.size
  os : w'.os = w.os
  tape : w'.tape = w.tape
  output : w'.output = w.output
  other : ∀ b, b ≠ g → w'.heap[b]? = w.heap[b]?
theorem RowSet.mk_ {w : World} {g : Nat} {e : TypeId} {old : Array Value} (h : Blk w g e old) (cs : Array Value) : RowSet w (w.setRow g cs) g e cs :=
  ⟨setRow_heap w g old cs e (0, 0) h, setRow_size _ _ _, rfl, rfl, rfl, fun b hb => setRow_other w g b cs hb⟩
theorem RowSet.grown {w w' : World} {g : Nat} {e : TypeId} {cs : Array Value} (h : RowSet w w' g e cs) : w.grownBy w' (some g) :=
  ⟨h.os, h.tape, h.output, by rw [h.size]; exact Nat.le_refl _, fun b _ hne => h.other b (fun e => hne (by rw [e]))⟩

section
variable {P : Program} (w : World)
theorem run_copy_rowK (dT sT ty elem : TypeId) (g o dLen dCap : Nat) (a : Addr) (sLen sCap : Nat) (cur : Array Value) (t : TypeId) (cs : List Value) (k sz : Nat)
    (hu : P.underlying dT = some (.slice elem)) (i : TypeInfo) (hq : P.info? elem = some i) (hi : i.size = sz)
    (hg : Blk w g t cur) (hk : Nat.min sLen dLen = k) (hn : cs.length = k * sz)
    (hsrc : ∀ j v, cs[j]? = some v → w.cell? (a.add j) = some v) (hfit : o + cs.length ≤ cur.size) (h1 : ∀ v ∈ cs, v.oneCell' = true) :
    (Builtin.copy_ #[dT, sT] ty #[.slice (some ⟨g, o, none⟩) dLen dCap, .slice (some a) sLen sCap]).run P w =
      .ok (goInt k) (w.setRow g (cur.toList.take o ++ cs ++ cur.toList.drop (o + cs.length)).toArray) := by
  have hl := run_loadCells_list (P := P) w a cs hsrc
  have hst := run_storeCells_at P g o t cs 0 cur w hg (by simpa using hfit) h1
  rw [hn] at hl
  simp only [Nat.add_zero] at hst
  simp [Builtin.copy_, run_underlying hu, Builtin.lenOf, Builtin.firstCells, sizeOf, typeInfo, hq, hi, hk, hl, hst]
theorem wp_copyK {o : Oper} {a : Act} {K : Act → World → Prop} {Q : Exit → Act → World → Prop} (d s : Operand) (t t' elem : TypeId)
    (ho : o.op = .call { callee := .builtin .copy, args := #[d, s], argTypes := #[t, t'] }) (g od dLen dCap : Nat) (ad : Addr) (sLen sCap : Nat) (hd : a.eval d = .slice (some ⟨g, od, none⟩) dLen dCap) (hs : a.eval s = .slice (some ad) sLen sCap)
    (cur : Array Value) (e : TypeId) (cs : List Value) (k sz : Nat) (hu : P.underlying t = some (.slice elem)) (i : TypeInfo) (hq : P.info? elem = some i) (hi : i.size = sz)
    (hg : Blk w g e cur) (hk : Nat.min sLen dLen = k) (hn : cs.length = k * sz)
    (hsrc : ∀ j v, cs[j]? = some v → w.cell? (ad.add j) = some v) (hfit : od + cs.length ≤ cur.size) (h1 : ∀ v ∈ cs, v.oneCell' = true)
    (h : ∀ w', RowSet w w' g e (cur.toList.take od ++ cs ++ cur.toList.drop (od + cs.length)).toArray → K (a.put o.dst (goInt k)) w') : o.wp P a w K Q := by
  have hr := run_copy_rowK (P := P) w t t' o.type elem g od dLen dCap ad sLen sCap cur e cs k sz hu i hq hi hg hk hn hsrc hfit h1
  unfold Oper.wp execOp
  simp only [ho, resolve, invoke, builtin, Sem.run_bind, Sem.run_pure, Result.andThen_ok, List.map_toArray, List.map_cons, List.map_nil, hd, hs, hr]
  exact h _ (RowSet.mk_ hg _)
theorem wpList_copyK {ops : Array Oper} {rest : List Oper} {o : Oper} {a : Act} {Q : Exit → Act → World → Prop} (hgd : o.guard = none) (d s : Operand) (t t' elem : TypeId)
    (ho : o.op = .call { callee := .builtin .copy, args := #[d, s], argTypes := #[t, t'] }) (g od dLen dCap : Nat) (ad : Addr) (sLen sCap : Nat) (hd : a.eval d = .slice (some ⟨g, od, none⟩) dLen dCap) (hs : a.eval s = .slice (some ad) sLen sCap)
    (cur : Array Value) (e : TypeId) (cs : List Value) (k sz : Nat) (hu : P.underlying t = some (.slice elem)) (i : TypeInfo) (hq : P.info? elem = some i) (hi : i.size = sz)
    (hg : Blk w g e cur) (hk : Nat.min sLen dLen = k) (hn : cs.length = k * sz)
    (hsrc : ∀ j v, cs[j]? = some v → w.cell? (ad.add j) = some v) (hfit : od + cs.length ≤ cur.size) (h1 : ∀ v ∈ cs, v.oneCell' = true)
    (h : ∀ w', RowSet w w' g e (cur.toList.take od ++ cs ++ cur.toList.drop (od + cs.length)).toArray → wpList P ops Q rest (a.put o.dst (goInt k)) w') : wpList P ops Q (o :: rest) a w :=
  wpList_plain hgd fun _ hK => wp_copyK w d s t t' elem ho g od dLen dCap ad sLen sCap hd hs cur e cs k sz hu i hq hi hg hk hn hsrc hfit h1 fun w' h2 => hK _ _ (h w' h2)
theorem step_copyK {ops : Array Oper} {o : Oper} {a : Act} {K : Act → World → Prop} {Q : Exit → Act → World → Prop} {E : Prop} (hgd : o.guard = none) (d s : Operand) (t t' elem : TypeId)
    (ho : o.op = .call { callee := .builtin .copy, args := #[d, s], argTypes := #[t, t'] }) (g od dLen dCap : Nat) (ad : Addr) (sLen sCap : Nat) (hd : a.eval d = .slice (some ⟨g, od, none⟩) dLen dCap) (hs : a.eval s = .slice (some ad) sLen sCap)
    (cur : Array Value) (e : TypeId) (cs : List Value) (k sz : Nat) (hu : P.underlying t = some (.slice elem)) (i : TypeInfo) (hq : P.info? elem = some i) (hi : i.size = sz)
    (hg : Blk w g e cur) (hk : Nat.min sLen dLen = k) (hn : cs.length = k * sz)
    (hsrc : ∀ j v, cs[j]? = some v → w.cell? (ad.add j) = some v) (hfit : od + cs.length ≤ cur.size) (h1 : ∀ v ∈ cs, v.oneCell' = true)
    (h : ∀ w', RowSet w w' g e (cur.toList.take od ++ cs ++ cur.toList.drop (od + cs.length)).toArray → K (a.put o.dst (goInt k)) w') :
    if Region.wanted o (yielded ops a.tmps) = true then Oper.wp P o a w K Q else E := by
  have hw' : Region.wanted o (yielded ops a.tmps) = true := by simp [Region.wanted, hgd]
  rw [if_pos hw']
  exact wp_copyK w d s t t' elem ho g od dLen dCap ad sLen sCap hd hs cur e cs k sz hu i hq hi hg hk hn hsrc hfit h1 h
/-- append(s, make([]T, k)...) where there is no room -/
theorem wpList_zeros {ops : Array Oper} {rest : List Oper} {o : Oper} {a : Act} {Q : Exit → Act → World → Prop} (hgd : o.guard = none) (s x : Operand) (t tn e : TypeId)
    (ho : o.op = .call { callee := .builtin .append, args := #[s, x], argTypes := #[t, tn] }) (i : TypeInfo) (z : Value) (ht : P.underlying t = some (.slice e)) (htn : P.underlying tn = some (.int .i64)) (hi : P.info? e = some i) (hz : i.zero = some z)
    (ad : Addr) (sLen sCap k : Nat) (hs : a.eval s = .slice (some ad) sLen sCap) (hx : a.eval x = .int .i64 k) (olds : List Value) (hl : olds.length = sLen * i.size) (hold : ∀ j v, olds[j]? = some v → w.cell? (ad.add j) = some v)
    (h0 : 0 < k) (hs0 : 0 < i.size) (hg : sCap < sLen + k) (h63 : sLen + k ≤ maxLen) (hb : (sLen + k) * i.bytes ≤ 140737488355328)
    (h : ∀ G w', sLen + k ≤ G → G ≤ maxLen → Blk w' w.heap.size e (olds.toArray ++ Builtin.zeroCells z.cells k ++ Builtin.zeroCells z.cells (G - (sLen + k))) → w.grownBy w' none → w'.heap.size = w.heap.size + 1 → wpList P ops Q rest (a.put o.dst (.slice (some ⟨w.heap.size, 0, none⟩) (sLen + k) G)) w') : wpList P ops Q (o :: rest) a w := by
  have hfc : (Builtin.firstCells i.size sLen (.slice (some ad) sLen sCap)).run P w.drew = .ok olds.toArray w.drew := run_firstCells_some w.drew i.size sLen ad sLen sCap olds hl (fun j v hj => hold j v hj)
  unfold maxLen at h63
  have hr := Lib.run_append_grow_zeros w t tn o.type e i z .i64 .i64 ht htn hi hz (some ad) sLen sCap olds hfc k h0 hs0 hg (by omega) (by
    have : k * i.bytes ≤ (sLen + k) * i.bytes := Nat.mul_le_mul_right _ (by omega)
    omega) (growslice_fits hg hb)
  have hK := h (grownCap w (sLen + k) sCap e) _ (grownCap_ge _ _ _ _) (grownCap_le_maxLen _ _ _ _ (by unfold maxLen; omega)) (Blk.new w.drew e _)
    ⟨rfl, rfl, rfl, by simp, fun b hb _ => by
      have := (bel_alloc (bel_drew (Below.refl w.heap.size w)) (.cells (olds.toArray ++ Builtin.zeroCells z.cells k ++ Builtin.zeroCells z.cells (grownCap w (sLen + k) sCap e - (sLen + k))) e)).block b hb
      exact this⟩ (by simp)
  refine wpList_plain hgd fun _ hK2 => ?_
  unfold Oper.wp execOp
  simp only [ho, resolve, invoke, builtin, Sem.run_bind, Sem.run_pure, Result.andThen_ok, List.map_toArray, List.map_cons, List.map_nil, hs, hx, hr]
  exact hK2 _ _ hK
end

section
variable {α : Type} {c : Cod α} {e : TypeId} {B : Nat} {w w' : World} {A : Option Addr} {n cp i : Nat} {xs : List α} {Fi : List Nat}
/-- A row of the call's own, parted at i. -/
theorem Own.parts (h : Own c e B w (.slice A n cp) xs Fi) (hi : i ≤ xs.length) (hn : 0 < xs.length) :
    ∃ g cur u1 u2 F1 F2, A = some ⟨g, 0, none⟩ ∧ n = xs.length ∧ n ≤ cp ∧ cp ≤ maxLen ∧ Blk w g e cur ∧ cur.size = cp * c.wd ∧ cur.toList.take (n * c.wd) = u1 ++ u2 ∧ u1.length = i * c.wd ∧ u2.length = (n - i) * c.wd ∧ B ≤ g ∧ ownB (.slice A n cp) = some g ∧
      Fi = F1 ++ F2 ∧ c.reps w u1 (xs.take i) F1 ∧ c.reps w u2 (xs.drop i) F2 := by
  rcases h.form with ⟨rfl, -⟩ | ⟨g, cap, cur, us, hv, hB, hh, hnc, hcm, hsz, ht, ho, hr⟩
  · simp at hn
  · simp only [Value.slice.injEq] at hv
    obtain ⟨rfl, rfl, rfl⟩ := hv
    rw [← List.take_append_drop i xs] at hr
    obtain ⟨u1, u2, G1, G2, rfl, rfl, r1, r2⟩ := Cod.reps_cut hr
    have hl1 := Cod.reps_len r1
    have hl2 := Cod.reps_len r2
    rw [List.length_take, Nat.min_eq_left hi] at hl1
    rw [List.length_drop] at hl2
    exact ⟨g, cur, u1, u2, G1, G2, rfl, rfl, hnc, hcm, hh, hsz, ht, hl1, hl2, hB, rfl, rfl, r1, r2⟩
theorem Own.of_parts {g' cp' : Nat} {cur' : Array Value} {u1 vs u2 : List Value} {xs1 xs2 : List α} {y : α} {F1 Fy F2 : List Nat} {m : Nat} (hB : B ≤ g') (hb : Blk w' g' e cur') (hs : cur'.size = cp' * c.wd) (hm : m = xs1.length + 1 + xs2.length) (ht : cur'.toList.take (m * c.wd) = u1 ++ (vs ++ u2)) (hmc : m ≤ cp') (hcm : cp' ≤ maxLen)
    (r1 : c.reps w' u1 xs1 F1) (ry : c.rep w' vs y Fy) (r2 : c.reps w' u2 xs2 F2) : Own c e B w' (.slice (some ⟨g', 0, none⟩) m cp') (xs1 ++ y :: xs2) (F1 ++ (Fy ++ F2)) := by
  have hr : c.reps w' (u1 ++ (vs ++ u2)) (xs1 ++ y :: xs2) (F1 ++ (Fy ++ F2)) := Cod.reps_app r1 ⟨vs, u2, Fy, F2, rfl, rfl, ry, r2⟩
  have hl : (xs1 ++ y :: xs2).length = m := by rw [hm, List.length_append, List.length_cons]; omega
  have hul := Cod.reps_len hr
  rw [hl] at hul
  exact .inr ⟨_, ⟨by rw [hl]; exact hul, .inr ⟨g', cp', cur', by rw [hl], hB, hb, by rw [hl]; exact hmc, hcm, hs, by rw [hl]; exact ht⟩⟩, hr⟩
end
/-! ### Lists of cells -/
theorem take_shift {L0 u1 u2 vs : List Value} {a b : Nat} (h0 : L0.take (a + u2.length) = u1 ++ u2) (h1 : u1.length = a) (hv : vs.length = b) (hl : a + b + u2.length ≤ L0.length) :
    ((((L0.take (a + b) ++ u2 ++ L0.drop (a + b + u2.length)).take a ++ vs ++ (L0.take (a + b) ++ u2 ++ L0.drop (a + b + u2.length)).drop (a + vs.length))).take (a + b + u2.length)) = u1 ++ (vs ++ u2) := by
  have hta : L0.take a = u1 := by
    have := congrArg (List.take a) h0
    rw [List.take_take, Nat.min_eq_left (by omega), ← h1, List.take_left'] at this
    · rw [← h1]; exact this
    · rfl
  have e1 : (L0.take (a + b) ++ u2 ++ L0.drop (a + b + u2.length)).take a = u1 := by
    rw [List.append_assoc, List.take_append_of_le_length (by rw [List.length_take]; omega), List.take_take, Nat.min_eq_left (by omega), hta]
  have e2 : (L0.take (a + b) ++ u2 ++ L0.drop (a + b + u2.length)).drop (a + vs.length) = u2 ++ L0.drop (a + b + u2.length) := by
    rw [hv, List.append_assoc, List.drop_left' (by rw [List.length_take]; omega)]
  rw [e1, e2, List.append_assoc, ← List.append_assoc vs, ← List.append_assoc u1]
  rw [List.take_left' (by simp only [List.length_append]; omega)]
theorem take_fill {u1 u2 vs R : List Value} {a b : Nat} (h0 : R.take a = u1) (h1 : u1.length = a) (hv : vs.length = b) (hl : a + b + u2.length ≤ R.length) :
    ((((R.take a ++ vs ++ R.drop (a + vs.length)).take (a + b) ++ u2 ++ (R.take a ++ vs ++ R.drop (a + vs.length)).drop (a + b + u2.length))).take (a + b + u2.length)) = u1 ++ (vs ++ u2) := by
  have e1 : (R.take a ++ vs ++ R.drop (a + vs.length)).take (a + b) = u1 ++ vs := by
    rw [h0, List.take_left' (by simp only [List.length_append]; omega)]
  rw [e1, List.take_left' (by simp only [List.length_append]; omega), List.append_assoc]
theorem splice_length {L cs : List Value} {o : Nat} (h : o + cs.length ≤ L.length) : (L.take o ++ cs ++ L.drop (o + cs.length)).length = L.length := by
  simp only [List.length_append, List.length_take, List.length_drop]; omega
end Go.Proofs.Ytlicnppfgfjkgaa
