/-
  '==' on struct values field by field. No conditions.
-/
import Derived.Test.YtlicnppfgfjkgaaZA
import Derived.Laws.StructEq
namespace Go.Proofs.Ytlicnppfgfjkgaa
section
variable {P : Program} {d : Nat} {xs ys : Array Value} {f : Field} {fs : List Field} {w : World} {ty : TypeId} {off : Nat} {v u : Value} {b c : Bool}
theorem eqFields_cons (h0 : (f.type, f.offset, f.name == "_") = (ty, off, false)) (ha : (isAgg ty).run P w = .ok false w) (hx : xs[off]? = some v) (hy : ys[off]? = some u)
    (he : (Op.equalIn d ty v u).run P w = .ok b w) (hr : (Op.eqFields d xs ys fs).run P w = .ok c w) : (Op.eqFields d xs ys (f :: fs)).run P w = .ok (b && c) w := by
  simp only [Prod.mk.injEq, beq_eq_false_iff_ne] at h0
  obtain ⟨rfl, rfl, hn⟩ := h0
  have hp1 : (part f.type xs f.offset).run P w = .ok v w := by simp [part, ha, hx]
  have hp2 : (part f.type ys f.offset).run P w = .ok u w := by simp [part, ha, hy]
  simp only [Op.eqFields, hn, ne_eq, not_false_eq_true, if_true, Sem.run_bind, hp1, hp2, he, Result.andThen_ok]
  cases b
  · simp
  · simp [hr]
theorem eqFields_nil : (Op.eqFields d xs ys []).run P w = .ok true w := by simp [Op.eqFields]
theorem part_int (h : P.underlying ty = some (.int .i64)) : (isAgg ty).run P w = .ok false w := by simp [isAgg, run_underlying h]
theorem part_string (h : P.underlying ty = some .string) : (isAgg ty).run P w = .ok false w := by simp [isAgg, run_underlying h]
theorem part_bool (h : P.underlying ty = some .bool) : (isAgg ty).run P w = .ok false w := by simp [isAgg, run_underlying h]
end
end Go.Proofs.Ytlicnppfgfjkgaa
