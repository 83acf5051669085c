/-
  Plain: what filtering says of a response. No conditions.
-/
import Derived.Test.YteipaolcmjfhdaaCanRead
import Derived.Test.YteipaolcmjfhdaaResp
import Derived.Test.YteipaolcmjfhdaaRespEq
namespace Go.Proofs.Yteipaolcmjfhdaa
open Go.ChangeShapes Go.WideShapes Go.RowKit
set_option linter.unusedVariables false

theorem respEq_self (x : TResp) : equalResponses x x = true := by simp [equalResponses, bytesEq_eq]
/-- a response with another body and status -/
def otherOf (x : TResp) : TResp := ⟨x.type, 404, x.ver, [1, 2, 3], x.shares⟩
def hiddenB (r : TReq) (x : TResp) : Bool := isRequest r && isResponse x && isResponse (otherOf x) && (x.type != 4) && r.mode == 3 && !(strEq r.frm r.dst)
theorem filter_cases (r : TReq) (x : TResp) :
    (filterResponse r x = errorResponse ∧ canRead r x = false) ∨ (strEq r.frm r.dst = true ∧ filterResponse r x = ⟨1, x.status, x.ver, x.body, x.shares⟩ ∧ canRead r x = true) ∨
    (x.shares = true ∧ filterResponse r x = ⟨2, x.status, x.ver, x.body, true⟩ ∧ canRead r x = true) ∨ (filterResponse r x = ⟨3, 0, 0, [], false⟩ ∧ canRead r x = false) := by
  unfold canRead
  unfold filterResponse
  cases (!isRequest r || !isResponse x || x.type == 4)
  · cases h1 : strEq r.frm r.dst
    · cases h2 : (r.mode == 2 && x.shares)
      · cases (r.mode == 3)
        · exact .inl ⟨rfl, rfl⟩
        · exact .inr (.inr (.inr ⟨rfl, rfl⟩))
      · simp only [Bool.and_eq_true] at h2
        refine .inr (.inr (.inl ⟨h2.2, ?_, rfl⟩))
        simp [h2.2]
    · exact .inr (.inl ⟨rfl, rfl, rfl⟩)
  · exact .inl ⟨rfl, rfl⟩
theorem filter_other {r : TReq} {x : TResp} (h : hiddenB r x = true) : filterResponse r (otherOf x) = ⟨3, 0, 0, [], false⟩ ∧ filterResponse r x = ⟨3, 0, 0, [], false⟩ := by
  simp only [hiddenB, Bool.and_eq_true, Bool.not_eq_true', bne_iff_ne, beq_iff_eq] at h
  obtain ⟨⟨⟨⟨⟨h1, h2⟩, h3⟩, h4⟩, h5⟩, h6⟩ := h
  have h4' : (x.type == 4) = false := by simpa using h4
  constructor
  · unfold filterResponse; simp [h1, h3, h6, h5, show ((otherOf x).type == 4) = false from h4']
  · unfold filterResponse; simp [h1, h2, h6, h5, h4']
theorem storedSize_hidden (x y : TResp) : storedSize x true = storedSize y true := rfl
theorem storedSize_plain (x : TResp) : storedSize x false = 16 + x.body.length := rfl
theorem cReq_small {x : TReq} (h : x.frm.size ≤ 100) (h1 : x.dst.size ≤ 100) (h2 : x.path.size ≤ 100) : cReq.sz x ≤ 1048576 := by
  have : cReq.sz x = x.frm.size + (x.dst.size + (x.path.size + 0)) := rfl
  omega
theorem cResp_small {x : TResp} (h : x.body.length ≤ 1000) : cResp.sz x ≤ 1048576 := by
  have : cResp.sz x = 0 + (0 + (0 + (cU.szs x.body + 0))) := rfl
  rw [Cod.szs_flat (c := cU) (fun _ => rfl)] at this
  omega
end Go.Proofs.Yteipaolcmjfhdaa
