/-
  Requests: the type, what the functions of laws over it do, and IsRequest. No conditions.
-/
import Derived.Test.YtdogljbchedkaaaRows
import Derived.Test.YtdogljbchedkaaaOpen
import Derived.Test.YtdogljbchedkaaaName
namespace Go.Proofs.Ytdogljbchedkaaa
open Go.ChangeShapes Go.WideShapes Go.RowKit

structure TReq where
  frm : ByteArray
  dst : ByteArray
  path : ByteArray
  mode : Int
def cReq : Cod TReq := cM (cP cS (cP cS (cP cS cI))) fun x => (x.frm, x.dst, x.path, x.mode)
theorem TReq.all (a : ByteArray × ByteArray × ByteArray × Int) : ∃ x : TReq, (x.frm, x.dst, x.path, x.mode) = a := ⟨⟨a.1, a.2.1, a.2.2.1, a.2.2.2⟩, rfl⟩
def TReq.val (x : TReq) : Value := .agg #[.string x.frm, .string x.dst, .string x.path, .int .i64 x.mode]
structure TReq.Ok (x : TReq) : Prop where
  frm : x.frm.size ≤ maxLen
  dst : x.dst.size ≤ maxLen
  path : x.path.size ≤ maxLen
  mode : -9223372036854775808 ≤ x.mode ∧ x.mode ≤ 9223372036854775807
theorem TReq.out {w : World} {vs : List Value} {x : TReq} {F : List Nat} (h : cReq.rep w vs x F) :
    vs = [.string x.frm, .string x.dst, .string x.path, .int .i64 x.mode] ∧ F = [] ∧ x.Ok := by
  obtain ⟨v1, v2, F1, F2, rfl, rfl, ⟨rfl, rfl, h1⟩, v3, v4, F3, F4, rfl, rfl, ⟨rfl, rfl, h2⟩, v5, v6, F5, F6, rfl, rfl, ⟨rfl, rfl, h3⟩, rfl, rfl, h4⟩ := h
  exact ⟨rfl, rfl, h1, h2, h3, h4⟩
theorem opens_lReq : Opens Try.prog 40 cReq :=
  opens_map (opens_struct Try.underlying40 (by kernel_rfl)
    (opensFs_cons rfl (opens_string Try.underlying9 (by kernel_rfl)) (opensFs_cons rfl (opens_string Try.underlying9 (by kernel_rfl)) (opensFs_cons rfl (opens_string Try.underlying9 (by kernel_rfl)) (opensFs_one rfl (opens_int Try.underlying3 (by kernel_rfl))))))) TReq.all
theorem TReq.val_of {w : World} {cs : Array Value} {x : TReq} {F : List Nat} (h : cReq.rep w cs.toList x F) : Value.agg cs = x.val := by
  have := (TReq.out h).1
  unfold TReq.val
  rw [← Array.toList_inj.1 (show cs.toList = #[Value.string x.frm, .string x.dst, .string x.path, .int .i64 x.mode].toList from this)]

theorem toRequest_any (x : TReq) (w : World) : Calls Try.prog 26 #[x.val] w (Gives w x.val) := by
  unfold TReq.val
  go_enter Try.func26, Try.ntmps26
  go_wp2
  exact bodyPost_ret (v := .agg #[.string x.frm, .string x.dst, .string x.path, .int .i64 x.mode]) (by simp [results, Try.results26, go_sem]) rfl ⟨rfl, (by repeat (first | exact Below.refl _ _ | assumption | refine bel_alloc ?_ _ | refine bel_drew ?_ | refine bel_drewN ?_ _ | refine bel_set ?_ (by simp; try omega) _))⟩

set_option maxHeartbeats 400000 in
theorem szRequest_any (x : TReq) (n : Int) (w : World) (hx : x.Ok) (h0 : 0 ≤ n) (h1 : n ≤ 1048576) :
    Calls Try.prog 24 #[x.val, .int .i64 n] w (Gives w (.int .i64 (leftOf n (x.frm.size + x.dst.size + x.path.size)))) := by
  obtain ⟨a1, a2, a3, -⟩ := hx
  unfold maxLen at a1 a2 a3
  unfold TReq.val
  by_cases l1 : n - x.frm.size < 0
  · go_enter Try.func24, Try.ntmps24
    go_wp2
    go_ret
    exact ⟨ret_int (leftOf_neg (by omega)).symm, (by repeat (first | exact Below.refl _ _ | assumption | refine bel_alloc ?_ _ | refine bel_drew ?_ | refine bel_drewN ?_ _ | refine bel_set ?_ (by simp; try omega) _))⟩
  · by_cases l2 : n - x.frm.size - x.dst.size < 0
    · go_enter Try.func24, Try.ntmps24
      go_wp2
      go_ret
      exact ⟨ret_int (leftOf_neg (by omega)).symm, (by repeat (first | exact Below.refl _ _ | assumption | refine bel_alloc ?_ _ | refine bel_drew ?_ | refine bel_drewN ?_ _ | refine bel_set ?_ (by simp; try omega) _))⟩
    · by_cases l3 : n - x.frm.size - x.dst.size - x.path.size < 0
      · go_enter Try.func24, Try.ntmps24
        go_wp2
        go_ret
        exact ⟨ret_int (leftOf_neg (by omega)).symm, (by repeat (first | exact Below.refl _ _ | assumption | refine bel_alloc ?_ _ | refine bel_drew ?_ | refine bel_drewN ?_ _ | refine bel_set ?_ (by simp; try omega) _))⟩
      · go_enter Try.func24, Try.ntmps24
        go_wp2
        go_ret
        exact ⟨ret_int (by rw [leftOf_pos (by omega)]; omega), (by repeat (first | exact Below.refl _ _ | assumption | refine bel_alloc ?_ _ | refine bel_drew ?_ | refine bel_drewN ?_ _ | refine bel_set ?_ (by simp; try omega) _))⟩

def isRequest (x : TReq) : Bool := isName x.frm && isName x.dst && isName x.path && inR x.mode 1 3
set_option maxHeartbeats 400000 in
theorem implRequest_any (x : TReq) (w : World) (hx : x.Ok) : Calls Try.prog 27 #[x.val] w (Gives w (.bool (isRequest x))) := by
  obtain ⟨a1, a2, a3, -⟩ := hx
  unfold TReq.val
  go_enter Try.func27, Try.ntmps27
  go_wp2_with (first
    | (go_at_call 64; refine (implName_any _ _ (by assumption)).mono ?_; rintro e w1 ⟨rfl, rfl⟩)
    | (go_at_call 65; refine (inRange_any _ _ _ _).mono ?_; rintro e w1 ⟨rfl, rfl⟩))
  all_goals go_ret
  all_goals exact ⟨ret_bool (by simp [isRequest, *]), (by repeat (first | exact Below.refl _ _ | assumption | refine bel_alloc ?_ _ | refine bel_drew ?_ | refine bel_drewN ?_ _ | refine bel_set ?_ (by simp; try omega) _))⟩
set_option maxHeartbeats 400000 in
theorem specRequest_any (x : TReq) (w : World) (hx : x.Ok) : Calls Try.prog 25 #[x.val] w (Gives w (.bool (isRequest x))) := by
  obtain ⟨a1, a2, a3, -⟩ := hx
  unfold TReq.val
  go_enter Try.func25, Try.ntmps25
  go_wp2_with (first
    | (go_at_call 62; refine (specName_any _ _ (by assumption)).mono ?_; rintro e w1 ⟨rfl, rfl⟩)
    | (go_at_call 63; refine (l1In_any _ _ _ _).mono ?_; rintro e w1 ⟨rfl, rfl⟩))
  all_goals go_ret
  all_goals exact ⟨ret_bool (by simp [isRequest, *]), (by repeat (first | exact Below.refl _ _ | assumption | refine bel_alloc ?_ _ | refine bel_drew ?_ | refine bel_drewN ?_ _ | refine bel_set ?_ (by simp; try omega) _))⟩
end Go.Proofs.Ytdogljbchedkaaa
