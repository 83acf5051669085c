/-
  impl.IsRegistration, spec.IsRegistration: what they return, for all registrations. No conditions but that the site is one of Go's strings.
-/
import Derived.Test.YteipaolcmjfhdaaTReg
import Derived.Test.YteipaolcmjfhdaaName
namespace Go.Proofs.Yteipaolcmjfhdaa
open Go.ChangeShapes Go.WideShapes Go.RowKit

/-- the versions from the lowest on: each in its range, and ascending where it is not 0 -/
def regFrom : Int → List Int → Bool
  | _, [] => true
  | last, v :: vs => inR v 0 1000000000000 && !(decide (v ≠ 0) && decide (v ≤ last)) && regFrom (max last v) vs
def isReg (x : TReg) : Bool := regFrom 0 [x.act, x.wai, x.ins] && isName x.site
theorem regFrom_bad1 {last v : Int} {vs : List Int} (h : ¬ inR v 0 1000000000000 = true) : regFrom last (v :: vs) = false := by
  rw [Bool.not_eq_true] at h; simp [regFrom, h]
theorem regFrom_bad2 {last v : Int} {vs : List Int} (h : v ≠ 0) (k : v ≤ last) : regFrom last (v :: vs) = false := by
  simp [regFrom, h, k]
theorem regFrom_ok {last v l : Int} {vs : List Int} (h : inR v 0 1000000000000 = true) (k : v = 0 ∨ last < v) (e : l = max last v) : regFrom last (v :: vs) = regFrom l vs := by
  subst e
  have : (decide (v ≠ 0) && decide (v ≤ last)) = false := by
    rcases k with k | k
    · simp [k]
    · simp; omega
  simp only [regFrom, h, this]; simp

def regVals (x : TReg) : List Int := [x.act, x.wai, x.ins]

set_option maxHeartbeats 1000000 in
theorem implRegOk_any (x : TReg) (w : World) (hs : x.site.size ≤ maxLen) : Calls Try.prog 33 #[x.val] w (Gives w (.bool (isReg x))) := by
  unfold TReg.val
  go_enter Try.func33, Try.ntmps33
  go_wp2
  go_loop [3, 14] (fun l i => ∃ (k : Nat) (last : Int), k ≤ 3 ∧ i = .int .i64 k ∧ l = .int .i64 last ∧ 0 ≤ last ∧ regFrom 0 (regVals x) = regFrom last ((regVals x).drop k)) (fun _ i => 3 - (intOf i).toNat)
  case atStart => exact ⟨0, 0, by omega, rfl, rfl, by omega, rfl⟩
  case round =>
    obtain ⟨k, last, hk, rfl, rfl, hl0, he⟩ := hrel
    have HE := Lib.hid he
    clear he
    by_cases h3 : k = 3
    · subst h3
      have HN := Lib.hid (show isReg x = isName x.site by unfold isReg; rw [show regFrom 0 [x.act, x.wai, x.ins] = true from HE.out]; rfl)
      go_wp2_with (first
        | (go_at_call 85; refine (inRange_any _ _ _ _).mono ?_; rintro e w1 ⟨rfl, rfl⟩)
        | (go_at_call 89; refine (implName_any _ _ hs).mono ?_; rintro e w1 ⟨rfl, rfl⟩))
      go_ret
      exact ⟨ret_bool HN.out.symm, (by repeat (first | with_reducible exact Below.refl _ _ | with_reducible assumption | with_reducible refine bel_alloc ?_ _ | with_reducible refine bel_drew ?_ | with_reducible refine bel_drewN ?_ _ | (with_reducible refine bel_set ?_ ?_ _; rotate_left; ((try simp); (try omega)))))⟩
    · obtain ⟨v, vs, hv⟩ : ∃ v vs, (regVals x).drop k = v :: vs ∧ (regVals x).drop (k + 1) = vs ∧ (k = 0 ∧ v = x.act ∨ k = 1 ∧ v = x.wai ∨ k = 2 ∧ v = x.ins) := by
        have : k = 0 ∨ k = 1 ∨ k = 2 := by omega
        rcases this with rfl | rfl | rfl
        · exact ⟨_, _, rfl, rfl, .inl ⟨rfl, rfl⟩⟩
        · exact ⟨_, _, rfl, rfl, .inr (.inl ⟨rfl, rfl⟩)⟩
        · exact ⟨_, _, rfl, rfl, .inr (.inr ⟨rfl, rfl⟩)⟩
      obtain ⟨hd, hd1, hk3⟩ := hv
      have HE2 := Lib.hid (HE.out.trans (congrArg (regFrom last) hd))
      have HD1 := Lib.hid hd1
      clear hd hd1 HE
      rcases hk3 with ⟨rfl, rfl⟩ | ⟨rfl, rfl⟩ | ⟨rfl, rfl⟩
      · by_cases hr : inR x.act 0 1000000000000 = true
        · by_cases hz : x.act = 0
          · have b1 : (x.act != 0) = false := by simp [hz]
            have b2 : (x.act == 0) = true := by simp [hz]
            have b5 : x.act ≤ last := by omega
            have HZ := Lib.hid hz
            clear hz
            go_wp2_with (first
              | (go_at_call 85; refine (inRange_any _ _ _ _).mono ?_; rintro e w1 ⟨rfl, rfl⟩)
              | (go_at_call 89; refine (implName_any _ _ hs).mono ?_; rintro e w1 ⟨rfl, rfl⟩))
            go_round
            case rel => first | exact ⟨1, _, by omega, rfl, rfl, (by have := HZ.out; omega), HE2.out.trans (by rw [← HD1.out]; exact regFrom_ok hr (.inl HZ.out) (by have := HZ.out; omega))⟩ | exact ⟨2, _, by omega, rfl, rfl, (by have := HZ.out; omega), HE2.out.trans (by rw [← HD1.out]; exact regFrom_ok hr (.inl HZ.out) (by have := HZ.out; omega))⟩ | exact ⟨3, _, by omega, rfl, rfl, (by have := HZ.out; omega), HE2.out.trans (by rw [← HD1.out]; exact regFrom_ok hr (.inl HZ.out) (by have := HZ.out; omega))⟩
            case measure => simp [intOf]
          · have b1 : (x.act != 0) = true := by simp [hz]
            have b2 : (x.act == 0) = false := by simp [hz]
            have HZ := Lib.hid hz
            clear hz
            by_cases hl : x.act ≤ last
            · have b3 : decide (x.act ≤ last) = true := by simp [hl]
              go_wp2_with (first
                | (go_at_call 85; refine (inRange_any _ _ _ _).mono ?_; rintro e w1 ⟨rfl, rfl⟩)
                | (go_at_call 89; refine (implName_any _ _ hs).mono ?_; rintro e w1 ⟨rfl, rfl⟩))
              go_ret
              exact ⟨ret_bool (by unfold isReg; rw [show regFrom 0 [x.act, x.wai, x.ins] = _ from HE2.out, regFrom_bad2 HZ.out hl]; rfl), (by repeat (first | with_reducible exact Below.refl _ _ | with_reducible assumption | with_reducible refine bel_alloc ?_ _ | with_reducible refine bel_drew ?_ | with_reducible refine bel_drewN ?_ _ | (with_reducible refine bel_set ?_ ?_ _; rotate_left; ((try simp); (try omega)))))⟩
            · have b3 : decide (x.act ≤ last) = false := by simp; omega
              have b4 : last < x.act := by omega
              go_wp2_with (first
                | (go_at_call 85; refine (inRange_any _ _ _ _).mono ?_; rintro e w1 ⟨rfl, rfl⟩)
                | (go_at_call 89; refine (implName_any _ _ hs).mono ?_; rintro e w1 ⟨rfl, rfl⟩))
              go_round
              case rel => first | exact ⟨1, _, by omega, rfl, rfl, by omega, HE2.out.trans (by rw [← HD1.out]; exact regFrom_ok hr (.inr b4) (by omega))⟩ | exact ⟨2, _, by omega, rfl, rfl, by omega, HE2.out.trans (by rw [← HD1.out]; exact regFrom_ok hr (.inr b4) (by omega))⟩ | exact ⟨3, _, by omega, rfl, rfl, by omega, HE2.out.trans (by rw [← HD1.out]; exact regFrom_ok hr (.inr b4) (by omega))⟩
              case measure => simp [intOf]
        · rw [Bool.not_eq_true] at hr
          go_wp2_with (first
            | (go_at_call 85; refine (inRange_any _ _ _ _).mono ?_; rintro e w1 ⟨rfl, rfl⟩)
            | (go_at_call 89; refine (implName_any _ _ hs).mono ?_; rintro e w1 ⟨rfl, rfl⟩))
          go_ret
          exact ⟨ret_bool (by unfold isReg; rw [show regFrom 0 [x.act, x.wai, x.ins] = _ from HE2.out, regFrom_bad1 (by simp [hr])]; rfl), (by repeat (first | with_reducible exact Below.refl _ _ | with_reducible assumption | with_reducible refine bel_alloc ?_ _ | with_reducible refine bel_drew ?_ | with_reducible refine bel_drewN ?_ _ | (with_reducible refine bel_set ?_ ?_ _; rotate_left; ((try simp); (try omega)))))⟩
      · by_cases hr : inR x.wai 0 1000000000000 = true
        · by_cases hz : x.wai = 0
          · have b1 : (x.wai != 0) = false := by simp [hz]
            have b2 : (x.wai == 0) = true := by simp [hz]
            have b5 : x.wai ≤ last := by omega
            have HZ := Lib.hid hz
            clear hz
            go_wp2_with (first
              | (go_at_call 85; refine (inRange_any _ _ _ _).mono ?_; rintro e w1 ⟨rfl, rfl⟩)
              | (go_at_call 89; refine (implName_any _ _ hs).mono ?_; rintro e w1 ⟨rfl, rfl⟩))
            go_round
            case rel => first | exact ⟨1, _, by omega, rfl, rfl, (by have := HZ.out; omega), HE2.out.trans (by rw [← HD1.out]; exact regFrom_ok hr (.inl HZ.out) (by have := HZ.out; omega))⟩ | exact ⟨2, _, by omega, rfl, rfl, (by have := HZ.out; omega), HE2.out.trans (by rw [← HD1.out]; exact regFrom_ok hr (.inl HZ.out) (by have := HZ.out; omega))⟩ | exact ⟨3, _, by omega, rfl, rfl, (by have := HZ.out; omega), HE2.out.trans (by rw [← HD1.out]; exact regFrom_ok hr (.inl HZ.out) (by have := HZ.out; omega))⟩
            case measure => simp [intOf]
          · have b1 : (x.wai != 0) = true := by simp [hz]
            have b2 : (x.wai == 0) = false := by simp [hz]
            have HZ := Lib.hid hz
            clear hz
            by_cases hl : x.wai ≤ last
            · have b3 : decide (x.wai ≤ last) = true := by simp [hl]
              go_wp2_with (first
                | (go_at_call 85; refine (inRange_any _ _ _ _).mono ?_; rintro e w1 ⟨rfl, rfl⟩)
                | (go_at_call 89; refine (implName_any _ _ hs).mono ?_; rintro e w1 ⟨rfl, rfl⟩))
              go_ret
              exact ⟨ret_bool (by unfold isReg; rw [show regFrom 0 [x.act, x.wai, x.ins] = _ from HE2.out, regFrom_bad2 HZ.out hl]; rfl), (by repeat (first | with_reducible exact Below.refl _ _ | with_reducible assumption | with_reducible refine bel_alloc ?_ _ | with_reducible refine bel_drew ?_ | with_reducible refine bel_drewN ?_ _ | (with_reducible refine bel_set ?_ ?_ _; rotate_left; ((try simp); (try omega)))))⟩
            · have b3 : decide (x.wai ≤ last) = false := by simp; omega
              have b4 : last < x.wai := by omega
              go_wp2_with (first
                | (go_at_call 85; refine (inRange_any _ _ _ _).mono ?_; rintro e w1 ⟨rfl, rfl⟩)
                | (go_at_call 89; refine (implName_any _ _ hs).mono ?_; rintro e w1 ⟨rfl, rfl⟩))
              go_round
              case rel => first | exact ⟨1, _, by omega, rfl, rfl, by omega, HE2.out.trans (by rw [← HD1.out]; exact regFrom_ok hr (.inr b4) (by omega))⟩ | exact ⟨2, _, by omega, rfl, rfl, by omega, HE2.out.trans (by rw [← HD1.out]; exact regFrom_ok hr (.inr b4) (by omega))⟩ | exact ⟨3, _, by omega, rfl, rfl, by omega, HE2.out.trans (by rw [← HD1.out]; exact regFrom_ok hr (.inr b4) (by omega))⟩
              case measure => simp [intOf]
        · rw [Bool.not_eq_true] at hr
          go_wp2_with (first
            | (go_at_call 85; refine (inRange_any _ _ _ _).mono ?_; rintro e w1 ⟨rfl, rfl⟩)
            | (go_at_call 89; refine (implName_any _ _ hs).mono ?_; rintro e w1 ⟨rfl, rfl⟩))
          go_ret
          exact ⟨ret_bool (by unfold isReg; rw [show regFrom 0 [x.act, x.wai, x.ins] = _ from HE2.out, regFrom_bad1 (by simp [hr])]; rfl), (by repeat (first | with_reducible exact Below.refl _ _ | with_reducible assumption | with_reducible refine bel_alloc ?_ _ | with_reducible refine bel_drew ?_ | with_reducible refine bel_drewN ?_ _ | (with_reducible refine bel_set ?_ ?_ _; rotate_left; ((try simp); (try omega)))))⟩
      · by_cases hr : inR x.ins 0 1000000000000 = true
        · by_cases hz : x.ins = 0
          · have b1 : (x.ins != 0) = false := by simp [hz]
            have b2 : (x.ins == 0) = true := by simp [hz]
            have b5 : x.ins ≤ last := by omega
            have HZ := Lib.hid hz
            clear hz
            go_wp2_with (first
              | (go_at_call 85; refine (inRange_any _ _ _ _).mono ?_; rintro e w1 ⟨rfl, rfl⟩)
              | (go_at_call 89; refine (implName_any _ _ hs).mono ?_; rintro e w1 ⟨rfl, rfl⟩))
            go_round
            case rel => first | exact ⟨1, _, by omega, rfl, rfl, (by have := HZ.out; omega), HE2.out.trans (by rw [← HD1.out]; exact regFrom_ok hr (.inl HZ.out) (by have := HZ.out; omega))⟩ | exact ⟨2, _, by omega, rfl, rfl, (by have := HZ.out; omega), HE2.out.trans (by rw [← HD1.out]; exact regFrom_ok hr (.inl HZ.out) (by have := HZ.out; omega))⟩ | exact ⟨3, _, by omega, rfl, rfl, (by have := HZ.out; omega), HE2.out.trans (by rw [← HD1.out]; exact regFrom_ok hr (.inl HZ.out) (by have := HZ.out; omega))⟩
            case measure => simp [intOf]
          · have b1 : (x.ins != 0) = true := by simp [hz]
            have b2 : (x.ins == 0) = false := by simp [hz]
            have HZ := Lib.hid hz
            clear hz
            by_cases hl : x.ins ≤ last
            · have b3 : decide (x.ins ≤ last) = true := by simp [hl]
              go_wp2_with (first
                | (go_at_call 85; refine (inRange_any _ _ _ _).mono ?_; rintro e w1 ⟨rfl, rfl⟩)
                | (go_at_call 89; refine (implName_any _ _ hs).mono ?_; rintro e w1 ⟨rfl, rfl⟩))
              go_ret
              exact ⟨ret_bool (by unfold isReg; rw [show regFrom 0 [x.act, x.wai, x.ins] = _ from HE2.out, regFrom_bad2 HZ.out hl]; rfl), (by repeat (first | with_reducible exact Below.refl _ _ | with_reducible assumption | with_reducible refine bel_alloc ?_ _ | with_reducible refine bel_drew ?_ | with_reducible refine bel_drewN ?_ _ | (with_reducible refine bel_set ?_ ?_ _; rotate_left; ((try simp); (try omega)))))⟩
            · have b3 : decide (x.ins ≤ last) = false := by simp; omega
              have b4 : last < x.ins := by omega
              go_wp2_with (first
                | (go_at_call 85; refine (inRange_any _ _ _ _).mono ?_; rintro e w1 ⟨rfl, rfl⟩)
                | (go_at_call 89; refine (implName_any _ _ hs).mono ?_; rintro e w1 ⟨rfl, rfl⟩))
              go_round
              case rel => first | exact ⟨1, _, by omega, rfl, rfl, by omega, HE2.out.trans (by rw [← HD1.out]; exact regFrom_ok hr (.inr b4) (by omega))⟩ | exact ⟨2, _, by omega, rfl, rfl, by omega, HE2.out.trans (by rw [← HD1.out]; exact regFrom_ok hr (.inr b4) (by omega))⟩ | exact ⟨3, _, by omega, rfl, rfl, by omega, HE2.out.trans (by rw [← HD1.out]; exact regFrom_ok hr (.inr b4) (by omega))⟩
              case measure => simp [intOf]
        · rw [Bool.not_eq_true] at hr
          go_wp2_with (first
            | (go_at_call 85; refine (inRange_any _ _ _ _).mono ?_; rintro e w1 ⟨rfl, rfl⟩)
            | (go_at_call 89; refine (implName_any _ _ hs).mono ?_; rintro e w1 ⟨rfl, rfl⟩))
          go_ret
          exact ⟨ret_bool (by unfold isReg; rw [show regFrom 0 [x.act, x.wai, x.ins] = _ from HE2.out, regFrom_bad1 (by simp [hr])]; rfl), (by repeat (first | with_reducible exact Below.refl _ _ | with_reducible assumption | with_reducible refine bel_alloc ?_ _ | with_reducible refine bel_drew ?_ | with_reducible refine bel_drewN ?_ _ | (with_reducible refine bel_set ?_ ?_ _; rotate_left; ((try simp); (try omega)))))⟩
set_option maxHeartbeats 1000000 in
theorem specRegOk_any (x : TReg) (w : World) (hs : x.site.size ≤ maxLen) : Calls Try.prog 88 #[x.val] w (Gives w (.bool (isReg x))) := by
  unfold TReg.val
  go_enter Try.func88, Try.ntmps88
  go_wp2
  go_loop [3, 5] (fun l i => ∃ (k : Nat) (last : Int), k ≤ 3 ∧ i = .int .i64 k ∧ l = .int .i64 last ∧ 0 ≤ last ∧ regFrom 0 (regVals x) = regFrom last ((regVals x).drop k)) (fun _ i => 3 - (intOf i).toNat)
  case atStart => exact ⟨0, 0, by omega, rfl, rfl, by omega, rfl⟩
  case round =>
    obtain ⟨k, last, hk, rfl, rfl, hl0, he⟩ := hrel
    have HE := Lib.hid he
    clear he
    by_cases h3 : k = 3
    · subst h3
      have HN := Lib.hid (show isReg x = isName x.site by unfold isReg; rw [show regFrom 0 [x.act, x.wai, x.ins] = true from HE.out]; rfl)
      go_wp2_with (first
        | (go_at_call 79; refine (l1In_any _ _ _ _).mono ?_; rintro e w1 ⟨rfl, rfl⟩)
        | (go_at_call 78; refine (specName_any _ _ hs).mono ?_; rintro e w1 ⟨rfl, rfl⟩))
      go_ret
      exact ⟨ret_bool HN.out.symm, (by repeat (first | with_reducible exact Below.refl _ _ | with_reducible assumption | with_reducible refine bel_alloc ?_ _ | with_reducible refine bel_drew ?_ | with_reducible refine bel_drewN ?_ _ | (with_reducible refine bel_set ?_ ?_ _; rotate_left; ((try simp); (try omega)))))⟩
    · obtain ⟨v, vs, hv⟩ : ∃ v vs, (regVals x).drop k = v :: vs ∧ (regVals x).drop (k + 1) = vs ∧ (k = 0 ∧ v = x.act ∨ k = 1 ∧ v = x.wai ∨ k = 2 ∧ v = x.ins) := by
        have : k = 0 ∨ k = 1 ∨ k = 2 := by omega
        rcases this with rfl | rfl | rfl
        · exact ⟨_, _, rfl, rfl, .inl ⟨rfl, rfl⟩⟩
        · exact ⟨_, _, rfl, rfl, .inr (.inl ⟨rfl, rfl⟩)⟩
        · exact ⟨_, _, rfl, rfl, .inr (.inr ⟨rfl, rfl⟩)⟩
      obtain ⟨hd, hd1, hk3⟩ := hv
      have HE2 := Lib.hid (HE.out.trans (congrArg (regFrom last) hd))
      have HD1 := Lib.hid hd1
      clear hd hd1 HE
      rcases hk3 with ⟨rfl, rfl⟩ | ⟨rfl, rfl⟩ | ⟨rfl, rfl⟩
      · by_cases hr : inR x.act 0 1000000000000 = true
        · by_cases hz : x.act = 0
          · have b1 : (x.act != 0) = false := by simp [hz]
            have b2 : (x.act == 0) = true := by simp [hz]
            have b5 : x.act ≤ last := by omega
            have HZ := Lib.hid hz
            clear hz
            go_wp2_with (first
              | (go_at_call 79; refine (l1In_any _ _ _ _).mono ?_; rintro e w1 ⟨rfl, rfl⟩)
              | (go_at_call 78; refine (specName_any _ _ hs).mono ?_; rintro e w1 ⟨rfl, rfl⟩))
            go_round
            case rel => first | exact ⟨1, _, by omega, rfl, rfl, (by have := HZ.out; omega), HE2.out.trans (by rw [← HD1.out]; exact regFrom_ok hr (.inl HZ.out) (by have := HZ.out; omega))⟩ | exact ⟨2, _, by omega, rfl, rfl, (by have := HZ.out; omega), HE2.out.trans (by rw [← HD1.out]; exact regFrom_ok hr (.inl HZ.out) (by have := HZ.out; omega))⟩ | exact ⟨3, _, by omega, rfl, rfl, (by have := HZ.out; omega), HE2.out.trans (by rw [← HD1.out]; exact regFrom_ok hr (.inl HZ.out) (by have := HZ.out; omega))⟩
            case measure => simp [intOf]
          · have b1 : (x.act != 0) = true := by simp [hz]
            have b2 : (x.act == 0) = false := by simp [hz]
            have HZ := Lib.hid hz
            clear hz
            by_cases hl : x.act ≤ last
            · have b3 : decide (x.act ≤ last) = true := by simp [hl]
              go_wp2_with (first
                | (go_at_call 79; refine (l1In_any _ _ _ _).mono ?_; rintro e w1 ⟨rfl, rfl⟩)
                | (go_at_call 78; refine (specName_any _ _ hs).mono ?_; rintro e w1 ⟨rfl, rfl⟩))
              go_ret
              exact ⟨ret_bool (by unfold isReg; rw [show regFrom 0 [x.act, x.wai, x.ins] = _ from HE2.out, regFrom_bad2 HZ.out hl]; rfl), (by repeat (first | with_reducible exact Below.refl _ _ | with_reducible assumption | with_reducible refine bel_alloc ?_ _ | with_reducible refine bel_drew ?_ | with_reducible refine bel_drewN ?_ _ | (with_reducible refine bel_set ?_ ?_ _; rotate_left; ((try simp); (try omega)))))⟩
            · have b3 : decide (x.act ≤ last) = false := by simp; omega
              have b4 : last < x.act := by omega
              go_wp2_with (first
                | (go_at_call 79; refine (l1In_any _ _ _ _).mono ?_; rintro e w1 ⟨rfl, rfl⟩)
                | (go_at_call 78; refine (specName_any _ _ hs).mono ?_; rintro e w1 ⟨rfl, rfl⟩))
              go_round
              case rel => first | exact ⟨1, _, by omega, rfl, rfl, by omega, HE2.out.trans (by rw [← HD1.out]; exact regFrom_ok hr (.inr b4) (by omega))⟩ | exact ⟨2, _, by omega, rfl, rfl, by omega, HE2.out.trans (by rw [← HD1.out]; exact regFrom_ok hr (.inr b4) (by omega))⟩ | exact ⟨3, _, by omega, rfl, rfl, by omega, HE2.out.trans (by rw [← HD1.out]; exact regFrom_ok hr (.inr b4) (by omega))⟩
              case measure => simp [intOf]
        · rw [Bool.not_eq_true] at hr
          go_wp2_with (first
            | (go_at_call 79; refine (l1In_any _ _ _ _).mono ?_; rintro e w1 ⟨rfl, rfl⟩)
            | (go_at_call 78; refine (specName_any _ _ hs).mono ?_; rintro e w1 ⟨rfl, rfl⟩))
          go_ret
          exact ⟨ret_bool (by unfold isReg; rw [show regFrom 0 [x.act, x.wai, x.ins] = _ from HE2.out, regFrom_bad1 (by simp [hr])]; rfl), (by repeat (first | with_reducible exact Below.refl _ _ | with_reducible assumption | with_reducible refine bel_alloc ?_ _ | with_reducible refine bel_drew ?_ | with_reducible refine bel_drewN ?_ _ | (with_reducible refine bel_set ?_ ?_ _; rotate_left; ((try simp); (try omega)))))⟩
      · by_cases hr : inR x.wai 0 1000000000000 = true
        · by_cases hz : x.wai = 0
          · have b1 : (x.wai != 0) = false := by simp [hz]
            have b2 : (x.wai == 0) = true := by simp [hz]
            have b5 : x.wai ≤ last := by omega
            have HZ := Lib.hid hz
            clear hz
            go_wp2_with (first
              | (go_at_call 79; refine (l1In_any _ _ _ _).mono ?_; rintro e w1 ⟨rfl, rfl⟩)
              | (go_at_call 78; refine (specName_any _ _ hs).mono ?_; rintro e w1 ⟨rfl, rfl⟩))
            go_round
            case rel => first | exact ⟨1, _, by omega, rfl, rfl, (by have := HZ.out; omega), HE2.out.trans (by rw [← HD1.out]; exact regFrom_ok hr (.inl HZ.out) (by have := HZ.out; omega))⟩ | exact ⟨2, _, by omega, rfl, rfl, (by have := HZ.out; omega), HE2.out.trans (by rw [← HD1.out]; exact regFrom_ok hr (.inl HZ.out) (by have := HZ.out; omega))⟩ | exact ⟨3, _, by omega, rfl, rfl, (by have := HZ.out; omega), HE2.out.trans (by rw [← HD1.out]; exact regFrom_ok hr (.inl HZ.out) (by have := HZ.out; omega))⟩
            case measure => simp [intOf]
          · have b1 : (x.wai != 0) = true := by simp [hz]
            have b2 : (x.wai == 0) = false := by simp [hz]
            have HZ := Lib.hid hz
            clear hz
            by_cases hl : x.wai ≤ last
            · have b3 : decide (x.wai ≤ last) = true := by simp [hl]
              go_wp2_with (first
                | (go_at_call 79; refine (l1In_any _ _ _ _).mono ?_; rintro e w1 ⟨rfl, rfl⟩)
                | (go_at_call 78; refine (specName_any _ _ hs).mono ?_; rintro e w1 ⟨rfl, rfl⟩))
              go_ret
              exact ⟨ret_bool (by unfold isReg; rw [show regFrom 0 [x.act, x.wai, x.ins] = _ from HE2.out, regFrom_bad2 HZ.out hl]; rfl), (by repeat (first | with_reducible exact Below.refl _ _ | with_reducible assumption | with_reducible refine bel_alloc ?_ _ | with_reducible refine bel_drew ?_ | with_reducible refine bel_drewN ?_ _ | (with_reducible refine bel_set ?_ ?_ _; rotate_left; ((try simp); (try omega)))))⟩
            · have b3 : decide (x.wai ≤ last) = false := by simp; omega
              have b4 : last < x.wai := by omega
              go_wp2_with (first
                | (go_at_call 79; refine (l1In_any _ _ _ _).mono ?_; rintro e w1 ⟨rfl, rfl⟩)
                | (go_at_call 78; refine (specName_any _ _ hs).mono ?_; rintro e w1 ⟨rfl, rfl⟩))
              go_round
              case rel => first | exact ⟨1, _, by omega, rfl, rfl, by omega, HE2.out.trans (by rw [← HD1.out]; exact regFrom_ok hr (.inr b4) (by omega))⟩ | exact ⟨2, _, by omega, rfl, rfl, by omega, HE2.out.trans (by rw [← HD1.out]; exact regFrom_ok hr (.inr b4) (by omega))⟩ | exact ⟨3, _, by omega, rfl, rfl, by omega, HE2.out.trans (by rw [← HD1.out]; exact regFrom_ok hr (.inr b4) (by omega))⟩
              case measure => simp [intOf]
        · rw [Bool.not_eq_true] at hr
          go_wp2_with (first
            | (go_at_call 79; refine (l1In_any _ _ _ _).mono ?_; rintro e w1 ⟨rfl, rfl⟩)
            | (go_at_call 78; refine (specName_any _ _ hs).mono ?_; rintro e w1 ⟨rfl, rfl⟩))
          go_ret
          exact ⟨ret_bool (by unfold isReg; rw [show regFrom 0 [x.act, x.wai, x.ins] = _ from HE2.out, regFrom_bad1 (by simp [hr])]; rfl), (by repeat (first | with_reducible exact Below.refl _ _ | with_reducible assumption | with_reducible refine bel_alloc ?_ _ | with_reducible refine bel_drew ?_ | with_reducible refine bel_drewN ?_ _ | (with_reducible refine bel_set ?_ ?_ _; rotate_left; ((try simp); (try omega)))))⟩
      · by_cases hr : inR x.ins 0 1000000000000 = true
        · by_cases hz : x.ins = 0
          · have b1 : (x.ins != 0) = false := by simp [hz]
            have b2 : (x.ins == 0) = true := by simp [hz]
            have b5 : x.ins ≤ last := by omega
            have HZ := Lib.hid hz
            clear hz
            go_wp2_with (first
              | (go_at_call 79; refine (l1In_any _ _ _ _).mono ?_; rintro e w1 ⟨rfl, rfl⟩)
              | (go_at_call 78; refine (specName_any _ _ hs).mono ?_; rintro e w1 ⟨rfl, rfl⟩))
            go_round
            case rel => first | exact ⟨1, _, by omega, rfl, rfl, (by have := HZ.out; omega), HE2.out.trans (by rw [← HD1.out]; exact regFrom_ok hr (.inl HZ.out) (by have := HZ.out; omega))⟩ | exact ⟨2, _, by omega, rfl, rfl, (by have := HZ.out; omega), HE2.out.trans (by rw [← HD1.out]; exact regFrom_ok hr (.inl HZ.out) (by have := HZ.out; omega))⟩ | exact ⟨3, _, by omega, rfl, rfl, (by have := HZ.out; omega), HE2.out.trans (by rw [← HD1.out]; exact regFrom_ok hr (.inl HZ.out) (by have := HZ.out; omega))⟩
            case measure => simp [intOf]
          · have b1 : (x.ins != 0) = true := by simp [hz]
            have b2 : (x.ins == 0) = false := by simp [hz]
            have HZ := Lib.hid hz
            clear hz
            by_cases hl : x.ins ≤ last
            · have b3 : decide (x.ins ≤ last) = true := by simp [hl]
              go_wp2_with (first
                | (go_at_call 79; refine (l1In_any _ _ _ _).mono ?_; rintro e w1 ⟨rfl, rfl⟩)
                | (go_at_call 78; refine (specName_any _ _ hs).mono ?_; rintro e w1 ⟨rfl, rfl⟩))
              go_ret
              exact ⟨ret_bool (by unfold isReg; rw [show regFrom 0 [x.act, x.wai, x.ins] = _ from HE2.out, regFrom_bad2 HZ.out hl]; rfl), (by repeat (first | with_reducible exact Below.refl _ _ | with_reducible assumption | with_reducible refine bel_alloc ?_ _ | with_reducible refine bel_drew ?_ | with_reducible refine bel_drewN ?_ _ | (with_reducible refine bel_set ?_ ?_ _; rotate_left; ((try simp); (try omega)))))⟩
            · have b3 : decide (x.ins ≤ last) = false := by simp; omega
              have b4 : last < x.ins := by omega
              go_wp2_with (first
                | (go_at_call 79; refine (l1In_any _ _ _ _).mono ?_; rintro e w1 ⟨rfl, rfl⟩)
                | (go_at_call 78; refine (specName_any _ _ hs).mono ?_; rintro e w1 ⟨rfl, rfl⟩))
              go_round
              case rel => first | exact ⟨1, _, by omega, rfl, rfl, by omega, HE2.out.trans (by rw [← HD1.out]; exact regFrom_ok hr (.inr b4) (by omega))⟩ | exact ⟨2, _, by omega, rfl, rfl, by omega, HE2.out.trans (by rw [← HD1.out]; exact regFrom_ok hr (.inr b4) (by omega))⟩ | exact ⟨3, _, by omega, rfl, rfl, by omega, HE2.out.trans (by rw [← HD1.out]; exact regFrom_ok hr (.inr b4) (by omega))⟩
              case measure => simp [intOf]
        · rw [Bool.not_eq_true] at hr
          go_wp2_with (first
            | (go_at_call 79; refine (l1In_any _ _ _ _).mono ?_; rintro e w1 ⟨rfl, rfl⟩)
            | (go_at_call 78; refine (specName_any _ _ hs).mono ?_; rintro e w1 ⟨rfl, rfl⟩))
          go_ret
          exact ⟨ret_bool (by unfold isReg; rw [show regFrom 0 [x.act, x.wai, x.ins] = _ from HE2.out, regFrom_bad1 (by simp [hr])]; rfl), (by repeat (first | with_reducible exact Below.refl _ _ | with_reducible assumption | with_reducible refine bel_alloc ?_ _ | with_reducible refine bel_drew ?_ | with_reducible refine bel_drewN ?_ _ | (with_reducible refine bel_set ?_ ?_ _; rotate_left; ((try simp); (try omega)))))⟩
theorem implIsRegistration_any (vs : Array Value) (x : TReg) (F : List Nat) (w : World) (h : cReg.rep w vs.toList x F) (_hn : cReg.sz x ≤ 1048576) :
    Calls Try.prog 33 #[.agg vs] w (Gives w (.bool (isReg x))) := by
  rw [TReg.val_of h]
  exact implRegOk_any x w (TReg.out h).2.2.h0
theorem specIsRegistration_any (vs : Array Value) (x : TReg) (F : List Nat) (w : World) (h : cReg.rep w vs.toList x F) (_hn : cReg.sz x ≤ 1048576) :
    Calls Try.prog 88 #[.agg vs] w (Gives w (.bool (isReg x))) := by
  rw [TReg.val_of h]
  exact specRegOk_any x w (TReg.out h).2.2.h0
end Go.Proofs.Yteipaolcmjfhdaa
