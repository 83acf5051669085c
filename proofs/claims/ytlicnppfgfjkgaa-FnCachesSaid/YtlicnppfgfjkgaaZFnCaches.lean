/-
  The law FnCaches: a stored response is found in its version only, and a dropped cache has none. No conditions.
-/
import Derived.Test.YtlicnppfgfjkgaaRows
import Derived.Test.YtlicnppfgfjkgaaZDrawSet3
import Derived.Test.YtlicnppfgfjkgaaZInstLaw
import Derived.Test.YtlicnppfgfjkgaaZSetAt
import Derived.Test.YtlicnppfgfjkgaaZAtFn
import Derived.Test.YtlicnppfgfjkgaaZRespEq
import Derived.Test.YtlicnppfgfjkgaaZSizeCs
namespace Go.Proofs.Ytlicnppfgfjkgaa
open Go.ChangeShapes Go.WideShapes Go.RowKit
set_option linter.unusedVariables false

set_option maxRecDepth 100000 in
set_option maxHeartbeats 8000000 in
theorem lawCaches_any (v0 : Value) (xs : List UInt8) (F0 : List Nat) (w : World) (h : cUS.rep w [v0] xs F0) :
    Calls Try.prog 6 #[v0] w (Gives w (.bool true)) := by
  obtain ⟨A0, cp0, rfl⟩ := cL_form h
  have HR := Lib.hid h
  clear h
  by_cases hbig : (1048576 : Int) < xs.length
  · have hd : decide ((1048576 : Int) < xs.length) = true := by simpa using hbig
    go_enter Try.func6, Try.ntmps6
    go_wp2_with (go_at_call 10; refine (big_any _ _ _ _).mono ?_; rw [hd]; rintro e w1 ⟨rfl, rfl⟩)
    go_ret
    exact ⟨rfl, (by repeat (first | with_reducible exact Below.refl _ _ | with_reducible assumption | with_reducible refine bel_alloc ?_ _ | with_reducible refine bel_drew ?_ | with_reducible refine bel_drewN ?_ _ | (with_reducible refine bel_set ?_ ?_ _; rotate_left; ((try simp); (try omega)))))⟩
  · have hn : xs.length ≤ 1048576 := by omega
    have hd : decide ((1048576 : Int) < xs.length) = false := by simpa using hbig
    go_enter Try.func6, Try.ntmps6
    go_wp2_with (go_at_call 10; refine (big_any _ _ _ _).mono ?_; rw [hd]; rintro e w1 ⟨rfl, rfl⟩)
    clear hbig hd
    refine (drawStoreResponse_any _ xs F0 _ (Cod.bel HR.out (by repeat (first | with_reducible exact Below.refl _ _ | with_reducible assumption | with_reducible refine bel_alloc ?_ _ | with_reducible refine bel_drew ?_ | with_reducible refine bel_drewN ?_ _ | (with_reducible refine bel_set ?_ ?_ _; rotate_left; ((try simp); (try omega)))))) hn).mono ?_
    rintro e w1 ⟨s, A, cp, F1, v, st, pa, vs, y, G, rfl, hb1, hr1, hu, hsz, hv1, hv2, hst, hpa, hyz, -, -⟩
    obtain ⟨U, cu, rfl, -, -⟩ := resp_form hu
    have hB1 : Below w.heap.size w w1 := bel_then (by repeat (first | with_reducible exact Below.refl _ _ | with_reducible assumption | with_reducible refine bel_alloc ?_ _ | with_reducible refine bel_drew ?_ | with_reducible refine bel_drewN ?_ _ | (with_reducible refine bel_set ?_ ?_ _; rotate_left; ((try simp); (try omega))))) hb1
    clear hb1
    have hstm : st.size ≤ maxLen := by unfold maxLen; omega
    have hpam : pa.size ≤ maxLen := by unfold maxLen; omega
    go_upto_region 4 with (fail)
    generalize hX : World.alloc w1 _ = X
    generalize hW : World.alloc X _ = W
    have hbX : Below w1.heap.size w1 X := by rw [← hX]; exact bel_one _ _
    have hbW : Below X.heap.size X W := by rw [← hW]; exact bel_one _ _
    have hXs : X.heap.size = w1.heap.size + 1 := by rw [← hX]; clear hX; simp
    have hA : SetAt X w1.heap.size s A cp F1 := by rw [← hX]; exact SetAt.new _ hr1
    have hY : RespAt W X.heap.size y U cu G := by rw [← hW]; exact RespAt.new _ (Cod.bel hu hbX)
    rw [hXs] at hY
    obtain ⟨sb, hsb⟩ : ∃ sb, w1.heap.size = sb := ⟨_, rfl⟩
    have hBW : Below w.heap.size w W := bel_then (bel_then hB1 hbX) hbW
    have hsbw : w.heap.size ≤ sb := by have := hB1.size; omega
    rw [hsb] at hA hY ⊢
    have HA := Lib.hid (hA.bel hbW)
    have HY := Lib.hid hY
    clear hX hW hbX hXs hA hY hbW hB1 hr1 hu hsb
    have q0 := HA.out.c
    have y0 := HY.out.c0; have y1 := HY.out.c1; have y2 := HY.out.c2; have y3 := HY.out.c3; have y4 := HY.out.c4
    have hzs := storeResponse_sz s v st pa y
    have hci := fun W9 (hb : Below W.heap.size W W9) => implStoreResponse_any _ s F1 v st pa _ y G W9 (by exact (HA.out.bel hb).r) (by omega) (by omega) hstm hpam (by exact (HY.out.bel hb).r) (by omega)
    have hcs := fun W9 (hb : Below W.heap.size W W9) => specStoreResponse_any _ s F1 v st pa _ y G W9 (by exact (HA.out.bel hb).r) (by omega) (by omega) hstm hpam (by exact (HY.out.bel hb).r) (by omega)
    have hL := fun h9 => store_law (s := s) (v := v) (st := st) (pa := pa) (x := y) h9
    have hM := fun h9 => store_match (s := s) (v := v) (st := st) (pa := pa) (x := y) h9
    have hO := fun h9 u (hu : u ≠ v) => store_match_off (s := s) (v := v) (u := u) (st := st) (pa := pa) (x := y) h9 hu st pa
    have hF := fun h9 => store_failed (s := s) (v := v) (st := st) (pa := pa) (x := y) h9
    obtain ⟨z, hz⟩ : ∃ z, (storeResponse s v st pa y).1 = z := ⟨_, rfl⟩
    obtain ⟨ok, hok⟩ : ∃ ok, (storeResponse s v st pa y).2 = ok := ⟨_, rfl⟩
    rw [hz, hok] at hci hcs hL
    rw [hz, hok] at hM hO hF
    rw [hz] at hzs
    have HC := Lib.hid (And.intro hci hcs)
    have HL := Lib.hid (And.intro hL (And.intro hM (And.intro hO hF)))
    clear hci hcs hL hM hO hF hz hok
    go_wp2_with fail
    refine (HC.out.1 _ (Below.refl _ _)).mono ?_
    rintro e w2 ⟨vs2, F2, rfl, hb2, hr2, -⟩
    obtain ⟨A2, cp2, rfl⟩ := set_form hr2
    go_upto_region 5 with (fail)
    generalize hX : World.alloc w2 _ = X
    have hbX : Below w2.heap.size w2 X := by rw [← hX]; exact bel_one _ _
    have hZ : SetAt X w2.heap.size z A2 cp2 F2 := by rw [← hX]; exact SetAt.new _ hr2
    obtain ⟨zb, hzb⟩ : ∃ zb, w2.heap.size = zb := ⟨_, rfl⟩
    have hbWX : Below W.heap.size W X := bel_then hb2 hbX
    have hzbw : sb + 1 < zb := by have := hb2.size; have := HY.out.lt; omega
    rw [hzb] at hZ ⊢
    have HZ := Lib.hid hZ
    have HA2 := Lib.hid (HA.out.bel hbWX)
    have HY2 := Lib.hid (HY.out.bel hbWX)
    clear hX hZ hr2 hb2 hzb hbX q0 y0 y1 y2 y3 y4
    have q0 := HA2.out.c
    have y0 := HY2.out.c0; have y1 := HY2.out.c1; have y2 := HY2.out.c2; have y3 := HY2.out.c3; have y4 := HY2.out.c4
    go_wp2_with fail
    refine (HC.out.2 _ hbWX).mono ?_
    rintro e w3 ⟨vs3, F3, rfl, hb3, hr3, -⟩
    obtain ⟨A3, cp3, rfl⟩ := set_form hr3
    go_upto_region 6 with (fail)
    generalize hW3 : World.alloc w3 _ = W3
    have hbW3 : Below X.heap.size X W3 := by rw [← hW3]; exact bel_alloc hb3 _
    have hBW3 : Below w.heap.size w W3 := bel_then (bel_then hBW hbWX) hbW3
    have HA3 := Lib.hid (HA2.out.bel hbW3)
    have HY3 := Lib.hid (HY2.out.bel hbW3)
    have HZ3 := Lib.hid (HZ.out.bel hbW3)
    clear HA HY HA2 HY2 HZ hb3 hr3 hW3 HC hbWX hbW3 hBW q0 y0 y1 y2 y3 y4
    have q0 := HA3.out.c
    have z0 := HZ3.out.c
    have hzsz : cCSet.sz z ≤ 1048576 := by omega
    have hnb : ∀ b : Bool, (b != b) = false := fun b => by cases b <;> rfl
    cases ok
    · have hzs := HL.out.2.2.2 rfl
      subst hzs
      go_wp2_with fail
      refine (implEqualCacheSets_any _ _ F2 _ _ F1 _ (by exact HZ3.out.r) hzsz (by exact HA3.out.r) (by omega)).mono ?_
      rw [cachesEq_self]
      rintro e w4 ⟨rfl, hb4⟩
      go_wp2_with fail
      go_ret
      exact ⟨rfl, bel_then hBW3 hb4⟩
    · obtain ⟨l1, l2, l3, l4, l5, l6⟩ := HL.out.1 rfl
      have hM := HL.out.2.1 rfl
      have hO := HL.out.2.2.1 rfl
      have hds := dropCache_sz z v
      have hmz := matchCache_sz z v st pa
      have hcm := fun W9 (hb : Below W3.heap.size W3 W9) u (hu : (-9223372036854775808 : Int) ≤ u ∧ u ≤ 9223372036854775807) => implMatchCache_any _ z F2 u st pa W9 (by exact (HZ3.out.bel hb).r) hzsz hu hstm hpam
      have hcn := fun W9 (hb : Below W3.heap.size W3 W9) u (hu : (-9223372036854775808 : Int) ≤ u ∧ u ≤ 9223372036854775807) => implMatchCache_any _ s F1 u st pa W9 (by exact (HA3.out.bel hb).r) (by omega) hu hstm hpam
      have hcd := fun W9 (hb : Below W3.heap.size W3 W9) => implDropCache_any _ z F2 v W9 (by exact (HZ3.out.bel hb).r) hzsz (by omega)
      have HC := Lib.hid (And.intro hcm (And.intro hcn hcd))
      have HO := Lib.hid hO
      clear hcm hcn hcd HL hO
      go_wp2_with fail
      refine (HC.out.1 _ (Below.refl _ _) v (by omega)).mono ?_
      rw [hM]
      rintro e w4 ⟨vs4, F4, rfl, hb4, hr4, -⟩
      obtain ⟨A4, cp4, rfl, -, -⟩ := resp_form hr4
      go_upto_region 11 with (fail)
      generalize hX : World.alloc w4 _ = X4
      have hbX : Below w4.heap.size w4 X4 := by rw [← hX]; exact bel_one _ _
      have hP : RespAt X4 w4.heap.size y A4 cp4 F4 := by rw [← hX]; exact RespAt.new _ hr4
      obtain ⟨rb, hrb⟩ : ∃ rb, w4.heap.size = rb := ⟨_, rfl⟩
      have hb34 : Below W3.heap.size W3 X4 := bel_then hb4 hbX
      have hrbw : zb < rb := by have := hb4.size; have := HZ3.out.lt; omega
      rw [hrb] at hP ⊢
      have HP := Lib.hid hP
      clear hX hbX hP hrb hb4 hr4 q0 z0
      have z0 := (HZ3.out.bel hb34).c
      go_wp2_with fail
      refine (HC.out.2.2 _ hb34).mono ?_
      obtain ⟨d, hd⟩ : ∃ d, (dropCache z v).1 = d := ⟨_, rfl⟩
      rw [hd] at hds l3 l4 l5 l6 ⊢
      rw [l2]
      clear hd l2
      rintro e w5 ⟨vs5, F5, rfl, hb5, hr5, -⟩
      obtain ⟨A5, cp5, rfl⟩ := set_form hr5
      go_upto_region 12 with (fail)
      generalize hX : World.alloc w5 _ = X5
      have hbX : Below w5.heap.size w5 X5 := by rw [← hX]; exact bel_one _ _
      have hD : SetAt X5 w5.heap.size d A5 cp5 F5 := by rw [← hX]; exact SetAt.new _ hr5
      obtain ⟨db, hdb⟩ : ∃ db, w5.heap.size = db := ⟨_, rfl⟩
      have hb45 : Below X4.heap.size X4 X5 := bel_then hb5 hbX
      have hb35 : Below W3.heap.size W3 X5 := bel_then hb34 hb45
      have hdbw : rb < db := by have := hb5.size; have := HP.out.lt; omega
      rw [hdb] at hD ⊢
      have HP5 := Lib.hid (HP.out.bel hb45)
      have HD := Lib.hid hD
      clear hX hbX hD hdb hb5 hr5 z0 HP hb45 hb34
      have d0 := HD.out.c
      go_wp2_with fail
      refine (implMatchCache_any _ d F5 v st pa _ (by exact HD.out.r) (by omega) (by omega) hstm hpam).mono ?_
      rw [l5]
      rintro e w6 ⟨vs6, F6, rfl, hb6, hr6, -⟩
      obtain ⟨A6, cp6, rfl, -, -⟩ := resp_form hr6
      go_upto_region 13 with (fail)
      generalize hX : World.alloc w6 _ = X6
      have hb56 : Below X5.heap.size X5 X6 := by rw [← hX]; exact bel_alloc hb6 _
      have hb36 : Below W3.heap.size W3 X6 := bel_then hb35 hb56
      have HP6 := Lib.hid (HP5.out.bel hb56)
      have HD6 := Lib.hid (HD.out.bel hb56)
      have HZ6 := Lib.hid (HZ3.out.bel hb36)
      have HA6 := Lib.hid (HA3.out.bel hb36)
      have HY6 := Lib.hid (HY3.out.bel hb36)
      have hBw6 : Below w.heap.size w X6 := bel_then hBW3 hb36
      clear hX hb56 hr6 hb6 hb35 HP5 HD d0 HA3 HZ3 HY3
      go_wp2_with fail
      go_loopw [18] (fun i wr => ∃ k : Nat, i = .int .i64 k ∧ 1 ≤ k ∧ k ≤ 6 ∧ Below X6.heap.size X6 wr) (fun i _ => 6 - (intOf i).toNat)
      case atStart => exact ⟨1, rfl, by omega, by omega, Below.refl _ _⟩
      case round =>
        obtain ⟨k, rfl, hk1, hk6, hB⟩ := hrel
        by_cases hlt : k < 6
        · have hki : (k : Int) < 6 := by omega
          have z0 := (HZ6.out.bel hB).c
          have s0 := (HA6.out.bel hB).c
          have hbr : Below W3.heap.size W3 wr := bel_then hb36 hB
          go_wp2_with fail
          refine (HC.out.1 _ hbr k (by omega)).mono ?_
          rintro e u1 ⟨vs7, F7, rfl, hb7, hr7, -⟩
          obtain ⟨A7, cp7, rfl, -, -⟩ := resp_form hr7
          go_upto_region 17 with (fail)
          generalize hX : World.alloc u1 _ = U1
          have hbX : Below u1.heap.size u1 U1 := by rw [← hX]; exact bel_one _ _
          have hP7 : RespAt U1 u1.heap.size (matchCache z k st pa).1 A7 cp7 F7 := by rw [← hX]; exact RespAt.new _ hr7
          obtain ⟨ab, hab⟩ : ∃ ab, u1.heap.size = ab := ⟨_, rfl⟩
          have hB1 : Below X6.heap.size X6 U1 := bel_then hB (bel_then hb7 hbX)
          rw [hab] at hP7 ⊢
          have HP7 := Lib.hid hP7
          clear hX hbX hP7 hab hr7 hb7 z0 s0 hbr
          have s0 := (HA6.out.bel hB1).c
          go_wp2_with fail
          refine (HC.out.2.1 _ (bel_then hb36 hB1) k (by omega)).mono ?_
          rintro e u2 ⟨vs8, F8, rfl, hb8, hr8, -⟩
          obtain ⟨A8, cp8, rfl, -, -⟩ := resp_form hr8
          go_upto_region 18 with (fail)
          generalize hX : World.alloc u2 _ = U2
          have hbX : Below u2.heap.size u2 U2 := by rw [← hX]; exact bel_one _ _
          have hP8 : RespAt U2 u2.heap.size (matchCache s k st pa).1 A8 cp8 F8 := by rw [← hX]; exact RespAt.new _ hr8
          obtain ⟨bb, hbb⟩ : ∃ bb, u2.heap.size = bb := ⟨_, rfl⟩
          have hb12 : Below U1.heap.size U1 U2 := bel_then hb8 hbX
          have hB2 : Below X6.heap.size X6 U2 := bel_then hB1 hb12
          rw [hbb] at hP8 ⊢
          have HP8 := Lib.hid hP8
          have HP7 := Lib.hid (HP7.out.bel hb12)
          clear hX hbX hP8 hbb hr8 hb8 s0 hb12 hB1
          by_cases hkv : (k : Int) = v
          · have hv9 : ((k : Int) != v) = false := by simpa using hkv
            go_wp2_with fail
            go_roundw
            case rel => exact ⟨k + 1, by go_num, by omega, by omega, hB2⟩
            case measure => simp [intOf]; omega
          · have hv9 : ((k : Int) != v) = true := by simpa using hkv
            have hms := matchCache_sz s k st pa
            have hE := HO.out k hkv
            rw [hE] at HP7 ⊢
            generalize (matchCache s k st pa).1 = m at *
            generalize (matchCache s k st pa).2 = mo at *
            clear hE
            have a0 := HP7.out.c0; have a1 := HP7.out.c1; have a2 := HP7.out.c2; have a3 := HP7.out.c3; have a4 := HP7.out.c4
            have b0 := HP8.out.c0; have b1 := HP8.out.c1; have b2 := HP8.out.c2; have b3 := HP8.out.c3; have b4 := HP8.out.c4
            cases mo
            all_goals go_wp2_with (go_at_call 27; refine (implEqualResponses_any _ m _ _ m _ _ (by exact HP7.out.r) (by omega) (by exact HP8.out.r) (by omega)).mono ?_; rw [respEqSelf]; rintro e u3 ⟨rfl, hb9⟩; have hB3 : Below X6.heap.size X6 u3 := bel_then hB2 hb9)
            all_goals go_roundw
            all_goals (first | exact ⟨k + 1, by go_num, by omega, by omega, hB3⟩ | (simp [intOf]; omega))
        · have hki : ¬ (k : Int) < 6 := by omega
          have hHP := fun W9 hb => HP6.out.bel (bel_then hB hb) (W' := W9)
          have hHY := fun W9 hb => HY6.out.bel (bel_then hB hb) (W' := W9)
          have hHZ := fun W9 hb => HZ6.out.bel (bel_then hB hb) (W' := W9)
          have hHD := fun W9 hb => HD6.out.bel (bel_then hB hb) (W' := W9)
          have HH := Lib.hid (And.intro hHP (And.intro hHY (And.intro hHZ hHD)))
          clear hHP hHY hHZ hHD
          have hS : ∀ w9, Below wr.heap.size wr w9 → w9.cell? ⟨rb, 0, none⟩ = some (.int .i64 y.type) ∧ w9.cell? ⟨rb, 1, none⟩ = some (.int .i64 y.status) ∧ w9.cell? ⟨rb, 2, none⟩ = some (.int .i64 y.ver) ∧ w9.cell? ⟨rb, 3, none⟩ = some (.slice A4 y.body.length cp4) ∧ w9.cell? ⟨rb, 4, none⟩ = some (.bool y.shares) ∧ w9.cell? ⟨sb + 1, 0, none⟩ = some (.int .i64 y.type) ∧ w9.cell? ⟨sb + 1, 1, none⟩ = some (.int .i64 y.status) ∧ w9.cell? ⟨sb + 1, 2, none⟩ = some (.int .i64 y.ver) ∧ w9.cell? ⟨sb + 1, 3, none⟩ = some (.slice U y.body.length cu) ∧ w9.cell? ⟨sb + 1, 4, none⟩ = some (.bool y.shares) ∧ w9.cell? ⟨zb, 0, none⟩ = some (.slice A2 z.caches.length cp2) ∧ w9.cell? ⟨db, 0, none⟩ = some (.slice A5 d.caches.length cp5) := fun w9 hb => ⟨(HH.out.1 w9 hb).c0, (HH.out.1 w9 hb).c1, (HH.out.1 w9 hb).c2, (HH.out.1 w9 hb).c3, (HH.out.1 w9 hb).c4, (HH.out.2.1 w9 hb).c0, (HH.out.2.1 w9 hb).c1, (HH.out.2.1 w9 hb).c2, (HH.out.2.1 w9 hb).c3, (HH.out.2.1 w9 hb).c4, (HH.out.2.2.1 w9 hb).c, (HH.out.2.2.2 w9 hb).c⟩
          have hwr : Below wr.heap.size wr wr := Below.refl _ _
          have hBwr : Below w.heap.size w wr := bel_then hBw6 hB
          have hdz : cCSet.sz d ≤ 1048576 := by omega
          go_upto_region 20 with (fail)
          refine wp_region_held_drew (S := (fun w9 => w9.cell? ⟨rb, 0, none⟩ = some (.int .i64 y.type) ∧ w9.cell? ⟨rb, 1, none⟩ = some (.int .i64 y.status) ∧ w9.cell? ⟨rb, 2, none⟩ = some (.int .i64 y.ver) ∧ w9.cell? ⟨rb, 3, none⟩ = some (.slice A4 y.body.length cp4) ∧ w9.cell? ⟨rb, 4, none⟩ = some (.bool y.shares) ∧ w9.cell? ⟨sb + 1, 0, none⟩ = some (.int .i64 y.type) ∧ w9.cell? ⟨sb + 1, 1, none⟩ = some (.int .i64 y.status) ∧ w9.cell? ⟨sb + 1, 2, none⟩ = some (.int .i64 y.ver) ∧ w9.cell? ⟨sb + 1, 3, none⟩ = some (.slice U y.body.length cu) ∧ w9.cell? ⟨sb + 1, 4, none⟩ = some (.bool y.shares) ∧ w9.cell? ⟨zb, 0, none⟩ = some (.slice A2 z.caches.length cp2) ∧ w9.cell? ⟨db, 0, none⟩ = some (.slice A5 d.caches.length cp5))) (by kernel_rfl) (by (try dsimp only); exact hS _ (by repeat (first | with_reducible exact Below.refl _ _ | with_reducible assumption | with_reducible refine bel_alloc ?_ _ | with_reducible refine bel_drew ?_ | with_reducible refine bel_drewN ?_ _ | (with_reducible refine bel_set ?_ ?_ _; rotate_left; ((try simp); (try omega)))))) (fun hHeld => ?_)
          refine take_read (i := 0) 115 (v := ?v0) rfl rfl (by kernel_rfl) (by kernel_rfl) (by kernel_rfl) (fun _ _ _ h => h) (by rfl) ?hy0 (by assumption) ?rest0
          case hy0 => (intro w hSw; (try dsimp only at hSw); go_simp; (try with_reducible rfl))
          try simp only [Act.put, List.setIfInBounds_toArray, List.set_cons_zero, List.set_cons_succ]
          refine take_read (i := 1) 116 (v := ?v1) rfl rfl (by kernel_rfl) (by kernel_rfl) (by kernel_rfl) (fun _ _ _ h => h) (by rfl) ?hy1 (by assumption) ?rest1
          case hy1 => (intro w hSw; (try dsimp only at hSw); go_simp; (try with_reducible rfl))
          try simp only [Act.put, List.setIfInBounds_toArray, List.set_cons_zero, List.set_cons_succ]
          refine take_read (i := 2) 117 (v := ?v2) rfl rfl (by kernel_rfl) (by kernel_rfl) (by kernel_rfl) (fun _ _ _ h => h) (by rfl) ?hy2 (by assumption) ?rest2
          case hy2 => (intro w hSw; (try dsimp only at hSw); go_simp; (try with_reducible rfl))
          try simp only [Act.put, List.setIfInBounds_toArray, List.set_cons_zero, List.set_cons_succ]
          refine take_read (i := 3) 118 (v := ?v3) rfl rfl (by kernel_rfl) (by kernel_rfl) (by kernel_rfl) (fun _ _ _ h => h) (by rfl) ?hy3 (by assumption) ?rest3
          case hy3 => (intro w hSw; (try dsimp only at hSw); go_simp; (try with_reducible rfl))
          try simp only [Act.put, List.setIfInBounds_toArray, List.set_cons_zero, List.set_cons_succ]
          refine wpAnyH_ready (rs := [4]) (by kernel_rfl) (by simp) ?_
          refine AllReadyH.cons rfl (fun K hK => ?_) AllReadyH.nil
          go_simp
          (first | (go_at_call 27; refine (implEqualResponses_any _ y _ _ y _ _ (by exact (HH.out.1 _ (by repeat (first | with_reducible exact Below.refl _ _ | with_reducible assumption | with_reducible refine bel_alloc ?_ _ | with_reducible refine bel_drew ?_ | with_reducible refine bel_drewN ?_ _ | (with_reducible refine bel_set ?_ ?_ _; rotate_left; ((try simp); (try omega)))))).r) (by omega) (by exact (HH.out.2.1 _ (by repeat (first | with_reducible exact Below.refl _ _ | with_reducible assumption | with_reducible refine bel_alloc ?_ _ | with_reducible refine bel_drew ?_ | with_reducible refine bel_drewN ?_ _ | (with_reducible refine bel_set ?_ ?_ _; rotate_left; ((try simp); (try omega)))))).r) (by omega)).mono ?_; rw [respEqSelf]; rintro e g1 ⟨rfl, hg1⟩; have hG1 : Below wr.heap.size wr g1 := bel_then (by repeat (first | with_reducible exact Below.refl _ _ | with_reducible assumption | with_reducible refine bel_alloc ?_ _ | with_reducible refine bel_drew ?_ | with_reducible refine bel_drewN ?_ _ | (with_reducible refine bel_set ?_ ?_ _; rotate_left; ((try simp); (try omega))))) hg1; clear hg1) | (go_at_call_of 42 (Value.agg #[Value.slice A2 z.caches.length cp2]); refine (implIsCacheSetN_any _ z _ _ (by exact (HH.out.2.2.1 _ (by repeat (first | with_reducible exact Below.refl _ _ | with_reducible assumption | with_reducible refine bel_alloc ?_ _ | with_reducible refine bel_drew ?_ | with_reducible refine bel_drewN ?_ _ | (with_reducible refine bel_set ?_ ?_ _; rotate_left; ((try simp); (try omega)))))).r)).mono ?_; rw [l1]; rintro e g2 ⟨rfl, hg2⟩; have hG2 : Below wr.heap.size wr g2 := bel_then (by repeat (first | with_reducible exact Below.refl _ _ | with_reducible assumption | with_reducible refine bel_alloc ?_ _ | with_reducible refine bel_drew ?_ | with_reducible refine bel_drewN ?_ _ | (with_reducible refine bel_set ?_ ?_ _; rotate_left; ((try simp); (try omega))))) hg2; clear hg2) | (go_at_call 42; refine (implIsCacheSetN_any _ d _ _ (by exact (HH.out.2.2.2 _ (by repeat (first | with_reducible exact Below.refl _ _ | with_reducible assumption | with_reducible refine bel_alloc ?_ _ | with_reducible refine bel_drew ?_ | with_reducible refine bel_drewN ?_ _ | (with_reducible refine bel_set ?_ ?_ _; rotate_left; ((try simp); (try omega)))))).r)).mono ?_; rw [l3]; rintro e g3 ⟨rfl, hg3⟩; have hG3 : Below wr.heap.size wr g3 := bel_then (by repeat (first | with_reducible exact Below.refl _ _ | with_reducible assumption | with_reducible refine bel_alloc ?_ _ | with_reducible refine bel_drew ?_ | with_reducible refine bel_drewN ?_ _ | (with_reducible refine bel_set ?_ ?_ _; rotate_left; ((try simp); (try omega))))) hg3; clear hg3) | (go_at_call_of 43 (Value.agg #[Value.slice A2 z.caches.length cp2]); refine (implSizeCaches_any _ z _ _ (by exact (HH.out.2.2.1 _ (by repeat (first | with_reducible exact Below.refl _ _ | with_reducible assumption | with_reducible refine bel_alloc ?_ _ | with_reducible refine bel_drew ?_ | with_reducible refine bel_drewN ?_ _ | (with_reducible refine bel_set ?_ ?_ _; rotate_left; ((try simp); (try omega)))))).r) hzsz).mono ?_; rintro e g4 ⟨rfl, hg4⟩; have hG4 : Below wr.heap.size wr g4 := bel_then (by repeat (first | with_reducible exact Below.refl _ _ | with_reducible assumption | with_reducible refine bel_alloc ?_ _ | with_reducible refine bel_drew ?_ | with_reducible refine bel_drewN ?_ _ | (with_reducible refine bel_set ?_ ?_ _; rotate_left; ((try simp); (try omega))))) hg4; clear hg4) | (go_at_call 43; refine (implSizeCaches_any _ d _ _ (by exact (HH.out.2.2.2 _ (by repeat (first | with_reducible exact Below.refl _ _ | with_reducible assumption | with_reducible refine bel_alloc ?_ _ | with_reducible refine bel_drew ?_ | with_reducible refine bel_drewN ?_ _ | (with_reducible refine bel_set ?_ ?_ _; rotate_left; ((try simp); (try omega)))))).r) hdz).mono ?_; rintro e g5 ⟨rfl, hg5⟩; have hG5 : Below wr.heap.size wr g5 := bel_then (by repeat (first | with_reducible exact Below.refl _ _ | with_reducible assumption | with_reducible refine bel_alloc ?_ _ | with_reducible refine bel_drew ?_ | with_reducible refine bel_drewN ?_ _ | (with_reducible refine bel_set ?_ ?_ _; rotate_left; ((try simp); (try omega))))) hg5; clear hg5) | (go_at_call 44; refine (implFindCache_any _ d _ v _ (by exact (HH.out.2.2.2 _ (by repeat (first | with_reducible exact Below.refl _ _ | with_reducible assumption | with_reducible refine bel_alloc ?_ _ | with_reducible refine bel_drew ?_ | with_reducible refine bel_drewN ?_ _ | (with_reducible refine bel_set ?_ ?_ _; rotate_left; ((try simp); (try omega)))))).r) hdz (by omega)).mono ?_; rw [l4]; rintro e g6 ⟨rfl, hg6⟩; have hG6 : Below wr.heap.size wr g6 := bel_then (by repeat (first | with_reducible exact Below.refl _ _ | with_reducible assumption | with_reducible refine bel_alloc ?_ _ | with_reducible refine bel_drew ?_ | with_reducible refine bel_drewN ?_ _ | (with_reducible refine bel_set ?_ ?_ _; rotate_left; ((try simp); (try omega))))) hg6; clear hg6))
          try go_wp2_with fail
          refine hK.out _ _ ?_ (fun hHeld => ?_)
          · (try dsimp only)
            exact hS _ (by repeat (first | with_reducible exact Below.refl _ _ | with_reducible assumption | with_reducible refine bel_alloc ?_ _ | with_reducible refine bel_drew ?_ | with_reducible refine bel_drewN ?_ _ | (with_reducible refine bel_set ?_ ?_ _; rotate_left; ((try simp); (try omega)))))
          clear hK K
          try simp only [Act.put, List.setIfInBounds_toArray, List.set_cons_zero, List.set_cons_succ]
          refine take_read (i := 5) 120 (v := ?v5) rfl rfl (by kernel_rfl) (by kernel_rfl) (by kernel_rfl) (fun _ _ _ h => h) (by rfl) ?hy5 (by assumption) ?rest5
          case hy5 => (intro w hSw; (try dsimp only at hSw); go_simp; (try with_reducible rfl))
          try simp only [Act.put, List.setIfInBounds_toArray, List.set_cons_zero, List.set_cons_succ]
          refine take_read (i := 6) 121 (v := ?v6) rfl rfl (by kernel_rfl) (by kernel_rfl) (by kernel_rfl) (fun _ _ _ h => h) (by rfl) ?hy6 (by assumption) ?rest6
          case hy6 => (intro w hSw; (try dsimp only at hSw); go_simp; (try with_reducible rfl))
          try simp only [Act.put, List.setIfInBounds_toArray, List.set_cons_zero, List.set_cons_succ]
          refine take_read (i := 7) 122 (v := ?v7) rfl rfl (by kernel_rfl) (by kernel_rfl) (by kernel_rfl) (fun _ _ _ h => h) (by rfl) ?hy7 (by assumption) ?rest7
          case hy7 => (intro w hSw; (try dsimp only at hSw); go_simp; (try with_reducible rfl))
          try simp only [Act.put, List.setIfInBounds_toArray, List.set_cons_zero, List.set_cons_succ]
          refine take_read (i := 8) 123 (v := ?v8) rfl rfl (by kernel_rfl) (by kernel_rfl) (by kernel_rfl) (fun _ _ _ h => h) (by rfl) ?hy8 (by assumption) ?rest8
          case hy8 => (intro w hSw; (try dsimp only at hSw); go_simp; (try with_reducible rfl))
          try simp only [Act.put, List.setIfInBounds_toArray, List.set_cons_zero, List.set_cons_succ]
          refine take_read (i := 9) 124 (v := ?v9) rfl rfl (by kernel_rfl) (by kernel_rfl) (by kernel_rfl) (fun _ _ _ h => h) (by rfl) ?hy9 (by assumption) ?rest9
          case hy9 => (intro w hSw; (try dsimp only at hSw); go_simp; (try with_reducible rfl))
          try simp only [Act.put, List.setIfInBounds_toArray, List.set_cons_zero, List.set_cons_succ]
          refine take_read (i := 10) 125 (v := ?v10) rfl rfl (by kernel_rfl) (by kernel_rfl) (by kernel_rfl) (fun _ _ _ h => h) (by rfl) ?hy10 (by assumption) ?rest10
          case hy10 => (intro w hSw; (try dsimp only at hSw); go_simp; (try with_reducible rfl))
          try simp only [Act.put, List.setIfInBounds_toArray, List.set_cons_zero, List.set_cons_succ]
          refine take_read (i := 11) 126 (v := ?v11) rfl rfl (by kernel_rfl) (by kernel_rfl) (by kernel_rfl) (fun _ _ _ h => h) (by rfl) ?hy11 (by assumption) ?rest11
          case hy11 => (intro w hSw; (try dsimp only at hSw); go_simp; (try with_reducible rfl))
          try simp only [Act.put, List.setIfInBounds_toArray, List.set_cons_zero, List.set_cons_succ]
          refine take_read (i := 12) 127 (v := ?v12) rfl rfl (by kernel_rfl) (by kernel_rfl) (by kernel_rfl) (fun _ _ _ h => h) (by rfl) ?hy12 (by assumption) ?rest12
          case hy12 => (intro w hSw; (try dsimp only at hSw); go_simp; (try with_reducible rfl))
          try simp only [Act.put, List.setIfInBounds_toArray, List.set_cons_zero, List.set_cons_succ]
          refine take_read (i := 13) 128 (v := ?v13) rfl rfl (by kernel_rfl) (by kernel_rfl) (by kernel_rfl) (fun _ _ _ h => h) (by rfl) ?hy13 (by assumption) ?rest13
          case hy13 => (intro w hSw; (try dsimp only at hSw); go_simp; (try with_reducible rfl))
          try simp only [Act.put, List.setIfInBounds_toArray, List.set_cons_zero, List.set_cons_succ]
          refine take_read (i := 14) 129 (v := ?v14) rfl rfl (by kernel_rfl) (by kernel_rfl) (by kernel_rfl) (fun _ _ _ h => h) (by rfl) ?hy14 (by assumption) ?rest14
          case hy14 => (intro w hSw; (try dsimp only at hSw); go_simp; (try with_reducible rfl))
          try simp only [Act.put, List.setIfInBounds_toArray, List.set_cons_zero, List.set_cons_succ]
          refine wpAnyH_ready (rs := [15]) (by kernel_rfl) (by simp) ?_
          refine AllReadyH.cons rfl (fun K hK => ?_) AllReadyH.nil
          go_simp
          (first | (go_at_call 27; refine (implEqualResponses_any _ y _ _ y _ _ (by exact (HH.out.1 _ (by repeat (first | with_reducible exact Below.refl _ _ | with_reducible assumption | with_reducible refine bel_alloc ?_ _ | with_reducible refine bel_drew ?_ | with_reducible refine bel_drewN ?_ _ | (with_reducible refine bel_set ?_ ?_ _; rotate_left; ((try simp); (try omega)))))).r) (by omega) (by exact (HH.out.2.1 _ (by repeat (first | with_reducible exact Below.refl _ _ | with_reducible assumption | with_reducible refine bel_alloc ?_ _ | with_reducible refine bel_drew ?_ | with_reducible refine bel_drewN ?_ _ | (with_reducible refine bel_set ?_ ?_ _; rotate_left; ((try simp); (try omega)))))).r) (by omega)).mono ?_; rw [respEqSelf]; rintro e g1 ⟨rfl, hg1⟩; have hG1 : Below wr.heap.size wr g1 := bel_then (by repeat (first | with_reducible exact Below.refl _ _ | with_reducible assumption | with_reducible refine bel_alloc ?_ _ | with_reducible refine bel_drew ?_ | with_reducible refine bel_drewN ?_ _ | (with_reducible refine bel_set ?_ ?_ _; rotate_left; ((try simp); (try omega))))) hg1; clear hg1) | (go_at_call_of 42 (Value.agg #[Value.slice A2 z.caches.length cp2]); refine (implIsCacheSetN_any _ z _ _ (by exact (HH.out.2.2.1 _ (by repeat (first | with_reducible exact Below.refl _ _ | with_reducible assumption | with_reducible refine bel_alloc ?_ _ | with_reducible refine bel_drew ?_ | with_reducible refine bel_drewN ?_ _ | (with_reducible refine bel_set ?_ ?_ _; rotate_left; ((try simp); (try omega)))))).r)).mono ?_; rw [l1]; rintro e g2 ⟨rfl, hg2⟩; have hG2 : Below wr.heap.size wr g2 := bel_then (by repeat (first | with_reducible exact Below.refl _ _ | with_reducible assumption | with_reducible refine bel_alloc ?_ _ | with_reducible refine bel_drew ?_ | with_reducible refine bel_drewN ?_ _ | (with_reducible refine bel_set ?_ ?_ _; rotate_left; ((try simp); (try omega))))) hg2; clear hg2) | (go_at_call 42; refine (implIsCacheSetN_any _ d _ _ (by exact (HH.out.2.2.2 _ (by repeat (first | with_reducible exact Below.refl _ _ | with_reducible assumption | with_reducible refine bel_alloc ?_ _ | with_reducible refine bel_drew ?_ | with_reducible refine bel_drewN ?_ _ | (with_reducible refine bel_set ?_ ?_ _; rotate_left; ((try simp); (try omega)))))).r)).mono ?_; rw [l3]; rintro e g3 ⟨rfl, hg3⟩; have hG3 : Below wr.heap.size wr g3 := bel_then (by repeat (first | with_reducible exact Below.refl _ _ | with_reducible assumption | with_reducible refine bel_alloc ?_ _ | with_reducible refine bel_drew ?_ | with_reducible refine bel_drewN ?_ _ | (with_reducible refine bel_set ?_ ?_ _; rotate_left; ((try simp); (try omega))))) hg3; clear hg3) | (go_at_call_of 43 (Value.agg #[Value.slice A2 z.caches.length cp2]); refine (implSizeCaches_any _ z _ _ (by exact (HH.out.2.2.1 _ (by repeat (first | with_reducible exact Below.refl _ _ | with_reducible assumption | with_reducible refine bel_alloc ?_ _ | with_reducible refine bel_drew ?_ | with_reducible refine bel_drewN ?_ _ | (with_reducible refine bel_set ?_ ?_ _; rotate_left; ((try simp); (try omega)))))).r) hzsz).mono ?_; rintro e g4 ⟨rfl, hg4⟩; have hG4 : Below wr.heap.size wr g4 := bel_then (by repeat (first | with_reducible exact Below.refl _ _ | with_reducible assumption | with_reducible refine bel_alloc ?_ _ | with_reducible refine bel_drew ?_ | with_reducible refine bel_drewN ?_ _ | (with_reducible refine bel_set ?_ ?_ _; rotate_left; ((try simp); (try omega))))) hg4; clear hg4) | (go_at_call 43; refine (implSizeCaches_any _ d _ _ (by exact (HH.out.2.2.2 _ (by repeat (first | with_reducible exact Below.refl _ _ | with_reducible assumption | with_reducible refine bel_alloc ?_ _ | with_reducible refine bel_drew ?_ | with_reducible refine bel_drewN ?_ _ | (with_reducible refine bel_set ?_ ?_ _; rotate_left; ((try simp); (try omega)))))).r) hdz).mono ?_; rintro e g5 ⟨rfl, hg5⟩; have hG5 : Below wr.heap.size wr g5 := bel_then (by repeat (first | with_reducible exact Below.refl _ _ | with_reducible assumption | with_reducible refine bel_alloc ?_ _ | with_reducible refine bel_drew ?_ | with_reducible refine bel_drewN ?_ _ | (with_reducible refine bel_set ?_ ?_ _; rotate_left; ((try simp); (try omega))))) hg5; clear hg5) | (go_at_call 44; refine (implFindCache_any _ d _ v _ (by exact (HH.out.2.2.2 _ (by repeat (first | with_reducible exact Below.refl _ _ | with_reducible assumption | with_reducible refine bel_alloc ?_ _ | with_reducible refine bel_drew ?_ | with_reducible refine bel_drewN ?_ _ | (with_reducible refine bel_set ?_ ?_ _; rotate_left; ((try simp); (try omega)))))).r) hdz (by omega)).mono ?_; rw [l4]; rintro e g6 ⟨rfl, hg6⟩; have hG6 : Below wr.heap.size wr g6 := bel_then (by repeat (first | with_reducible exact Below.refl _ _ | with_reducible assumption | with_reducible refine bel_alloc ?_ _ | with_reducible refine bel_drew ?_ | with_reducible refine bel_drewN ?_ _ | (with_reducible refine bel_set ?_ ?_ _; rotate_left; ((try simp); (try omega))))) hg6; clear hg6))
          try go_wp2_with fail
          refine hK.out _ _ ?_ (fun hHeld => ?_)
          · (try dsimp only)
            exact hS _ (by repeat (first | with_reducible exact Below.refl _ _ | with_reducible assumption | with_reducible refine bel_alloc ?_ _ | with_reducible refine bel_drew ?_ | with_reducible refine bel_drewN ?_ _ | (with_reducible refine bel_set ?_ ?_ _; rotate_left; ((try simp); (try omega)))))
          clear hK K
          try simp only [Act.put, List.setIfInBounds_toArray, List.set_cons_zero, List.set_cons_succ]
          refine take_read (i := 16) 131 (v := ?v16) rfl rfl (by kernel_rfl) (by kernel_rfl) (by kernel_rfl) (fun _ _ _ h => h) (by rfl) ?hy16 (by assumption) ?rest16
          case hy16 => (intro w hSw; (try dsimp only at hSw); go_simp; (try with_reducible rfl))
          try simp only [Act.put, List.setIfInBounds_toArray, List.set_cons_zero, List.set_cons_succ]
          refine take_read (i := 17) 132 (v := ?v17) rfl rfl (by kernel_rfl) (by kernel_rfl) (by kernel_rfl) (fun _ _ _ h => h) (by rfl) ?hy17 (by assumption) ?rest17
          case hy17 => (intro w hSw; (try dsimp only at hSw); go_simp; (try with_reducible rfl))
          try simp only [Act.put, List.setIfInBounds_toArray, List.set_cons_zero, List.set_cons_succ]
          refine take_read (i := 18) 133 (v := ?v18) rfl rfl (by kernel_rfl) (by kernel_rfl) (by kernel_rfl) (fun _ _ _ h => h) (by rfl) ?hy18 (by assumption) ?rest18
          case hy18 => (intro w hSw; (try dsimp only at hSw); go_simp; (try with_reducible rfl))
          try simp only [Act.put, List.setIfInBounds_toArray, List.set_cons_zero, List.set_cons_succ]
          refine wpAnyH_ready (rs := [19]) (by kernel_rfl) (by simp) ?_
          refine AllReadyH.cons rfl (fun K hK => ?_) AllReadyH.nil
          go_simp
          (first | (go_at_call 27; refine (implEqualResponses_any _ y _ _ y _ _ (by exact (HH.out.1 _ (by repeat (first | with_reducible exact Below.refl _ _ | with_reducible assumption | with_reducible refine bel_alloc ?_ _ | with_reducible refine bel_drew ?_ | with_reducible refine bel_drewN ?_ _ | (with_reducible refine bel_set ?_ ?_ _; rotate_left; ((try simp); (try omega)))))).r) (by omega) (by exact (HH.out.2.1 _ (by repeat (first | with_reducible exact Below.refl _ _ | with_reducible assumption | with_reducible refine bel_alloc ?_ _ | with_reducible refine bel_drew ?_ | with_reducible refine bel_drewN ?_ _ | (with_reducible refine bel_set ?_ ?_ _; rotate_left; ((try simp); (try omega)))))).r) (by omega)).mono ?_; rw [respEqSelf]; rintro e g1 ⟨rfl, hg1⟩; have hG1 : Below wr.heap.size wr g1 := bel_then (by repeat (first | with_reducible exact Below.refl _ _ | with_reducible assumption | with_reducible refine bel_alloc ?_ _ | with_reducible refine bel_drew ?_ | with_reducible refine bel_drewN ?_ _ | (with_reducible refine bel_set ?_ ?_ _; rotate_left; ((try simp); (try omega))))) hg1; clear hg1) | (go_at_call_of 42 (Value.agg #[Value.slice A2 z.caches.length cp2]); refine (implIsCacheSetN_any _ z _ _ (by exact (HH.out.2.2.1 _ (by repeat (first | with_reducible exact Below.refl _ _ | with_reducible assumption | with_reducible refine bel_alloc ?_ _ | with_reducible refine bel_drew ?_ | with_reducible refine bel_drewN ?_ _ | (with_reducible refine bel_set ?_ ?_ _; rotate_left; ((try simp); (try omega)))))).r)).mono ?_; rw [l1]; rintro e g2 ⟨rfl, hg2⟩; have hG2 : Below wr.heap.size wr g2 := bel_then (by repeat (first | with_reducible exact Below.refl _ _ | with_reducible assumption | with_reducible refine bel_alloc ?_ _ | with_reducible refine bel_drew ?_ | with_reducible refine bel_drewN ?_ _ | (with_reducible refine bel_set ?_ ?_ _; rotate_left; ((try simp); (try omega))))) hg2; clear hg2) | (go_at_call 42; refine (implIsCacheSetN_any _ d _ _ (by exact (HH.out.2.2.2 _ (by repeat (first | with_reducible exact Below.refl _ _ | with_reducible assumption | with_reducible refine bel_alloc ?_ _ | with_reducible refine bel_drew ?_ | with_reducible refine bel_drewN ?_ _ | (with_reducible refine bel_set ?_ ?_ _; rotate_left; ((try simp); (try omega)))))).r)).mono ?_; rw [l3]; rintro e g3 ⟨rfl, hg3⟩; have hG3 : Below wr.heap.size wr g3 := bel_then (by repeat (first | with_reducible exact Below.refl _ _ | with_reducible assumption | with_reducible refine bel_alloc ?_ _ | with_reducible refine bel_drew ?_ | with_reducible refine bel_drewN ?_ _ | (with_reducible refine bel_set ?_ ?_ _; rotate_left; ((try simp); (try omega))))) hg3; clear hg3) | (go_at_call_of 43 (Value.agg #[Value.slice A2 z.caches.length cp2]); refine (implSizeCaches_any _ z _ _ (by exact (HH.out.2.2.1 _ (by repeat (first | with_reducible exact Below.refl _ _ | with_reducible assumption | with_reducible refine bel_alloc ?_ _ | with_reducible refine bel_drew ?_ | with_reducible refine bel_drewN ?_ _ | (with_reducible refine bel_set ?_ ?_ _; rotate_left; ((try simp); (try omega)))))).r) hzsz).mono ?_; rintro e g4 ⟨rfl, hg4⟩; have hG4 : Below wr.heap.size wr g4 := bel_then (by repeat (first | with_reducible exact Below.refl _ _ | with_reducible assumption | with_reducible refine bel_alloc ?_ _ | with_reducible refine bel_drew ?_ | with_reducible refine bel_drewN ?_ _ | (with_reducible refine bel_set ?_ ?_ _; rotate_left; ((try simp); (try omega))))) hg4; clear hg4) | (go_at_call 43; refine (implSizeCaches_any _ d _ _ (by exact (HH.out.2.2.2 _ (by repeat (first | with_reducible exact Below.refl _ _ | with_reducible assumption | with_reducible refine bel_alloc ?_ _ | with_reducible refine bel_drew ?_ | with_reducible refine bel_drewN ?_ _ | (with_reducible refine bel_set ?_ ?_ _; rotate_left; ((try simp); (try omega)))))).r) hdz).mono ?_; rintro e g5 ⟨rfl, hg5⟩; have hG5 : Below wr.heap.size wr g5 := bel_then (by repeat (first | with_reducible exact Below.refl _ _ | with_reducible assumption | with_reducible refine bel_alloc ?_ _ | with_reducible refine bel_drew ?_ | with_reducible refine bel_drewN ?_ _ | (with_reducible refine bel_set ?_ ?_ _; rotate_left; ((try simp); (try omega))))) hg5; clear hg5) | (go_at_call 44; refine (implFindCache_any _ d _ v _ (by exact (HH.out.2.2.2 _ (by repeat (first | with_reducible exact Below.refl _ _ | with_reducible assumption | with_reducible refine bel_alloc ?_ _ | with_reducible refine bel_drew ?_ | with_reducible refine bel_drewN ?_ _ | (with_reducible refine bel_set ?_ ?_ _; rotate_left; ((try simp); (try omega)))))).r) hdz (by omega)).mono ?_; rw [l4]; rintro e g6 ⟨rfl, hg6⟩; have hG6 : Below wr.heap.size wr g6 := bel_then (by repeat (first | with_reducible exact Below.refl _ _ | with_reducible assumption | with_reducible refine bel_alloc ?_ _ | with_reducible refine bel_drew ?_ | with_reducible refine bel_drewN ?_ _ | (with_reducible refine bel_set ?_ ?_ _; rotate_left; ((try simp); (try omega))))) hg6; clear hg6))
          try go_wp2_with fail
          refine hK.out _ _ ?_ (fun hHeld => ?_)
          · (try dsimp only)
            exact hS _ (by repeat (first | with_reducible exact Below.refl _ _ | with_reducible assumption | with_reducible refine bel_alloc ?_ _ | with_reducible refine bel_drew ?_ | with_reducible refine bel_drewN ?_ _ | (with_reducible refine bel_set ?_ ?_ _; rotate_left; ((try simp); (try omega)))))
          clear hK K
          try simp only [Act.put, List.setIfInBounds_toArray, List.set_cons_zero, List.set_cons_succ]
          refine take_read (i := 20) 135 (v := ?v20) rfl rfl (by kernel_rfl) (by kernel_rfl) (by kernel_rfl) (fun _ _ _ h => h) (by rfl) ?hy20 (by assumption) ?rest20
          case hy20 => (intro w hSw; (try dsimp only at hSw); go_simp; (try with_reducible rfl))
          try simp only [Act.put, List.setIfInBounds_toArray, List.set_cons_zero, List.set_cons_succ]
          refine take_read (i := 21) 136 (v := ?v21) rfl rfl (by kernel_rfl) (by kernel_rfl) (by kernel_rfl) (fun _ _ _ h => h) (by rfl) ?hy21 (by assumption) ?rest21
          case hy21 => (intro w hSw; (try dsimp only at hSw); go_simp; (try with_reducible rfl))
          try simp only [Act.put, List.setIfInBounds_toArray, List.set_cons_zero, List.set_cons_succ]
          refine take_read (i := 22) 137 (v := ?v22) rfl rfl (by kernel_rfl) (by kernel_rfl) (by kernel_rfl) (fun _ _ _ h => h) (by rfl) ?hy22 (by assumption) ?rest22
          case hy22 => (intro w hSw; (try dsimp only at hSw); go_simp; (try with_reducible rfl))
          try simp only [Act.put, List.setIfInBounds_toArray, List.set_cons_zero, List.set_cons_succ]
          refine take_read (i := 24) 139 (v := ?v24) rfl rfl (by kernel_rfl) (by kernel_rfl) (by kernel_rfl) (fun _ _ _ h => h) (by rfl) ?hy24 (by assumption) ?rest24
          case hy24 => (intro w hSw; (try dsimp only at hSw); go_simp; (try with_reducible rfl))
          try simp only [Act.put, List.setIfInBounds_toArray, List.set_cons_zero, List.set_cons_succ]
          refine wpAnyH_ready (rs := [23]) (by kernel_rfl) (by simp) ?_
          refine AllReadyH.cons rfl (fun K hK => ?_) AllReadyH.nil
          go_simp
          (first | (go_at_call 27; refine (implEqualResponses_any _ y _ _ y _ _ (by exact (HH.out.1 _ (by repeat (first | with_reducible exact Below.refl _ _ | with_reducible assumption | with_reducible refine bel_alloc ?_ _ | with_reducible refine bel_drew ?_ | with_reducible refine bel_drewN ?_ _ | (with_reducible refine bel_set ?_ ?_ _; rotate_left; ((try simp); (try omega)))))).r) (by omega) (by exact (HH.out.2.1 _ (by repeat (first | with_reducible exact Below.refl _ _ | with_reducible assumption | with_reducible refine bel_alloc ?_ _ | with_reducible refine bel_drew ?_ | with_reducible refine bel_drewN ?_ _ | (with_reducible refine bel_set ?_ ?_ _; rotate_left; ((try simp); (try omega)))))).r) (by omega)).mono ?_; rw [respEqSelf]; rintro e g1 ⟨rfl, hg1⟩; have hG1 : Below wr.heap.size wr g1 := bel_then (by repeat (first | with_reducible exact Below.refl _ _ | with_reducible assumption | with_reducible refine bel_alloc ?_ _ | with_reducible refine bel_drew ?_ | with_reducible refine bel_drewN ?_ _ | (with_reducible refine bel_set ?_ ?_ _; rotate_left; ((try simp); (try omega))))) hg1; clear hg1) | (go_at_call_of 42 (Value.agg #[Value.slice A2 z.caches.length cp2]); refine (implIsCacheSetN_any _ z _ _ (by exact (HH.out.2.2.1 _ (by repeat (first | with_reducible exact Below.refl _ _ | with_reducible assumption | with_reducible refine bel_alloc ?_ _ | with_reducible refine bel_drew ?_ | with_reducible refine bel_drewN ?_ _ | (with_reducible refine bel_set ?_ ?_ _; rotate_left; ((try simp); (try omega)))))).r)).mono ?_; rw [l1]; rintro e g2 ⟨rfl, hg2⟩; have hG2 : Below wr.heap.size wr g2 := bel_then (by repeat (first | with_reducible exact Below.refl _ _ | with_reducible assumption | with_reducible refine bel_alloc ?_ _ | with_reducible refine bel_drew ?_ | with_reducible refine bel_drewN ?_ _ | (with_reducible refine bel_set ?_ ?_ _; rotate_left; ((try simp); (try omega))))) hg2; clear hg2) | (go_at_call 42; refine (implIsCacheSetN_any _ d _ _ (by exact (HH.out.2.2.2 _ (by repeat (first | with_reducible exact Below.refl _ _ | with_reducible assumption | with_reducible refine bel_alloc ?_ _ | with_reducible refine bel_drew ?_ | with_reducible refine bel_drewN ?_ _ | (with_reducible refine bel_set ?_ ?_ _; rotate_left; ((try simp); (try omega)))))).r)).mono ?_; rw [l3]; rintro e g3 ⟨rfl, hg3⟩; have hG3 : Below wr.heap.size wr g3 := bel_then (by repeat (first | with_reducible exact Below.refl _ _ | with_reducible assumption | with_reducible refine bel_alloc ?_ _ | with_reducible refine bel_drew ?_ | with_reducible refine bel_drewN ?_ _ | (with_reducible refine bel_set ?_ ?_ _; rotate_left; ((try simp); (try omega))))) hg3; clear hg3) | (go_at_call_of 43 (Value.agg #[Value.slice A2 z.caches.length cp2]); refine (implSizeCaches_any _ z _ _ (by exact (HH.out.2.2.1 _ (by repeat (first | with_reducible exact Below.refl _ _ | with_reducible assumption | with_reducible refine bel_alloc ?_ _ | with_reducible refine bel_drew ?_ | with_reducible refine bel_drewN ?_ _ | (with_reducible refine bel_set ?_ ?_ _; rotate_left; ((try simp); (try omega)))))).r) hzsz).mono ?_; rintro e g4 ⟨rfl, hg4⟩; have hG4 : Below wr.heap.size wr g4 := bel_then (by repeat (first | with_reducible exact Below.refl _ _ | with_reducible assumption | with_reducible refine bel_alloc ?_ _ | with_reducible refine bel_drew ?_ | with_reducible refine bel_drewN ?_ _ | (with_reducible refine bel_set ?_ ?_ _; rotate_left; ((try simp); (try omega))))) hg4; clear hg4) | (go_at_call 43; refine (implSizeCaches_any _ d _ _ (by exact (HH.out.2.2.2 _ (by repeat (first | with_reducible exact Below.refl _ _ | with_reducible assumption | with_reducible refine bel_alloc ?_ _ | with_reducible refine bel_drew ?_ | with_reducible refine bel_drewN ?_ _ | (with_reducible refine bel_set ?_ ?_ _; rotate_left; ((try simp); (try omega)))))).r) hdz).mono ?_; rintro e g5 ⟨rfl, hg5⟩; have hG5 : Below wr.heap.size wr g5 := bel_then (by repeat (first | with_reducible exact Below.refl _ _ | with_reducible assumption | with_reducible refine bel_alloc ?_ _ | with_reducible refine bel_drew ?_ | with_reducible refine bel_drewN ?_ _ | (with_reducible refine bel_set ?_ ?_ _; rotate_left; ((try simp); (try omega))))) hg5; clear hg5) | (go_at_call 44; refine (implFindCache_any _ d _ v _ (by exact (HH.out.2.2.2 _ (by repeat (first | with_reducible exact Below.refl _ _ | with_reducible assumption | with_reducible refine bel_alloc ?_ _ | with_reducible refine bel_drew ?_ | with_reducible refine bel_drewN ?_ _ | (with_reducible refine bel_set ?_ ?_ _; rotate_left; ((try simp); (try omega)))))).r) hdz (by omega)).mono ?_; rw [l4]; rintro e g6 ⟨rfl, hg6⟩; have hG6 : Below wr.heap.size wr g6 := bel_then (by repeat (first | with_reducible exact Below.refl _ _ | with_reducible assumption | with_reducible refine bel_alloc ?_ _ | with_reducible refine bel_drew ?_ | with_reducible refine bel_drewN ?_ _ | (with_reducible refine bel_set ?_ ?_ _; rotate_left; ((try simp); (try omega))))) hg6; clear hg6))
          try go_wp2_with fail
          refine hK.out _ _ ?_ (fun hHeld => ?_)
          · (try dsimp only)
            exact hS _ (by repeat (first | with_reducible exact Below.refl _ _ | with_reducible assumption | with_reducible refine bel_alloc ?_ _ | with_reducible refine bel_drew ?_ | with_reducible refine bel_drewN ?_ _ | (with_reducible refine bel_set ?_ ?_ _; rotate_left; ((try simp); (try omega)))))
          clear hK K
          try simp only [Act.put, List.setIfInBounds_toArray, List.set_cons_zero, List.set_cons_succ]
          refine wpAnyH_ready (rs := [25]) (by kernel_rfl) (by simp) ?_
          refine AllReadyH.cons rfl (fun K hK => ?_) AllReadyH.nil
          go_simp
          (first | (go_at_call 27; refine (implEqualResponses_any _ y _ _ y _ _ (by exact (HH.out.1 _ (by repeat (first | with_reducible exact Below.refl _ _ | with_reducible assumption | with_reducible refine bel_alloc ?_ _ | with_reducible refine bel_drew ?_ | with_reducible refine bel_drewN ?_ _ | (with_reducible refine bel_set ?_ ?_ _; rotate_left; ((try simp); (try omega)))))).r) (by omega) (by exact (HH.out.2.1 _ (by repeat (first | with_reducible exact Below.refl _ _ | with_reducible assumption | with_reducible refine bel_alloc ?_ _ | with_reducible refine bel_drew ?_ | with_reducible refine bel_drewN ?_ _ | (with_reducible refine bel_set ?_ ?_ _; rotate_left; ((try simp); (try omega)))))).r) (by omega)).mono ?_; rw [respEqSelf]; rintro e g1 ⟨rfl, hg1⟩; have hG1 : Below wr.heap.size wr g1 := bel_then (by repeat (first | with_reducible exact Below.refl _ _ | with_reducible assumption | with_reducible refine bel_alloc ?_ _ | with_reducible refine bel_drew ?_ | with_reducible refine bel_drewN ?_ _ | (with_reducible refine bel_set ?_ ?_ _; rotate_left; ((try simp); (try omega))))) hg1; clear hg1) | (go_at_call_of 42 (Value.agg #[Value.slice A2 z.caches.length cp2]); refine (implIsCacheSetN_any _ z _ _ (by exact (HH.out.2.2.1 _ (by repeat (first | with_reducible exact Below.refl _ _ | with_reducible assumption | with_reducible refine bel_alloc ?_ _ | with_reducible refine bel_drew ?_ | with_reducible refine bel_drewN ?_ _ | (with_reducible refine bel_set ?_ ?_ _; rotate_left; ((try simp); (try omega)))))).r)).mono ?_; rw [l1]; rintro e g2 ⟨rfl, hg2⟩; have hG2 : Below wr.heap.size wr g2 := bel_then (by repeat (first | with_reducible exact Below.refl _ _ | with_reducible assumption | with_reducible refine bel_alloc ?_ _ | with_reducible refine bel_drew ?_ | with_reducible refine bel_drewN ?_ _ | (with_reducible refine bel_set ?_ ?_ _; rotate_left; ((try simp); (try omega))))) hg2; clear hg2) | (go_at_call 42; refine (implIsCacheSetN_any _ d _ _ (by exact (HH.out.2.2.2 _ (by repeat (first | with_reducible exact Below.refl _ _ | with_reducible assumption | with_reducible refine bel_alloc ?_ _ | with_reducible refine bel_drew ?_ | with_reducible refine bel_drewN ?_ _ | (with_reducible refine bel_set ?_ ?_ _; rotate_left; ((try simp); (try omega)))))).r)).mono ?_; rw [l3]; rintro e g3 ⟨rfl, hg3⟩; have hG3 : Below wr.heap.size wr g3 := bel_then (by repeat (first | with_reducible exact Below.refl _ _ | with_reducible assumption | with_reducible refine bel_alloc ?_ _ | with_reducible refine bel_drew ?_ | with_reducible refine bel_drewN ?_ _ | (with_reducible refine bel_set ?_ ?_ _; rotate_left; ((try simp); (try omega))))) hg3; clear hg3) | (go_at_call_of 43 (Value.agg #[Value.slice A2 z.caches.length cp2]); refine (implSizeCaches_any _ z _ _ (by exact (HH.out.2.2.1 _ (by repeat (first | with_reducible exact Below.refl _ _ | with_reducible assumption | with_reducible refine bel_alloc ?_ _ | with_reducible refine bel_drew ?_ | with_reducible refine bel_drewN ?_ _ | (with_reducible refine bel_set ?_ ?_ _; rotate_left; ((try simp); (try omega)))))).r) hzsz).mono ?_; rintro e g4 ⟨rfl, hg4⟩; have hG4 : Below wr.heap.size wr g4 := bel_then (by repeat (first | with_reducible exact Below.refl _ _ | with_reducible assumption | with_reducible refine bel_alloc ?_ _ | with_reducible refine bel_drew ?_ | with_reducible refine bel_drewN ?_ _ | (with_reducible refine bel_set ?_ ?_ _; rotate_left; ((try simp); (try omega))))) hg4; clear hg4) | (go_at_call 43; refine (implSizeCaches_any _ d _ _ (by exact (HH.out.2.2.2 _ (by repeat (first | with_reducible exact Below.refl _ _ | with_reducible assumption | with_reducible refine bel_alloc ?_ _ | with_reducible refine bel_drew ?_ | with_reducible refine bel_drewN ?_ _ | (with_reducible refine bel_set ?_ ?_ _; rotate_left; ((try simp); (try omega)))))).r) hdz).mono ?_; rintro e g5 ⟨rfl, hg5⟩; have hG5 : Below wr.heap.size wr g5 := bel_then (by repeat (first | with_reducible exact Below.refl _ _ | with_reducible assumption | with_reducible refine bel_alloc ?_ _ | with_reducible refine bel_drew ?_ | with_reducible refine bel_drewN ?_ _ | (with_reducible refine bel_set ?_ ?_ _; rotate_left; ((try simp); (try omega))))) hg5; clear hg5) | (go_at_call 44; refine (implFindCache_any _ d _ v _ (by exact (HH.out.2.2.2 _ (by repeat (first | with_reducible exact Below.refl _ _ | with_reducible assumption | with_reducible refine bel_alloc ?_ _ | with_reducible refine bel_drew ?_ | with_reducible refine bel_drewN ?_ _ | (with_reducible refine bel_set ?_ ?_ _; rotate_left; ((try simp); (try omega)))))).r) hdz (by omega)).mono ?_; rw [l4]; rintro e g6 ⟨rfl, hg6⟩; have hG6 : Below wr.heap.size wr g6 := bel_then (by repeat (first | with_reducible exact Below.refl _ _ | with_reducible assumption | with_reducible refine bel_alloc ?_ _ | with_reducible refine bel_drew ?_ | with_reducible refine bel_drewN ?_ _ | (with_reducible refine bel_set ?_ ?_ _; rotate_left; ((try simp); (try omega))))) hg6; clear hg6))
          try go_wp2_with fail
          refine hK.out _ _ ?_ (fun hHeld => ?_)
          · (try dsimp only)
            exact hS _ (by repeat (first | with_reducible exact Below.refl _ _ | with_reducible assumption | with_reducible refine bel_alloc ?_ _ | with_reducible refine bel_drew ?_ | with_reducible refine bel_drewN ?_ _ | (with_reducible refine bel_set ?_ ?_ _; rotate_left; ((try simp); (try omega)))))
          clear hK K
          try simp only [Act.put, List.setIfInBounds_toArray, List.set_cons_zero, List.set_cons_succ]
          refine take_read (i := 26) 141 (v := ?v26) rfl rfl (by kernel_rfl) (by kernel_rfl) (by kernel_rfl) (fun _ _ _ h => h) (by rfl) ?hy26 (by assumption) ?rest26
          case hy26 => (intro w hSw; (try dsimp only at hSw); go_simp; (try with_reducible rfl))
          try simp only [Act.put, List.setIfInBounds_toArray, List.set_cons_zero, List.set_cons_succ]
          refine take_read (i := 27) 142 (v := ?v27) rfl rfl (by kernel_rfl) (by kernel_rfl) (by kernel_rfl) (fun _ _ _ h => h) (by rfl) ?hy27 (by assumption) ?rest27
          case hy27 => (intro w hSw; (try dsimp only at hSw); go_simp; (try with_reducible rfl))
          try simp only [Act.put, List.setIfInBounds_toArray, List.set_cons_zero, List.set_cons_succ]
          refine take_read (i := 28) 143 (v := ?v28) rfl rfl (by kernel_rfl) (by kernel_rfl) (by kernel_rfl) (fun _ _ _ h => h) (by rfl) ?hy28 (by assumption) ?rest28
          case hy28 => (intro w hSw; (try dsimp only at hSw); go_simp; (try with_reducible rfl))
          try simp only [Act.put, List.setIfInBounds_toArray, List.set_cons_zero, List.set_cons_succ]
          refine take_read (i := 29) 144 (v := ?v29) rfl rfl (by kernel_rfl) (by kernel_rfl) (by kernel_rfl) (fun _ _ _ h => h) (by rfl) ?hy29 (by assumption) ?rest29
          case hy29 => (intro w hSw; (try dsimp only at hSw); go_simp; (try with_reducible rfl))
          try simp only [Act.put, List.setIfInBounds_toArray, List.set_cons_zero, List.set_cons_succ]
          refine take_read (i := 30) 145 (v := ?v30) rfl rfl (by kernel_rfl) (by kernel_rfl) (by kernel_rfl) (fun _ _ _ h => h) (by rfl) ?hy30 (by assumption) ?rest30
          case hy30 => (intro w hSw; (try dsimp only at hSw); go_simp; (try with_reducible rfl))
          try simp only [Act.put, List.setIfInBounds_toArray, List.set_cons_zero, List.set_cons_succ]
          refine wpAnyH_ready (rs := [31]) (by kernel_rfl) (by simp) ?_
          refine AllReadyH.cons rfl (fun K hK => ?_) AllReadyH.nil
          go_simp
          (first | (go_at_call 27; refine (implEqualResponses_any _ y _ _ y _ _ (by exact (HH.out.1 _ (by repeat (first | with_reducible exact Below.refl _ _ | with_reducible assumption | with_reducible refine bel_alloc ?_ _ | with_reducible refine bel_drew ?_ | with_reducible refine bel_drewN ?_ _ | (with_reducible refine bel_set ?_ ?_ _; rotate_left; ((try simp); (try omega)))))).r) (by omega) (by exact (HH.out.2.1 _ (by repeat (first | with_reducible exact Below.refl _ _ | with_reducible assumption | with_reducible refine bel_alloc ?_ _ | with_reducible refine bel_drew ?_ | with_reducible refine bel_drewN ?_ _ | (with_reducible refine bel_set ?_ ?_ _; rotate_left; ((try simp); (try omega)))))).r) (by omega)).mono ?_; rw [respEqSelf]; rintro e g1 ⟨rfl, hg1⟩; have hG1 : Below wr.heap.size wr g1 := bel_then (by repeat (first | with_reducible exact Below.refl _ _ | with_reducible assumption | with_reducible refine bel_alloc ?_ _ | with_reducible refine bel_drew ?_ | with_reducible refine bel_drewN ?_ _ | (with_reducible refine bel_set ?_ ?_ _; rotate_left; ((try simp); (try omega))))) hg1; clear hg1) | (go_at_call_of 42 (Value.agg #[Value.slice A2 z.caches.length cp2]); refine (implIsCacheSetN_any _ z _ _ (by exact (HH.out.2.2.1 _ (by repeat (first | with_reducible exact Below.refl _ _ | with_reducible assumption | with_reducible refine bel_alloc ?_ _ | with_reducible refine bel_drew ?_ | with_reducible refine bel_drewN ?_ _ | (with_reducible refine bel_set ?_ ?_ _; rotate_left; ((try simp); (try omega)))))).r)).mono ?_; rw [l1]; rintro e g2 ⟨rfl, hg2⟩; have hG2 : Below wr.heap.size wr g2 := bel_then (by repeat (first | with_reducible exact Below.refl _ _ | with_reducible assumption | with_reducible refine bel_alloc ?_ _ | with_reducible refine bel_drew ?_ | with_reducible refine bel_drewN ?_ _ | (with_reducible refine bel_set ?_ ?_ _; rotate_left; ((try simp); (try omega))))) hg2; clear hg2) | (go_at_call 42; refine (implIsCacheSetN_any _ d _ _ (by exact (HH.out.2.2.2 _ (by repeat (first | with_reducible exact Below.refl _ _ | with_reducible assumption | with_reducible refine bel_alloc ?_ _ | with_reducible refine bel_drew ?_ | with_reducible refine bel_drewN ?_ _ | (with_reducible refine bel_set ?_ ?_ _; rotate_left; ((try simp); (try omega)))))).r)).mono ?_; rw [l3]; rintro e g3 ⟨rfl, hg3⟩; have hG3 : Below wr.heap.size wr g3 := bel_then (by repeat (first | with_reducible exact Below.refl _ _ | with_reducible assumption | with_reducible refine bel_alloc ?_ _ | with_reducible refine bel_drew ?_ | with_reducible refine bel_drewN ?_ _ | (with_reducible refine bel_set ?_ ?_ _; rotate_left; ((try simp); (try omega))))) hg3; clear hg3) | (go_at_call_of 43 (Value.agg #[Value.slice A2 z.caches.length cp2]); refine (implSizeCaches_any _ z _ _ (by exact (HH.out.2.2.1 _ (by repeat (first | with_reducible exact Below.refl _ _ | with_reducible assumption | with_reducible refine bel_alloc ?_ _ | with_reducible refine bel_drew ?_ | with_reducible refine bel_drewN ?_ _ | (with_reducible refine bel_set ?_ ?_ _; rotate_left; ((try simp); (try omega)))))).r) hzsz).mono ?_; rintro e g4 ⟨rfl, hg4⟩; have hG4 : Below wr.heap.size wr g4 := bel_then (by repeat (first | with_reducible exact Below.refl _ _ | with_reducible assumption | with_reducible refine bel_alloc ?_ _ | with_reducible refine bel_drew ?_ | with_reducible refine bel_drewN ?_ _ | (with_reducible refine bel_set ?_ ?_ _; rotate_left; ((try simp); (try omega))))) hg4; clear hg4) | (go_at_call 43; refine (implSizeCaches_any _ d _ _ (by exact (HH.out.2.2.2 _ (by repeat (first | with_reducible exact Below.refl _ _ | with_reducible assumption | with_reducible refine bel_alloc ?_ _ | with_reducible refine bel_drew ?_ | with_reducible refine bel_drewN ?_ _ | (with_reducible refine bel_set ?_ ?_ _; rotate_left; ((try simp); (try omega)))))).r) hdz).mono ?_; rintro e g5 ⟨rfl, hg5⟩; have hG5 : Below wr.heap.size wr g5 := bel_then (by repeat (first | with_reducible exact Below.refl _ _ | with_reducible assumption | with_reducible refine bel_alloc ?_ _ | with_reducible refine bel_drew ?_ | with_reducible refine bel_drewN ?_ _ | (with_reducible refine bel_set ?_ ?_ _; rotate_left; ((try simp); (try omega))))) hg5; clear hg5) | (go_at_call 44; refine (implFindCache_any _ d _ v _ (by exact (HH.out.2.2.2 _ (by repeat (first | with_reducible exact Below.refl _ _ | with_reducible assumption | with_reducible refine bel_alloc ?_ _ | with_reducible refine bel_drew ?_ | with_reducible refine bel_drewN ?_ _ | (with_reducible refine bel_set ?_ ?_ _; rotate_left; ((try simp); (try omega)))))).r) hdz (by omega)).mono ?_; rw [l4]; rintro e g6 ⟨rfl, hg6⟩; have hG6 : Below wr.heap.size wr g6 := bel_then (by repeat (first | with_reducible exact Below.refl _ _ | with_reducible assumption | with_reducible refine bel_alloc ?_ _ | with_reducible refine bel_drew ?_ | with_reducible refine bel_drewN ?_ _ | (with_reducible refine bel_set ?_ ?_ _; rotate_left; ((try simp); (try omega))))) hg6; clear hg6))
          try go_wp2_with fail
          refine hK.out _ _ ?_ (fun hHeld => ?_)
          · (try dsimp only)
            exact hS _ (by repeat (first | with_reducible exact Below.refl _ _ | with_reducible assumption | with_reducible refine bel_alloc ?_ _ | with_reducible refine bel_drew ?_ | with_reducible refine bel_drewN ?_ _ | (with_reducible refine bel_set ?_ ?_ _; rotate_left; ((try simp); (try omega)))))
          clear hK K
          try simp only [Act.put, List.setIfInBounds_toArray, List.set_cons_zero, List.set_cons_succ]
          refine take_read (i := 32) 147 (v := ?v32) rfl rfl (by kernel_rfl) (by kernel_rfl) (by kernel_rfl) (fun _ _ _ h => h) (by rfl) ?hy32 (by assumption) ?rest32
          case hy32 => (intro w hSw; (try dsimp only at hSw); go_simp; (try with_reducible rfl))
          try simp only [Act.put, List.setIfInBounds_toArray, List.set_cons_zero, List.set_cons_succ]
          refine take_read (i := 33) 148 (v := ?v33) rfl rfl (by kernel_rfl) (by kernel_rfl) (by kernel_rfl) (fun _ _ _ h => h) (by rfl) ?hy33 (by assumption) ?rest33
          case hy33 => (intro w hSw; (try dsimp only at hSw); go_simp; (try with_reducible rfl))
          try simp only [Act.put, List.setIfInBounds_toArray, List.set_cons_zero, List.set_cons_succ]
          refine take_read (i := 34) 2 (v := ?v34) rfl rfl (by kernel_rfl) (by kernel_rfl) (by kernel_rfl) (fun _ _ _ h => h) (by rfl) ?hy34 (by assumption) ?rest34
          case hy34 => (intro w hSw; (try dsimp only at hSw); go_simp; (try with_reducible rfl))
          try simp only [Act.put, List.setIfInBounds_toArray, List.set_cons_zero, List.set_cons_succ]
          refine wpAnyH_done (by kernel_rfl) ?_ _
          go_wp2_with fail
          go_ret
          exact ⟨by simp, bel_then hBwr (by assumption)⟩

set_option maxRecDepth 100000 in
theorem lawCaches_walk (H : Type) (enc : TypeId × Value → H) (W : World) (base : Nat) (args : Array Value) (ds : List (DataW H)) (p : List MemPlace)
    (hval : ∀ (j : Nat) t v, Try.f6.params[j]? = some t → args[j]? = some v → Value.okWide Try.prog W .any base t v)
    (hA : DataW.TrodAll enc Try.prog W 0 (fun _ => true) true Try.f6.params.toList args.toList ds p) (hf : W.noneFrozen p) :
    Calls Try.prog 6 args W (Gives W (.bool true)) := by
  rw [Try.params6] at hA hval
  obtain ⟨v0, vs0, d0, ds0, q0, s0, hargs, rfl, rfl, k0, t0⟩ := trodAll_cons hA
  obtain ⟨rfl, rfl, rfl⟩ := trodAll_nil t0
  obtain rfl : args = #[v0] := by cases args; simp_all
  obtain ⟨x0, F0, hx0⟩ := opens_US.slice_ Try.underlying22 (hval 0 _ _ rfl rfl) k0 (noneFrozen_mono hf fun y hy => by simp [hy])
  exact lawCaches_any v0 x0 F0 W hx0

set_option maxRecDepth 100000 in
theorem lawCaches_lifted (os : Os) (started : os.Started) (H : Type) (enc : TypeId × Value → H) :
    ReturnsInHanded {} Try.checked os 6 .any (Rows.fnCachesSpec.pre6 enc Try.prog Try.f6 Rows.fnCachesRow.domain false) (Rows.fnCachesSpec.post enc Try.prog Try.f6 false true false false) := by
  refine returnsInHanded_of_change (C := Try.checked) (by kernel_rfl) started (by kernel_rfl) Try.func6
    (ChangeSpec.witness6 (enc := enc) (C := Try.checked) false ⟨#[], #[.slice none 0 0], []⟩ 16 (by kernel_rfl) (by kernel_rfl) (by kernel_rfl) (by kernel_rfl)) ?_
  intro W base args ds gs before hval hW _ _
  have hW' := hW
  obtain ⟨p, q, hA, hV, rfl, hfz, hnd⟩ := hW
  refine (lawCaches_walk H enc W base args ds p hval hA (noneFrozen_mono hfz fun y hy => by simp [hy])).mono fun e W' ⟨he, hb⟩ => ⟨_, he, ?_⟩
  exact law_post (by kernel_rfl) rfl (by kernel_rfl) Try.underlying4 (by kernel_rfl) (fun ds h => by
    match ds, h with
    | [d0], _ => exact ⟨rfl, rfl, rfl⟩) hW' hb
theorem lawCaches_over : Rows.fnCachesRow.holds Try.pinned (OpenSpec.ofChange Rows.fnCachesSpec) :=
  OpenClaim.holds_of_wide 6 Try.f6 rfl rfl rfl rfl rfl rfl rfl ⟨rfl, rfl, rfl, rfl, rfl⟩ rfl rfl rfl rfl rfl (by kernel_rfl) Try.func6 (by kernel_rfl)
    (of_decide_eq_true (by kernel_rfl)) (by unfold Func.isWrapper; rw [if_neg (of_decide_eq_false (by kernel_rfl))]; exact ⟨rfl, rfl⟩)
    (fun os started H enc _ => lawCaches_lifted os started H enc)
/-- THE STATEMENT -/
theorem lawCaches_holds : Rows.FnCachesSaid := lawCaches_over

end Go.Proofs.Ytlicnppfgfjkgaa
