/-
  The law FnInstalls: an installed cache has all files of its version, and a failed installation leaves nothing behind. No conditions.
-/
import Derived.Test.YtlicnppfgfjkgaaRows
import Derived.Test.YtlicnppfgfjkgaaZDrawInst
import Derived.Test.YtlicnppfgfjkgaaZInstI
import Derived.Test.YtlicnppfgfjkgaaZInstS
import Derived.Test.YtlicnppfgfjkgaaZInstLaw
import Derived.Test.YtlicnppfgfjkgaaZSiteAt
import Derived.Test.YtlicnppfgfjkgaaZAtFn
import Derived.Test.YtlicnppfgfjkgaaZSame
namespace Go.Proofs.Ytlicnppfgfjkgaa
open Go.ChangeShapes Go.WideShapes Go.RowKit
set_option linter.unusedVariables false

set_option maxRecDepth 100000 in
set_option maxHeartbeats 8000000 in
theorem lawInstalls_any (v0 : Value) (xs : List UInt8) (F0 : List Nat) (w : World) (h : cUS.rep w [v0] xs F0) :
    Calls Try.prog 8 #[v0] w (Gives w (.bool true)) := by
  obtain ⟨A0, cp0, rfl⟩ := cL_form h
  have HR := Lib.hid h
  clear h
  by_cases hbig : (1048576 : Int) < xs.length
  · have hd : decide ((1048576 : Int) < xs.length) = true := by simpa using hbig
    go_enter Try.func8, Try.ntmps8
    go_wp2_with (go_at_call 10; refine (big_any _ _ _ _).mono ?_; rw [hd]; rintro e w1 ⟨rfl, rfl⟩)
    go_ret
    exact ⟨rfl, (by repeat (first | with_reducible exact Below.refl _ _ | with_reducible assumption | with_reducible refine bel_alloc ?_ _ | with_reducible refine bel_drew ?_ | with_reducible refine bel_drewN ?_ _ | (with_reducible refine bel_set ?_ ?_ _; rotate_left; ((try simp); (try omega)))))⟩
  · have hn : xs.length ≤ 1048576 := by omega
    have hd : decide ((1048576 : Int) < xs.length) = false := by simpa using hbig
    go_enter Try.func8, Try.ntmps8
    go_wp2_with (go_at_call 10; refine (big_any _ _ _ _).mono ?_; rw [hd]; rintro e w1 ⟨rfl, rfl⟩)
    clear hbig hd
    refine (drawInstallFiles_any _ xs F0 _ (Cod.bel HR.out (by repeat (first | with_reducible exact Below.refl _ _ | with_reducible assumption | with_reducible refine bel_alloc ?_ _ | with_reducible refine bel_drew ?_ | with_reducible refine bel_drewN ?_ _ | (with_reducible refine bel_set ?_ ?_ _; rotate_left; ((try simp); (try omega)))))) hn).mono ?_
    rintro e w1 ⟨s, A, cp, F1, x, A2, cp2, v, on, G, rfl, hb1, hr1, hr2, hsz, hsm, hv1, hv2, -, -⟩
    have hxsz := smallSite_le hsm
    have HSM := Lib.hid hsm
    have hnm : x.name.size ≤ maxLen := by have := hsm.1; unfold maxLen; omega
    have hB1 : Below w.heap.size w w1 := bel_then (by repeat (first | with_reducible exact Below.refl _ _ | with_reducible assumption | with_reducible refine bel_alloc ?_ _ | with_reducible refine bel_drew ?_ | with_reducible refine bel_drewN ?_ _ | (with_reducible refine bel_set ?_ ?_ _; rotate_left; ((try simp); (try omega))))) hb1
    clear hb1 hsm
    go_upto_region 4 with (fail)
    generalize hX : World.alloc w1 _ = X
    generalize hW : World.alloc X _ = W
    have hbX : Below w1.heap.size w1 X := by rw [← hX]; exact bel_one _ _
    have hbW : Below X.heap.size X W := by rw [← hW]; exact bel_one _ _
    have hXs : X.heap.size = w1.heap.size + 1 := by rw [← hX]; clear hX; simp
    have hA : SetAt X w1.heap.size s A cp F1 := by rw [← hX]; exact SetAt.new _ hr1
    have hT : SiteAt W X.heap.size x A2 cp2 G := by rw [← hW]; exact SiteAt.new _ (smallSite_ok HSM.out) (Cod.bel hr2 hbX)
    rw [hXs] at hT
    obtain ⟨sb, hsb⟩ : ∃ sb, w1.heap.size = sb := ⟨_, rfl⟩
    have hBW : Below w.heap.size w W := bel_then (bel_then hB1 hbX) hbW
    have hsbw : w.heap.size ≤ sb := by have := hB1.size; omega
    rw [hsb] at hA hT ⊢
    have HA := Lib.hid (hA.bel hbW)
    have HT := Lib.hid hT
    clear hX hW hbX hXs hA hT hbW hB1 hr1 hr2 hsb
    have q0 := HA.out.c
    have t0 := HT.out.c0; have t1 := HT.out.c1; have t2 := HT.out.c2; have t3 := HT.out.c3
    have hzs := installFiles_sz s x v on
    have hci := fun W9 (hb : Below W.heap.size W W9) => implInstallFiles_any _ s F1 _ x G v on W9 (by exact (HA.out.bel hb).r) (by omega) (by exact (HT.out.bel hb).r) hxsz (by omega)
    have hcs := fun W9 (hb : Below W.heap.size W W9) => specInstallFiles_any _ s F1 _ x G v on W9 (by exact (HA.out.bel hb).r) (by omega) (by exact (HT.out.bel hb).r) hxsz (by omega)
    have hP := fun h9 => install_parts (s := s) (x := x) (v := v) (on := on) h9
    have hD := fun h9 => install_drop (s := s) (x := x) (v := v) (on := on) h9
    have hN := fun h9 (i : Nat) (hi : i < x.files.length) => install_found (s := s) (x := x) (v := v) (on := on) h9 (i := i) hi
    have hF := fun h9 => install_failed (s := s) (x := x) (v := v) (on := on) h9
    obtain ⟨z, hz⟩ : ∃ z, (installFiles s x v on).1 = z := ⟨_, rfl⟩
    obtain ⟨ok, hok⟩ : ∃ ok, (installFiles s x v on).2 = ok := ⟨_, rfl⟩
    rw [hz, hok] at hci hcs hD hF hP hN
    rw [hz] at hzs
    have HC := Lib.hid (And.intro hci hcs)
    have HL := Lib.hid (And.intro (fun h9 => (hP h9).1) (And.intro hD (And.intro hN hF)))
    clear hci hcs hP hD hN hF hz hok
    go_wp2_with fail
    refine (HC.out.1 _ (Below.refl _ _)).mono ?_
    rintro e w2 ⟨vs2, F2, rfl, hb2, hr3, -⟩
    obtain ⟨A3, cp3, rfl⟩ := set_form hr3
    go_upto_region 5 with (fail)
    generalize hX : World.alloc w2 _ = X
    have hbX : Below w2.heap.size w2 X := by rw [← hX]; exact bel_one _ _
    have hZ : SetAt X w2.heap.size z A3 cp3 F2 := by rw [← hX]; exact SetAt.new _ hr3
    obtain ⟨zb, hzb⟩ : ∃ zb, w2.heap.size = zb := ⟨_, rfl⟩
    have hbWX : Below W.heap.size W X := bel_then hb2 hbX
    have hzbw : sb + 1 < zb := by have := hb2.size; have := HT.out.lt; omega
    rw [hzb] at hZ ⊢
    have HZ := Lib.hid hZ
    have HA2 := Lib.hid (HA.out.bel hbWX)
    have HT2 := Lib.hid (HT.out.bel hbWX)
    clear hX hZ hr3 hb2 hzb hbX q0 t0 t1 t2 t3
    have q0 := HA2.out.c
    have t0 := HT2.out.c0; have t1 := HT2.out.c1; have t2 := HT2.out.c2; have t3 := HT2.out.c3
    go_wp2_with fail
    refine (HC.out.2 _ hbWX).mono ?_
    rintro e w3 ⟨vs3, F3, rfl, hb3, hr3, -⟩
    obtain ⟨A4, cp4, rfl⟩ := set_form hr3
    go_upto_region 6 with (fail)
    generalize hW3 : World.alloc w3 _ = W3
    have hbW3 : Below X.heap.size X W3 := by rw [← hW3]; exact bel_alloc hb3 _
    have hBW3 : Below w.heap.size w W3 := bel_then (bel_then hBW hbWX) hbW3
    have HA3 := Lib.hid (HA2.out.bel hbW3)
    have HT3 := Lib.hid (HT2.out.bel hbW3)
    have HZ3 := Lib.hid (HZ.out.bel hbW3)
    clear HA HT HA2 HT2 HZ hb3 hr3 hW3 HC hbWX hbW3 hBW q0 t0 t1 t2 t3
    have q0 := HA3.out.c
    have z0 := HZ3.out.c
    have hzsz : cCSet.sz z ≤ 1048576 := by omega
    have hnb : ∀ b : Bool, (b != b) = false := fun b => by cases b <;> rfl
    cases ok
    · have hzs := HL.out.2.2.2 rfl
      subst hzs
      go_wp2_with fail
      refine (implEqualCacheSets_any _ _ F2 _ _ F1 _ (by exact HZ3.out.r) hzsz (by exact HA3.out.r) (by omega)).mono ?_
      rw [cachesEq_self]
      rintro e w4 ⟨rfl, hb4⟩
      go_wp2_with fail
      go_ret
      exact ⟨rfl, bel_then hBW3 hb4⟩
    · obtain rfl := HL.out.1 rfl
      have hD := HL.out.2.1 rfl
      have HN := Lib.hid (HL.out.2.2.1 rfl)
      clear HL q0 z0
      obtain ⟨m, hm⟩ : ∃ m, x.files.length = m := ⟨_, rfl⟩
      have HM := Lib.hid hm
      have hml : m ≤ 1048576 := by have := HSM.out.2.2.1; omega
      have t2 := HT3.out.c2
      rw [hm] at t2
      clear hm
      go_wp2_with fail
      go_loopw [11] (fun i wr => ∃ k : Nat, i = .int .i64 k ∧ k ≤ m ∧ Below W3.heap.size W3 wr) (fun i _ => m - (intOf i).toNat)
      case atStart => exact ⟨0, rfl, by omega, Below.refl _ _⟩
      case round =>
        obtain ⟨k, rfl, hk, hB⟩ := hrel
        clear t2
        have t2 := (HT3.out.bel hB).c2
        rw [HM.out] at t2
        by_cases hlt : k < m
        · have hki : (k : Int) < (m : Int) := by omega
          have hk0 : (0 : Int) ≤ (k : Int) := by omega
          have hkx : k < x.files.length := by rw [HM.out]; exact hlt
          obtain ⟨g, o, rfl, hg, qf⟩ := (HT3.out.bel hB).file hkx
          have hfk := HSM.out.2.2.2 _ (List.getElem_mem hkx)
          have hfm : x.files[k].size ≤ maxLen := by unfold maxLen; omega
          have hNk := HN.out k hkx
          have hcb := fun W9 (hb : Below W3.heap.size W3 W9) => specBodyOf_any _ x G x.files[k] v W9 (by exact (HT3.out.bel hb).r) hxsz (by omega) (by omega)
          simp only [HM.out] at hcb
          have HCB := Lib.hid hcb
          clear hcb
          generalize x.files[k] = f at *
          generalize bodyOf x f v = b at *
          have hS : ∀ w9, Below wr.heap.size wr w9 → w9.cell? ⟨zb, 0, none⟩ = some (.slice A3 z.caches.length cp3) ∧ w9.cell? ⟨sb + 1, 0, none⟩ = some (.string x.name) ∧ w9.cell? ⟨sb + 1, 1, none⟩ = some (.int .i64 x.ver) ∧ w9.cell? ⟨sb + 1, 2, none⟩ = some (.slice (some ⟨g, o, none⟩) m cp2) ∧ w9.cell? ⟨sb + 1, 3, none⟩ = some (.bool x.shared) ∧ w9.cell? ⟨g, o + k, none⟩ = some (.string f) := fun w9 hb => ⟨(HZ3.out.bel (bel_then hB hb)).c, (HT3.out.bel (bel_then hB hb)).c0, (HT3.out.bel (bel_then hB hb)).c1, by rw [← HM.out]; exact (HT3.out.bel (bel_then hB hb)).c2, (HT3.out.bel (bel_then hB hb)).c3, (hb.cell (p := ⟨g, o + k, none⟩) hg).trans qf⟩
          have hwr : Below wr.heap.size wr wr := Below.refl _ _
          go_upto_region 13 with (fail)
          go_cut [12, 13] from 56 to 68 (fun t12 t13 wq => ∃ rb U cu G5, t12 = .pointer (some ⟨rb, 0, none⟩) ∧ t13 = .bool true ∧ RespAt wq rb ⟨1, 200, v, b, x.shared⟩ U cu G5 ∧ Below wr.heap.size wr wq)
          case first =>
            go_region_held3 (fun w9 => w9.cell? ⟨zb, 0, none⟩ = some (.slice A3 z.caches.length cp3) ∧ w9.cell? ⟨sb + 1, 0, none⟩ = some (.string x.name) ∧ w9.cell? ⟨sb + 1, 1, none⟩ = some (.int .i64 x.ver) ∧ w9.cell? ⟨sb + 1, 2, none⟩ = some (.slice (some ⟨g, o, none⟩) m cp2) ∧ w9.cell? ⟨sb + 1, 3, none⟩ = some (.bool x.shared) ∧ w9.cell? ⟨g, o + k, none⟩ = some (.string f)) (exact hS _ (by repeat (first | with_reducible exact Below.refl _ _ | with_reducible assumption | with_reducible refine bel_alloc ?_ _ | with_reducible refine bel_drew ?_ | with_reducible refine bel_drewN ?_ _ | (with_reducible refine bel_set ?_ ?_ _; rotate_left; ((try simp); (try omega))))))
              (first | (go_at_call 40; refine (implMatchCache_any _ z F2 v x.name f _ (by exact (HZ3.out.bel (bel_then hB (by repeat (first | with_reducible exact Below.refl _ _ | with_reducible assumption | with_reducible refine bel_alloc ?_ _ | with_reducible refine bel_drew ?_ | with_reducible refine bel_drewN ?_ _ | (with_reducible refine bel_set ?_ ?_ _; rotate_left; ((try simp); (try omega))))))).r) hzsz (by omega) hnm hfm).mono ?_; rw [hNk]; rintro e u1 ⟨vs5, F5, rfl, hu1, hr5, hf5⟩; obtain ⟨A5, cp5, rfl, -, -⟩ := resp_form hr5; have hU1 : Below wr.heap.size wr u1 := bel_then (by repeat (first | with_reducible exact Below.refl _ _ | with_reducible assumption | with_reducible refine bel_alloc ?_ _ | with_reducible refine bel_drew ?_ | with_reducible refine bel_drewN ?_ _ | (with_reducible refine bel_set ?_ ?_ _; rotate_left; ((try simp); (try omega))))) hu1; obtain ⟨hcA, hfA, hzA⟩ := bcell hu1; (try simp at hzA); have hF5 : ∀ b, b ∈ F5 → _ ≤ b := fun b hb => hf5.1 b hb; (try simp at hF5); have HR5 := Lib.hid hr5; clear hr5 hf5 hu1))
            · go_wp2_with fail
              go_meet
              case rel => exact ⟨_, A5, cp5, F5, rfl, rfl, RespAt.new (y := ⟨1, 200, v, b, x.shared⟩) _ HR5.out, (by repeat (first | with_reducible exact Below.refl _ _ | with_reducible assumption | with_reducible refine bel_alloc ?_ _ | with_reducible refine bel_drew ?_ | with_reducible refine bel_drewN ?_ _ | (with_reducible refine bel_set ?_ ?_ _; rotate_left; ((try simp); (try omega)))))⟩
            · go_wp2_with fail
              go_meet
              case rel =>
                refine ⟨wr.heap.size, A5, cp5, F5, rfl, rfl, ⟨by go_simp, by go_simp, by go_simp, by go_simp, by go_simp, ?_, by (try simp); omega⟩, (by repeat (first | with_reducible exact Below.refl _ _ | with_reducible assumption | with_reducible refine bel_alloc ?_ _ | with_reducible refine bel_drew ?_ | with_reducible refine bel_drewN ?_ _ | (with_reducible refine bel_set ?_ ?_ _; rotate_left; ((try simp); (try omega)))))⟩
                have hlow : ∀ b, b ∈ F5 → wr.heap.size + 1 ≤ b := hF5
                exact (by repeat (first | with_reducible exact HR5.out | with_reducible refine Cod.allocA ?_ _ | with_reducible refine Cod.drewA ?_ | with_reducible refine Cod.drewNA ?_ _ | ((with_reducible refine Cod.setA ?_ ?_ _); rotate_left; ((intro hm9; have hm8 := hlow _ hm9; (try simp at hm8); (try omega))))))
          case rest =>
            obtain ⟨rb, U, cu, G5, rfl, rfl, hRb, hBc⟩ := hcut
            generalize wc = wd at *
            have HRB := Lib.hid hRb
            clear hRb
            have hS2 : ∀ w9, Below wd.heap.size wd w9 → w9.cell? ⟨rb, 0, none⟩ = some (.int .i64 1) ∧ w9.cell? ⟨rb, 1, none⟩ = some (.int .i64 200) ∧ w9.cell? ⟨rb, 2, none⟩ = some (.int .i64 v) ∧ w9.cell? ⟨rb, 3, none⟩ = some (.slice U b.length cu) ∧ w9.cell? ⟨rb, 4, none⟩ = some (.bool x.shared) ∧ w9.cell? ⟨sb + 1, 0, none⟩ = some (.string x.name) ∧ w9.cell? ⟨sb + 1, 1, none⟩ = some (.int .i64 x.ver) ∧ w9.cell? ⟨sb + 1, 2, none⟩ = some (.slice (some ⟨g, o, none⟩) m cp2) ∧ w9.cell? ⟨sb + 1, 3, none⟩ = some (.bool x.shared) ∧ w9.cell? ⟨g, o + k, none⟩ = some (.string f) := fun w9 hb => ⟨(HRB.out.bel hb).c0, (HRB.out.bel hb).c1, (HRB.out.bel hb).c2, (HRB.out.bel hb).c3, (HRB.out.bel hb).c4, (hS w9 (bel_then hBc hb)).2⟩
            clear hS hwr
            have hwd : Below wd.heap.size wd wd := Below.refl _ _
            have hB3 : Below W3.heap.size W3 wd := bel_then hB hBc
            go_upto_region 14 with (fail)
            refine wp_region_held_drew (S := (fun w9 => w9.cell? ⟨rb, 0, none⟩ = some (.int .i64 1) ∧ w9.cell? ⟨rb, 1, none⟩ = some (.int .i64 200) ∧ w9.cell? ⟨rb, 2, none⟩ = some (.int .i64 v) ∧ w9.cell? ⟨rb, 3, none⟩ = some (.slice U b.length cu) ∧ w9.cell? ⟨rb, 4, none⟩ = some (.bool x.shared) ∧ w9.cell? ⟨sb + 1, 0, none⟩ = some (.string x.name) ∧ w9.cell? ⟨sb + 1, 1, none⟩ = some (.int .i64 x.ver) ∧ w9.cell? ⟨sb + 1, 2, none⟩ = some (.slice (some ⟨g, o, none⟩) m cp2) ∧ w9.cell? ⟨sb + 1, 3, none⟩ = some (.bool x.shared) ∧ w9.cell? ⟨g, o + k, none⟩ = some (.string f))) (by kernel_rfl) (by (try dsimp only); exact hS2 _ (by repeat (first | with_reducible exact Below.refl _ _ | with_reducible assumption | with_reducible refine bel_alloc ?_ _ | with_reducible refine bel_drew ?_ | with_reducible refine bel_drewN ?_ _ | (with_reducible refine bel_set ?_ ?_ _; rotate_left; ((try simp); (try omega)))))) (fun hHeld => ?_)
            refine take_read (i := 0) 69 (v := ?v0) rfl rfl (by kernel_rfl) (by kernel_rfl) (by kernel_rfl) (fun _ _ _ h => h) (by rfl) ?hy0 (by assumption) ?rest0
            case hy0 => (intro w hSw; (try dsimp only at hSw); go_simp; (try with_reducible rfl))
            try simp only [Act.put, List.setIfInBounds_toArray, List.set_cons_zero, List.set_cons_succ]
            refine take_read (i := 1) 70 (v := ?v1) rfl rfl (by kernel_rfl) (by kernel_rfl) (by kernel_rfl) (fun _ _ _ h => h) (by rfl) ?hy1 (by assumption) ?rest1
            case hy1 => (intro w hSw; (try dsimp only at hSw); go_simp; (try with_reducible rfl))
            try simp only [Act.put, List.setIfInBounds_toArray, List.set_cons_zero, List.set_cons_succ]
            refine take_read (i := 2) 71 (v := ?v2) rfl rfl (by kernel_rfl) (by kernel_rfl) (by kernel_rfl) (fun _ _ _ h => h) (by rfl) ?hy2 (by assumption) ?rest2
            case hy2 => (intro w hSw; (try dsimp only at hSw); go_simp; (try with_reducible rfl))
            try simp only [Act.put, List.setIfInBounds_toArray, List.set_cons_zero, List.set_cons_succ]
            refine take_read (i := 3) 72 (v := ?v3) rfl rfl (by kernel_rfl) (by kernel_rfl) (by kernel_rfl) (fun _ _ _ h => h) (by rfl) ?hy3 (by assumption) ?rest3
            case hy3 => (intro w hSw; (try dsimp only at hSw); go_simp; (try with_reducible rfl))
            try simp only [Act.put, List.setIfInBounds_toArray, List.set_cons_zero, List.set_cons_succ]
            refine take_read (i := 4) 73 (v := ?v4) rfl rfl (by kernel_rfl) (by kernel_rfl) (by kernel_rfl) (fun _ _ _ h => h) (by rfl) ?hy4 (by assumption) ?rest4
            case hy4 => (intro w hSw; (try dsimp only at hSw); go_simp; (try with_reducible rfl))
            try simp only [Act.put, List.setIfInBounds_toArray, List.set_cons_zero, List.set_cons_succ]
            refine take_read (i := 5) 74 (v := ?v5) rfl rfl (by kernel_rfl) (by kernel_rfl) (by kernel_rfl) (fun _ _ _ h => h) (by rfl) ?hy5 (by assumption) ?rest5
            case hy5 => (intro w hSw; (try dsimp only at hSw); go_simp; (try with_reducible rfl))
            try simp only [Act.put, List.setIfInBounds_toArray, List.set_cons_zero, List.set_cons_succ]
            refine take_read (i := 6) 75 (v := ?v6) rfl rfl (by kernel_rfl) (by kernel_rfl) (by kernel_rfl) (fun _ _ _ h => h) (by rfl) ?hy6 (by assumption) ?rest6
            case hy6 => (intro w hSw; (try dsimp only at hSw); go_simp; (try with_reducible rfl))
            try simp only [Act.put, List.setIfInBounds_toArray, List.set_cons_zero, List.set_cons_succ]
            refine take_read (i := 7) 76 (v := ?v7) rfl rfl (by kernel_rfl) (by kernel_rfl) (by kernel_rfl) (fun _ _ _ h => h) (by rfl) ?hy7 (by assumption) ?rest7
            case hy7 => (intro w hSw; (try dsimp only at hSw); go_simp; (try with_reducible rfl))
            try simp only [Act.put, List.setIfInBounds_toArray, List.set_cons_zero, List.set_cons_succ]
            refine take_read (i := 8) 77 (v := ?v8) rfl rfl (by kernel_rfl) (by kernel_rfl) (by kernel_rfl) (fun _ _ _ h => h) (by rfl) ?hy8 (by assumption) ?rest8
            case hy8 => (intro w hSw; (try dsimp only at hSw); go_simp; (try with_reducible rfl))
            try simp only [Act.put, List.setIfInBounds_toArray, List.set_cons_zero, List.set_cons_succ]
            refine take_read (i := 9) 78 (v := ?v9) rfl rfl (by kernel_rfl) (by kernel_rfl) (by kernel_rfl) (fun _ _ _ h => h) (by rfl) ?hy9 (by assumption) ?rest9
            case hy9 => (intro w hSw; (try dsimp only at hSw); go_simp; (try with_reducible rfl))
            try simp only [Act.put, List.setIfInBounds_toArray, List.set_cons_zero, List.set_cons_succ]
            refine take_read (i := 10) 79 (v := ?v10) rfl rfl (by kernel_rfl) (by kernel_rfl) (by kernel_rfl) (fun _ _ _ h => h) (by rfl) ?hy10 (by assumption) ?rest10
            case hy10 => (intro w hSw; (try dsimp only at hSw); go_simp; (try with_reducible rfl))
            try simp only [Act.put, List.setIfInBounds_toArray, List.set_cons_zero, List.set_cons_succ]
            refine take_read (i := 11) 80 (v := ?v11) rfl rfl (by kernel_rfl) (by kernel_rfl) (by kernel_rfl) (fun _ _ _ h => h) (by rfl) ?hy11 (by assumption) ?rest11
            case hy11 => (intro w hSw; (try dsimp only at hSw); go_simp; (try with_reducible rfl))
            try simp only [Act.put, List.setIfInBounds_toArray, List.set_cons_zero, List.set_cons_succ]
            refine take_read (i := 12) 81 (v := ?v12) rfl rfl (by kernel_rfl) (by kernel_rfl) (by kernel_rfl) (fun _ _ _ h => h) (by rfl) ?hy12 (by assumption) ?rest12
            case hy12 => (intro w hSw; (try dsimp only at hSw); go_simp; (try with_reducible rfl))
            try simp only [Act.put, List.setIfInBounds_toArray, List.set_cons_zero, List.set_cons_succ]
            refine take_read (i := 13) 82 (v := ?v13) rfl rfl (by kernel_rfl) (by kernel_rfl) (by kernel_rfl) (fun _ _ _ h => h) (by rfl) ?hy13 (by assumption) ?rest13
            case hy13 => (intro w hSw; (try dsimp only at hSw); go_simp; (try with_reducible rfl))
            try simp only [Act.put, List.setIfInBounds_toArray, List.set_cons_zero, List.set_cons_succ]
            refine take_read (i := 14) 83 (v := ?v14) rfl rfl (by kernel_rfl) (by kernel_rfl) (by kernel_rfl) (fun _ _ _ h => h) (by rfl) ?hy14 (by assumption) ?rest14
            case hy14 => (intro w hSw; (try dsimp only at hSw); go_simp; (try with_reducible rfl))
            try simp only [Act.put, List.setIfInBounds_toArray, List.set_cons_zero, List.set_cons_succ]
            refine take_read (i := 15) 84 (v := ?v15) rfl rfl (by kernel_rfl) (by kernel_rfl) (by kernel_rfl) (fun _ _ _ h => h) (by rfl) ?hy15 (by assumption) ?rest15
            case hy15 => (intro w hSw; (try dsimp only at hSw); go_simp; (try with_reducible rfl))
            try simp only [Act.put, List.setIfInBounds_toArray, List.set_cons_zero, List.set_cons_succ]
            refine take_read (i := 16) 85 (v := ?v16) rfl rfl (by kernel_rfl) (by kernel_rfl) (by kernel_rfl) (fun _ _ _ h => h) (by rfl) ?hy16 (by assumption) ?rest16
            case hy16 => (intro w hSw; (try dsimp only at hSw); go_simp; (try with_reducible rfl))
            try simp only [Act.put, List.setIfInBounds_toArray, List.set_cons_zero, List.set_cons_succ]
            refine take_read (i := 17) 86 (v := ?v17) rfl rfl (by kernel_rfl) (by kernel_rfl) (by kernel_rfl) (fun _ _ _ h => h) (by rfl) ?hy17 (by assumption) ?rest17
            case hy17 => (intro w hSw; (try dsimp only at hSw); go_simp; (try with_reducible rfl))
            try simp only [Act.put, List.setIfInBounds_toArray, List.set_cons_zero, List.set_cons_succ]
            refine take_read (i := 18) 87 (v := ?v18) rfl rfl (by kernel_rfl) (by kernel_rfl) (by kernel_rfl) (fun _ _ _ h => h) (by rfl) ?hy18 (by assumption) ?rest18
            case hy18 => (intro w hSw; (try dsimp only at hSw); go_simp; (try with_reducible rfl))
            try simp only [Act.put, List.setIfInBounds_toArray, List.set_cons_zero, List.set_cons_succ]
            refine take_read (i := 19) 88 (v := ?v19) rfl rfl (by kernel_rfl) (by kernel_rfl) (by kernel_rfl) (fun _ _ _ h => h) (by rfl) ?hy19 (by assumption) ?rest19
            case hy19 => (intro w hSw; (try dsimp only at hSw); go_simp; (try with_reducible rfl))
            try simp only [Act.put, List.setIfInBounds_toArray, List.set_cons_zero, List.set_cons_succ]
            refine take_read (i := 20) 89 (v := ?v20) rfl rfl (by kernel_rfl) (by kernel_rfl) (by kernel_rfl) (fun _ _ _ h => h) (by rfl) ?hy20 (by assumption) ?rest20
            case hy20 => (intro w hSw; (try dsimp only at hSw); go_simp; (try with_reducible rfl))
            try simp only [Act.put, List.setIfInBounds_toArray, List.set_cons_zero, List.set_cons_succ]
            refine take_read (i := 21) 90 (v := ?v21) rfl rfl (by kernel_rfl) (by kernel_rfl) (by kernel_rfl) (fun _ _ _ h => h) (by rfl) ?hy21 (by assumption) ?rest21
            case hy21 => (intro w hSw; (try dsimp only at hSw); go_simp; (try with_reducible rfl))
            try simp only [Act.put, List.setIfInBounds_toArray, List.set_cons_zero, List.set_cons_succ]
            refine take_read (i := 22) 91 (v := ?v22) rfl rfl (by kernel_rfl) (by kernel_rfl) (by kernel_rfl) (fun _ _ _ h => h) (by rfl) ?hy22 (by assumption) ?rest22
            case hy22 => (intro w hSw; (try dsimp only at hSw); go_simp; (try with_reducible rfl))
            try simp only [Act.put, List.setIfInBounds_toArray, List.set_cons_zero, List.set_cons_succ]
            refine wpAnyH_ready (rs := [23]) (by kernel_rfl) (by simp) ?_
            refine AllReadyH.cons rfl (fun K hK => ?_) AllReadyH.nil
            go_simp
            (first | (go_at_call 55; refine (HCB.out _ (bel_then hB3 (by repeat (first | with_reducible exact Below.refl _ _ | with_reducible assumption | with_reducible refine bel_alloc ?_ _ | with_reducible refine bel_drew ?_ | with_reducible refine bel_drewN ?_ _ | (with_reducible refine bel_set ?_ ?_ _; rotate_left; ((try simp); (try omega))))))).mono ?_; rintro e g1 ⟨vb, Fb, rfl, hbb, hrb, -⟩; obtain ⟨Bb, cb, rfl⟩ := cL_form hrb; have hG1 : Below wd.heap.size wd g1 := bel_then (by repeat (first | with_reducible exact Below.refl _ _ | with_reducible assumption | with_reducible refine bel_alloc ?_ _ | with_reducible refine bel_drew ?_ | with_reducible refine bel_drewN ?_ _ | (with_reducible refine bel_set ?_ ?_ _; rotate_left; ((try simp); (try omega))))) hbb; clear hbb) | (go_at_call 32; refine (sameBytes_any _ _ b b _ _ _ (by exact (HRB.out.bel (W' := _) (by repeat (first | with_reducible exact Below.refl _ _ | with_reducible assumption | with_reducible refine bel_alloc ?_ _ | with_reducible refine bel_drew ?_ | with_reducible refine bel_drewN ?_ _ | (with_reducible refine bel_set ?_ ?_ _; rotate_left; ((try simp); (try omega)))))).body) (by exact Cod.bel hrb (by repeat (first | with_reducible exact Below.refl _ _ | with_reducible assumption | with_reducible refine bel_alloc ?_ _ | with_reducible refine bel_drew ?_ | with_reducible refine bel_drewN ?_ _ | (with_reducible refine bel_set ?_ ?_ _; rotate_left; ((try simp); (try omega))))))).mono ?_; rw [show bytesEq b b = true by simp [bytesEq_eq]]; rintro e ws ⟨rfl, hbs⟩; have hG2 : Below wd.heap.size wd ws := bel_then (by repeat (first | with_reducible exact Below.refl _ _ | with_reducible assumption | with_reducible refine bel_alloc ?_ _ | with_reducible refine bel_drew ?_ | with_reducible refine bel_drewN ?_ _ | (with_reducible refine bel_set ?_ ?_ _; rotate_left; ((try simp); (try omega))))) hbs; clear hbs hrb))
            try go_wp2_with fail
            refine hK.out _ _ ?_ (fun hHeld => ?_)
            · (try dsimp only)
              exact hS2 _ (by repeat (first | with_reducible exact Below.refl _ _ | with_reducible assumption | with_reducible refine bel_alloc ?_ _ | with_reducible refine bel_drew ?_ | with_reducible refine bel_drewN ?_ _ | (with_reducible refine bel_set ?_ ?_ _; rotate_left; ((try simp); (try omega)))))
            clear hK K
            try simp only [Act.put, List.setIfInBounds_toArray, List.set_cons_zero, List.set_cons_succ]
            refine wpAnyH_ready (rs := [24]) (by kernel_rfl) (by simp) ?_
            refine AllReadyH.cons rfl (fun K hK => ?_) AllReadyH.nil
            go_simp
            (first | (go_at_call 55; refine (HCB.out _ (bel_then hB3 (by repeat (first | with_reducible exact Below.refl _ _ | with_reducible assumption | with_reducible refine bel_alloc ?_ _ | with_reducible refine bel_drew ?_ | with_reducible refine bel_drewN ?_ _ | (with_reducible refine bel_set ?_ ?_ _; rotate_left; ((try simp); (try omega))))))).mono ?_; rintro e g1 ⟨vb, Fb, rfl, hbb, hrb, -⟩; obtain ⟨Bb, cb, rfl⟩ := cL_form hrb; have hG1 : Below wd.heap.size wd g1 := bel_then (by repeat (first | with_reducible exact Below.refl _ _ | with_reducible assumption | with_reducible refine bel_alloc ?_ _ | with_reducible refine bel_drew ?_ | with_reducible refine bel_drewN ?_ _ | (with_reducible refine bel_set ?_ ?_ _; rotate_left; ((try simp); (try omega))))) hbb; clear hbb) | (go_at_call 32; refine (sameBytes_any _ _ b b _ _ _ (by exact (HRB.out.bel (W' := _) (by repeat (first | with_reducible exact Below.refl _ _ | with_reducible assumption | with_reducible refine bel_alloc ?_ _ | with_reducible refine bel_drew ?_ | with_reducible refine bel_drewN ?_ _ | (with_reducible refine bel_set ?_ ?_ _; rotate_left; ((try simp); (try omega)))))).body) (by exact Cod.bel hrb (by repeat (first | with_reducible exact Below.refl _ _ | with_reducible assumption | with_reducible refine bel_alloc ?_ _ | with_reducible refine bel_drew ?_ | with_reducible refine bel_drewN ?_ _ | (with_reducible refine bel_set ?_ ?_ _; rotate_left; ((try simp); (try omega))))))).mono ?_; rw [show bytesEq b b = true by simp [bytesEq_eq]]; rintro e ws ⟨rfl, hbs⟩; have hG2 : Below wd.heap.size wd ws := bel_then (by repeat (first | with_reducible exact Below.refl _ _ | with_reducible assumption | with_reducible refine bel_alloc ?_ _ | with_reducible refine bel_drew ?_ | with_reducible refine bel_drewN ?_ _ | (with_reducible refine bel_set ?_ ?_ _; rotate_left; ((try simp); (try omega))))) hbs; clear hbs hrb))
            try go_wp2_with fail
            refine hK.out _ _ ?_ (fun hHeld => ?_)
            · (try dsimp only)
              exact hS2 _ (by repeat (first | with_reducible exact Below.refl _ _ | with_reducible assumption | with_reducible refine bel_alloc ?_ _ | with_reducible refine bel_drew ?_ | with_reducible refine bel_drewN ?_ _ | (with_reducible refine bel_set ?_ ?_ _; rotate_left; ((try simp); (try omega)))))
            clear hK K
            try simp only [Act.put, List.setIfInBounds_toArray, List.set_cons_zero, List.set_cons_succ]
            refine take_read (i := 25) 94 (v := ?v25) rfl rfl (by kernel_rfl) (by kernel_rfl) (by kernel_rfl) (fun _ _ _ h => h) (by rfl) ?hy25 (by assumption) ?rest25
            case hy25 => (intro w hSw; (try dsimp only at hSw); go_simp; (try with_reducible rfl))
            try simp only [Act.put, List.setIfInBounds_toArray, List.set_cons_zero, List.set_cons_succ]
            refine take_read (i := 26) 95 (v := ?v26) rfl rfl (by kernel_rfl) (by kernel_rfl) (by kernel_rfl) (fun _ _ _ h => h) (by rfl) ?hy26 (by assumption) ?rest26
            case hy26 => (intro w hSw; (try dsimp only at hSw); go_simp; (try with_reducible rfl))
            try simp only [Act.put, List.setIfInBounds_toArray, List.set_cons_zero, List.set_cons_succ]
            refine wpAnyH_done (by kernel_rfl) ?_ _
            go_wp2_with fail
            go_roundw
            case rel => exact ⟨k + 1, by go_num, by omega, bel_then hB3 (by assumption)⟩
            case measure => simp [intOf]; omega
        · have hki : ¬ (k : Int) < (m : Int) := by omega
          have z0 := (HZ3.out.bel hB).c
          go_wp2_with fail
          refine (implDropCache_any _ z F2 v _ (by exact (HZ3.out.bel hB).r) hzsz (by omega)).mono ?_
          rw [hD]
          rintro e w5 ⟨vs5, F5, rfl, hb5, hr5, -⟩
          obtain ⟨A5, cp5, rfl⟩ := set_form hr5
          go_upto_region 17 with (fail)
          generalize hX : World.alloc w5 _ = X5
          have hbX : Below w5.heap.size w5 X5 := by rw [← hX]; exact bel_one _ _
          have hDB : SetAt X5 w5.heap.size s A5 cp5 F5 := by rw [← hX]; exact SetAt.new _ hr5
          obtain ⟨db, hdb⟩ : ∃ db, w5.heap.size = db := ⟨_, rfl⟩
          have hb35 : Below W3.heap.size W3 X5 := bel_then (bel_then hB hb5) hbX
          rw [hdb] at hDB ⊢
          have HD := Lib.hid hDB
          clear hX hbX hDB hdb hb5 hr5 z0
          have d0 := HD.out.c
          have a0 := (HA3.out.bel hb35).c
          have hBw5 : Below w.heap.size w X5 := bel_then hBW3 hb35
          go_wp2_with (go_at_call 39; refine (implEqualCacheSets_any _ s F5 _ s F1 _ (by exact HD.out.r) (by omega) (by exact Cod.bel HA3.out.r hb35) (by omega)).mono ?_; rw [cachesEq_self]; rintro e u6 ⟨rfl, hb6⟩)
          go_ret
          exact ⟨rfl, bel_then hBw5 hb6⟩

set_option maxRecDepth 100000 in
theorem lawInstalls_walk (H : Type) (enc : TypeId × Value → H) (W : World) (base : Nat) (args : Array Value) (ds : List (DataW H)) (p : List MemPlace)
    (hval : ∀ (j : Nat) t v, Try.f8.params[j]? = some t → args[j]? = some v → Value.okWide Try.prog W .any base t v)
    (hA : DataW.TrodAll enc Try.prog W 0 (fun _ => true) true Try.f8.params.toList args.toList ds p) (hf : W.noneFrozen p) :
    Calls Try.prog 8 args W (Gives W (.bool true)) := by
  rw [Try.params8] at hA hval
  obtain ⟨v0, vs0, d0, ds0, q0, s0, hargs, rfl, rfl, k0, t0⟩ := trodAll_cons hA
  obtain ⟨rfl, rfl, rfl⟩ := trodAll_nil t0
  obtain rfl : args = #[v0] := by cases args; simp_all
  obtain ⟨x0, F0, hx0⟩ := opens_US.slice_ Try.underlying22 (hval 0 _ _ rfl rfl) k0 (noneFrozen_mono hf fun y hy => by simp [hy])
  exact lawInstalls_any v0 x0 F0 W hx0

set_option maxRecDepth 100000 in
theorem lawInstalls_lifted (os : Os) (started : os.Started) (H : Type) (enc : TypeId × Value → H) :
    ReturnsInHanded {} Try.checked os 8 .any (Rows.fnInstallsSpec.pre6 enc Try.prog Try.f8 Rows.fnInstallsRow.domain false) (Rows.fnInstallsSpec.post enc Try.prog Try.f8 false true false false) := by
  refine returnsInHanded_of_change (C := Try.checked) (by kernel_rfl) started (by kernel_rfl) Try.func8
    (ChangeSpec.witness6 (enc := enc) (C := Try.checked) false ⟨#[], #[.slice none 0 0], []⟩ 16 (by kernel_rfl) (by kernel_rfl) (by kernel_rfl) (by kernel_rfl)) ?_
  intro W base args ds gs before hval hW _ _
  have hW' := hW
  obtain ⟨p, q, hA, hV, rfl, hfz, hnd⟩ := hW
  refine (lawInstalls_walk H enc W base args ds p hval hA (noneFrozen_mono hfz fun y hy => by simp [hy])).mono fun e W' ⟨he, hb⟩ => ⟨_, he, ?_⟩
  exact law_post (by kernel_rfl) rfl (by kernel_rfl) Try.underlying4 (by kernel_rfl) (fun ds h => by
    match ds, h with
    | [d0], _ => exact ⟨rfl, rfl, rfl⟩) hW' hb
theorem lawInstalls_over : Rows.fnInstallsRow.holds Try.pinned (OpenSpec.ofChange Rows.fnInstallsSpec) :=
  OpenClaim.holds_of_wide 8 Try.f8 rfl rfl rfl rfl rfl rfl rfl ⟨rfl, rfl, rfl, rfl, rfl⟩ rfl rfl rfl rfl rfl (by kernel_rfl) Try.func8 (by kernel_rfl)
    (of_decide_eq_true (by kernel_rfl)) (by unfold Func.isWrapper; rw [if_neg (of_decide_eq_false (by kernel_rfl))]; exact ⟨rfl, rfl⟩)
    (fun os started H enc _ => lawInstalls_lifted os started H enc)
/-- THE STATEMENT -/
theorem lawInstalls_holds : Rows.FnInstallsSaid := lawInstalls_over

end Go.Proofs.Ytlicnppfgfjkgaa
