/-
  DrawUsedVersions: what it hands out. No conditions but the input's length.
-/
import Derived.Test.YtlicnppfgfjkgaaZUsedPg
namespace Go.Proofs.Ytlicnppfgfjkgaa
open Go.ChangeShapes Go.WideShapes Go.RowKit
set_option linter.unusedVariables false

theorem infoPage : (Try.prog.info? 41).map (fun i => (i.zero, i.size, i.bytes)) = some (some (Value.agg #[.int .i64 0, .string ByteArray.empty, .string ByteArray.empty, .int .i64 0, .slice none 0 0, .slice none 0 0, .int .i64 0, .slice none 0 0, .int .i64 0, .bool false, .bool false]), 11, 144) := by kernel_rfl
set_option maxRecDepth 100000 in
set_option maxHeartbeats 8000000 in
theorem drawUsedVersions_any (v : Value) (xs : List UInt8) (F : List Nat) (w : World) (h : cUS.rep w [v] xs F) (hn : xs.length ≤ 1048576) :
    Calls Try.prog 21 #[v] w (fun e w' => ∃ (o : Value) (st : ByteArray), e = .returned (.tuple #[o, .string st]) ∧ Below w.heap.size w w' ∧ st.size ≤ 100 ∧ ∃ (ps : List TPage) (G : List Nat), cPageS.rep w' [o] ps G ∧ ps.length ≤ 3) := by
  obtain ⟨i0, hi0, hz0, hz1, hz2⟩ := info_parts infoPage
  go_enter Try.func21, Try.ntmps21
  go_wp2_with fail
  refine (l1New_any v xs _ _ (by exact Cod.bel h (by repeat (first | with_reducible exact Below.refl _ _ | with_reducible assumption | with_reducible refine bel_alloc ?_ _ | with_reducible refine bel_drew ?_ | with_reducible refine bel_drewN ?_ _ | (with_reducible refine bel_set ?_ ?_ _; rotate_left; ((try simp); (try omega)))))) hn).mono ?_
  rintro e w1 ⟨rfl, hb1, hc1⟩
  (try simp at hc1)
  have hz1' := hb1.size
  have hpl := hc1.lt
  go_wp2_with fail
  refine (l1Below_any w.heap.size 4 _ (hc1.alloc _) (by omega)).mono ?_
  rintro e w2 ⟨u, rfl, ⟨r, rfl, hr0, hr1⟩, ho2, hc2⟩
  have hO2 : Only [w.heap.size] w1 w2 := (show Only [w.heap.size] w1 _ from (by repeat (first | with_reducible exact Only.refl _ _ | with_reducible assumption | with_reducible refine Only.alloc ?_ _ | with_reducible refine Only.drew ?_ | with_reducible refine Only.drewN ?_ _ | (with_reducible refine Only.setNew ?_ ?_ _; rotate_left; ((try simp); (try omega)))))).trans ho2
  clear ho2
  go_wp2_with fail
  go_loopw [5, 6] (fun o i wr => ∃ k : Int, i = .int .i64 k ∧ 0 ≤ k ∧ k ≤ 3 ∧ Only [w.heap.size] w1 wr ∧ Cur wr w.heap.size ∧ ∃ (ps : List TPage) (Fi : List Nat), Own cPage 41 w1.heap.size wr o ps Fi ∧ Fresh w1.heap.size Fi ∧ (∀ g, ownB o = some g → g ∉ Fi) ∧ ps.length + k.toNat ≤ 3) (fun _ i _ => (intOf i).toNat)
  case atStart => exact ⟨r, rfl, hr0, by omega, hO2, hc2, [], [], Own.empty _, Fresh.nil _, fun g hg => by simp, by simp; omega⟩
  case round =>
    obtain ⟨k, rfl, hk0, hk3, hO, hcur, ps, Fi, hown, hfr, hne, hpl2⟩ := hrel
    have HO := Lib.hid (And.intro hown (And.intro hfr hne))
    clear hown hfr hne
    by_cases hpos : 0 < k
    · go_wp2_with fail
      refine (l19Any_any w.heap.size _ hcur).mono ?_
      rintro e w3 ⟨u, rfl, ⟨x, A4, c4, A5, c5, A7, c7, rfl, ⟨F5, hpv⟩, hsz, hv0, hv1⟩, ho3, hc3⟩
      have hown3 := HO.out.1.keep (fun g hg => ho3.block g (HO.out.1.lt g hg).2 (by have := (HO.out.1.lt g hg).1; simp; omega)) (fun b hb => ho3.block b (HO.out.1.inner_lt b hb) (by have := HO.out.2.1.1 b hb; simp; omega))
      have hO3 : Only [w.heap.size] w1 w3 := hO.trans ho3
      have hsO := hO.size
      have hsO3 := ho3.size
      obtain ⟨G, hr, hfG, -⟩ := hpv.rep
      have hltI := HO.out.1.inner_lt
      have hltO := HO.out.1.lt
      have hltG := Cod.lt _ hr
      have HR := Lib.hid (And.intro hr (And.intro hfG hltG))
      have HO3 := Lib.hid (And.intro hown3 (And.intro hltI hltO))
      clear hown3 ho3 hpv hr hfG hltI hltO hltG
      have hw31 : w1.heap.size ≤ w3.heap.size := by omega
      go_wp2_with (at_builtin; refine wpList_app (c := cPage) (B := w1.heap.size) (xs := ps) (ys := [x]) (Fi := Fi) (Fy := G) _ rfl _ _ _ rfl i0 _ _ Try.underlying52 hi0 hz0 hz1 hz2 rfl (by decide) rfl (HO3.out.1.bel (by repeat (first | with_reducible exact Below.refl _ _ | with_reducible assumption | with_reducible refine bel_alloc ?_ _ | with_reducible refine bel_drew ?_ | with_reducible refine bel_drewN ?_ _ | (with_reducible refine bel_set ?_ ?_ _; rotate_left; ((try simp); (try omega)))))) (.slice (some ⟨w3.heap.size, 0, none⟩) 1 1) rfl (src_new 41 w3.heap.size rfl HR.out.1) (by unfold maxLen; simp; omega) (by simp; omega) (by (try simp); (try omega)) (fun g hg => ⟨HO.out.2.2 g hg, fun hm => by have h8 := HR.out.2.1.1 g hm; have h9 := (HO3.out.2.2 g hg).2; omega⟩) ?_)
      intro v4 w4 ho4 hg4 hat4
      have hlo := HO3.out.2.2
      have hO4 : Only [w.heap.size] w1 w4 := (show Only [w.heap.size] w1 _ from (by repeat (first | with_reducible exact Only.refl _ _ | with_reducible assumption | with_reducible refine Only.alloc ?_ _ | with_reducible refine Only.drew ?_ | with_reducible refine Only.drewN ?_ _ | (with_reducible refine Only.setNew ?_ ?_ _; rotate_left; ((try simp); (try omega)))))).grown hg4 (fun g hg => (hlo g hg).1)
      have hc4 : Cur w4 w.heap.size := (show Cur _ w.heap.size from (by repeat (first | with_reducible assumption | with_reducible refine Cur.alloc ?_ _ | with_reducible refine Cur.drew ?_ | with_reducible refine Cur.drewN ?_ _ | (with_reducible refine Cur.set ?_ ?_ _; rotate_left; ((try simp); (try omega)))))).grown hg4 (fun g hg => by have := (hlo g hg).1; omega)
      have hfr4 : Fresh w1.heap.size (Fi ++ G) := ⟨fun b hb => by
        rcases List.mem_append.1 hb with hb | hb
        · exact HO.out.2.1.1 b hb
        · have := HR.out.2.1.1 b hb; omega, List.nodup_append.2 ⟨HO.out.2.1.2, HR.out.2.1.2, fun a ha b hb e => by have h8 := HO3.out.2.1 a ha; have h9 := HR.out.2.1.1 b hb; omega⟩⟩
      have hne4 : ∀ g, ownB v4 = some g → g ∉ Fi ++ G := fun g hg hm => by
        rcases hat4 g hg with h9 | h9
        · rcases List.mem_append.1 hm with hm | hm
          · exact HO.out.2.2 g h9 hm
          · have h7 := HR.out.2.1.1 g hm; have h6 := (HO3.out.2.2 g h9).2; omega
        · (try simp at h9)
          rcases List.mem_append.1 hm with hm | hm
          · have h7 := HO3.out.2.1 g hm; omega
          · have h7 := HR.out.2.2 g hm; omega
      have HO4 := Lib.hid (And.intro ho4 (And.intro hfr4 hne4))
      clear ho4 hg4 hat4 hlo hfr4 hne4
      go_wp2_with fail
      go_roundw
      case rel => exact ⟨k - 1, by go_num, by omega, by omega, hO4, hc4, ps ++ [x], Fi ++ G, HO4.out.1, HO4.out.2.1, HO4.out.2.2, by simp; omega⟩
      case measure => simp [intOf]; omega
    · obtain ⟨G, hr2, hmem, -⟩ := HO.out.1.rep (hw := by decide) (hw2 := by decide)
      have HR := Lib.hid hr2
      have hFG : w.heap.size ∉ G := fun hm => by
        rcases hmem _ hm with h9 | h9
        · have := (HO.out.1.lt _ h9).1; omega
        · have := HO.out.2.1.1 _ h9; omega
      clear hmem
      clear hr2
      go_wp2_with fail
      refine (l15Site_any w.heap.size _ hcur).mono ?_
      rintro e w3 ⟨u, rfl, ⟨st, rfl, hst⟩, ho3, hc3⟩
      have hr3 := Turn.rep (Turn.mk ho3) hFG HR.out
      have hO3 : Only [w.heap.size] w1 w3 := hO.trans ho3
      have HR3 := Lib.hid hr3
      clear hr3
      go_wp2_with fail
      obtain ⟨Ao, co, rfl⟩ := cL_form HR3.out
      refine bodyPost_ret (v := .tuple #[.slice Ao ps.length co, .string st]) (by simp [results, Try.results21, go_sem]) rfl ?_
      exact ⟨_, st, rfl, (bel_then (by repeat (first | with_reducible exact Below.refl _ _ | with_reducible assumption | with_reducible refine bel_alloc ?_ _ | with_reducible refine bel_drew ?_ | with_reducible refine bel_drewN ?_ _ | (with_reducible refine bel_set ?_ ?_ _; rotate_left; ((try simp); (try omega))))) hb1).trans (hO3.bel w.heap.size (by omega) (fun y hy => by simp at hy; omega)), hst, ps, G, HR3.out, by omega⟩
end Go.Proofs.Ytlicnppfgfjkgaa
