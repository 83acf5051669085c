/-
  NewMachine of the program and of the reference. No conditions.
-/
import Derived.Test.YtlicnppfgfjkgaaZA
import Derived.Test.YtlicnppfgfjkgaaZScriptOk
namespace Go.Proofs.Ytlicnppfgfjkgaa
open Go.ChangeShapes Go.WideShapes Go.RowKit
set_option linter.unusedVariables false

def newMachine (l : List TIns) : TMach := bif isScript l then ⟨l, 0, [0, 0, 0, 0], 0, false, false⟩ else ⟨[], 0, [0, 0, 0, 0], 0, true, false⟩
theorem regs4 {w : World} {g : Nat} (h : w.heap[g]? = some (.cells #[.int .i64 0, .int .i64 0, .int .i64 0, .int .i64 0] 3 (0, 0))) : cIS.rep w [.slice (some ⟨g, 0, none⟩) 4 4] [0, 0, 0, 0] [g] := by
  have hb : Blk w g 3 #[.int .i64 0, .int .i64 0, .int .i64 0, .int .i64 0] := h
  have z : (-9223372036854775808 : Int) ≤ 0 ∧ (0 : Int) ≤ 9223372036854775807 := by decide
  refine ⟨_, 4, rfl, by decide, by decide, .inr ⟨by simp, g, 0, [], [.int .i64 0, .int .i64 0, .int .i64 0, .int .i64 0], rfl, rfl, fun j u hu => ?_, ?_⟩⟩
  · rw [Nat.zero_add]
    exact ⟨by rw [hb.cell]; simpa using hu, hb.frozen _⟩
  · exact ⟨[_], _, [], [], rfl, rfl, ⟨rfl, rfl, z⟩, ⟨[_], _, [], [], rfl, rfl, ⟨rfl, rfl, z⟩, ⟨[_], _, [], [], rfl, rfl, ⟨rfl, rfl, z⟩, ⟨[_], _, [], [], rfl, rfl, ⟨rfl, rfl, z⟩, ⟨rfl, rfl⟩⟩⟩⟩⟩
theorem zero_ok (l : List TIns) (rg : List Int) (d wt : Bool) : (⟨l, 0, rg, 0, d, wt⟩ : TMach).Ok := ⟨⟨show (-9223372036854775808 : Int) ≤ 0 by decide, show (0 : Int) ≤ 9223372036854775807 by decide⟩, ⟨show (-9223372036854775808 : Int) ≤ 0 by decide, show (0 : Int) ≤ 9223372036854775807 by decide⟩⟩
theorem make4 (w : World) : (Instr.makeSlice 26 (.int .i64 4) (.int .i64 4)).run Try.prog w = .ok (.slice (some ⟨w.heap.size, 0, none⟩) 4 4) (w.alloc (.cells #[.int .i64 0, .int .i64 0, .int .i64 0, .int .i64 0] 3)) := by
  obtain ⟨i0, hi0, hz0, hz1, hz2⟩ := info_parts infoInt
  have h := run_make_rowN (P := Try.prog) 26 3 i0 _ Try.underlying26 hi0 hz0 .i64 .i64 4 4 (Nat.le_refl _) (by rw [hz2]; omega) (by omega) w
  rw [hz1] at h
  have h2 : ((4 : Nat) : Int) = 4 := rfl
  rw [h2] at h
  rw [show madeCells (Value.int .i64 0).cells (4 * 1) = #[.int .i64 0, .int .i64 0, .int .i64 0, .int .i64 0] from by kernel_rfl] at h
  exact h
set_option maxRecDepth 100000 in
set_option maxHeartbeats 2000000 in
theorem implNewMachine_any (v : Value) (l : List TIns) (F : List Nat) (w : World) (h : cInsS.rep w [v] l F) (hn : cInsS.sz l ≤ 1048576) :
    Calls Try.prog 12 #[v] w (GivesR cMach w (newMachine l)) := by
  obtain ⟨i0, hi0, hz0, hz1, hz2⟩ := info_parts infoIns
  have hlen : l.length ≤ 1048576 := Nat.le_trans (Cod.len_le cIns l) hn
  have HS := Lib.hid hlen
  obtain ⟨A, cp, rfl⟩ := cL_form h
  have hmk := make4
  have hcs := fun W hb => implIsScript_any _ l _ W (Cod.bel h hb) hn
  clear hlen
  cases hs : isScript l
  · rw [hs] at hcs
    have HE := Lib.hid (show newMachine l = ⟨[], 0, [0, 0, 0, 0], 0, true, false⟩ by simp [newMachine, hs])
    rw [HE.out]
    go_enter Try.func12, Try.ntmps12
    go_wp2_with fail
    refine (hcs _ (by repeat (first | with_reducible exact Below.refl _ _ | with_reducible assumption | with_reducible refine bel_alloc ?_ _ | with_reducible refine bel_drew ?_ | with_reducible refine bel_drewN ?_ _ | (with_reducible refine bel_set ?_ ?_ _; rotate_left; ((try simp); (try omega)))))).mono ?_
    rintro e w1 ⟨rfl, hb1⟩
    have hr4 := regs4 (Blk.new (w.alloc (.cells #[.slice none 0 0, .int .i64 0, .slice none 0 0, .int .i64 0, .bool false, .bool false] 28)) 3 #[.int .i64 0, .int .i64 0, .int .i64 0, .int .i64 0])
    have hr5 := Cod.bel hr4 (bel_then (bel_alloc (Below.refl _ _) _) hb1)
    replace hr5 : cIS.rep w1 [.slice (some ⟨w.heap.size + 1, 0, none⟩) 4 4] [0, 0, 0, 0] [w.heap.size + 1] := by simpa using hr5
    clear hr4
    have hz_w1 := hb1.size
    (try simp at hz_w1)
    have ha0_w1 : w.heap.size < w1.heap.size := by omega
    have ha1_w1 : w.heap.size + 1 < w1.heap.size := by omega
    have ha2_w1 : w.heap.size + 1 + 1 < w1.heap.size := by omega
    obtain ⟨hc_w1, hf_w1, -⟩ := bcell hb1
    have hb_w1 : Below w.heap.size w w1 := bel_then (by repeat (first | with_reducible exact Below.refl _ _ | with_reducible assumption | with_reducible refine bel_alloc ?_ _ | with_reducible refine bel_drew ?_ | with_reducible refine bel_drewN ?_ _ | (with_reducible refine bel_set ?_ ?_ _; rotate_left; ((try simp); (try omega))))) hb1
    clear hb1
    have j0 : w1.cell? ⟨w.heap.size, 0, none⟩ = some (.slice none 0 0) := by go_simp
    have j1 : w1.cell? ⟨w.heap.size, 1, none⟩ = some (.int .i64 0) := by go_simp
    have j2 : w1.cell? ⟨w.heap.size, 2, none⟩ = some (.slice none 0 0) := by go_simp
    have j3 : w1.cell? ⟨w.heap.size, 3, none⟩ = some (.int .i64 0) := by go_simp
    have j4 : w1.cell? ⟨w.heap.size, 4, none⟩ = some (.bool false) := by go_simp
    have j5 : w1.cell? ⟨w.heap.size, 5, none⟩ = some (.bool false) := by go_simp
    have k0 : w1.cell? ⟨w.heap.size + 1 + 1, 0, none⟩ = some (.slice none 0 0) := by go_simp
    have k1 : w1.cell? ⟨w.heap.size + 1 + 1, 1, none⟩ = some (.int .i64 0) := by go_simp
    have k2 : w1.cell? ⟨w.heap.size + 1 + 1, 2, none⟩ = some (.slice (some ⟨w.heap.size + 1, 0, none⟩) 4 4) := by go_simp
    have k3 : w1.cell? ⟨w.heap.size + 1 + 1, 3, none⟩ = some (.int .i64 0) := by go_simp
    have k4 : w1.cell? ⟨w.heap.size + 1 + 1, 4, none⟩ = some (.bool false) := by go_simp
    have k5 : w1.cell? ⟨w.heap.size + 1 + 1, 5, none⟩ = some (.bool false) := by go_simp
    go_wp2_with fail
    refine bodyPost_ret (v := .agg #[.slice none 0 0, .int .i64 0, .slice (some ⟨w.heap.size + 1, 0, none⟩) 4 4, .int .i64 0, .bool true, .bool false]) (by simp [results, Try.results12, go_sem, *]) rfl ?_
    refine ⟨_, [w.heap.size + 1], rfl, (by repeat (first | with_reducible exact Below.refl _ _ | with_reducible assumption | with_reducible refine bel_alloc ?_ _ | with_reducible refine bel_drew ?_ | with_reducible refine bel_drewN ?_ _ | (with_reducible refine bel_set ?_ ?_ _; rotate_left; ((try simp); (try omega))))), ?_, ?_⟩
    · exact TMach.mk_ (F0 := []) (x := ⟨[], 0, [0, 0, 0, 0], 0, true, false⟩) (zero_ok _ _ _ _) ⟨none, 0, rfl, by decide, by decide, .inl ⟨rfl, rfl⟩⟩ (by repeat (first | with_reducible exact hr5 | with_reducible refine Cod.allocA ?_ _ | with_reducible refine Cod.drewA ?_ | with_reducible refine Cod.drewNA ?_ _ | ((with_reducible refine Cod.setA ?_ ?_ _); rotate_left; ((intro hm9; (try simp at hm9); (try omega))))))
    · exact ⟨fun b hb => by (simp at hb; omega), by simp⟩
  · rw [hs] at hcs
    have HE := Lib.hid (show newMachine l = ⟨l, 0, [0, 0, 0, 0], 0, false, false⟩ by simp [newMachine, hs])
    rw [HE.out]
    go_enter Try.func12, Try.ntmps12
    go_wp2_with fail
    refine (hcs _ (by repeat (first | with_reducible exact Below.refl _ _ | with_reducible assumption | with_reducible refine bel_alloc ?_ _ | with_reducible refine bel_drew ?_ | with_reducible refine bel_drewN ?_ _ | (with_reducible refine bel_set ?_ ?_ _; rotate_left; ((try simp); (try omega)))))).mono ?_
    rintro e w1 ⟨rfl, hb1⟩
    have hr4 := regs4 (Blk.new (w.alloc (.cells #[.slice none 0 0, .int .i64 0, .slice none 0 0, .int .i64 0, .bool false, .bool false] 28)) 3 #[.int .i64 0, .int .i64 0, .int .i64 0, .int .i64 0])
    have hr5 := Cod.bel hr4 (bel_then (bel_alloc (Below.refl _ _) _) hb1)
    replace hr5 : cIS.rep w1 [.slice (some ⟨w.heap.size + 1, 0, none⟩) 4 4] [0, 0, 0, 0] [w.heap.size + 1] := by simpa using hr5
    clear hr4
    have hz_w1 := hb1.size
    (try simp at hz_w1)
    have ha0_w1 : w.heap.size < w1.heap.size := by omega
    have ha1_w1 : w.heap.size + 1 < w1.heap.size := by omega
    have ha2_w1 : w.heap.size + 1 + 1 < w1.heap.size := by omega
    obtain ⟨hc_w1, hf_w1, -⟩ := bcell hb1
    have hb_w1 : Below w.heap.size w w1 := bel_then (by repeat (first | with_reducible exact Below.refl _ _ | with_reducible assumption | with_reducible refine bel_alloc ?_ _ | with_reducible refine bel_drew ?_ | with_reducible refine bel_drewN ?_ _ | (with_reducible refine bel_set ?_ ?_ _; rotate_left; ((try simp); (try omega))))) hb1
    clear hb1
    have j0 : w1.cell? ⟨w.heap.size, 0, none⟩ = some (.slice none 0 0) := by go_simp
    have j1 : w1.cell? ⟨w.heap.size, 1, none⟩ = some (.int .i64 0) := by go_simp
    have j2 : w1.cell? ⟨w.heap.size, 2, none⟩ = some (.slice none 0 0) := by go_simp
    have j3 : w1.cell? ⟨w.heap.size, 3, none⟩ = some (.int .i64 0) := by go_simp
    have j4 : w1.cell? ⟨w.heap.size, 4, none⟩ = some (.bool false) := by go_simp
    have j5 : w1.cell? ⟨w.heap.size, 5, none⟩ = some (.bool false) := by go_simp
    have k0 : w1.cell? ⟨w.heap.size + 1 + 1, 0, none⟩ = some (.slice none 0 0) := by go_simp
    have k1 : w1.cell? ⟨w.heap.size + 1 + 1, 1, none⟩ = some (.int .i64 0) := by go_simp
    have k2 : w1.cell? ⟨w.heap.size + 1 + 1, 2, none⟩ = some (.slice (some ⟨w.heap.size + 1, 0, none⟩) 4 4) := by go_simp
    have k3 : w1.cell? ⟨w.heap.size + 1 + 1, 3, none⟩ = some (.int .i64 0) := by go_simp
    have k4 : w1.cell? ⟨w.heap.size + 1 + 1, 4, none⟩ = some (.bool false) := by go_simp
    have k5 : w1.cell? ⟨w.heap.size + 1 + 1, 5, none⟩ = some (.bool false) := by go_simp
    go_wp2_with (at_builtin; refine wpList_app (c := cIns) (xs := []) (ys := l) (Fi := []) (Fy := []) _ rfl _ _ _ rfl i0 _ _ Try.underlying24 hi0 hz0 hz1 hz2 rfl (by decide) (v := .slice (some _) 0 0) rfl (Own.empty _) (.slice A l.length cp) rfl (AppSrc.flat (hw := by decide) (hw2 := by decide) flat_Ins (Cod.bel h (by repeat (first | with_reducible exact Below.refl _ _ | with_reducible assumption | with_reducible refine bel_alloc ?_ _ | with_reducible refine bel_drew ?_ | with_reducible refine bel_drewN ?_ _ | (with_reducible refine bel_set ?_ ?_ _; rotate_left; ((try simp); (try omega))))))) (by have := HS.out; unfold maxLen; simp; omega) (by have := HS.out; simp; omega) (Nat.le_refl _) (by simp [ownB]) ?_)
    intro v2 w2 ho hg hat
    replace ho : Own cIns 35 _ w2 v2 l [] := ho
    obtain ⟨B2, d2, e2⟩ := ho.slice
    subst e2
    have hb2 : Below _ _ w2 := (Below.refl _ _).grown hg (Nat.le_refl _) (by simp [ownB])
    have hr6 := Cod.bel hr5 (bel_then (bel_alloc (Below.refl _ _) _) hb2)
    have hz_w2 := hb2.size
    (try simp at hz_w2)
    have ha0_w2 : w.heap.size < w2.heap.size := by omega
    have ha1_w2 : w.heap.size + 1 < w2.heap.size := by omega
    have ha2_w2 : w.heap.size + 1 + 1 < w2.heap.size := by omega
    obtain ⟨hc_w2, hf_w2, -⟩ := bcell hb2
    have hb_w2 : Below w.heap.size w w2 := bel_then (by repeat (first | with_reducible exact Below.refl _ _ | with_reducible assumption | with_reducible refine bel_alloc ?_ _ | with_reducible refine bel_drew ?_ | with_reducible refine bel_drewN ?_ _ | (with_reducible refine bel_set ?_ ?_ _; rotate_left; ((try simp); (try omega))))) hb2
    have p0 : w2.cell? ⟨w.heap.size, 0, none⟩ = some (.slice none 0 0) := by go_simp
    have p1 : w2.cell? ⟨w.heap.size, 1, none⟩ = some (.int .i64 0) := by go_simp
    have p2 : w2.cell? ⟨w.heap.size, 2, none⟩ = some (.slice none 0 0) := by go_simp
    have p3 : w2.cell? ⟨w.heap.size, 3, none⟩ = some (.int .i64 0) := by go_simp
    have p4 : w2.cell? ⟨w.heap.size, 4, none⟩ = some (.bool false) := by go_simp
    have p5 : w2.cell? ⟨w.heap.size, 5, none⟩ = some (.bool false) := by go_simp
    have q0 : w2.cell? ⟨w.heap.size + 1 + 1, 0, none⟩ = some (.slice none 0 0) := by go_simp
    have q1 : w2.cell? ⟨w.heap.size + 1 + 1, 1, none⟩ = some (.int .i64 0) := by go_simp
    have q2 : w2.cell? ⟨w.heap.size + 1 + 1, 2, none⟩ = some (.slice (some ⟨w.heap.size + 1, 0, none⟩) 4 4) := by go_simp
    have q3 : w2.cell? ⟨w.heap.size + 1 + 1, 3, none⟩ = some (.int .i64 0) := by go_simp
    have q4 : w2.cell? ⟨w.heap.size + 1 + 1, 4, none⟩ = some (.bool false) := by go_simp
    have q5 : w2.cell? ⟨w.heap.size + 1 + 1, 5, none⟩ = some (.bool false) := by go_simp
    obtain ⟨G2, n2, f2, g2⟩ := ho.fresh (hw := by decide) (hw2 := by decide)
    have f2' : Fresh w1.heap.size G2 := f2.mono (by simp)
    clear hb2 hg hat ho g2 f2
    go_wp2_with fail
    refine bodyPost_ret (v := .agg #[.slice B2 l.length d2, .int .i64 0, .slice (some ⟨w.heap.size + 1, 0, none⟩) 4 4, .int .i64 0, .bool false, .bool false]) (by simp [results, Try.results12, go_sem, *]) rfl ?_
    refine ⟨_, G2 ++ [w.heap.size + 1], rfl, (by repeat (first | with_reducible exact Below.refl _ _ | with_reducible assumption | with_reducible refine bel_alloc ?_ _ | with_reducible refine bel_drew ?_ | with_reducible refine bel_drewN ?_ _ | (with_reducible refine bel_set ?_ ?_ _; rotate_left; ((try simp); (try omega))))), ?_, ?_⟩
    · exact TMach.mk_ (x := ⟨l, 0, [0, 0, 0, 0], 0, false, false⟩) (zero_ok _ _ _ _) (Cod.keep2 n2 f2' (by repeat (first | with_reducible exact Keep.refl _ _ | with_reducible assumption | with_reducible refine Keep.alloc ?_ _ | with_reducible refine Keep.drew ?_ | with_reducible refine Keep.drewN ?_ _ | (with_reducible refine Keep.set_ ?_ ?_ _; rotate_left; ((try simp); (try omega)))))) (by repeat (first | with_reducible exact hr6 | with_reducible refine Cod.allocA ?_ _ | with_reducible refine Cod.drewA ?_ | with_reducible refine Cod.drewNA ?_ _ | ((with_reducible refine Cod.setA ?_ ?_ _); rotate_left; ((intro hm9; (try simp at hm9); (try omega))))))
    · refine ⟨fun b hb => ?_, List.nodup_append.2 ⟨f2'.2, by simp, fun a ha b hb e => ?_⟩⟩
      · rcases List.mem_append.1 hb with hb | hb
        · have := f2'.1 b hb; omega
        · simp at hb; omega
      · have := f2'.1 a ha; simp at hb; omega
set_option maxRecDepth 100000 in
set_option maxHeartbeats 2000000 in
theorem specNewMachine_any (v : Value) (l : List TIns) (F : List Nat) (w : World) (h : cInsS.rep w [v] l F) (hn : cInsS.sz l ≤ 1048576) :
    Calls Try.prog 171 #[v] w (GivesR cMach w (newMachine l)) := by
  obtain ⟨i0, hi0, hz0, hz1, hz2⟩ := info_parts infoIns
  have hlen : l.length ≤ 1048576 := Nat.le_trans (Cod.len_le cIns l) hn
  have HS := Lib.hid hlen
  obtain ⟨A, cp, rfl⟩ := cL_form h
  have hmk := make4
  have hcs := fun W hb => specIsScript_any _ l _ W (Cod.bel h hb) hn
  clear hlen
  cases hs : isScript l
  · rw [hs] at hcs
    have HE := Lib.hid (show newMachine l = ⟨[], 0, [0, 0, 0, 0], 0, true, false⟩ by simp [newMachine, hs])
    rw [HE.out]
    go_enter Try.func171, Try.ntmps171
    go_wp2_with fail
    refine (hcs _ (by repeat (first | with_reducible exact Below.refl _ _ | with_reducible assumption | with_reducible refine bel_alloc ?_ _ | with_reducible refine bel_drew ?_ | with_reducible refine bel_drewN ?_ _ | (with_reducible refine bel_set ?_ ?_ _; rotate_left; ((try simp); (try omega)))))).mono ?_
    rintro e w1 ⟨rfl, hb1⟩
    have hr4 := regs4 (Blk.new (w.alloc (.cells #[.slice none 0 0, .int .i64 0, .slice none 0 0, .int .i64 0, .bool false, .bool false] 28)) 3 #[.int .i64 0, .int .i64 0, .int .i64 0, .int .i64 0])
    have hr5 := Cod.bel hr4 (bel_then (bel_alloc (Below.refl _ _) _) hb1)
    replace hr5 : cIS.rep w1 [.slice (some ⟨w.heap.size + 1, 0, none⟩) 4 4] [0, 0, 0, 0] [w.heap.size + 1] := by simpa using hr5
    clear hr4
    have hz_w1 := hb1.size
    (try simp at hz_w1)
    have ha0_w1 : w.heap.size < w1.heap.size := by omega
    have ha1_w1 : w.heap.size + 1 < w1.heap.size := by omega
    have ha2_w1 : w.heap.size + 1 + 1 < w1.heap.size := by omega
    obtain ⟨hc_w1, hf_w1, -⟩ := bcell hb1
    have hb_w1 : Below w.heap.size w w1 := bel_then (by repeat (first | with_reducible exact Below.refl _ _ | with_reducible assumption | with_reducible refine bel_alloc ?_ _ | with_reducible refine bel_drew ?_ | with_reducible refine bel_drewN ?_ _ | (with_reducible refine bel_set ?_ ?_ _; rotate_left; ((try simp); (try omega))))) hb1
    clear hb1
    have j0 : w1.cell? ⟨w.heap.size, 0, none⟩ = some (.slice none 0 0) := by go_simp
    have j1 : w1.cell? ⟨w.heap.size, 1, none⟩ = some (.int .i64 0) := by go_simp
    have j2 : w1.cell? ⟨w.heap.size, 2, none⟩ = some (.slice none 0 0) := by go_simp
    have j3 : w1.cell? ⟨w.heap.size, 3, none⟩ = some (.int .i64 0) := by go_simp
    have j4 : w1.cell? ⟨w.heap.size, 4, none⟩ = some (.bool false) := by go_simp
    have j5 : w1.cell? ⟨w.heap.size, 5, none⟩ = some (.bool false) := by go_simp
    have k0 : w1.cell? ⟨w.heap.size + 1 + 1, 0, none⟩ = some (.slice none 0 0) := by go_simp
    have k1 : w1.cell? ⟨w.heap.size + 1 + 1, 1, none⟩ = some (.int .i64 0) := by go_simp
    have k2 : w1.cell? ⟨w.heap.size + 1 + 1, 2, none⟩ = some (.slice (some ⟨w.heap.size + 1, 0, none⟩) 4 4) := by go_simp
    have k3 : w1.cell? ⟨w.heap.size + 1 + 1, 3, none⟩ = some (.int .i64 0) := by go_simp
    have k4 : w1.cell? ⟨w.heap.size + 1 + 1, 4, none⟩ = some (.bool false) := by go_simp
    have k5 : w1.cell? ⟨w.heap.size + 1 + 1, 5, none⟩ = some (.bool false) := by go_simp
    go_wp2_with fail
    refine bodyPost_ret (v := .agg #[.slice none 0 0, .int .i64 0, .slice (some ⟨w.heap.size + 1, 0, none⟩) 4 4, .int .i64 0, .bool true, .bool false]) (by simp [results, Try.results171, go_sem, *]) rfl ?_
    refine ⟨_, [w.heap.size + 1], rfl, (by repeat (first | with_reducible exact Below.refl _ _ | with_reducible assumption | with_reducible refine bel_alloc ?_ _ | with_reducible refine bel_drew ?_ | with_reducible refine bel_drewN ?_ _ | (with_reducible refine bel_set ?_ ?_ _; rotate_left; ((try simp); (try omega))))), ?_, ?_⟩
    · exact TMach.mk_ (F0 := []) (x := ⟨[], 0, [0, 0, 0, 0], 0, true, false⟩) (zero_ok _ _ _ _) ⟨none, 0, rfl, by decide, by decide, .inl ⟨rfl, rfl⟩⟩ (by repeat (first | with_reducible exact hr5 | with_reducible refine Cod.allocA ?_ _ | with_reducible refine Cod.drewA ?_ | with_reducible refine Cod.drewNA ?_ _ | ((with_reducible refine Cod.setA ?_ ?_ _); rotate_left; ((intro hm9; (try simp at hm9); (try omega))))))
    · exact ⟨fun b hb => by (simp at hb; omega), by simp⟩
  · rw [hs] at hcs
    have HE := Lib.hid (show newMachine l = ⟨l, 0, [0, 0, 0, 0], 0, false, false⟩ by simp [newMachine, hs])
    rw [HE.out]
    go_enter Try.func171, Try.ntmps171
    go_wp2_with fail
    refine (hcs _ (by repeat (first | with_reducible exact Below.refl _ _ | with_reducible assumption | with_reducible refine bel_alloc ?_ _ | with_reducible refine bel_drew ?_ | with_reducible refine bel_drewN ?_ _ | (with_reducible refine bel_set ?_ ?_ _; rotate_left; ((try simp); (try omega)))))).mono ?_
    rintro e w1 ⟨rfl, hb1⟩
    have hr4 := regs4 (Blk.new (w.alloc (.cells #[.slice none 0 0, .int .i64 0, .slice none 0 0, .int .i64 0, .bool false, .bool false] 28)) 3 #[.int .i64 0, .int .i64 0, .int .i64 0, .int .i64 0])
    have hr5 := Cod.bel hr4 (bel_then (bel_alloc (Below.refl _ _) _) hb1)
    replace hr5 : cIS.rep w1 [.slice (some ⟨w.heap.size + 1, 0, none⟩) 4 4] [0, 0, 0, 0] [w.heap.size + 1] := by simpa using hr5
    clear hr4
    have hz_w1 := hb1.size
    (try simp at hz_w1)
    have ha0_w1 : w.heap.size < w1.heap.size := by omega
    have ha1_w1 : w.heap.size + 1 < w1.heap.size := by omega
    have ha2_w1 : w.heap.size + 1 + 1 < w1.heap.size := by omega
    obtain ⟨hc_w1, hf_w1, -⟩ := bcell hb1
    have hb_w1 : Below w.heap.size w w1 := bel_then (by repeat (first | with_reducible exact Below.refl _ _ | with_reducible assumption | with_reducible refine bel_alloc ?_ _ | with_reducible refine bel_drew ?_ | with_reducible refine bel_drewN ?_ _ | (with_reducible refine bel_set ?_ ?_ _; rotate_left; ((try simp); (try omega))))) hb1
    clear hb1
    have j0 : w1.cell? ⟨w.heap.size, 0, none⟩ = some (.slice none 0 0) := by go_simp
    have j1 : w1.cell? ⟨w.heap.size, 1, none⟩ = some (.int .i64 0) := by go_simp
    have j2 : w1.cell? ⟨w.heap.size, 2, none⟩ = some (.slice none 0 0) := by go_simp
    have j3 : w1.cell? ⟨w.heap.size, 3, none⟩ = some (.int .i64 0) := by go_simp
    have j4 : w1.cell? ⟨w.heap.size, 4, none⟩ = some (.bool false) := by go_simp
    have j5 : w1.cell? ⟨w.heap.size, 5, none⟩ = some (.bool false) := by go_simp
    have k0 : w1.cell? ⟨w.heap.size + 1 + 1, 0, none⟩ = some (.slice none 0 0) := by go_simp
    have k1 : w1.cell? ⟨w.heap.size + 1 + 1, 1, none⟩ = some (.int .i64 0) := by go_simp
    have k2 : w1.cell? ⟨w.heap.size + 1 + 1, 2, none⟩ = some (.slice (some ⟨w.heap.size + 1, 0, none⟩) 4 4) := by go_simp
    have k3 : w1.cell? ⟨w.heap.size + 1 + 1, 3, none⟩ = some (.int .i64 0) := by go_simp
    have k4 : w1.cell? ⟨w.heap.size + 1 + 1, 4, none⟩ = some (.bool false) := by go_simp
    have k5 : w1.cell? ⟨w.heap.size + 1 + 1, 5, none⟩ = some (.bool false) := by go_simp
    go_wp2_with fail
    refine (specScriptCopy_any _ l _ _ (by exact Cod.bel h (by repeat (first | with_reducible exact Below.refl _ _ | with_reducible assumption | with_reducible refine bel_alloc ?_ _ | with_reducible refine bel_drew ?_ | with_reducible refine bel_drewN ?_ _ | (with_reducible refine bel_set ?_ ?_ _; rotate_left; ((try simp); (try omega)))))) HS.out).mono ?_
    rintro e w2 ⟨v2, G2, rfl, hb2, n2, f2⟩
    obtain ⟨B2, d2, e2⟩ := cL_form n2
    subst e2
    have hr6 := Cod.bel hr5 hb2
    have hz_w2 := hb2.size
    (try simp at hz_w2)
    have ha0_w2 : w.heap.size < w2.heap.size := by omega
    have ha1_w2 : w.heap.size + 1 < w2.heap.size := by omega
    have ha2_w2 : w.heap.size + 1 + 1 < w2.heap.size := by omega
    obtain ⟨hc_w2, hf_w2, -⟩ := bcell hb2
    have hb_w2 : Below w.heap.size w w2 := bel_then (by repeat (first | with_reducible exact Below.refl _ _ | with_reducible assumption | with_reducible refine bel_alloc ?_ _ | with_reducible refine bel_drew ?_ | with_reducible refine bel_drewN ?_ _ | (with_reducible refine bel_set ?_ ?_ _; rotate_left; ((try simp); (try omega))))) hb2
    have p0 : w2.cell? ⟨w.heap.size, 0, none⟩ = some (.slice none 0 0) := by go_simp
    have p1 : w2.cell? ⟨w.heap.size, 1, none⟩ = some (.int .i64 0) := by go_simp
    have p2 : w2.cell? ⟨w.heap.size, 2, none⟩ = some (.slice none 0 0) := by go_simp
    have p3 : w2.cell? ⟨w.heap.size, 3, none⟩ = some (.int .i64 0) := by go_simp
    have p4 : w2.cell? ⟨w.heap.size, 4, none⟩ = some (.bool false) := by go_simp
    have p5 : w2.cell? ⟨w.heap.size, 5, none⟩ = some (.bool false) := by go_simp
    have q0 : w2.cell? ⟨w.heap.size + 1 + 1, 0, none⟩ = some (.slice none 0 0) := by go_simp
    have q1 : w2.cell? ⟨w.heap.size + 1 + 1, 1, none⟩ = some (.int .i64 0) := by go_simp
    have q2 : w2.cell? ⟨w.heap.size + 1 + 1, 2, none⟩ = some (.slice (some ⟨w.heap.size + 1, 0, none⟩) 4 4) := by go_simp
    have q3 : w2.cell? ⟨w.heap.size + 1 + 1, 3, none⟩ = some (.int .i64 0) := by go_simp
    have q4 : w2.cell? ⟨w.heap.size + 1 + 1, 4, none⟩ = some (.bool false) := by go_simp
    have q5 : w2.cell? ⟨w.heap.size + 1 + 1, 5, none⟩ = some (.bool false) := by go_simp
    have f2' : Fresh w1.heap.size G2 := f2
    clear hb2 f2
    go_wp2_with fail
    refine bodyPost_ret (v := .agg #[.slice B2 l.length d2, .int .i64 0, .slice (some ⟨w.heap.size + 1, 0, none⟩) 4 4, .int .i64 0, .bool false, .bool false]) (by simp [results, Try.results171, go_sem, *]) rfl ?_
    refine ⟨_, G2 ++ [w.heap.size + 1], rfl, (by repeat (first | with_reducible exact Below.refl _ _ | with_reducible assumption | with_reducible refine bel_alloc ?_ _ | with_reducible refine bel_drew ?_ | with_reducible refine bel_drewN ?_ _ | (with_reducible refine bel_set ?_ ?_ _; rotate_left; ((try simp); (try omega))))), ?_, ?_⟩
    · exact TMach.mk_ (x := ⟨l, 0, [0, 0, 0, 0], 0, false, false⟩) (zero_ok _ _ _ _) (Cod.keep2 n2 f2' (by repeat (first | with_reducible exact Keep.refl _ _ | with_reducible assumption | with_reducible refine Keep.alloc ?_ _ | with_reducible refine Keep.drew ?_ | with_reducible refine Keep.drewN ?_ _ | (with_reducible refine Keep.set_ ?_ ?_ _; rotate_left; ((try simp); (try omega)))))) (by repeat (first | with_reducible exact hr6 | with_reducible refine Cod.allocA ?_ _ | with_reducible refine Cod.drewA ?_ | with_reducible refine Cod.drewNA ?_ _ | ((with_reducible refine Cod.setA ?_ ?_ _); rotate_left; ((intro hm9; (try simp at hm9); (try omega))))))
    · refine ⟨fun b hb => ?_, List.nodup_append.2 ⟨f2'.2, by simp, fun a ha b hb e => ?_⟩⟩
      · rcases List.mem_append.1 hb with hb | hb
        · have := f2'.1 b hb; omega
        · simp at hb; omega
      · have := f2'.1 a ha; simp at hb; omega
theorem newMachine_sz (l : List TIns) : cMach.sz (newMachine l) ≤ cInsS.sz l + 4 := by
  unfold newMachine
  cases isScript l
  · show (0 : Nat) + (0 + (4 + (0 + (0 + 0)))) ≤ _; omega
  · show cInsS.sz l + (0 + (4 + (0 + (0 + 0)))) ≤ _; omega
end Go.Proofs.Ytlicnppfgfjkgaa
