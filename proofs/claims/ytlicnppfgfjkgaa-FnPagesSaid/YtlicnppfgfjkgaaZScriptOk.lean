/-
  IsScript of the program and of the reference. No conditions.
-/
import Derived.Test.YtlicnppfgfjkgaaZB
import Derived.Test.YtlicnppfgfjkgaaZA
import Derived.LoopTactic
namespace Go.Proofs.Ytlicnppfgfjkgaa
open Go.ChangeShapes Go.WideShapes Go.RowKit
set_option linter.unusedVariables false

def isScript (l : List TIns) : Bool := !(l.any fun x => !isInstr x l.length) && decide ((l.length : Int) ≤ 16)
theorem implInsCells (k r n : Int) (t : ByteArray) (lines : Int) (w : World) (ht : t.size ≤ maxLen) :
    Calls Try.prog 64 #[.agg #[.int .i64 k, .int .i64 r, .int .i64 n, .string t], .int .i64 lines] w (Gives w (.bool (isInstr ⟨k, r, n, t⟩ lines))) := implInstr_any ⟨k, r, n, t⟩ lines w ht
set_option maxHeartbeats 4000000 in
theorem implIsScriptN_any (v : Value) (xs : List TIns) (F : List Nat) (w : World) (h : cInsS.rep w [v] xs F) (hn1 : xs.length ≤ 4194304) : Calls Try.prog 62 #[v] w (Gives w (.bool (isScript xs))) := by
  obtain ⟨A, cp, rfl⟩ := cL_form h
  obtain ⟨-, hcp, hm⟩ := cL_len h
  have HE := Lib.hid (show isScript xs = (!(xs.any fun x => !isInstr x xs.length) && decide ((xs.length : Int) ≤ 16)) from rfl)
  obtain ⟨n, hxn⟩ : ∃ n, xs.length = n := ⟨_, rfl⟩
  have HN := Lib.hid hxn
  rw [hxn] at hcp hn1 ⊢
  clear hxn
  go_enter Try.func62, Try.ntmps62
  go_wp2
  go_loopw [7] (fun i wr => ∃ k : Nat, k ≤ n ∧ i = .int .i64 k ∧ noneTo (fun x => !isInstr x n) xs k = true ∧ Below w.heap.size w wr) (fun i _ => n - (intOf i).toNat)
  case atStart => exact ⟨0, Nat.zero_le _, rfl, noneTo_zero _ _, Below.refl _ _⟩
  case round =>
    obtain ⟨k, hk, rfl, hno, hB⟩ := hrel
    have HO := Lib.hid hno
    clear hno
    by_cases hlt : k < n
    · have hkx : k < xs.length := by rw [HN.out]; exact hlt
      obtain ⟨g, o, vs, F1, rfl, hgF, hx, -, hc⟩ := cL_get (hw := by decide) (hw2 := by decide) (Cod.bel h hB) hkx
      obtain ⟨rfl, -, hok⟩ := TIns.out hx
      have q0 : wr.cell? ⟨g, o + k * 4, none⟩ = some _ := (hc 0 _ rfl).1
      have q1 : wr.cell? ⟨g, o + k * 4 + 1, none⟩ = some _ := (hc 1 _ rfl).1
      have q2 : wr.cell? ⟨g, o + k * 4 + 2, none⟩ = some _ := (hc 2 _ rfl).1
      have q3 : wr.cell? ⟨g, o + k * 4 + 3, none⟩ = some _ := (hc 3 _ rfl).1
      have hcs := fun W => implInsCells xs[k].kind xs[k].r xs[k].n xs[k].text n W hok.h3
      clear hc hx
      cases hi : isInstr xs[k] n
      · rw [show isInstr ⟨xs[k].kind, xs[k].r, xs[k].n, xs[k].text⟩ n = false from hi] at hcs
        have HB := Lib.hid (show isScript xs = false by rw [HE.out, HN.out, any_hit (fun x => !isInstr x n) xs k hkx (by simp [hi])]; rfl)
        go_wp2_with fail
        refine (hcs _).mono ?_
        rintro e w1 ⟨rfl, hb1⟩
        have hB1 : Below w.heap.size w w1 := bel_then (by repeat (first | with_reducible exact Below.refl _ _ | with_reducible assumption | with_reducible refine bel_alloc ?_ _ | with_reducible refine bel_drew ?_ | with_reducible refine bel_drewN ?_ _ | (with_reducible refine bel_set ?_ ?_ _; rotate_left; ((try simp); (try omega))))) hb1
        clear hb1
        go_wp2_with fail
        go_ret
        exact ⟨ret_bool HB.out.symm, (by repeat (first | with_reducible exact Below.refl _ _ | with_reducible assumption | with_reducible refine bel_alloc ?_ _ | with_reducible refine bel_drew ?_ | with_reducible refine bel_drewN ?_ _ | (with_reducible refine bel_set ?_ ?_ _; rotate_left; ((try simp); (try omega)))))⟩
      · rw [show isInstr ⟨xs[k].kind, xs[k].r, xs[k].n, xs[k].text⟩ n = true from hi] at hcs
        have HI := Lib.hid hi
        go_wp2_with fail
        refine (hcs _).mono ?_
        rintro e w1 ⟨rfl, hb1⟩
        have hB1 : Below w.heap.size w w1 := bel_then (by repeat (first | with_reducible exact Below.refl _ _ | with_reducible assumption | with_reducible refine bel_alloc ?_ _ | with_reducible refine bel_drew ?_ | with_reducible refine bel_drewN ?_ _ | (with_reducible refine bel_set ?_ ?_ _; rotate_left; ((try simp); (try omega))))) hb1
        clear hb1
        go_wp2_with fail
        go_roundw
        case rel => exact ⟨k + 1, by omega, by go_num, noneTo_succ _ xs k hkx HO.out (by simp [HI.out]), hB1⟩
        case measure => simp [intOf]; omega
    · obtain rfl : k = n := by omega
      have HH := Lib.hid (show isScript xs = decide ((k : Int) ≤ 16) by rw [HE.out, HN.out, any_miss _ xs (by rw [HN.out]; exact HO.out)]; rfl)
      go_wp2
      all_goals go_ret
      all_goals exact ⟨ret_bool (by rw [HH.out]), (by repeat (first | with_reducible exact Below.refl _ _ | with_reducible assumption | with_reducible refine bel_alloc ?_ _ | with_reducible refine bel_drew ?_ | with_reducible refine bel_drewN ?_ _ | (with_reducible refine bel_set ?_ ?_ _; rotate_left; ((try simp); (try omega)))))⟩
theorem implIsScript_any (v : Value) (xs : List TIns) (F : List Nat) (w : World) (h : cInsS.rep w [v] xs F) (hn : cInsS.sz xs ≤ 1048576) : Calls Try.prog 62 #[v] w (Gives w (.bool (isScript xs))) :=
  implIsScriptN_any v xs F w h (by have := Nat.le_trans (Cod.len_le cIns xs) hn; omega)
theorem specInsCells (k r n : Int) (t : ByteArray) (lines : Int) (w : World) (ht : t.size ≤ maxLen) :
    Calls Try.prog 180 #[.agg #[.int .i64 k, .int .i64 r, .int .i64 n, .string t], .int .i64 lines] w (Gives w (.bool (isInstr ⟨k, r, n, t⟩ lines))) := specInstr_any ⟨k, r, n, t⟩ lines w ht
set_option maxHeartbeats 4000000 in
theorem specIsScriptN_any (v : Value) (xs : List TIns) (F : List Nat) (w : World) (h : cInsS.rep w [v] xs F) (hn1 : xs.length ≤ 4194304) : Calls Try.prog 176 #[v] w (Gives w (.bool (isScript xs))) := by
  obtain ⟨A, cp, rfl⟩ := cL_form h
  obtain ⟨-, hcp, hm⟩ := cL_len h
  have HE := Lib.hid (show isScript xs = (!(xs.any fun x => !isInstr x xs.length) && decide ((xs.length : Int) ≤ 16)) from rfl)
  obtain ⟨n, hxn⟩ : ∃ n, xs.length = n := ⟨_, rfl⟩
  have HN := Lib.hid hxn
  rw [hxn] at hcp hn1 ⊢
  clear hxn
  go_enter Try.func176, Try.ntmps176
  go_wp2
  go_loopw [3] (fun i wr => ∃ k : Nat, k ≤ n ∧ i = .int .i64 k ∧ noneTo (fun x => !isInstr x n) xs k = true ∧ Below w.heap.size w wr) (fun i _ => n - (intOf i).toNat)
  case atStart => exact ⟨0, Nat.zero_le _, rfl, noneTo_zero _ _, Below.refl _ _⟩
  case round =>
    obtain ⟨k, hk, rfl, hno, hB⟩ := hrel
    have HO := Lib.hid hno
    clear hno
    by_cases hlt : k < n
    · have hkx : k < xs.length := by rw [HN.out]; exact hlt
      obtain ⟨g, o, vs, F1, rfl, hgF, hx, -, hc⟩ := cL_get (hw := by decide) (hw2 := by decide) (Cod.bel h hB) hkx
      obtain ⟨rfl, -, hok⟩ := TIns.out hx
      have q0 : wr.cell? ⟨g, o + k * 4, none⟩ = some _ := (hc 0 _ rfl).1
      have q1 : wr.cell? ⟨g, o + k * 4 + 1, none⟩ = some _ := (hc 1 _ rfl).1
      have q2 : wr.cell? ⟨g, o + k * 4 + 2, none⟩ = some _ := (hc 2 _ rfl).1
      have q3 : wr.cell? ⟨g, o + k * 4 + 3, none⟩ = some _ := (hc 3 _ rfl).1
      have hcs := fun W => specInsCells xs[k].kind xs[k].r xs[k].n xs[k].text n W hok.h3
      clear hc hx
      cases hi : isInstr xs[k] n
      · rw [show isInstr ⟨xs[k].kind, xs[k].r, xs[k].n, xs[k].text⟩ n = false from hi] at hcs
        have HB := Lib.hid (show isScript xs = false by rw [HE.out, HN.out, any_hit (fun x => !isInstr x n) xs k hkx (by simp [hi])]; rfl)
        go_wp2_with fail
        refine (hcs _).mono ?_
        rintro e w1 ⟨rfl, hb1⟩
        have hB1 : Below w.heap.size w w1 := bel_then (by repeat (first | with_reducible exact Below.refl _ _ | with_reducible assumption | with_reducible refine bel_alloc ?_ _ | with_reducible refine bel_drew ?_ | with_reducible refine bel_drewN ?_ _ | (with_reducible refine bel_set ?_ ?_ _; rotate_left; ((try simp); (try omega))))) hb1
        clear hb1
        go_wp2_with fail
        go_ret
        exact ⟨ret_bool HB.out.symm, (by repeat (first | with_reducible exact Below.refl _ _ | with_reducible assumption | with_reducible refine bel_alloc ?_ _ | with_reducible refine bel_drew ?_ | with_reducible refine bel_drewN ?_ _ | (with_reducible refine bel_set ?_ ?_ _; rotate_left; ((try simp); (try omega)))))⟩
      · rw [show isInstr ⟨xs[k].kind, xs[k].r, xs[k].n, xs[k].text⟩ n = true from hi] at hcs
        have HI := Lib.hid hi
        go_wp2_with fail
        refine (hcs _).mono ?_
        rintro e w1 ⟨rfl, hb1⟩
        have hB1 : Below w.heap.size w w1 := bel_then (by repeat (first | with_reducible exact Below.refl _ _ | with_reducible assumption | with_reducible refine bel_alloc ?_ _ | with_reducible refine bel_drew ?_ | with_reducible refine bel_drewN ?_ _ | (with_reducible refine bel_set ?_ ?_ _; rotate_left; ((try simp); (try omega))))) hb1
        clear hb1
        go_wp2_with fail
        go_roundw
        case rel => exact ⟨k + 1, by omega, by go_num, noneTo_succ _ xs k hkx HO.out (by simp [HI.out]), hB1⟩
        case measure => simp [intOf]; omega
    · obtain rfl : k = n := by omega
      have HH := Lib.hid (show isScript xs = decide ((k : Int) ≤ 16) by rw [HE.out, HN.out, any_miss _ xs (by rw [HN.out]; exact HO.out)]; rfl)
      go_wp2
      all_goals go_ret
      all_goals exact ⟨ret_bool (by rw [HH.out]), (by repeat (first | with_reducible exact Below.refl _ _ | with_reducible assumption | with_reducible refine bel_alloc ?_ _ | with_reducible refine bel_drew ?_ | with_reducible refine bel_drewN ?_ _ | (with_reducible refine bel_set ?_ ?_ _; rotate_left; ((try simp); (try omega)))))⟩
theorem specIsScript_any (v : Value) (xs : List TIns) (F : List Nat) (w : World) (h : cInsS.rep w [v] xs F) (hn : cInsS.sz xs ≤ 1048576) : Calls Try.prog 176 #[v] w (Gives w (.bool (isScript xs))) :=
  specIsScriptN_any v xs F w h (by have := Nat.le_trans (Cod.len_le cIns xs) hn; omega)
end Go.Proofs.Ytlicnppfgfjkgaa
