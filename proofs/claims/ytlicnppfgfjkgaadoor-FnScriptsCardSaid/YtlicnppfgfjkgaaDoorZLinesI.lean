/-
  ParseLines of the program. The conditions: a length, and that the library's variables hold what its text lays.
-/
import Derived.Test.YtlicnppfgfjkgaaDoorZLines
import Derived.Test.YtlicnppfgfjkgaaDoorZParseI
import Derived.Test.YtlicnppfgfjkgaaDoorZA
namespace Go.Proofs.YtlicnppfgfjkgaaDoor
open Go.ChangeShapes Go.WideShapes Go.RowKit
set_option linter.unusedVariables false

theorem infoInsLI : (Tryd.prog.info? 25).map (fun i => (i.zero, i.size, i.bytes)) = some (some (Value.agg #[.int .i64 0, .int .i64 0, .int .i64 0, .string ByteArray.empty]), 4, 40) := by kernel_rfl
theorem flat_InsLI : Flat cIns := fun h => (TIns.out h).2.1
theorem src_insI {w : World} {x : TIns} (g : Nat) (hg : w.heap.size = g) (h : x.Ok) : AppSrc cIns (w.alloc (.cells #[.int .i64 x.kind, .int .i64 x.r, .int .i64 x.n, .string x.text] 25)) (.slice (some ⟨g, 0, none⟩) 1 1) [x] [] :=
  src_new 25 g hg (TIns.mk_ h)
theorem emptyRowI (w : World) (A : Option Addr) : cInsS.rep w [.slice A 0 0] [] [] := ⟨A, 0, rfl, Nat.le_refl _, by decide, .inl ⟨rfl, rfl⟩⟩
set_option maxRecDepth 100000 in
set_option maxHeartbeats 8000000 in
theorem implParseLines_any (s : ByteArray) (w : World) (hs : s.size ≤ 1048576) (hG : Gd w) :
    Calls Tryd.prog 15 #[.string s] w (GivesS2 cInsS w (parseLines s.data.toList).1 (.int .i64 (parseLines s.data.toList).2)) := by
  have HG := Lib.hid hG
  clear hG
  obtain ⟨i0, hi0, hz0, hz1, hz2⟩ := info_parts infoInsLI
  cases hemp : s.toList.isEmpty
  case true =>
    have he : s.data.toList = [] := by rw [Lib.toList_data] at hemp; simpa using hemp
    rw [he, lines_nil]
    go_enter Tryd.func15, Tryd.ntmps15
    go_wp2_with fail
    refine bodyPost_ret (v := .tuple #[.slice (some ⟨w.heap.size, 0, none⟩) 0 0, .int .i64 (-1)]) (by simp [results, Tryd.results15]) rfl ?_
    exact ⟨_, [], rfl, (by repeat (first | with_reducible exact Below.refl _ _ | with_reducible assumption | with_reducible refine bel_alloc ?_ _ | with_reducible refine bel_drew ?_ | with_reducible refine bel_drewN ?_ _ | (with_reducible refine bel_set ?_ ?_ _; rotate_left; ((try simp); (try omega))))), emptyRowI _ _, Fresh.nil _⟩
  case false =>
    have HNE := Lib.hid (show s.data.toList ≠ [] from fun e => by rw [Lib.toList_data, e] at hemp; cases hemp)
    go_enter Tryd.func15, Tryd.ntmps15
    go_wp2_with fail
    refine (strSplit_any s 59 _ hs (HG.out.bel (by repeat (first | with_reducible exact Below.refl _ _ | with_reducible assumption | with_reducible refine bel_alloc ?_ _ | with_reducible refine bel_drew ?_ | with_reducible refine bel_drewN ?_ _ | (with_reducible refine bel_set ?_ ?_ _; rotate_left; ((try simp); (try omega))))))).mono ?_
    rintro e w1 ⟨v, F, rfl, hb1, hr1, hf1⟩
    have hlen := cut_len 59 s.data.toList
    rw [← Lib.size_eq] at hlen
    have HC := Lib.hid (show ∀ p, p ∈ cut 59 s.data.toList → p.length ≤ 1048576 from fun p hp => by have := cut_piece 59 _ p hp; rw [← Lib.size_eq] at this; omega)
    have HB := Lib.hid (And.intro (fun k (ho : okTo (cut 59 s.data.toList) k) hk h => lines_bad HNE.out ho hk h) (fun ho => lines_end HNE.out ho))
    obtain ⟨ls, hls⟩ : ∃ ls, cut 59 s.data.toList = ls := ⟨_, rfl⟩
    obtain ⟨res, hres⟩ : ∃ r, parseLines s.data.toList = r := ⟨_, rfl⟩
    rw [hls] at hr1 HC hlen HB
    have HRES := Lib.hid hres
    rw [hres] at HB
    clear hls hres
    obtain ⟨A, cp, rfl⟩ := cL_form hr1
    have hz1' := hb1.size
    (try simp at hz1')
    have hB1 : Below w.heap.size w w1 := bel_then (by repeat (first | with_reducible exact Below.refl _ _ | with_reducible assumption | with_reducible refine bel_alloc ?_ _ | with_reducible refine bel_drew ?_ | with_reducible refine bel_drewN ?_ _ | (with_reducible refine bel_set ?_ ?_ _; rotate_left; ((try simp); (try omega))))) hb1
    have hr1l : ∀ b, b ∈ F → b < w1.heap.size := fun b hb => Cod.lt _ hr1 b hb
    have HR := Lib.hid (And.intro hr1 hr1l)
    clear hr1 hr1l hb1 hf1
    obtain ⟨n, hn⟩ : ∃ n, ls.length = n := ⟨_, rfl⟩
    have HN := Lib.hid hn
    rw [hn] at hlen ⊢
    clear hn
    go_wp2_with fail
    go_loopw [5, 18] (fun o i wr => ∃ k : Nat, i = .int .i64 k ∧ k ≤ n ∧ Own cIns 25 w1.heap.size wr o (linesTo ls k) [] ∧ (okTo ls k ∧ ∀ y, y ∈ linesTo ls k → y.Ok) ∧ Below w1.heap.size w1 wr) (fun _ i _ => n - (intOf i).toNat)
    case atStart => exact ⟨0, rfl, Nat.zero_le _, Own.empty _, ⟨okTo_zero _, by simp [linesTo_zero]⟩, (by repeat (first | with_reducible exact Below.refl _ _ | with_reducible assumption | with_reducible refine bel_alloc ?_ _ | with_reducible refine bel_drew ?_ | with_reducible refine bel_drewN ?_ _ | (with_reducible refine bel_set ?_ ?_ _; rotate_left; ((try simp); (try omega)))))⟩
    case round =>
      obtain ⟨k, rfl, hkn, hown, hok, hBr⟩ := hrel
      have HO := Lib.hid hown
      have HK := Lib.hid hok
      clear hown hok
      have hszr := hBr.size
      have hBw : Below w.heap.size w wr := bel_then hB1 hBr
      by_cases hlt : k < n
      · have hki : (k : Int) < (n : Int) := by omega
        have hkx : k < ls.length := by rw [HN.out]; exact hlt
        obtain ⟨g, o, vs, F1, rfl, hgF, hxx, -, hc⟩ := cL_get (hw := by decide) (hw2 := by decide) (Cod.bel HR.out.1 hBr) hkx
        obtain ⟨rfl, -, -⟩ := hxx
        have pjc : wr.cell? ⟨g, o + k, none⟩ = some _ := (by have h1 := (hc 0 _ rfl).1; rwa [show cT.wd = 1 from rfl, Nat.mul_one, Nat.add_zero] at h1)
        clear hc
        have hpl := HC.out ls[k] (List.getElem_mem hkx)
        have HS := Lib.hid (And.intro (fun h2 => okTo_succ HK.out.1 hkx h2) (And.intro (linesTo_succ hkx) (fun h2 => HB.out.1 k HK.out.1 hkx h2)))
        generalize ls[k] = l at pjc hpl HS
        obtain ⟨sl, hsl⟩ : ∃ q, baOf l = q := ⟨_, rfl⟩
        rw [hsl] at pjc
        have hI : ∀ W, Gd W → Calls Tryd.prog 10 #[.string sl] W fun e w' => e = .returned (.tuple #[(parseInstr l).1.val, .bool (parseInstr l).2]) ∧ Below W.heap.size W w' := fun W hg => by have := implParseInstr_any sl W (by rw [← hsl, baOf_size]; exact hpl) hg; rw [show sl.data.toList = l by rw [← hsl]; rfl] at this; exact this
        have hxo := parse_okL (l := l) hpl
        clear hsl hpl
        cases hp2 : (parseInstr l).2 with
        | false =>
          have HS2 := Lib.hid (HS.out.2.2 hp2)
          rw [hp2] at hI
          generalize (parseInstr l).1 = x at hI hxo
          unfold TIns.val at hI
          obtain ⟨kx, rx, nx, tx⟩ := x
          simp only at hI
          clear hp2 HS hxo
          go_wp2_with fail
          refine (hI _ (HG.out.bel (by repeat (first | with_reducible exact Below.refl _ _ | with_reducible assumption | with_reducible refine bel_alloc ?_ _ | with_reducible refine bel_drew ?_ | with_reducible refine bel_drewN ?_ _ | (with_reducible refine bel_set ?_ ?_ _; rotate_left; ((try simp); (try omega))))))).mono ?_
          rintro e w3 ⟨rfl, hb3⟩
          have hB3 : Below w.heap.size w w3 := bel_then (by repeat (first | with_reducible exact Below.refl _ _ | with_reducible assumption | with_reducible refine bel_alloc ?_ _ | with_reducible refine bel_drew ?_ | with_reducible refine bel_drewN ?_ _ | (with_reducible refine bel_set ?_ ?_ _; rotate_left; ((try simp); (try omega))))) hb3
          clear hb3
          go_wp2_with fail
          refine bodyPost_ret (v := .tuple #[.slice (some ⟨w3.heap.size + 1, 0, none⟩) 0 0, .int .i64 k]) (by simp [results, Tryd.results15]) rfl ?_
          exact ⟨_, [], by rw [HRES.out, HS2.out], (by repeat (first | with_reducible exact Below.refl _ _ | with_reducible assumption | with_reducible refine bel_alloc ?_ _ | with_reducible refine bel_drew ?_ | with_reducible refine bel_drewN ?_ _ | (with_reducible refine bel_set ?_ ?_ _; rotate_left; ((try simp); (try omega))))), by rw [HRES.out, HS2.out]; exact emptyRowI _ _, Fresh.nil _⟩
        | true =>
          have HS1 := Lib.hid (And.intro (HS.out.1 hp2) HS.out.2.1)
          rw [hp2] at hI
          generalize (parseInstr l).1 = x at hI hxo HS1
          have hI2 := hI
          unfold TIns.val at hI2
          clear hp2 HS hI
          have HX := Lib.hid hxo
          go_wp2_with fail
          refine (hI2 _ (HG.out.bel (by repeat (first | with_reducible exact Below.refl _ _ | with_reducible assumption | with_reducible refine bel_alloc ?_ _ | with_reducible refine bel_drew ?_ | with_reducible refine bel_drewN ?_ _ | (with_reducible refine bel_set ?_ ?_ _; rotate_left; ((try simp); (try omega))))))).mono ?_
          rintro e w3 ⟨rfl, hb3⟩
          have hz3 := hb3.size
          have hb13 : Below w1.heap.size w1 w3 := bel_then hBr hb3
          have HO3 := Lib.hid (HO.out.bel hb3)
          have hll := linesTo_len (ls := ls) (k := k) (by rw [HN.out]; exact hkn)
          clear hb3
          go_wp2_with (at_builtin; refine wpList_app (c := cIns) (B := w1.heap.size) (xs := linesTo ls k) (ys := [x]) (Fi := []) (Fy := []) _ rfl _ _ _ rfl i0 _ _ Tryd.underlying32 hi0 hz0 hz1 hz2 rfl (by decide) rfl (HO3.out.bel (by repeat (first | with_reducible exact Below.refl _ _ | with_reducible assumption | with_reducible refine bel_alloc ?_ _ | with_reducible refine bel_drew ?_ | with_reducible refine bel_drewN ?_ _ | (with_reducible refine bel_set ?_ ?_ _; rotate_left; ((try simp); (try omega)))))) (.slice (some ⟨w3.heap.size + 1, 0, none⟩) 1 1) rfl (src_insI (w3.heap.size + 1) (by simp) HX.out) (by rw [hll]; unfold maxLen; simp; omega) (by rw [hll]; simp; omega) (by (try simp); (try omega)) (by simp) ?_)
          intro v4 w4 ho4 hg4 hat4
          have hlo := HO3.out.lt
          have hB4 : Below w1.heap.size w1 w4 := (show Below w1.heap.size w1 _ from (by repeat (first | with_reducible exact Below.refl _ _ | with_reducible assumption | with_reducible refine bel_alloc ?_ _ | with_reducible refine bel_drew ?_ | with_reducible refine bel_drewN ?_ _ | (with_reducible refine bel_set ?_ ?_ _; rotate_left; ((try simp); (try omega)))))).grown hg4 (by (try simp); (try omega)) (fun g hg => (hlo g hg).1)
          have HO4 := Lib.hid ho4
          clear ho4 hg4 hat4 hlo
          go_wp2_with fail
          go_roundw
          case rel => exact ⟨k + 1, by go_num, by omega, by rw [HS1.out.2]; exact HO4.out, ⟨HS1.out.1, fun y hy => by
            rw [HS1.out.2] at hy
            rcases List.mem_append.1 hy with hy | hy
            · exact HK.out.2 y hy
            · rw [List.mem_singleton.1 hy]; exact HX.out⟩, hB4⟩
          case measure => simp [intOf]; omega
      · have hki : ¬ (k : Int) < (n : Int) := by omega
        have hkl : k = ls.length := by rw [HN.out]; omega
        have hll := linesTo_len (ls := ls) (k := k) (by omega)
        have HE := Lib.hid (show res = bif isScript (linesTo ls k) then (linesTo ls k, -1) else ([], (n : Int)) from by
          have h1 := HB.out.2 (by rw [← hkl]; exact HK.out.1)
          rw [← hkl] at h1
          rw [h1, show k = n by rw [hkl]; exact HN.out])
        obtain ⟨G, hr2, hf2, -⟩ := HO.out.fresh (hw := by decide) (hw2 := by decide)
        obtain ⟨A5, c5, e5⟩ := HO.out.slice
        subst e5
        have HR2 := Lib.hid (And.intro hr2 hf2)
        have hT := fun W (hr : cInsS.rep W [.slice A5 (linesTo ls k).length c5] (linesTo ls k) G) => implIsScriptN_any _ (linesTo ls k) G W hr (by rw [hll]; omega)
        clear hr2 hf2 hkl
        cases hsc : isScript (linesTo ls k)
        · rw [hsc] at hT HE
          clear hsc
          have HTT := Lib.hid hT
          clear hT
          have HL9 := Lib.hid hll
          clear hll
          go_wp2_with fail

          refine (HTT.out _ (Cod.bel HR2.out.1 (by repeat (first | with_reducible exact Below.refl _ _ | with_reducible assumption | with_reducible refine bel_alloc ?_ _ | with_reducible refine bel_drew ?_ | with_reducible refine bel_drewN ?_ _ | (with_reducible refine bel_set ?_ ?_ _; rotate_left; ((try simp); (try omega))))))).mono ?_
          rintro e w5 ⟨rfl, hb5⟩
          have hB5 : Below w.heap.size w w5 := bel_then (by repeat (first | with_reducible exact Below.refl _ _ | with_reducible assumption | with_reducible refine bel_alloc ?_ _ | with_reducible refine bel_drew ?_ | with_reducible refine bel_drewN ?_ _ | (with_reducible refine bel_set ?_ ?_ _; rotate_left; ((try simp); (try omega))))) hb5
          clear hb5
          go_wp2_with fail
          refine bodyPost_ret (v := .tuple #[.slice (some ⟨w5.heap.size, 0, none⟩) 0 0, .int .i64 n]) (by simp [results, Tryd.results15]) rfl ?_
          exact ⟨_, [], by rw [HRES.out, HE.out]; rfl, (by repeat (first | with_reducible exact Below.refl _ _ | with_reducible assumption | with_reducible refine bel_alloc ?_ _ | with_reducible refine bel_drew ?_ | with_reducible refine bel_drewN ?_ _ | (with_reducible refine bel_set ?_ ?_ _; rotate_left; ((try simp); (try omega))))), by rw [HRES.out, HE.out]; exact emptyRowI _ _, Fresh.nil _⟩
        · rw [hsc] at hT HE
          clear hsc
          have HTT := Lib.hid hT
          clear hT
          have HL9 := Lib.hid hll
          clear hll
          go_wp2_with fail

          refine (HTT.out _ (Cod.bel HR2.out.1 (by repeat (first | with_reducible exact Below.refl _ _ | with_reducible assumption | with_reducible refine bel_alloc ?_ _ | with_reducible refine bel_drew ?_ | with_reducible refine bel_drewN ?_ _ | (with_reducible refine bel_set ?_ ?_ _; rotate_left; ((try simp); (try omega))))))).mono ?_
          rintro e w5 ⟨rfl, hb5⟩
          have hB5 : Below w.heap.size w w5 := bel_then (by repeat (first | with_reducible exact Below.refl _ _ | with_reducible assumption | with_reducible refine bel_alloc ?_ _ | with_reducible refine bel_drew ?_ | with_reducible refine bel_drewN ?_ _ | (with_reducible refine bel_set ?_ ?_ _; rotate_left; ((try simp); (try omega))))) hb5
          go_wp2_with fail
          refine bodyPost_ret (v := .tuple #[.slice A5 (linesTo ls k).length c5, .int .i64 (-1)]) (by simp [results, Tryd.results15]) rfl ?_
          exact ⟨_, G, by rw [HRES.out, HE.out]; rfl, (by repeat (first | with_reducible exact Below.refl _ _ | with_reducible assumption | with_reducible refine bel_alloc ?_ _ | with_reducible refine bel_drew ?_ | with_reducible refine bel_drewN ?_ _ | (with_reducible refine bel_set ?_ ?_ _; rotate_left; ((try simp); (try omega))))), by rw [HRES.out, HE.out]; exact Cod.bel HR2.out.1 (bel_then (Below.refl _ _) hb5), HR2.out.2.mono (by omega)⟩
end Go.Proofs.YtlicnppfgfjkgaaDoor
