/-
  The cursor of the draws: a block of three cells that a call turns; l1New, l1Byte, l1Below, l1Once, l1Int, l1Str. No conditions.
-/
import Derived.Test.YtlicnppfgfjkgaaZBody
import Derived.Test.YtlicnppfgfjkgaaZA
namespace Go.Proofs.Ytlicnppfgfjkgaa
open Go.ChangeShapes Go.WideShapes Go.RowKit
set_option linter.unusedVariables false

/-- block p is a cursor -/
def Cur (w : World) (p : Nat) : Prop := ∃ A n cp xs F, ∃ i : Nat, ∃ h : Int, w.cell? ⟨p, 0, none⟩ = some (.slice A n cp) ∧ w.cell? ⟨p, 1, none⟩ = some (.int .i64 i) ∧ w.cell? ⟨p, 2, none⟩ = some (.int .i64 h) ∧
  w.frozen? ⟨p, 1, none⟩ = false ∧ w.frozen? ⟨p, 2, none⟩ = false ∧ cUS.rep w [.slice A n cp] xs F ∧ (∀ y, y ∈ F → y < p) ∧ p < w.heap.size ∧ i ≤ n ∧ n ≤ 1048576
theorem Cur.lt {w : World} {p : Nat} (h : Cur w p) : p < w.heap.size := by
  obtain ⟨_, _, _, _, _, _, _, _, _, _, _, _, _, _, h, _⟩ := h; exact h
theorem Cur.bel {w w' : World} {p : Nat} (h : Cur w p) (hb : Below w.heap.size w w') : Cur w' p := by
  obtain ⟨A, n, cp, xs, F, i, hh, h0, h1, h2, f1, f2, hr, hp, hl, hi, hn⟩ := h
  exact ⟨A, n, cp, xs, F, i, hh, (hb.cell (p := ⟨p, 0, none⟩) hl).trans h0, (hb.cell (p := ⟨p, 1, none⟩) hl).trans h1, (hb.cell (p := ⟨p, 2, none⟩) hl).trans h2, (hb.frozen (p := ⟨p, 1, none⟩) hl).trans f1, (hb.frozen (p := ⟨p, 2, none⟩) hl).trans f2, Cod.bel hr hb, hp, Nat.lt_of_lt_of_le hl hb.size, hi, hn⟩
theorem Cur.alloc {w : World} {p : Nat} (h : Cur w p) (o : Obj) : Cur (w.alloc o) p := h.bel (bel_alloc (Below.refl _ _) o)
theorem Cur.drew {w : World} {p : Nat} (h : Cur w p) : Cur w.drew p := h.bel (bel_drew (Below.refl _ _))
theorem Cur.drewN {w : World} {p : Nat} (h : Cur w p) (n : Nat) : Cur (w.drewN n) p := h.bel (bel_drewN (Below.refl _ _) n)
theorem Cur.set {w : World} {p : Nat} (h : Cur w p) {q : Addr} (hq : p < q.block) (v : Value) : Cur (w.setCell q v) p := by
  obtain ⟨A, n, cp, xs, F, i, hh, h0, h1, h2, f1, f2, hr, hp, hl, hi, hn⟩ := h
  have hb : (w.setCell q v).heap[p]? = w.heap[p]? := Below.heap_setCell _ _ _ _ (by omega)
  exact ⟨A, n, cp, xs, F, i, hh, (World.cell?_of_block hb).trans h0, (World.cell?_of_block hb).trans h1, (World.cell?_of_block hb).trans h2, (World.frozen?_of_block hb).trans f1, (World.frozen?_of_block hb).trans f2, Cod.keep _ hr fun b hm => Below.heap_setCell _ _ _ _ (by have := hp b hm; omega), hp, by simpa using hl, hi, hn⟩
/-- what a call on the cursor p leaves, as rules for the walk -/
theorem ocell {W w1 : World} {p : Nat} (hb : Only [p] W w1) : (∀ b o, b < W.heap.size → ¬ b = p → w1.cell? ⟨b, o, none⟩ = W.cell? ⟨b, o, none⟩) ∧ (∀ b o, b < W.heap.size → ¬ b = p → w1.frozen? ⟨b, o, none⟩ = W.frozen? ⟨b, o, none⟩) ∧ W.heap.size ≤ w1.heap.size :=
  ⟨fun b o h hn => World.cell?_of_block (a := ⟨b, o, none⟩) (hb.block b h (by simpa using hn)), fun b o h hn => World.frozen?_of_block (a := ⟨b, o, none⟩) (hb.block b h (by simpa using hn)), hb.size⟩
theorem Only.setNew {F : List Nat} {a b : World} (h : Only F a b) {q : Addr} (hq : a.heap.size ≤ q.block) (u : Value) : Only F a (b.setCell q u) :=
  ⟨h.os, h.tape, h.output, by simpa using h.size, fun k hk hn => (Below.heap_setCell _ _ _ _ (by omega)).trans (h.block k hk hn)⟩
theorem Only.then_ {F : List Nat} {a b c : World} (h : Only F a b) (k : Only F b c) : Only F a c := h.trans k
/-- A call on the cursor p: what it returns meets R; of what was there only p has turned, and it is a cursor still. -/
def Draws (p : Nat) (w : World) (R : Value → World → Prop) (e : Ending) (w' : World) : Prop := ∃ v, e = .returned v ∧ R v w' ∧ Only [p] w w' ∧ Cur w' p

set_option maxRecDepth 100000 in
set_option maxHeartbeats 4000000 in
theorem l1Byte_any (p : Nat) (w : World) (h : Cur w p) :
    Calls Try.prog 124 #[.pointer (some ⟨p, 0, none⟩)] w (Draws p w fun v _ => ∃ r : Int, v = .int .i64 r ∧ 0 ≤ r ∧ r ≤ 255) := by
  obtain ⟨A, n, cp, xs, F, i, hh, h0, h1, h2, f1, f2, hr, hpl, hl, hi, hn⟩ := h
  have hp : p ∉ F := fun hm => by have := hpl p hm; omega
  have hand : ∀ n, bits .and .i64 n 255 = n % 256 := and255
  go_enter Try.func124, Try.ntmps124
  go_wp2_with fail
  generalize hW : World.setCell w ⟨p, 2, none⟩ _ = w1
  obtain ⟨H, k2⟩ : ∃ H, w1.cell? ⟨p, 2, none⟩ = some (.int .i64 H) := ⟨_, by rw [← hW]; exact cell?_set_same h2⟩
  have k0 : w1.cell? ⟨p, 0, none⟩ = some (.slice A n cp) := by rw [← hW, World.cell?_setCell_other w ⟨p, 2, none⟩ ⟨p, 0, none⟩ _ (fun e => by injection e with _ e; omega)]; exact h0
  have k1 : w1.cell? ⟨p, 1, none⟩ = some (.int .i64 i) := by rw [← hW, World.cell?_setCell_other w ⟨p, 2, none⟩ ⟨p, 1, none⟩ _ (fun e => by injection e with _ e; omega)]; exact h1
  have z1 : w1.frozen? ⟨p, 1, none⟩ = false := by rw [← hW, frozen?_set]; exact f1
  have z2 : w1.frozen? ⟨p, 2, none⟩ = false := by rw [← hW, frozen?_set]; exact f2
  have hr1 : cUS.rep w1 [.slice A n cp] xs F := by rw [← hW]; exact Cod.set_ hr hp 2 _
  have ho : Only [p] w w1 := by rw [← hW]; exact (Only.refl _ _).set_ (by simp) _
  have hl1 : p < w1.heap.size := by rw [← hW]; simpa using hl
  clear hW h0 h1 h2 f1 f2 hr
  by_cases hin : i < n
  · have hix : i < xs.length := by have := (cL_len hr1).1; omega
    obtain ⟨g, o, vs, F3, rfl, hgF, ⟨rfl, -⟩, -, hc⟩ := cL_get (hw := by decide) (hw2 := by decide) hr1 hix
    have q0 := (hc 0 _ rfl).1
    rw [show cU.wd = 1 from rfl, Nat.mul_one, Nat.add_zero] at q0
    have hgp : g ≠ p := fun e => hp (e ▸ hgF)
    have hb9 := xs[i].toNat_lt
    obtain ⟨b, hb⟩ : ∃ b, xs[i].toNat = b := ⟨_, rfl⟩
    rw [hb] at q0 hb9
    clear hc hb
    have hii : (i : Int) < (n : Int) := by omega
    have HR := Lib.hid (And.intro hr1 ho)
    clear hr1 ho
    go_quiet (fail)
    go_wp2_with fail
    go_quiet (fail)
    go_wp2_with fail
    go_quiet (fail)
    go_wp2_with fail
    go_ret
    refine ⟨_, rfl, ⟨_, rfl, by omega, by omega⟩, HR.out.2.trans (((Only.refl _ _).drewN _).set_ (by simp) _), ?_⟩
    have e1 : ∀ m, (w1.drewN m).cell? ⟨p, 1, none⟩ = some (.int .i64 i) := fun m => k1
    refine ⟨_, n, cp, xs, F, i + 1, H, ?_, by rw [cell?_set_same (e1 _)]; simp, ?_, (frozen?_set _ _ _ _).trans z1, (frozen?_set _ _ _ _).trans z2, Cod.set_ (Cod.bel HR.out.1 (bel_drewN (Below.refl _ _) _)) hp 1 _, hpl, by simpa using hl1, hin, hn⟩
    · rw [World.cell?_setCell_other _ ⟨p, 1, none⟩ ⟨p, 0, none⟩ _ (fun e => by injection e with _ e; omega)]; exact k0
    · rw [World.cell?_setCell_other _ ⟨p, 1, none⟩ ⟨p, 2, none⟩ _ (fun e => by injection e with _ e; omega)]; exact k2
  · have hii : ¬ (i : Int) < (n : Int) := by omega
    have HR := Lib.hid (And.intro hr1 ho)
    clear hr1 ho
    go_quiet (fail)
    go_wp2_with fail
    go_quiet (fail)
    go_wp2_with fail
    go_ret
    exact ⟨_, rfl, ⟨_, rfl, by omega, by omega⟩, (HR.out.2.drewN _).drewN _, ⟨A, n, cp, xs, F, i, H, k0, k1, k2, z1, z2, Cod.bel HR.out.1 (bel_drewN (bel_drewN (Below.refl _ _) _) _), hpl, hl1, hi, hn⟩⟩
set_option maxHeartbeats 2000000 in
theorem l1Below_any (p : Nat) (n : Int) (w : World) (h : Cur w p) (hn : 1 ≤ n ∧ n ≤ 256) :
    Calls Try.prog 68 #[.pointer (some ⟨p, 0, none⟩), .int .i64 n] w (Draws p w fun v _ => ∃ r : Int, v = .int .i64 r ∧ 0 ≤ r ∧ r < n) := by
  go_enter Try.func68, Try.ntmps68
  go_wp2_with fail
  refine (l1Byte_any p _ h).mono ?_
  rintro e w1 ⟨v, rfl, ⟨r, rfl, hr0, hr1⟩, ho, hc⟩
  have h1 : r.tmod n = r % n := Int.tmod_eq_emod_of_nonneg hr0
  have h2 := Int.emod_nonneg r (show n ≠ 0 by omega)
  have h3 := Int.emod_lt_of_pos r (show 0 < n by omega)
  obtain ⟨q, hq⟩ : ∃ q, r.tmod n = q := ⟨_, rfl⟩
  rw [← h1, hq] at h2 h3
  clear h1
  have hn0 : ¬ n = 0 := by omega
  go_wp2_with fail
  go_ret
  exact ⟨_, rfl, ⟨q, rfl, h2, h3⟩, ho, hc⟩
set_option maxHeartbeats 2000000 in
theorem l1Once_any (p : Nat) (n : Int) (w : World) (h : Cur w p) (hn : 1 ≤ n ∧ n ≤ 256) :
    Calls Try.prog 114 #[.pointer (some ⟨p, 0, none⟩), .int .i64 n] w (Draws p w fun v _ => ∃ b : Bool, v = .bool b) := by
  go_enter Try.func114, Try.ntmps114
  go_wp2_with fail
  refine (l1Below_any p n _ h hn).mono ?_
  rintro e w1 ⟨v, rfl, ⟨r, rfl, hr0, hr1⟩, ho, hc⟩
  go_wp2_with fail
  all_goals go_ret
  all_goals exact ⟨_, rfl, ⟨_, rfl⟩, ho, hc⟩
set_option maxHeartbeats 2000000 in
theorem l1Int_any (p : Nat) (v : Value) (xs : List Int) (F : List Nat) (w : World) (h : Cur w p) (hl : cIS.rep w [v] xs F) (hn : 1 ≤ xs.length ∧ xs.length ≤ 256) (hp : p ∉ F) :
    Calls Try.prog 123 #[.pointer (some ⟨p, 0, none⟩), v] w (Draws p w fun v _ => ∃ x : Int, v = .int .i64 x ∧ x ∈ xs) := by
  obtain ⟨A, cp, rfl⟩ := cL_form hl
  obtain ⟨n, hxn⟩ : ∃ n, xs.length = n := ⟨_, rfl⟩
  have HN := Lib.hid hxn
  rw [hxn] at hn hl ⊢
  clear hxn
  go_enter Try.func123, Try.ntmps123
  go_wp2_with fail
  refine (l1Below_any p n _ h (by omega)).mono ?_
  rintro e w1 ⟨v, rfl, ⟨r, rfl, hr0, hr1⟩, ho, hc⟩
  obtain ⟨k, rfl⟩ : ∃ k : Nat, r = k := ⟨r.toNat, by omega⟩
  have hkx : k < xs.length := by rw [HN.out]; omega
  have hl1 := Cod.only hl ho (fun b hb hm => hp (by simp at hm; exact hm ▸ hb))
  obtain ⟨g, o, vs, F3, rfl, hgF, ⟨rfl, -⟩, -, hcell⟩ := cL_get (hw := by decide) (hw2 := by decide) hl1 hkx
  have q0 := (hcell 0 _ rfl).1
  rw [show cI.wd = 1 from rfl, Nat.mul_one, Nat.add_zero] at q0
  clear hcell
  go_wp2_with fail
  go_ret
  exact ⟨_, rfl, ⟨_, rfl, List.getElem_mem hkx⟩, ho, hc⟩
set_option maxHeartbeats 2000000 in
theorem l1Str_any (p : Nat) (v : Value) (xs : List ByteArray) (F : List Nat) (w : World) (h : Cur w p) (hl : cStS.rep w [v] xs F) (hn : 1 ≤ xs.length ∧ xs.length ≤ 256) (hp : p ∉ F) :
    Calls Try.prog 69 #[.pointer (some ⟨p, 0, none⟩), v] w (Draws p w fun v _ => ∃ x : ByteArray, v = .string x ∧ x ∈ xs) := by
  obtain ⟨A, cp, rfl⟩ := cL_form hl
  obtain ⟨n, hxn⟩ : ∃ n, xs.length = n := ⟨_, rfl⟩
  have HN := Lib.hid hxn
  rw [hxn] at hn hl ⊢
  clear hxn
  go_enter Try.func69, Try.ntmps69
  go_wp2_with fail
  refine (l1Below_any p n _ h (by omega)).mono ?_
  rintro e w1 ⟨v, rfl, ⟨r, rfl, hr0, hr1⟩, ho, hc⟩
  obtain ⟨k, rfl⟩ : ∃ k : Nat, r = k := ⟨r.toNat, by omega⟩
  have hkx : k < xs.length := by rw [HN.out]; omega
  have hl1 := Cod.only hl ho (fun b hb hm => hp (by simp at hm; exact hm ▸ hb))
  obtain ⟨g, o, vs, F3, rfl, hgF, ⟨rfl, -⟩, -, hcell⟩ := cL_get (hw := by decide) (hw2 := by decide) hl1 hkx
  have q0 := (hcell 0 _ rfl).1
  rw [show cS.wd = 1 from rfl, Nat.mul_one, Nat.add_zero] at q0
  clear hcell
  go_wp2_with fail
  go_ret
  exact ⟨_, rfl, ⟨_, rfl, List.getElem_mem hkx⟩, ho, hc⟩
set_option maxHeartbeats 2000000 in
theorem l1New_any (v : Value) (xs : List UInt8) (F : List Nat) (w : World) (h : cUS.rep w [v] xs F) (hn : xs.length ≤ 1048576) :
    Calls Try.prog 60 #[v] w fun e w' => e = .returned (.pointer (some ⟨w.heap.size, 0, none⟩)) ∧ Below w.heap.size w w' ∧ Cur w' w.heap.size := by
  obtain ⟨A, cp, rfl⟩ := cL_form h
  obtain ⟨n, hxn⟩ : ∃ n, xs.length = n := ⟨_, rfl⟩
  have HN := Lib.hid hxn
  rw [hxn] at hn h ⊢
  clear hxn
  have hlt := Cod.lt _ h
  go_enter Try.func60, Try.ntmps60
  go_wp2
  go_loopw [3, 4] (fun a i wr => ∃ k : Nat, k ≤ n ∧ i = .int .i64 k ∧ (∃ d : Int, a = .int .i64 d) ∧ wr = w) (fun _ i _ => n - (intOf i).toNat)
  case atStart => exact ⟨0, Nat.zero_le _, rfl, ⟨_, rfl⟩, rfl⟩
  case round =>
    obtain ⟨k, hk, rfl, ⟨d, rfl⟩, rfl⟩ := hrel
    by_cases hlt2 : k < n ∧ k < 4000
    · have hkx : k < xs.length := by rw [HN.out]; exact hlt2.1
      obtain ⟨g, o, vs, F3, rfl, hgF, ⟨rfl, -⟩, -, hcell⟩ := cL_get (hw := by decide) (hw2 := by decide) h hkx
      have q0 := (hcell 0 _ rfl).1
      rw [show cU.wd = 1 from rfl, Nat.mul_one, Nat.add_zero] at q0
      have h1 : (k : Int) < (n : Int) := by omega
      have h2 : (k : Int) < 4000 := by omega
      clear hcell
      go_wp2_with fail
      go_roundw
      case rel => exact ⟨k + 1, by omega, by go_num, ⟨_, rfl⟩, by first | rfl | trivial⟩
      case measure => simp [intOf]; omega
    · by_cases h1 : k < n
      · have h2 : ¬ (k : Int) < 4000 := by omega
        have h3 : (k : Int) < (n : Int) := by omega
        go_wp2_with fail
        go_ret
        exact ⟨rfl, (by repeat (first | with_reducible exact Below.refl _ _ | with_reducible assumption | with_reducible refine bel_alloc ?_ _ | with_reducible refine bel_drew ?_ | with_reducible refine bel_drewN ?_ _ | (with_reducible refine bel_set ?_ ?_ _; rotate_left; ((try simp); (try omega))))), ⟨A, n, cp, xs, F, 0, _, (Blk.new wr _ _).cell 0, (Blk.new wr _ _).cell 1, (Blk.new wr _ _).cell 2, (Blk.new wr _ _).frozen 1, (Blk.new wr _ _).frozen 2, Cod.bel h (bel_alloc (Below.refl _ _) _), fun y hm => hlt y hm, by simp, Nat.zero_le _, hn⟩⟩
      · have h3 : ¬ (k : Int) < (n : Int) := by omega
        go_wp2_with fail
        go_ret
        exact ⟨rfl, (by repeat (first | with_reducible exact Below.refl _ _ | with_reducible assumption | with_reducible refine bel_alloc ?_ _ | with_reducible refine bel_drew ?_ | with_reducible refine bel_drewN ?_ _ | (with_reducible refine bel_set ?_ ?_ _; rotate_left; ((try simp); (try omega))))), ⟨A, n, cp, xs, F, 0, _, (Blk.new wr _ _).cell 0, (Blk.new wr _ _).cell 1, (Blk.new wr _ _).cell 2, (Blk.new wr _ _).frozen 1, (Blk.new wr _ _).frozen 2, Cod.bel h (bel_alloc (Below.refl _ _) _), fun y hm => hlt y hm, by simp, Nat.zero_le _, hn⟩⟩
theorem repsStr (w : World) : ∀ xs : List ByteArray, (∀ x, x ∈ xs → x.size ≤ maxLen) → cS.reps w (xs.map Value.string) xs []
  | [], _ => ⟨rfl, rfl⟩
  | x :: xs, h => ⟨[_], _, [], [], rfl, rfl, ⟨rfl, rfl, h x (by simp)⟩, repsStr w xs fun y hy => h y (by simp [hy])⟩
theorem repsInt (w : World) : ∀ xs : List Int, (∀ x, x ∈ xs → -9223372036854775808 ≤ x ∧ x ≤ 9223372036854775807) → cI.reps w (xs.map (Value.int .i64)) xs []
  | [], _ => ⟨rfl, rfl⟩
  | x :: xs, h => ⟨[_], _, [], [], rfl, rfl, ⟨rfl, rfl, h x (by simp)⟩, repsInt w xs fun y hy => h y (by simp [hy])⟩
/-- a row written out -/
theorem rowStr (w : World) (T : TypeId) (xs : List ByteArray) (n : Nat) (hn : n = xs.length) (h0 : xs ≠ []) (hm : n ≤ maxLen) (h : ∀ x, x ∈ xs → x.size ≤ maxLen) : cStS.rep (w.alloc (.cells (xs.map Value.string).toArray T)) [.slice (some ⟨w.heap.size, 0, none⟩) n n] xs [w.heap.size] := by
  subst hn
  exact ⟨_, _, rfl, Nat.le_refl _, hm, .inr ⟨h0, w.heap.size, 0, [], _, rfl, rfl, fun j u hu => by rw [Nat.zero_add]; exact ⟨by rw [(Blk.new w T _).cell]; simpa using hu, (Blk.new w T _).frozen _⟩, repsStr _ xs h⟩⟩
theorem rowInt (w : World) (T : TypeId) (xs : List Int) (n : Nat) (hn : n = xs.length) (h0 : xs ≠ []) (hm : n ≤ maxLen) (h : ∀ x, x ∈ xs → -9223372036854775808 ≤ x ∧ x ≤ 9223372036854775807) : cIS.rep (w.alloc (.cells (xs.map (Value.int .i64)).toArray T)) [.slice (some ⟨w.heap.size, 0, none⟩) n n] xs [w.heap.size] := by
  subst hn
  exact ⟨_, _, rfl, Nat.le_refl _, hm, .inr ⟨h0, w.heap.size, 0, [], _, rfl, rfl, fun j u hu => by rw [Nat.zero_add]; exact ⟨by rw [(Blk.new w T _).cell]; simpa using hu, (Blk.new w T _).frozen _⟩, repsInt _ xs h⟩⟩
set_option maxHeartbeats 2000000 in
theorem l15Site_any (p : Nat) (w : World) (h : Cur w p) :
    Calls Try.prog 75 #[.pointer (some ⟨p, 0, none⟩)] w (Draws p w fun v _ => ∃ x : ByteArray, v = .string x ∧ x.size ≤ 100) := by
  have hpl := h.lt
  go_enter Try.func75, Try.ntmps75
  go_wp2_with fail
  refine (l1Str_any p _ [⟨#[98, 97, 110, 107]⟩, ⟨#[115, 104, 111, 112]⟩, ⟨#[110, 101, 119, 115]⟩] _ _ (h.alloc _) (by exact rowStr w _ [⟨#[98, 97, 110, 107]⟩, ⟨#[115, 104, 111, 112]⟩, ⟨#[110, 101, 119, 115]⟩] 3 rfl (by simp) (by decide) (by decide)) (by simp) (by simp; omega)).mono ?_
  rintro e w1 ⟨v, rfl, ⟨x, rfl, hx⟩, ho, hc⟩
  go_wp2_with fail
  go_ret
  exact ⟨_, rfl, ⟨_, rfl, (by decide : ∀ x ∈ ([⟨#[98, 97, 110, 107]⟩, ⟨#[115, 104, 111, 112]⟩, ⟨#[110, 101, 119, 115]⟩] : List ByteArray), x.size ≤ 100) x hx⟩, (Only.alloc (Only.refl _ _) _).trans ho, hc⟩
end Go.Proofs.Ytlicnppfgfjkgaa
