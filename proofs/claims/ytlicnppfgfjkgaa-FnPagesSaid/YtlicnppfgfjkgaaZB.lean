/-
  Words, codecs and types of this seat in one text. No conditions.
-/
import Derived.Test.YtlicnppfgfjkgaaZA
import Derived.Deep.CutRange
namespace Go.Proofs.Ytlicnppfgfjkgaa
open Go.ChangeShapes Go.WideShapes Go.RowKit
set_option linter.unusedVariables false

/-- block p is a cursor -/
def Cur (w : World) (p : Nat) : Prop := ∃ A n cp xs F, ∃ i : Nat, ∃ h : Int, w.cell? ⟨p, 0, none⟩ = some (.slice A n cp) ∧ w.cell? ⟨p, 1, none⟩ = some (.int .i64 i) ∧ w.cell? ⟨p, 2, none⟩ = some (.int .i64 h) ∧
  w.frozen? ⟨p, 1, none⟩ = false ∧ w.frozen? ⟨p, 2, none⟩ = false ∧ cUS.rep w [.slice A n cp] xs F ∧ (∀ y, y ∈ F → y < p) ∧ p < w.heap.size ∧ i ≤ n ∧ n ≤ 1048576
theorem Cur.lt {w : World} {p : Nat} (h : Cur w p) : p < w.heap.size := by
  obtain ⟨_, _, _, _, _, _, _, _, _, _, _, _, _, _, h, _⟩ := h; exact h
theorem Cur.bel {w w' : World} {p : Nat} (h : Cur w p) (hb : Below w.heap.size w w') : Cur w' p := by
  obtain ⟨A, n, cp, xs, F, i, hh, h0, h1, h2, f1, f2, hr, hp, hl, hi, hn⟩ := h
  exact ⟨A, n, cp, xs, F, i, hh, (hb.cell (p := ⟨p, 0, none⟩) hl).trans h0, (hb.cell (p := ⟨p, 1, none⟩) hl).trans h1, (hb.cell (p := ⟨p, 2, none⟩) hl).trans h2, (hb.frozen (p := ⟨p, 1, none⟩) hl).trans f1, (hb.frozen (p := ⟨p, 2, none⟩) hl).trans f2, Cod.bel hr hb, hp, Nat.lt_of_lt_of_le hl hb.size, hi, hn⟩
theorem Cur.alloc {w : World} {p : Nat} (h : Cur w p) (o : Obj) : Cur (w.alloc o) p := h.bel (bel_alloc (Below.refl _ _) o)
theorem Cur.drew {w : World} {p : Nat} (h : Cur w p) : Cur w.drew p := h.bel (bel_drew (Below.refl _ _))
theorem Cur.drewN {w : World} {p : Nat} (h : Cur w p) (n : Nat) : Cur (w.drewN n) p := h.bel (bel_drewN (Below.refl _ _) n)
theorem Cur.set {w : World} {p : Nat} (h : Cur w p) {q : Addr} (hq : p < q.block) (v : Value) : Cur (w.setCell q v) p := by
  obtain ⟨A, n, cp, xs, F, i, hh, h0, h1, h2, f1, f2, hr, hp, hl, hi, hn⟩ := h
  have hb : (w.setCell q v).heap[p]? = w.heap[p]? := Below.heap_setCell _ _ _ _ (by omega)
  exact ⟨A, n, cp, xs, F, i, hh, (World.cell?_of_block hb).trans h0, (World.cell?_of_block hb).trans h1, (World.cell?_of_block hb).trans h2, (World.frozen?_of_block hb).trans f1, (World.frozen?_of_block hb).trans f2, Cod.keep _ hr fun b hm => Below.heap_setCell _ _ _ _ (by have := hp b hm; omega), hp, by simpa using hl, hi, hn⟩
/-- what a call on the cursor p leaves, as rules for the walk -/
theorem ocell {W w1 : World} {p : Nat} (hb : Only [p] W w1) : (∀ b o, b < W.heap.size → ¬ b = p → w1.cell? ⟨b, o, none⟩ = W.cell? ⟨b, o, none⟩) ∧ (∀ b o, b < W.heap.size → ¬ b = p → w1.frozen? ⟨b, o, none⟩ = W.frozen? ⟨b, o, none⟩) ∧ W.heap.size ≤ w1.heap.size :=
  ⟨fun b o h hn => World.cell?_of_block (a := ⟨b, o, none⟩) (hb.block b h (by simpa using hn)), fun b o h hn => World.frozen?_of_block (a := ⟨b, o, none⟩) (hb.block b h (by simpa using hn)), hb.size⟩
theorem Only.setNew {F : List Nat} {a b : World} (h : Only F a b) {q : Addr} (hq : a.heap.size ≤ q.block) (u : Value) : Only F a (b.setCell q u) :=
  ⟨h.os, h.tape, h.output, by simpa using h.size, fun k hk hn => (Below.heap_setCell _ _ _ _ (by omega)).trans (h.block k hk hn)⟩
theorem Only.then_ {F : List Nat} {a b c : World} (h : Only F a b) (k : Only F b c) : Only F a c := h.trans k
/-- A call on the cursor p: what it returns meets R; of what was there only p has turned, and it is a cursor still. -/
def Draws (p : Nat) (w : World) (R : Value → World → Prop) (e : Ending) (w' : World) : Prop := ∃ v, e = .returned v ∧ R v w' ∧ Only [p] w w' ∧ Cur w' p

set_option maxRecDepth 100000 in
set_option maxHeartbeats 4000000 in
theorem l1Byte_any (p : Nat) (w : World) (h : Cur w p) :
    Calls Try.prog 124 #[.pointer (some ⟨p, 0, none⟩)] w (Draws p w fun v _ => ∃ r : Int, v = .int .i64 r ∧ 0 ≤ r ∧ r ≤ 255) := by
  obtain ⟨A, n, cp, xs, F, i, hh, h0, h1, h2, f1, f2, hr, hpl, hl, hi, hn⟩ := h
  have hp : p ∉ F := fun hm => by have := hpl p hm; omega
  have hand : ∀ n, bits .and .i64 n 255 = n % 256 := and255
  go_enter Try.func124, Try.ntmps124
  go_wp2_with fail
  generalize hW : World.setCell w ⟨p, 2, none⟩ _ = w1
  obtain ⟨H, k2⟩ : ∃ H, w1.cell? ⟨p, 2, none⟩ = some (.int .i64 H) := ⟨_, by rw [← hW]; exact cell?_set_same h2⟩
  have k0 : w1.cell? ⟨p, 0, none⟩ = some (.slice A n cp) := by rw [← hW, World.cell?_setCell_other w ⟨p, 2, none⟩ ⟨p, 0, none⟩ _ (fun e => by injection e with _ e; omega)]; exact h0
  have k1 : w1.cell? ⟨p, 1, none⟩ = some (.int .i64 i) := by rw [← hW, World.cell?_setCell_other w ⟨p, 2, none⟩ ⟨p, 1, none⟩ _ (fun e => by injection e with _ e; omega)]; exact h1
  have z1 : w1.frozen? ⟨p, 1, none⟩ = false := by rw [← hW, frozen?_set]; exact f1
  have z2 : w1.frozen? ⟨p, 2, none⟩ = false := by rw [← hW, frozen?_set]; exact f2
  have hr1 : cUS.rep w1 [.slice A n cp] xs F := by rw [← hW]; exact Cod.set_ hr hp 2 _
  have ho : Only [p] w w1 := by rw [← hW]; exact (Only.refl _ _).set_ (by simp) _
  have hl1 : p < w1.heap.size := by rw [← hW]; simpa using hl
  clear hW h0 h1 h2 f1 f2 hr
  by_cases hin : i < n
  · have hix : i < xs.length := by have := (cL_len hr1).1; omega
    obtain ⟨g, o, vs, F3, rfl, hgF, ⟨rfl, -⟩, -, hc⟩ := cL_get (hw := by decide) (hw2 := by decide) hr1 hix
    have q0 := (hc 0 _ rfl).1
    rw [show cU.wd = 1 from rfl, Nat.mul_one, Nat.add_zero] at q0
    have hgp : g ≠ p := fun e => hp (e ▸ hgF)
    have hb9 := xs[i].toNat_lt
    obtain ⟨b, hb⟩ : ∃ b, xs[i].toNat = b := ⟨_, rfl⟩
    rw [hb] at q0 hb9
    clear hc hb
    have hii : (i : Int) < (n : Int) := by omega
    have HR := Lib.hid (And.intro hr1 ho)
    clear hr1 ho
    go_quiet (fail)
    go_wp2_with fail
    go_quiet (fail)
    go_wp2_with fail
    go_quiet (fail)
    go_wp2_with fail
    go_ret
    refine ⟨_, rfl, ⟨_, rfl, by omega, by omega⟩, HR.out.2.trans (((Only.refl _ _).drewN _).set_ (by simp) _), ?_⟩
    have e1 : ∀ m, (w1.drewN m).cell? ⟨p, 1, none⟩ = some (.int .i64 i) := fun m => k1
    refine ⟨_, n, cp, xs, F, i + 1, H, ?_, by rw [cell?_set_same (e1 _)]; simp, ?_, (frozen?_set _ _ _ _).trans z1, (frozen?_set _ _ _ _).trans z2, Cod.set_ (Cod.bel HR.out.1 (bel_drewN (Below.refl _ _) _)) hp 1 _, hpl, by simpa using hl1, hin, hn⟩
    · rw [World.cell?_setCell_other _ ⟨p, 1, none⟩ ⟨p, 0, none⟩ _ (fun e => by injection e with _ e; omega)]; exact k0
    · rw [World.cell?_setCell_other _ ⟨p, 1, none⟩ ⟨p, 2, none⟩ _ (fun e => by injection e with _ e; omega)]; exact k2
  · have hii : ¬ (i : Int) < (n : Int) := by omega
    have HR := Lib.hid (And.intro hr1 ho)
    clear hr1 ho
    go_quiet (fail)
    go_wp2_with fail
    go_quiet (fail)
    go_wp2_with fail
    go_ret
    exact ⟨_, rfl, ⟨_, rfl, by omega, by omega⟩, (HR.out.2.drewN _).drewN _, ⟨A, n, cp, xs, F, i, H, k0, k1, k2, z1, z2, Cod.bel HR.out.1 (bel_drewN (bel_drewN (Below.refl _ _) _) _), hpl, hl1, hi, hn⟩⟩
set_option maxHeartbeats 2000000 in
theorem l1Below_any (p : Nat) (n : Int) (w : World) (h : Cur w p) (hn : 1 ≤ n ∧ n ≤ 256) :
    Calls Try.prog 68 #[.pointer (some ⟨p, 0, none⟩), .int .i64 n] w (Draws p w fun v _ => ∃ r : Int, v = .int .i64 r ∧ 0 ≤ r ∧ r < n) := by
  go_enter Try.func68, Try.ntmps68
  go_wp2_with fail
  refine (l1Byte_any p _ h).mono ?_
  rintro e w1 ⟨v, rfl, ⟨r, rfl, hr0, hr1⟩, ho, hc⟩
  have h1 : r.tmod n = r % n := Int.tmod_eq_emod_of_nonneg hr0
  have h2 := Int.emod_nonneg r (show n ≠ 0 by omega)
  have h3 := Int.emod_lt_of_pos r (show 0 < n by omega)
  obtain ⟨q, hq⟩ : ∃ q, r.tmod n = q := ⟨_, rfl⟩
  rw [← h1, hq] at h2 h3
  clear h1
  have hn0 : ¬ n = 0 := by omega
  go_wp2_with fail
  go_ret
  exact ⟨_, rfl, ⟨q, rfl, h2, h3⟩, ho, hc⟩
set_option maxHeartbeats 2000000 in
theorem l1Once_any (p : Nat) (n : Int) (w : World) (h : Cur w p) (hn : 1 ≤ n ∧ n ≤ 256) :
    Calls Try.prog 114 #[.pointer (some ⟨p, 0, none⟩), .int .i64 n] w (Draws p w fun v _ => ∃ b : Bool, v = .bool b) := by
  go_enter Try.func114, Try.ntmps114
  go_wp2_with fail
  refine (l1Below_any p n _ h hn).mono ?_
  rintro e w1 ⟨v, rfl, ⟨r, rfl, hr0, hr1⟩, ho, hc⟩
  go_wp2_with fail
  all_goals go_ret
  all_goals exact ⟨_, rfl, ⟨_, rfl⟩, ho, hc⟩
set_option maxHeartbeats 2000000 in
theorem l1Int_any (p : Nat) (v : Value) (xs : List Int) (F : List Nat) (w : World) (h : Cur w p) (hl : cIS.rep w [v] xs F) (hn : 1 ≤ xs.length ∧ xs.length ≤ 256) (hp : p ∉ F) :
    Calls Try.prog 123 #[.pointer (some ⟨p, 0, none⟩), v] w (Draws p w fun v _ => ∃ x : Int, v = .int .i64 x ∧ x ∈ xs) := by
  obtain ⟨A, cp, rfl⟩ := cL_form hl
  obtain ⟨n, hxn⟩ : ∃ n, xs.length = n := ⟨_, rfl⟩
  have HN := Lib.hid hxn
  rw [hxn] at hn hl ⊢
  clear hxn
  go_enter Try.func123, Try.ntmps123
  go_wp2_with fail
  refine (l1Below_any p n _ h (by omega)).mono ?_
  rintro e w1 ⟨v, rfl, ⟨r, rfl, hr0, hr1⟩, ho, hc⟩
  obtain ⟨k, rfl⟩ : ∃ k : Nat, r = k := ⟨r.toNat, by omega⟩
  have hkx : k < xs.length := by rw [HN.out]; omega
  have hl1 := Cod.only hl ho (fun b hb hm => hp (by simp at hm; exact hm ▸ hb))
  obtain ⟨g, o, vs, F3, rfl, hgF, ⟨rfl, -⟩, -, hcell⟩ := cL_get (hw := by decide) (hw2 := by decide) hl1 hkx
  have q0 := (hcell 0 _ rfl).1
  rw [show cI.wd = 1 from rfl, Nat.mul_one, Nat.add_zero] at q0
  clear hcell
  go_wp2_with fail
  go_ret
  exact ⟨_, rfl, ⟨_, rfl, List.getElem_mem hkx⟩, ho, hc⟩
set_option maxHeartbeats 2000000 in
theorem l1Str_any (p : Nat) (v : Value) (xs : List ByteArray) (F : List Nat) (w : World) (h : Cur w p) (hl : cStS.rep w [v] xs F) (hn : 1 ≤ xs.length ∧ xs.length ≤ 256) (hp : p ∉ F) :
    Calls Try.prog 69 #[.pointer (some ⟨p, 0, none⟩), v] w (Draws p w fun v _ => ∃ x : ByteArray, v = .string x ∧ x ∈ xs) := by
  obtain ⟨A, cp, rfl⟩ := cL_form hl
  obtain ⟨n, hxn⟩ : ∃ n, xs.length = n := ⟨_, rfl⟩
  have HN := Lib.hid hxn
  rw [hxn] at hn hl ⊢
  clear hxn
  go_enter Try.func69, Try.ntmps69
  go_wp2_with fail
  refine (l1Below_any p n _ h (by omega)).mono ?_
  rintro e w1 ⟨v, rfl, ⟨r, rfl, hr0, hr1⟩, ho, hc⟩
  obtain ⟨k, rfl⟩ : ∃ k : Nat, r = k := ⟨r.toNat, by omega⟩
  have hkx : k < xs.length := by rw [HN.out]; omega
  have hl1 := Cod.only hl ho (fun b hb hm => hp (by simp at hm; exact hm ▸ hb))
  obtain ⟨g, o, vs, F3, rfl, hgF, ⟨rfl, -⟩, -, hcell⟩ := cL_get (hw := by decide) (hw2 := by decide) hl1 hkx
  have q0 := (hcell 0 _ rfl).1
  rw [show cS.wd = 1 from rfl, Nat.mul_one, Nat.add_zero] at q0
  clear hcell
  go_wp2_with fail
  go_ret
  exact ⟨_, rfl, ⟨_, rfl, List.getElem_mem hkx⟩, ho, hc⟩
set_option maxHeartbeats 2000000 in
theorem l1New_any (v : Value) (xs : List UInt8) (F : List Nat) (w : World) (h : cUS.rep w [v] xs F) (hn : xs.length ≤ 1048576) :
    Calls Try.prog 60 #[v] w fun e w' => e = .returned (.pointer (some ⟨w.heap.size, 0, none⟩)) ∧ Below w.heap.size w w' ∧ Cur w' w.heap.size := by
  obtain ⟨A, cp, rfl⟩ := cL_form h
  obtain ⟨n, hxn⟩ : ∃ n, xs.length = n := ⟨_, rfl⟩
  have HN := Lib.hid hxn
  rw [hxn] at hn h ⊢
  clear hxn
  have hlt := Cod.lt _ h
  go_enter Try.func60, Try.ntmps60
  go_wp2
  go_loopw [3, 4] (fun a i wr => ∃ k : Nat, k ≤ n ∧ i = .int .i64 k ∧ (∃ d : Int, a = .int .i64 d) ∧ wr = w) (fun _ i _ => n - (intOf i).toNat)
  case atStart => exact ⟨0, Nat.zero_le _, rfl, ⟨_, rfl⟩, rfl⟩
  case round =>
    obtain ⟨k, hk, rfl, ⟨d, rfl⟩, rfl⟩ := hrel
    by_cases hlt2 : k < n ∧ k < 4000
    · have hkx : k < xs.length := by rw [HN.out]; exact hlt2.1
      obtain ⟨g, o, vs, F3, rfl, hgF, ⟨rfl, -⟩, -, hcell⟩ := cL_get (hw := by decide) (hw2 := by decide) h hkx
      have q0 := (hcell 0 _ rfl).1
      rw [show cU.wd = 1 from rfl, Nat.mul_one, Nat.add_zero] at q0
      have h1 : (k : Int) < (n : Int) := by omega
      have h2 : (k : Int) < 4000 := by omega
      clear hcell
      go_wp2_with fail
      go_roundw
      case rel => exact ⟨k + 1, by omega, by go_num, ⟨_, rfl⟩, by first | rfl | trivial⟩
      case measure => simp [intOf]; omega
    · by_cases h1 : k < n
      · have h2 : ¬ (k : Int) < 4000 := by omega
        have h3 : (k : Int) < (n : Int) := by omega
        go_wp2_with fail
        go_ret
        exact ⟨rfl, (by repeat (first | with_reducible exact Below.refl _ _ | with_reducible assumption | with_reducible refine bel_alloc ?_ _ | with_reducible refine bel_drew ?_ | with_reducible refine bel_drewN ?_ _ | (with_reducible refine bel_set ?_ ?_ _; rotate_left; ((try simp); (try omega))))), ⟨A, n, cp, xs, F, 0, _, (Blk.new wr _ _).cell 0, (Blk.new wr _ _).cell 1, (Blk.new wr _ _).cell 2, (Blk.new wr _ _).frozen 1, (Blk.new wr _ _).frozen 2, Cod.bel h (bel_alloc (Below.refl _ _) _), fun y hm => hlt y hm, by simp, Nat.zero_le _, hn⟩⟩
      · have h3 : ¬ (k : Int) < (n : Int) := by omega
        go_wp2_with fail
        go_ret
        exact ⟨rfl, (by repeat (first | with_reducible exact Below.refl _ _ | with_reducible assumption | with_reducible refine bel_alloc ?_ _ | with_reducible refine bel_drew ?_ | with_reducible refine bel_drewN ?_ _ | (with_reducible refine bel_set ?_ ?_ _; rotate_left; ((try simp); (try omega))))), ⟨A, n, cp, xs, F, 0, _, (Blk.new wr _ _).cell 0, (Blk.new wr _ _).cell 1, (Blk.new wr _ _).cell 2, (Blk.new wr _ _).frozen 1, (Blk.new wr _ _).frozen 2, Cod.bel h (bel_alloc (Below.refl _ _) _), fun y hm => hlt y hm, by simp, Nat.zero_le _, hn⟩⟩
theorem repsStr (w : World) : ∀ xs : List ByteArray, (∀ x, x ∈ xs → x.size ≤ maxLen) → cS.reps w (xs.map Value.string) xs []
  | [], _ => ⟨rfl, rfl⟩
  | x :: xs, h => ⟨[_], _, [], [], rfl, rfl, ⟨rfl, rfl, h x (by simp)⟩, repsStr w xs fun y hy => h y (by simp [hy])⟩
theorem repsInt (w : World) : ∀ xs : List Int, (∀ x, x ∈ xs → -9223372036854775808 ≤ x ∧ x ≤ 9223372036854775807) → cI.reps w (xs.map (Value.int .i64)) xs []
  | [], _ => ⟨rfl, rfl⟩
  | x :: xs, h => ⟨[_], _, [], [], rfl, rfl, ⟨rfl, rfl, h x (by simp)⟩, repsInt w xs fun y hy => h y (by simp [hy])⟩
/-- a row written out -/
theorem rowStr (w : World) (T : TypeId) (xs : List ByteArray) (n : Nat) (hn : n = xs.length) (h0 : xs ≠ []) (hm : n ≤ maxLen) (h : ∀ x, x ∈ xs → x.size ≤ maxLen) : cStS.rep (w.alloc (.cells (xs.map Value.string).toArray T)) [.slice (some ⟨w.heap.size, 0, none⟩) n n] xs [w.heap.size] := by
  subst hn
  exact ⟨_, _, rfl, Nat.le_refl _, hm, .inr ⟨h0, w.heap.size, 0, [], _, rfl, rfl, fun j u hu => by rw [Nat.zero_add]; exact ⟨by rw [(Blk.new w T _).cell]; simpa using hu, (Blk.new w T _).frozen _⟩, repsStr _ xs h⟩⟩
theorem rowInt (w : World) (T : TypeId) (xs : List Int) (n : Nat) (hn : n = xs.length) (h0 : xs ≠ []) (hm : n ≤ maxLen) (h : ∀ x, x ∈ xs → -9223372036854775808 ≤ x ∧ x ≤ 9223372036854775807) : cIS.rep (w.alloc (.cells (xs.map (Value.int .i64)).toArray T)) [.slice (some ⟨w.heap.size, 0, none⟩) n n] xs [w.heap.size] := by
  subst hn
  exact ⟨_, _, rfl, Nat.le_refl _, hm, .inr ⟨h0, w.heap.size, 0, [], _, rfl, rfl, fun j u hu => by rw [Nat.zero_add]; exact ⟨by rw [(Blk.new w T _).cell]; simpa using hu, (Blk.new w T _).frozen _⟩, repsInt _ xs h⟩⟩
set_option maxHeartbeats 2000000 in
theorem l15Site_any (p : Nat) (w : World) (h : Cur w p) :
    Calls Try.prog 75 #[.pointer (some ⟨p, 0, none⟩)] w (Draws p w fun v _ => ∃ x : ByteArray, v = .string x ∧ x.size ≤ 100) := by
  have hpl := h.lt
  go_enter Try.func75, Try.ntmps75
  go_wp2_with fail
  refine (l1Str_any p _ [⟨#[98, 97, 110, 107]⟩, ⟨#[115, 104, 111, 112]⟩, ⟨#[110, 101, 119, 115]⟩] _ _ (h.alloc _) (by exact rowStr w _ [⟨#[98, 97, 110, 107]⟩, ⟨#[115, 104, 111, 112]⟩, ⟨#[110, 101, 119, 115]⟩] 3 rfl (by simp) (by decide) (by decide)) (by simp) (by simp; omega)).mono ?_
  rintro e w1 ⟨v, rfl, ⟨x, rfl, hx⟩, ho, hc⟩
  go_wp2_with fail
  go_ret
  exact ⟨_, rfl, ⟨_, rfl, (by decide : ∀ x ∈ ([⟨#[98, 97, 110, 107]⟩, ⟨#[115, 104, 111, 112]⟩, ⟨#[110, 101, 119, 115]⟩] : List ByteArray), x.size ≤ 100) x hx⟩, (Only.alloc (Only.refl _ _) _).trans ho, hc⟩
end Go.Proofs.Ytlicnppfgfjkgaa
namespace Go.Proofs.Ytlicnppfgfjkgaa
open Go.ChangeShapes Go.WideShapes Go.RowKit
set_option linter.unusedVariables false

theorem flat_Loaded : Flat cLoaded := fun h => (TLoaded.out h).2.1
theorem infoLoaded : (Try.prog.info? 51).map (fun i => (i.zero, i.size, i.bytes)) = some (some (Value.agg #[.string ByteArray.empty, .int .i64 0]), 2, 24) := by kernel_rfl
structure PageV (B : Nat) (w : World) (x : TPage) (A4 : Option Addr) (c4 : Nat) (A5 : Option Addr) (c5 : Nat) (A7 : Option Addr) (c7 : Nat) (F : List Nat) : Prop where
  own : Own cLoaded 51 B w (.slice A4 x.loaded.length c4) x.loaded []
  mach : cMach.rep w [.slice A5 x.mach.script.length c5, .int .i64 x.mach.pc, .slice A7 x.mach.regs.length c7, .int .i64 x.mach.steps, .bool x.mach.done, .bool x.mach.wait] x.mach F
  fr : Fresh B F
  ne : ∀ g, ownB (.slice A4 x.loaded.length c4) = some g → g ∉ F
  ok : x.Ok
section
variable {B : Nat} {w w' : World} {x : TPage} {A4 : Option Addr} {c4 : Nat} {A5 : Option Addr} {c5 : Nat} {A7 : Option Addr} {c7 : Nat} {F : List Nat}
theorem PageV.rep (h : PageV B w x A4 c4 A5 c5 A7 c7 F) : ∃ G, cPage.rep w [.int .i64 x.id, .string x.site, .string x.top, .int .i64 x.ver, .slice A4 x.loaded.length c4, .slice A5 x.mach.script.length c5, .int .i64 x.mach.pc, .slice A7 x.mach.regs.length c7, .int .i64 x.mach.steps, .bool x.mach.done, .bool x.mach.wait] x G ∧ Fresh B G ∧ ∀ b, b ∈ G → ownB (.slice A4 x.loaded.length c4) = some b ∨ b ∈ F := by
  obtain ⟨G4, k4, f4, g4⟩ := h.own.fresh (hw := by decide) (hw2 := by decide)
  obtain ⟨v5, v7, F5, F7, e, rfl, -, k5, k7⟩ := TMach.out h.mach
  obtain ⟨rfl, rfl⟩ : v5 = .slice A5 x.mach.script.length c5 ∧ v7 = .slice A7 x.mach.regs.length c7 := by simp at e; exact ⟨e.1.symm, e.2.symm⟩
  refine ⟨G4 ++ F5 ++ F7, TPage.mk_ h.ok k4 k5 k7, ?_, fun b hb => ?_⟩
  · rw [List.append_assoc]
    refine ⟨fun b hb => ?_, List.nodup_append.2 ⟨f4.2, h.fr.2, fun a ha b hb e => h.ne a (g4 a ha) (e ▸ hb)⟩⟩
    rcases List.mem_append.1 hb with hb | hb
    · exact f4.1 b hb
    · exact h.fr.1 b hb
  · rw [List.append_assoc] at hb
    rcases List.mem_append.1 hb with hb | hb
    · exact .inl (g4 b hb)
    · exact .inr hb
theorem PageV.mono {B' : Nat} (h : PageV B w x A4 c4 A5 c5 A7 c7 F) (hB : B' ≤ B) : PageV B' w x A4 c4 A5 c5 A7 c7 F := ⟨h.own.mono hB, h.mach, h.fr.mono hB, h.ne, h.ok⟩
theorem PageV.keep (h : PageV B w x A4 c4 A5 c5 A7 c7 F) (hk : ∀ b, (ownB (.slice A4 x.loaded.length c4) = some b ∨ b ∈ F) → w'.heap[b]? = w.heap[b]?) : PageV B w' x A4 c4 A5 c5 A7 c7 F :=
  ⟨h.own.keep (fun g hg => hk g (.inl hg)) (fun b hb => by simp at hb), Cod.keep _ h.mach (fun b hb => hk b (.inr hb)), h.fr, h.ne, h.ok⟩
theorem PageV.keepB (h : PageV B w x A4 c4 A5 c5 A7 c7 F) (k : Keep B w w') : PageV B w' x A4 c4 A5 c5 A7 c7 F :=
  h.keep fun b hb => by
    rcases hb with hb | hb
    · exact k.block b (h.own.lt b hb).1 (h.own.lt b hb).2
    · exact k.block b (h.fr.1 b hb) (Cod.lt _ h.mach b hb)
theorem PageV.lt (h : PageV B w x A4 c4 A5 c5 A7 c7 F) : ∀ b, (ownB (.slice A4 x.loaded.length c4) = some b ∨ b ∈ F) → B ≤ b ∧ b < w.heap.size := fun b hb => by
  rcases hb with hb | hb
  · exact h.own.lt b hb
  · exact ⟨h.fr.1 b hb, Cod.lt _ h.mach b hb⟩
theorem PageV.bel (h : PageV B w x A4 c4 A5 c5 A7 c7 F) (hb : Below w.heap.size w w') : PageV B w' x A4 c4 A5 c5 A7 c7 F := h.keep fun b hk => hb.block b (h.lt b hk).2
theorem PageV.only {p : Nat} (h : PageV B w x A4 c4 A5 c5 A7 c7 F) (ho : Only [p] w w') (hp : p < B) : PageV B w' x A4 c4 A5 c5 A7 c7 F := h.keep fun b hk => ho.block b (h.lt b hk).2 (by have := (h.lt b hk).1; simp; omega)
theorem PageV.set (h : PageV B w x A4 c4 A5 c5 A7 c7 F) {a : Addr} (ha : ∀ b, (ownB (.slice A4 x.loaded.length c4) = some b ∨ b ∈ F) → b ≠ a.block) (u : Value) : PageV B (w.setCell a u) x A4 c4 A5 c5 A7 c7 F := h.keep fun b hk => Below.heap_setCell _ _ _ _ (ha b hk)
theorem PageV.app (h : PageV B w x A4 c4 A5 c5 A7 c7 F) {o : Obj} {y : TLoaded} {v2 : Value} {w2 : World} (ho : Own cLoaded 51 B w2 v2 (x.loaded ++ [y]) []) (hg : (w.alloc o).grownBy w2 (ownB (.slice A4 x.loaded.length c4))) (hat : ∀ g, ownB v2 = some g → ownB (.slice A4 x.loaded.length c4) = some g ∨ w.heap.size + 1 ≤ g) :
    ∃ A2 c2, v2 = .slice A2 (x.loaded ++ [y]).length c2 ∧ PageV B w2 ⟨x.id, x.site, x.top, x.ver, x.loaded ++ [y], x.mach⟩ A2 c2 A5 c5 A7 c7 F := by
  obtain ⟨A2, c2, rfl⟩ := ho.slice
  refine ⟨A2, c2, rfl, ho, Cod.keep _ h.mach (fun b hb => ?_), h.fr, fun g hg2 hm => ?_, ⟨h.ok.h0, h.ok.h1, h.ok.h2, h.ok.h3, h.ok.h6, h.ok.h8⟩⟩
  · have hlt := Cod.lt _ h.mach b hb
    exact (hg.block b (by simp; omega) (fun e => h.ne b e.symm hb)).trans ((bel_alloc (Below.refl w.heap.size w) o).block b hlt)
  · rcases hat g hg2 with h9 | h9
    · exact h.ne g h9 hm
    · have := Cod.lt _ h.mach g hm; omega
theorem PageV.empty (A : Option Addr) (h : cMach.rep w [.slice A5 x.mach.script.length c5, .int .i64 x.mach.pc, .slice A7 x.mach.regs.length c7, .int .i64 x.mach.steps, .bool x.mach.done, .bool x.mach.wait] x.mach F) (hf : Fresh B F) (hok : x.Ok) (hl : x.loaded = []) : PageV B w x A 0 A5 c5 A7 c7 F :=
  ⟨by rw [hl]; exact Own.empty A, h, hf, fun g hg => by rw [hl] at hg; cases A <;> simp [ownB] at hg, hok⟩
end
section
variable {W : World} {q : Nat} {T : TypeId} {cs : Array Value}
theorem Blk.set11 (hb : Blk W q T cs) (hs : cs.size = 11) (a0 a1 a2 a3 a4 a5 a6 a7 a8 a9 a10 : Value) : Blk (((((((((((W.setCell ⟨q, 0, none⟩ a0).setCell ⟨q, 1, none⟩ a1).setCell ⟨q, 2, none⟩ a2).setCell ⟨q, 3, none⟩ a3).setCell ⟨q, 4, none⟩ a4).setCell ⟨q, 5, none⟩ a5).setCell ⟨q, 6, none⟩ a6).setCell ⟨q, 7, none⟩ a7).setCell ⟨q, 8, none⟩ a8).setCell ⟨q, 9, none⟩ a9).setCell ⟨q, 10, none⟩ a10) q T #[a0, a1, a2, a3, a4, a5, a6, a7, a8, a9, a10] := by
  obtain ⟨l⟩ := cs
  have hl : l.length = 11 := by simpa using hs
  obtain ⟨v0, l, rfl⟩ := List.exists_cons_of_length_eq_add_one hl
  obtain ⟨v1, l, rfl⟩ := List.exists_cons_of_length_eq_add_one (Nat.succ.inj hl)
  obtain ⟨v2, l, rfl⟩ := List.exists_cons_of_length_eq_add_one (Nat.succ.inj (Nat.succ.inj hl))
  obtain ⟨v3, l, rfl⟩ := List.exists_cons_of_length_eq_add_one (n := 7) (by simpa using hl)
  obtain ⟨v4, l, rfl⟩ := List.exists_cons_of_length_eq_add_one (n := 6) (by simpa using hl)
  obtain ⟨v5, l, rfl⟩ := List.exists_cons_of_length_eq_add_one (n := 5) (by simpa using hl)
  obtain ⟨v6, l, rfl⟩ := List.exists_cons_of_length_eq_add_one (n := 4) (by simpa using hl)
  obtain ⟨v7, l, rfl⟩ := List.exists_cons_of_length_eq_add_one (n := 3) (by simpa using hl)
  obtain ⟨v8, l, rfl⟩ := List.exists_cons_of_length_eq_add_one (n := 2) (by simpa using hl)
  obtain ⟨v9, l, rfl⟩ := List.exists_cons_of_length_eq_add_one (n := 1) (by simpa using hl)
  obtain ⟨v10, l, rfl⟩ := List.exists_cons_of_length_eq_add_one (n := 0) (by simpa using hl)
  obtain rfl : l = [] := List.eq_nil_of_length_eq_zero (by simpa using hl)
  have h := ((((((((((hb.set_ 0 a0).set_ 1 a1).set_ 2 a2).set_ 3 a3).set_ 4 a4).set_ 5 a5).set_ 6 a6).set_ 7 a7).set_ 8 a8).set_ 9 a9).set_ 10 a10
  simp only [List.setIfInBounds_toArray, List.set_cons_zero, List.set_cons_succ] at h
  exact h
theorem sets_ret11 {P : Program} {fn : Func} {Q : Ending → World → Prop} {A : Act} (hb : Blk W q T cs) (hs : cs.size = 11) {a0 a1 a2 a3 a4 a5 a6 a7 a8 a9 a10 : Value}
    (h : ∀ W9, (((((((((((W.setCell ⟨q, 0, none⟩ a0).setCell ⟨q, 1, none⟩ a1).setCell ⟨q, 2, none⟩ a2).setCell ⟨q, 3, none⟩ a3).setCell ⟨q, 4, none⟩ a4).setCell ⟨q, 5, none⟩ a5).setCell ⟨q, 6, none⟩ a6).setCell ⟨q, 7, none⟩ a7).setCell ⟨q, 8, none⟩ a8).setCell ⟨q, 9, none⟩ a9).setCell ⟨q, 10, none⟩ a10) = W9 → Blk W9 q T #[a0, a1, a2, a3, a4, a5, a6, a7, a8, a9, a10] → bodyPost P fn Q .ret A W9) : bodyPost P fn Q .ret A (((((((((((W.setCell ⟨q, 0, none⟩ a0).setCell ⟨q, 1, none⟩ a1).setCell ⟨q, 2, none⟩ a2).setCell ⟨q, 3, none⟩ a3).setCell ⟨q, 4, none⟩ a4).setCell ⟨q, 5, none⟩ a5).setCell ⟨q, 6, none⟩ a6).setCell ⟨q, 7, none⟩ a7).setCell ⟨q, 8, none⟩ a8).setCell ⟨q, 9, none⟩ a9).setCell ⟨q, 10, none⟩ a10) := h _ rfl (hb.set11 hs _ _ _ _ _ _ _ _ _ _ _)
theorem Blk.set6 {v0 v1 v2 v3 v4 v5 v6 v7 v8 v9 v10 : Value} (hb : Blk W q T #[v0, v1, v2, v3, v4, v5, v6, v7, v8, v9, v10]) (a0 a1 a2 a3 a4 a5 : Value) : Blk ((((((W.setCell ⟨q, 5, none⟩ a0).setCell ⟨q, 6, none⟩ a1).setCell ⟨q, 7, none⟩ a2).setCell ⟨q, 8, none⟩ a3).setCell ⟨q, 9, none⟩ a4).setCell ⟨q, 10, none⟩ a5) q T #[v0, v1, v2, v3, v4, a0, a1, a2, a3, a4, a5] := by
  have h := (((((hb.set_ 5 a0).set_ 6 a1).set_ 7 a2).set_ 8 a3).set_ 9 a4).set_ 10 a5
  simp only [List.setIfInBounds_toArray, List.set_cons_zero, List.set_cons_succ] at h
  exact h
end
def GivesPg (w : World) (x : TPage) (e : Ending) (w' : World) : Prop := ∃ A4 c4 A5 c5 A7 c7 F, e = .returned (.agg #[.int .i64 x.id, .string x.site, .string x.top, .int .i64 x.ver, .slice A4 x.loaded.length c4, .slice A5 x.mach.script.length c5, .int .i64 x.mach.pc, .slice A7 x.mach.regs.length c7, .int .i64 x.mach.steps, .bool x.mach.done, .bool x.mach.wait]) ∧ Below w.heap.size w w' ∧ PageV w.heap.size w' x A4 c4 A5 c5 A7 c7 F
def GivesPg2 (w : World) (x : TPage) (r : Value) (e : Ending) (w' : World) : Prop := ∃ A4 c4 A5 c5 A7 c7 F, e = .returned (.tuple #[.agg #[.int .i64 x.id, .string x.site, .string x.top, .int .i64 x.ver, .slice A4 x.loaded.length c4, .slice A5 x.mach.script.length c5, .int .i64 x.mach.pc, .slice A7 x.mach.regs.length c7, .int .i64 x.mach.steps, .bool x.mach.done, .bool x.mach.wait], r]) ∧ Below w.heap.size w w' ∧ PageV w.heap.size w' x A4 c4 A5 c5 A7 c7 F
end Go.Proofs.Ytlicnppfgfjkgaa
namespace Go.Proofs.Ytlicnppfgfjkgaa
open Go.ChangeShapes Go.WideShapes Go.RowKit
set_option linter.unusedVariables false

theorem page_parts {x : TPage} (h : cPage.sz x ≤ 1048576) : x.loaded.length ≤ 1048576 ∧ cMach.sz x.mach ≤ 1048576 := by
  have e : cPage.sz x = 0 + (x.site.size + (x.top.size + (0 + (cLoadedS.sz x.loaded + cMach.sz x.mach)))) := rfl
  have h1 : x.loaded.length ≤ cLoadedS.sz x.loaded := Cod.len_le cLoaded x.loaded
  omega
theorem bel_oneP (w : World) (o : Obj) : Below w.heap.size w (w.alloc o) := bel_alloc (Below.refl _ _) o
theorem mach_formA {w : World} {vs : Array Value} {y : TMach} {G : List Nat} (h : cMach.rep w vs.toList y G) : ∃ A5 c5 A7 c7, vs = #[.slice A5 y.script.length c5, .int .i64 y.pc, .slice A7 y.regs.length c7, .int .i64 y.steps, .bool y.done, .bool y.wait] := by
  obtain ⟨u0, u2, E0, E2, rfl, -, -, s0, s2⟩ := TMach.outA h
  obtain ⟨A0, c0, rfl⟩ := cL_form s0
  obtain ⟨A2, c2, rfl⟩ := cL_form s2
  exact ⟨A0, c0, A2, c2, rfl⟩
set_option maxRecDepth 100000 in
set_option maxHeartbeats 8000000 in
theorem implCopyPage_any (vs : Array Value) (x : TPage) (F : List Nat) (w : World) (h : cPage.rep w vs.toList x F) (hn : cPage.sz x ≤ 1048576) :
    Calls Try.prog 70 #[.agg vs] w (GivesPg w x) := by
  obtain ⟨i0, hi0, hz0, hz1, hz2⟩ := info_parts infoLoaded
  obtain ⟨v4, v5, v7, F4, F5, F7, rfl, -, hok, m4, m5, m7⟩ := TPage.outA h
  obtain ⟨A4, c4, rfl⟩ := cL_form m4
  obtain ⟨A5, c5, rfl⟩ := cL_form m5
  obtain ⟨A7, c7, rfl⟩ := cL_form m7
  have hmr : cMach.rep w _ x.mach _ := TMach.mk_ (x := x.mach) ⟨hok.h6, hok.h8⟩ m5 m7
  obtain ⟨hll, hmz⟩ := page_parts hn
  clear h m5 m7 hn
  go_enter Try.func70, Try.ntmps70
  go_wp2_with (at_builtin; refine wpList_app (c := cLoaded) (xs := []) (ys := x.loaded) (Fi := []) (Fy := []) _ rfl _ _ _ rfl i0 _ _ Try.underlying39 hi0 hz0 hz1 hz2 rfl (by decide) (v := .slice (some _) 0 0) rfl (Own.empty _) (.slice A4 x.loaded.length c4) rfl (AppSrc.flat (hw := by decide) (hw2 := by decide) flat_Loaded (Cod.bel m4 (by repeat (first | with_reducible exact Below.refl _ _ | with_reducible assumption | with_reducible refine bel_alloc ?_ _ | with_reducible refine bel_drew ?_ | with_reducible refine bel_drewN ?_ _ | (with_reducible refine bel_set ?_ ?_ _; rotate_left; ((try simp); (try omega))))))) (by unfold maxLen; simp; omega) (by simp; omega) (Nat.le_refl _) (by simp [ownB]) ?_)
  intro v1 w1 ho hg hat
  replace ho : Own cLoaded 51 _ w1 v1 x.loaded [] := ho
  obtain ⟨B1, d1, e1⟩ := ho.slice
  subst e1
  have hb1 : Below _ _ w1 := (Below.refl _ _).grown hg (Nat.le_refl _) (by simp [ownB])
  have hP : Blk w1 w.heap.size 41 #[.int .i64 x.id, .string x.site, .string x.top, .int .i64 x.ver, .slice A4 x.loaded.length c4, .slice A5 x.mach.script.length c5, .int .i64 x.mach.pc, .slice A7 x.mach.regs.length c7, .int .i64 x.mach.steps, .bool x.mach.done, .bool x.mach.wait] := Blk.bel (Blk.bel (Blk.bel (Blk.new w _ _) (bel_oneP _ _)) (bel_oneP _ _)) hb1
  have hq0 := Blk.new (w.alloc (.cells #[.int .i64 x.id, .string x.site, .string x.top, .int .i64 x.ver, .slice A4 x.loaded.length c4, .slice A5 x.mach.script.length c5, .int .i64 x.mach.pc, .slice A7 x.mach.regs.length c7, .int .i64 x.mach.steps, .bool x.mach.done, .bool x.mach.wait] 41)) 41 #[.int .i64 0, .string ⟨#[]⟩, .string ⟨#[]⟩, .int .i64 0, .slice none 0 0, .slice none 0 0, .int .i64 0, .slice none 0 0, .int .i64 0, .bool false, .bool false]
  rw [World.size_alloc] at hq0
  have hQ : Blk w1 (w.heap.size + 1) 41 #[.int .i64 0, .string ⟨#[]⟩, .string ⟨#[]⟩, .int .i64 0, .slice none 0 0, .slice none 0 0, .int .i64 0, .slice none 0 0, .int .i64 0, .bool false, .bool false] := Blk.bel (Blk.bel hq0 (bel_oneP _ _)) hb1
  have hz1' := hb1.size
  (try simp at hz1')
  have hBw1 : Below w.heap.size w w1 := bel_then (by repeat (first | with_reducible exact Below.refl _ _ | with_reducible assumption | with_reducible refine bel_alloc ?_ _ | with_reducible refine bel_drew ?_ | with_reducible refine bel_drewN ?_ _ | (with_reducible refine bel_set ?_ ?_ _; rotate_left; ((try simp); (try omega))))) hb1
  have ho1 : Own cLoaded 51 (w.heap.size + 2) w1 (.slice B1 x.loaded.length d1) x.loaded [] := ho.mono (by simp)
  clear hq0 hb1 hg hat ho
  have p0 : w1.cell? ⟨w.heap.size, 0, none⟩ = some (.int .i64 x.id) := hP.cell 0
  have p1 : w1.cell? ⟨w.heap.size, 1, none⟩ = some (.string x.site) := hP.cell 1
  have p2 : w1.cell? ⟨w.heap.size, 2, none⟩ = some (.string x.top) := hP.cell 2
  have p3 : w1.cell? ⟨w.heap.size, 3, none⟩ = some (.int .i64 x.ver) := hP.cell 3
  have p4 : w1.cell? ⟨w.heap.size, 4, none⟩ = some (.slice A4 x.loaded.length c4) := hP.cell 4
  have p5 : w1.cell? ⟨w.heap.size, 5, none⟩ = some (.slice A5 x.mach.script.length c5) := hP.cell 5
  have p6 : w1.cell? ⟨w.heap.size, 6, none⟩ = some (.int .i64 x.mach.pc) := hP.cell 6
  have p7 : w1.cell? ⟨w.heap.size, 7, none⟩ = some (.slice A7 x.mach.regs.length c7) := hP.cell 7
  have p8 : w1.cell? ⟨w.heap.size, 8, none⟩ = some (.int .i64 x.mach.steps) := hP.cell 8
  have p9 : w1.cell? ⟨w.heap.size, 9, none⟩ = some (.bool x.mach.done) := hP.cell 9
  have p10 : w1.cell? ⟨w.heap.size, 10, none⟩ = some (.bool x.mach.wait) := hP.cell 10
  have z4 := hP.frozen 4
  go_wp2_with fail
  refine (implCopyMachine_any _ x.mach _ _ (by exact Cod.bel hmr (by repeat (first | with_reducible exact Below.refl _ _ | with_reducible assumption | with_reducible refine bel_alloc ?_ _ | with_reducible refine bel_drew ?_ | with_reducible refine bel_drewN ?_ _ | (with_reducible refine bel_set ?_ ?_ _; rotate_left; ((try simp); (try omega)))))) hmz).mono ?_
  rintro e w2 ⟨vs2, F2, rfl, hb2, hr2, hf2⟩
  obtain ⟨B5, d5, B7, d7, rfl⟩ := mach_formA hr2
  (try simp at hf2)
  have hlo1 := ho1.lt
  have hP2 := (hP.set_ 4 (.slice B1 x.loaded.length d1)).bel hb2
  simp only [List.setIfInBounds_toArray, List.set_cons_zero, List.set_cons_succ] at hP2
  have hQ2 : Blk w2 (w.heap.size + 1) 41 #[.int .i64 0, .string ⟨#[]⟩, .string ⟨#[]⟩, .int .i64 0, .slice none 0 0, .slice none 0 0, .int .i64 0, .slice none 0 0, .int .i64 0, .bool false, .bool false] := (hb2.block (w.heap.size + 1) (by (try simp); omega)).trans ((Below.heap_setCell _ _ _ _ (by simp)).trans hQ)
  have ho2 := (ho1.set_ (p := ⟨w.heap.size, 4, none⟩) (fun e => by have := (hlo1 _ e).1; simp at this; omega) (.slice B1 x.loaded.length d1)).bel hb2
  have hPV : PageV (w.heap.size + 2) w2 x B1 d1 B5 d5 B7 d7 F2 := ⟨ho2, hr2, hf2.mono (by (try simp); omega), fun g hg hm => by have := (hlo1 g hg).2; have := hf2.1 g hm; (try simp at this); omega, hok⟩
  have hz2 := hb2.size
  (try simp at hz2)
  have hBw2 : Below w.heap.size w w2 := bel_then (by repeat (first | with_reducible exact Below.refl _ _ | with_reducible assumption | with_reducible refine bel_alloc ?_ _ | with_reducible refine bel_drew ?_ | with_reducible refine bel_drewN ?_ _ | (with_reducible refine bel_set ?_ ?_ _; rotate_left; ((try simp); (try omega))))) hb2
  have HPV := Lib.hid hPV
  clear hb2 hr2 hf2 hlo1 ho2 hPV hP hQ ho1 p0 p1 p2 p3 p4 p5 p6 p7 p8 p9 p10
  have y5 : w2.frozen? ⟨w.heap.size, 5, none⟩ = false := hP2.frozen 5
  have y6 : w2.frozen? ⟨w.heap.size, 6, none⟩ = false := hP2.frozen 6
  have y7 : w2.frozen? ⟨w.heap.size, 7, none⟩ = false := hP2.frozen 7
  have y8 : w2.frozen? ⟨w.heap.size, 8, none⟩ = false := hP2.frozen 8
  have y9 : w2.frozen? ⟨w.heap.size, 9, none⟩ = false := hP2.frozen 9
  have y10 : w2.frozen? ⟨w.heap.size, 10, none⟩ = false := hP2.frozen 10
  have k0 : w2.cell? ⟨w.heap.size, 0, none⟩ = some (.int .i64 x.id) := hP2.cell 0
  have k1 : w2.cell? ⟨w.heap.size, 1, none⟩ = some (.string x.site) := hP2.cell 1
  have k2 : w2.cell? ⟨w.heap.size, 2, none⟩ = some (.string x.top) := hP2.cell 2
  have k3 : w2.cell? ⟨w.heap.size, 3, none⟩ = some (.int .i64 x.ver) := hP2.cell 3
  have k4 : w2.cell? ⟨w.heap.size, 4, none⟩ = some (.slice B1 x.loaded.length d1) := hP2.cell 4
  have k5 : w2.cell? ⟨w.heap.size, 5, none⟩ = some (.slice A5 x.mach.script.length c5) := hP2.cell 5
  have k6 : w2.cell? ⟨w.heap.size, 6, none⟩ = some (.int .i64 x.mach.pc) := hP2.cell 6
  have k7 : w2.cell? ⟨w.heap.size, 7, none⟩ = some (.slice A7 x.mach.regs.length c7) := hP2.cell 7
  have k8 : w2.cell? ⟨w.heap.size, 8, none⟩ = some (.int .i64 x.mach.steps) := hP2.cell 8
  have k9 : w2.cell? ⟨w.heap.size, 9, none⟩ = some (.bool x.mach.done) := hP2.cell 9
  have k10 : w2.cell? ⟨w.heap.size, 10, none⟩ = some (.bool x.mach.wait) := hP2.cell 10
  have HQ2 := Lib.hid hQ2
  go_upto_region 3 with (fail)
  obtain ⟨W3, hW3⟩ : ∃ W3, ((((((w2.setCell ⟨w.heap.size, 5, none⟩ (.slice B5 x.mach.script.length d5)).setCell ⟨w.heap.size, 6, none⟩ (.int .i64 x.mach.pc)).setCell ⟨w.heap.size, 7, none⟩ (.slice B7 x.mach.regs.length d7)).setCell ⟨w.heap.size, 8, none⟩ (.int .i64 x.mach.steps)).setCell ⟨w.heap.size, 9, none⟩ (.bool x.mach.done)).setCell ⟨w.heap.size, 10, none⟩ (.bool x.mach.wait)) = W3 := ⟨_, rfl⟩
  rw [hW3]
  have hP3 : Blk W3 w.heap.size 41 #[.int .i64 x.id, .string x.site, .string x.top, .int .i64 x.ver, .slice B1 x.loaded.length d1, .slice B5 x.mach.script.length d5, .int .i64 x.mach.pc, .slice B7 x.mach.regs.length d7, .int .i64 x.mach.steps, .bool x.mach.done, .bool x.mach.wait] := by rw [← hW3]; exact hP2.set6 _ _ _ _ _ _
  have hQ3 : Blk W3 (w.heap.size + 1) 41 #[.int .i64 0, .string ⟨#[]⟩, .string ⟨#[]⟩, .int .i64 0, .slice none 0 0, .slice none 0 0, .int .i64 0, .slice none 0 0, .int .i64 0, .bool false, .bool false] := by
    rw [← hW3]; unfold Blk
    repeat (rw [Below.heap_setCell _ _ _ _ (by simp)])
    exact HQ2.out
  have hBw3 : Below w.heap.size w W3 := by rw [← hW3]; exact (by repeat (first | with_reducible exact Below.refl _ _ | with_reducible assumption | with_reducible refine bel_alloc ?_ _ | with_reducible refine bel_drew ?_ | with_reducible refine bel_drewN ?_ _ | (with_reducible refine bel_set ?_ ?_ _; rotate_left; ((try simp); (try omega)))))
  have hz3 : w.heap.size + 1 < W3.heap.size := by rw [← hW3]; simp; omega
  have HPV3 := Lib.hid (HPV.out.keepB (show Keep (w.heap.size + 2) w2 W3 from by rw [← hW3]; exact (by repeat (first | with_reducible exact Keep.refl _ _ | with_reducible assumption | with_reducible refine Keep.alloc ?_ _ | with_reducible refine Keep.drew ?_ | with_reducible refine Keep.drewN ?_ _ | (with_reducible refine Keep.set_ ?_ ?_ _; rotate_left; ((try simp); (try omega)))))))
  clear hW3 hP2 hQ2 HQ2 HPV hBw2
  have p0 : W3.cell? ⟨w.heap.size, 0, none⟩ = some (.int .i64 x.id) := hP3.cell 0
  have p1 : W3.cell? ⟨w.heap.size, 1, none⟩ = some (.string x.site) := hP3.cell 1
  have p2 : W3.cell? ⟨w.heap.size, 2, none⟩ = some (.string x.top) := hP3.cell 2
  have p3 : W3.cell? ⟨w.heap.size, 3, none⟩ = some (.int .i64 x.ver) := hP3.cell 3
  have p4 : W3.cell? ⟨w.heap.size, 4, none⟩ = some (.slice B1 x.loaded.length d1) := hP3.cell 4
  have p5 : W3.cell? ⟨w.heap.size, 5, none⟩ = some (.slice B5 x.mach.script.length d5) := hP3.cell 5
  have p6 : W3.cell? ⟨w.heap.size, 6, none⟩ = some (.int .i64 x.mach.pc) := hP3.cell 6
  have p7 : W3.cell? ⟨w.heap.size, 7, none⟩ = some (.slice B7 x.mach.regs.length d7) := hP3.cell 7
  have p8 : W3.cell? ⟨w.heap.size, 8, none⟩ = some (.int .i64 x.mach.steps) := hP3.cell 8
  have p9 : W3.cell? ⟨w.heap.size, 9, none⟩ = some (.bool x.mach.done) := hP3.cell 9
  have p10 : W3.cell? ⟨w.heap.size, 10, none⟩ = some (.bool x.mach.wait) := hP3.cell 10
  have q0 : W3.cell? ⟨(w.heap.size + 1), 0, none⟩ = some (.int .i64 0) := hQ3.cell 0
  have f0 : W3.frozen? ⟨(w.heap.size + 1), 0, none⟩ = false := hQ3.frozen 0
  have q1 : W3.cell? ⟨(w.heap.size + 1), 1, none⟩ = some (.string ⟨#[]⟩) := hQ3.cell 1
  have f1 : W3.frozen? ⟨(w.heap.size + 1), 1, none⟩ = false := hQ3.frozen 1
  have q2 : W3.cell? ⟨(w.heap.size + 1), 2, none⟩ = some (.string ⟨#[]⟩) := hQ3.cell 2
  have f2 : W3.frozen? ⟨(w.heap.size + 1), 2, none⟩ = false := hQ3.frozen 2
  have q3 : W3.cell? ⟨(w.heap.size + 1), 3, none⟩ = some (.int .i64 0) := hQ3.cell 3
  have f3 : W3.frozen? ⟨(w.heap.size + 1), 3, none⟩ = false := hQ3.frozen 3
  have q4 : W3.cell? ⟨(w.heap.size + 1), 4, none⟩ = some (.slice none 0 0) := hQ3.cell 4
  have f4 : W3.frozen? ⟨(w.heap.size + 1), 4, none⟩ = false := hQ3.frozen 4
  have q5 : W3.cell? ⟨(w.heap.size + 1), 5, none⟩ = some (.slice none 0 0) := hQ3.cell 5
  have f5 : W3.frozen? ⟨(w.heap.size + 1), 5, none⟩ = false := hQ3.frozen 5
  have q6 : W3.cell? ⟨(w.heap.size + 1), 6, none⟩ = some (.int .i64 0) := hQ3.cell 6
  have f6 : W3.frozen? ⟨(w.heap.size + 1), 6, none⟩ = false := hQ3.frozen 6
  have q7 : W3.cell? ⟨(w.heap.size + 1), 7, none⟩ = some (.slice none 0 0) := hQ3.cell 7
  have f7 : W3.frozen? ⟨(w.heap.size + 1), 7, none⟩ = false := hQ3.frozen 7
  have q8 : W3.cell? ⟨(w.heap.size + 1), 8, none⟩ = some (.int .i64 0) := hQ3.cell 8
  have f8 : W3.frozen? ⟨(w.heap.size + 1), 8, none⟩ = false := hQ3.frozen 8
  have q9 : W3.cell? ⟨(w.heap.size + 1), 9, none⟩ = some (.bool false) := hQ3.cell 9
  have f9 : W3.frozen? ⟨(w.heap.size + 1), 9, none⟩ = false := hQ3.frozen 9
  have q10 : W3.cell? ⟨(w.heap.size + 1), 10, none⟩ = some (.bool false) := hQ3.cell 10
  have f10 : W3.frozen? ⟨(w.heap.size + 1), 10, none⟩ = false := hQ3.frozen 10
  go_wp2_with fail
  refine sets_ret11 hQ3 rfl (fun W9 e9 hb9 => ?_)
  have c0 : W9.cell? ⟨(w.heap.size + 1), 0, none⟩ = some (.int .i64 x.id) := hb9.cell 0
  have c1 : W9.cell? ⟨(w.heap.size + 1), 1, none⟩ = some (.string x.site) := hb9.cell 1
  have c2 : W9.cell? ⟨(w.heap.size + 1), 2, none⟩ = some (.string x.top) := hb9.cell 2
  have c3 : W9.cell? ⟨(w.heap.size + 1), 3, none⟩ = some (.int .i64 x.ver) := hb9.cell 3
  have c4 : W9.cell? ⟨(w.heap.size + 1), 4, none⟩ = some (.slice B1 x.loaded.length d1) := hb9.cell 4
  have c5 : W9.cell? ⟨(w.heap.size + 1), 5, none⟩ = some (.slice B5 x.mach.script.length d5) := hb9.cell 5
  have c6 : W9.cell? ⟨(w.heap.size + 1), 6, none⟩ = some (.int .i64 x.mach.pc) := hb9.cell 6
  have c7 : W9.cell? ⟨(w.heap.size + 1), 7, none⟩ = some (.slice B7 x.mach.regs.length d7) := hb9.cell 7
  have c8 : W9.cell? ⟨(w.heap.size + 1), 8, none⟩ = some (.int .i64 x.mach.steps) := hb9.cell 8
  have c9 : W9.cell? ⟨(w.heap.size + 1), 9, none⟩ = some (.bool x.mach.done) := hb9.cell 9
  have c10 : W9.cell? ⟨(w.heap.size + 1), 10, none⟩ = some (.bool x.mach.wait) := hb9.cell 10
  refine bodyPost_ret (v := .agg #[.int .i64 x.id, .string x.site, .string x.top, .int .i64 x.ver, .slice B1 x.loaded.length d1, .slice B5 x.mach.script.length d5, .int .i64 x.mach.pc, .slice B7 x.mach.regs.length d7, .int .i64 x.mach.steps, .bool x.mach.done, .bool x.mach.wait]) (by simp [results, Try.results70, go_sem, c0, c1, c2, c3, c4, c5, c6, c7, c8, c9, c10]) rfl ?_
  subst e9
  exact ⟨B1, d1, B5, d5, B7, d7, F2, rfl, (by repeat (first | with_reducible exact Below.refl _ _ | with_reducible assumption | with_reducible refine bel_alloc ?_ _ | with_reducible refine bel_drew ?_ | with_reducible refine bel_drewN ?_ _ | (with_reducible refine bel_set ?_ ?_ _; rotate_left; ((try simp); (try omega))))), (HPV3.out.keepB (by repeat (first | with_reducible exact Keep.refl _ _ | with_reducible assumption | with_reducible refine Keep.alloc ?_ _ | with_reducible refine Keep.drew ?_ | with_reducible refine Keep.drewN ?_ _ | (with_reducible refine Keep.set_ ?_ ?_ _; rotate_left; ((try simp); (try omega)))))).mono (by omega)⟩
set_option maxRecDepth 100000 in
set_option maxHeartbeats 8000000 in
theorem specCopyPage_any (vs : Array Value) (x : TPage) (F : List Nat) (w : World) (h : cPage.rep w vs.toList x F) (hn : cPage.sz x ≤ 1048576) :
    Calls Try.prog 71 #[.agg vs] w (GivesPg w x) := by
  obtain ⟨i0, hi0, hz0, hz1, hz2⟩ := info_parts infoLoaded
  obtain ⟨v4, v5, v7, F4, F5, F7, rfl, -, hok, m4, m5, m7⟩ := TPage.outA h
  obtain ⟨A4, c4, rfl⟩ := cL_form m4
  obtain ⟨A5, c5, rfl⟩ := cL_form m5
  obtain ⟨A7, c7, rfl⟩ := cL_form m7
  have hmr : cMach.rep w _ x.mach _ := TMach.mk_ (x := x.mach) ⟨hok.h6, hok.h8⟩ m5 m7
  obtain ⟨hll, hmz⟩ := page_parts hn
  clear h m5 m7 hn
  go_enter Try.func71, Try.ntmps71
  go_wp2_with (at_builtin; refine wpList_app (c := cLoaded) (xs := []) (ys := x.loaded) (Fi := []) (Fy := []) _ rfl _ _ _ rfl i0 _ _ Try.underlying39 hi0 hz0 hz1 hz2 rfl (by decide) (v := .slice (some _) 0 0) rfl (Own.empty _) (.slice A4 x.loaded.length c4) rfl (AppSrc.flat (hw := by decide) (hw2 := by decide) flat_Loaded (Cod.bel m4 (by repeat (first | with_reducible exact Below.refl _ _ | with_reducible assumption | with_reducible refine bel_alloc ?_ _ | with_reducible refine bel_drew ?_ | with_reducible refine bel_drewN ?_ _ | (with_reducible refine bel_set ?_ ?_ _; rotate_left; ((try simp); (try omega))))))) (by unfold maxLen; simp; omega) (by simp; omega) (Nat.le_refl _) (by simp [ownB]) ?_)
  intro v1 w1 ho hg hat
  replace ho : Own cLoaded 51 _ w1 v1 x.loaded [] := ho
  obtain ⟨B1, d1, e1⟩ := ho.slice
  subst e1
  have hb1 : Below _ _ w1 := (Below.refl _ _).grown hg (Nat.le_refl _) (by simp [ownB])
  have hP : Blk w1 w.heap.size 41 #[.int .i64 x.id, .string x.site, .string x.top, .int .i64 x.ver, .slice A4 x.loaded.length c4, .slice A5 x.mach.script.length c5, .int .i64 x.mach.pc, .slice A7 x.mach.regs.length c7, .int .i64 x.mach.steps, .bool x.mach.done, .bool x.mach.wait] := Blk.bel (Blk.bel (Blk.bel (Blk.bel (Blk.new w _ _) (bel_oneP _ _)) (bel_oneP _ _)) (bel_oneP _ _)) hb1
  have hq0 := Blk.new (w.alloc (.cells #[.int .i64 x.id, .string x.site, .string x.top, .int .i64 x.ver, .slice A4 x.loaded.length c4, .slice A5 x.mach.script.length c5, .int .i64 x.mach.pc, .slice A7 x.mach.regs.length c7, .int .i64 x.mach.steps, .bool x.mach.done, .bool x.mach.wait] 41)) 41 #[.int .i64 0, .string ⟨#[]⟩, .string ⟨#[]⟩, .int .i64 0, .slice none 0 0, .slice none 0 0, .int .i64 0, .slice none 0 0, .int .i64 0, .bool false, .bool false]
  have ho0 := Blk.new ((w.alloc (.cells #[.int .i64 x.id, .string x.site, .string x.top, .int .i64 x.ver, .slice A4 x.loaded.length c4, .slice A5 x.mach.script.length c5, .int .i64 x.mach.pc, .slice A7 x.mach.regs.length c7, .int .i64 x.mach.steps, .bool x.mach.done, .bool x.mach.wait] 41)).alloc (.cells #[.int .i64 0, .string ⟨#[]⟩, .string ⟨#[]⟩, .int .i64 0, .slice none 0 0, .slice none 0 0, .int .i64 0, .slice none 0 0, .int .i64 0, .bool false, .bool false] 41)) 41 #[.int .i64 x.id, .string x.site, .string x.top, .int .i64 x.ver, .slice A4 x.loaded.length c4, .slice A5 x.mach.script.length c5, .int .i64 x.mach.pc, .slice A7 x.mach.regs.length c7, .int .i64 x.mach.steps, .bool x.mach.done, .bool x.mach.wait]
  rw [World.size_alloc] at hq0
  rw [World.size_alloc, World.size_alloc] at ho0
  have hQ : Blk w1 (w.heap.size + 1) 41 #[.int .i64 0, .string ⟨#[]⟩, .string ⟨#[]⟩, .int .i64 0, .slice none 0 0, .slice none 0 0, .int .i64 0, .slice none 0 0, .int .i64 0, .bool false, .bool false] := Blk.bel (Blk.bel (Blk.bel hq0 (bel_oneP _ _)) (bel_oneP _ _)) hb1
  have hO : Blk w1 (w.heap.size + 1 + 1) 41 #[.int .i64 x.id, .string x.site, .string x.top, .int .i64 x.ver, .slice A4 x.loaded.length c4, .slice A5 x.mach.script.length c5, .int .i64 x.mach.pc, .slice A7 x.mach.regs.length c7, .int .i64 x.mach.steps, .bool x.mach.done, .bool x.mach.wait] := Blk.bel (Blk.bel ho0 (bel_oneP _ _)) hb1
  have hz1' := hb1.size
  (try simp at hz1')
  have hBw1 : Below w.heap.size w w1 := bel_then (by repeat (first | with_reducible exact Below.refl _ _ | with_reducible assumption | with_reducible refine bel_alloc ?_ _ | with_reducible refine bel_drew ?_ | with_reducible refine bel_drewN ?_ _ | (with_reducible refine bel_set ?_ ?_ _; rotate_left; ((try simp); (try omega))))) hb1
  have ho1 : Own cLoaded 51 (w.heap.size + 3) w1 (.slice B1 x.loaded.length d1) x.loaded [] := ho.mono (by simp)
  clear hq0 ho0 hb1 hg hat ho
  have p0 : w1.cell? ⟨w.heap.size, 0, none⟩ = some (.int .i64 x.id) := hP.cell 0
  have p1 : w1.cell? ⟨w.heap.size, 1, none⟩ = some (.string x.site) := hP.cell 1
  have p2 : w1.cell? ⟨w.heap.size, 2, none⟩ = some (.string x.top) := hP.cell 2
  have p3 : w1.cell? ⟨w.heap.size, 3, none⟩ = some (.int .i64 x.ver) := hP.cell 3
  have p4 : w1.cell? ⟨w.heap.size, 4, none⟩ = some (.slice A4 x.loaded.length c4) := hP.cell 4
  have p5 : w1.cell? ⟨w.heap.size, 5, none⟩ = some (.slice A5 x.mach.script.length c5) := hP.cell 5
  have p6 : w1.cell? ⟨w.heap.size, 6, none⟩ = some (.int .i64 x.mach.pc) := hP.cell 6
  have p7 : w1.cell? ⟨w.heap.size, 7, none⟩ = some (.slice A7 x.mach.regs.length c7) := hP.cell 7
  have p8 : w1.cell? ⟨w.heap.size, 8, none⟩ = some (.int .i64 x.mach.steps) := hP.cell 8
  have p9 : w1.cell? ⟨w.heap.size, 9, none⟩ = some (.bool x.mach.done) := hP.cell 9
  have p10 : w1.cell? ⟨w.heap.size, 10, none⟩ = some (.bool x.mach.wait) := hP.cell 10
  have o0 : w1.cell? ⟨w.heap.size + 1 + 1, 0, none⟩ = some (.int .i64 x.id) := hO.cell 0
  have o1 : w1.cell? ⟨w.heap.size + 1 + 1, 1, none⟩ = some (.string x.site) := hO.cell 1
  have o2 : w1.cell? ⟨w.heap.size + 1 + 1, 2, none⟩ = some (.string x.top) := hO.cell 2
  have o3 : w1.cell? ⟨w.heap.size + 1 + 1, 3, none⟩ = some (.int .i64 x.ver) := hO.cell 3
  have o4 : w1.cell? ⟨w.heap.size + 1 + 1, 4, none⟩ = some (.slice A4 x.loaded.length c4) := hO.cell 4
  have o5 : w1.cell? ⟨w.heap.size + 1 + 1, 5, none⟩ = some (.slice A5 x.mach.script.length c5) := hO.cell 5
  have o6 : w1.cell? ⟨w.heap.size + 1 + 1, 6, none⟩ = some (.int .i64 x.mach.pc) := hO.cell 6
  have o7 : w1.cell? ⟨w.heap.size + 1 + 1, 7, none⟩ = some (.slice A7 x.mach.regs.length c7) := hO.cell 7
  have o8 : w1.cell? ⟨w.heap.size + 1 + 1, 8, none⟩ = some (.int .i64 x.mach.steps) := hO.cell 8
  have o9 : w1.cell? ⟨w.heap.size + 1 + 1, 9, none⟩ = some (.bool x.mach.done) := hO.cell 9
  have o10 : w1.cell? ⟨w.heap.size + 1 + 1, 10, none⟩ = some (.bool x.mach.wait) := hO.cell 10
  have z4 := hO.frozen 4
  go_wp2_with fail
  refine (specCopyMachine_any _ x.mach _ _ (by exact Cod.bel hmr (by repeat (first | with_reducible exact Below.refl _ _ | with_reducible assumption | with_reducible refine bel_alloc ?_ _ | with_reducible refine bel_drew ?_ | with_reducible refine bel_drewN ?_ _ | (with_reducible refine bel_set ?_ ?_ _; rotate_left; ((try simp); (try omega)))))) hmz).mono ?_
  rintro e w2 ⟨vs2, F2, rfl, hb2, hr2, hf2⟩
  obtain ⟨B5, d5, B7, d7, rfl⟩ := mach_formA hr2
  (try simp at hf2)
  have hlo1 := ho1.lt
  have hO2 := (hO.set_ 4 (.slice B1 x.loaded.length d1)).bel hb2
  simp only [List.setIfInBounds_toArray, List.set_cons_zero, List.set_cons_succ] at hO2
  have hQ2 : Blk w2 (w.heap.size + 1) 41 #[.int .i64 0, .string ⟨#[]⟩, .string ⟨#[]⟩, .int .i64 0, .slice none 0 0, .slice none 0 0, .int .i64 0, .slice none 0 0, .int .i64 0, .bool false, .bool false] := (hb2.block (w.heap.size + 1) (by (try simp); omega)).trans ((Below.heap_setCell _ _ _ _ (by simp)).trans hQ)
  have ho2 := (ho1.set_ (p := ⟨w.heap.size + 1 + 1, 4, none⟩) (fun e => by have := (hlo1 _ e).1; simp at this; omega) (.slice B1 x.loaded.length d1)).bel hb2
  have hPV : PageV (w.heap.size + 3) w2 x B1 d1 B5 d5 B7 d7 F2 := ⟨ho2, hr2, hf2.mono (by (try simp); omega), fun g hg hm => by have := (hlo1 g hg).2; have := hf2.1 g hm; (try simp at this); omega, hok⟩
  have hz2 := hb2.size
  (try simp at hz2)
  have hBw2 : Below w.heap.size w w2 := bel_then (by repeat (first | with_reducible exact Below.refl _ _ | with_reducible assumption | with_reducible refine bel_alloc ?_ _ | with_reducible refine bel_drew ?_ | with_reducible refine bel_drewN ?_ _ | (with_reducible refine bel_set ?_ ?_ _; rotate_left; ((try simp); (try omega))))) hb2
  have HPV := Lib.hid hPV
  clear hb2 hr2 hf2 hlo1 ho2 hPV hP hO hQ ho1 p0 p1 p2 p3 p4 p5 p6 p7 p8 p9 p10
  have y5 : w2.frozen? ⟨w.heap.size + 1 + 1, 5, none⟩ = false := hO2.frozen 5
  have y6 : w2.frozen? ⟨w.heap.size + 1 + 1, 6, none⟩ = false := hO2.frozen 6
  have y7 : w2.frozen? ⟨w.heap.size + 1 + 1, 7, none⟩ = false := hO2.frozen 7
  have y8 : w2.frozen? ⟨w.heap.size + 1 + 1, 8, none⟩ = false := hO2.frozen 8
  have y9 : w2.frozen? ⟨w.heap.size + 1 + 1, 9, none⟩ = false := hO2.frozen 9
  have y10 : w2.frozen? ⟨w.heap.size + 1 + 1, 10, none⟩ = false := hO2.frozen 10
  have k0 : w2.cell? ⟨w.heap.size + 1 + 1, 0, none⟩ = some (.int .i64 x.id) := hO2.cell 0
  have k1 : w2.cell? ⟨w.heap.size + 1 + 1, 1, none⟩ = some (.string x.site) := hO2.cell 1
  have k2 : w2.cell? ⟨w.heap.size + 1 + 1, 2, none⟩ = some (.string x.top) := hO2.cell 2
  have k3 : w2.cell? ⟨w.heap.size + 1 + 1, 3, none⟩ = some (.int .i64 x.ver) := hO2.cell 3
  have k4 : w2.cell? ⟨w.heap.size + 1 + 1, 4, none⟩ = some (.slice B1 x.loaded.length d1) := hO2.cell 4
  have k5 : w2.cell? ⟨w.heap.size + 1 + 1, 5, none⟩ = some (.slice A5 x.mach.script.length c5) := hO2.cell 5
  have k6 : w2.cell? ⟨w.heap.size + 1 + 1, 6, none⟩ = some (.int .i64 x.mach.pc) := hO2.cell 6
  have k7 : w2.cell? ⟨w.heap.size + 1 + 1, 7, none⟩ = some (.slice A7 x.mach.regs.length c7) := hO2.cell 7
  have k8 : w2.cell? ⟨w.heap.size + 1 + 1, 8, none⟩ = some (.int .i64 x.mach.steps) := hO2.cell 8
  have k9 : w2.cell? ⟨w.heap.size + 1 + 1, 9, none⟩ = some (.bool x.mach.done) := hO2.cell 9
  have k10 : w2.cell? ⟨w.heap.size + 1 + 1, 10, none⟩ = some (.bool x.mach.wait) := hO2.cell 10
  have HQ2 := Lib.hid hQ2
  go_upto_region 4 with (fail)
  obtain ⟨W3, hW3⟩ : ∃ W3, ((((((w2.setCell ⟨w.heap.size + 1 + 1, 5, none⟩ (.slice B5 x.mach.script.length d5)).setCell ⟨w.heap.size + 1 + 1, 6, none⟩ (.int .i64 x.mach.pc)).setCell ⟨w.heap.size + 1 + 1, 7, none⟩ (.slice B7 x.mach.regs.length d7)).setCell ⟨w.heap.size + 1 + 1, 8, none⟩ (.int .i64 x.mach.steps)).setCell ⟨w.heap.size + 1 + 1, 9, none⟩ (.bool x.mach.done)).setCell ⟨w.heap.size + 1 + 1, 10, none⟩ (.bool x.mach.wait)) = W3 := ⟨_, rfl⟩
  rw [hW3]
  have hO3 : Blk W3 (w.heap.size + 1 + 1) 41 #[.int .i64 x.id, .string x.site, .string x.top, .int .i64 x.ver, .slice B1 x.loaded.length d1, .slice B5 x.mach.script.length d5, .int .i64 x.mach.pc, .slice B7 x.mach.regs.length d7, .int .i64 x.mach.steps, .bool x.mach.done, .bool x.mach.wait] := by rw [← hW3]; exact hO2.set6 _ _ _ _ _ _
  have hQ3 : Blk W3 (w.heap.size + 1) 41 #[.int .i64 0, .string ⟨#[]⟩, .string ⟨#[]⟩, .int .i64 0, .slice none 0 0, .slice none 0 0, .int .i64 0, .slice none 0 0, .int .i64 0, .bool false, .bool false] := by
    rw [← hW3]; unfold Blk
    repeat (rw [Below.heap_setCell _ _ _ _ (by simp)])
    exact HQ2.out
  have hBw3 : Below w.heap.size w W3 := by rw [← hW3]; exact (by repeat (first | with_reducible exact Below.refl _ _ | with_reducible assumption | with_reducible refine bel_alloc ?_ _ | with_reducible refine bel_drew ?_ | with_reducible refine bel_drewN ?_ _ | (with_reducible refine bel_set ?_ ?_ _; rotate_left; ((try simp); (try omega)))))
  have hz3 : w.heap.size + 1 < W3.heap.size := by rw [← hW3]; simp; omega
  have HPV3 := Lib.hid (HPV.out.keepB (show Keep (w.heap.size + 3) w2 W3 from by rw [← hW3]; exact (by repeat (first | with_reducible exact Keep.refl _ _ | with_reducible assumption | with_reducible refine Keep.alloc ?_ _ | with_reducible refine Keep.drew ?_ | with_reducible refine Keep.drewN ?_ _ | (with_reducible refine Keep.set_ ?_ ?_ _; rotate_left; ((try simp); (try omega)))))))
  clear hW3 hO2 hQ2 HQ2 HPV hBw2
  have p0 : W3.cell? ⟨w.heap.size + 1 + 1, 0, none⟩ = some (.int .i64 x.id) := hO3.cell 0
  have p1 : W3.cell? ⟨w.heap.size + 1 + 1, 1, none⟩ = some (.string x.site) := hO3.cell 1
  have p2 : W3.cell? ⟨w.heap.size + 1 + 1, 2, none⟩ = some (.string x.top) := hO3.cell 2
  have p3 : W3.cell? ⟨w.heap.size + 1 + 1, 3, none⟩ = some (.int .i64 x.ver) := hO3.cell 3
  have p4 : W3.cell? ⟨w.heap.size + 1 + 1, 4, none⟩ = some (.slice B1 x.loaded.length d1) := hO3.cell 4
  have p5 : W3.cell? ⟨w.heap.size + 1 + 1, 5, none⟩ = some (.slice B5 x.mach.script.length d5) := hO3.cell 5
  have p6 : W3.cell? ⟨w.heap.size + 1 + 1, 6, none⟩ = some (.int .i64 x.mach.pc) := hO3.cell 6
  have p7 : W3.cell? ⟨w.heap.size + 1 + 1, 7, none⟩ = some (.slice B7 x.mach.regs.length d7) := hO3.cell 7
  have p8 : W3.cell? ⟨w.heap.size + 1 + 1, 8, none⟩ = some (.int .i64 x.mach.steps) := hO3.cell 8
  have p9 : W3.cell? ⟨w.heap.size + 1 + 1, 9, none⟩ = some (.bool x.mach.done) := hO3.cell 9
  have p10 : W3.cell? ⟨w.heap.size + 1 + 1, 10, none⟩ = some (.bool x.mach.wait) := hO3.cell 10
  have q0 : W3.cell? ⟨(w.heap.size + 1), 0, none⟩ = some (.int .i64 0) := hQ3.cell 0
  have f0 : W3.frozen? ⟨(w.heap.size + 1), 0, none⟩ = false := hQ3.frozen 0
  have q1 : W3.cell? ⟨(w.heap.size + 1), 1, none⟩ = some (.string ⟨#[]⟩) := hQ3.cell 1
  have f1 : W3.frozen? ⟨(w.heap.size + 1), 1, none⟩ = false := hQ3.frozen 1
  have q2 : W3.cell? ⟨(w.heap.size + 1), 2, none⟩ = some (.string ⟨#[]⟩) := hQ3.cell 2
  have f2 : W3.frozen? ⟨(w.heap.size + 1), 2, none⟩ = false := hQ3.frozen 2
  have q3 : W3.cell? ⟨(w.heap.size + 1), 3, none⟩ = some (.int .i64 0) := hQ3.cell 3
  have f3 : W3.frozen? ⟨(w.heap.size + 1), 3, none⟩ = false := hQ3.frozen 3
  have q4 : W3.cell? ⟨(w.heap.size + 1), 4, none⟩ = some (.slice none 0 0) := hQ3.cell 4
  have f4 : W3.frozen? ⟨(w.heap.size + 1), 4, none⟩ = false := hQ3.frozen 4
  have q5 : W3.cell? ⟨(w.heap.size + 1), 5, none⟩ = some (.slice none 0 0) := hQ3.cell 5
  have f5 : W3.frozen? ⟨(w.heap.size + 1), 5, none⟩ = false := hQ3.frozen 5
  have q6 : W3.cell? ⟨(w.heap.size + 1), 6, none⟩ = some (.int .i64 0) := hQ3.cell 6
  have f6 : W3.frozen? ⟨(w.heap.size + 1), 6, none⟩ = false := hQ3.frozen 6
  have q7 : W3.cell? ⟨(w.heap.size + 1), 7, none⟩ = some (.slice none 0 0) := hQ3.cell 7
  have f7 : W3.frozen? ⟨(w.heap.size + 1), 7, none⟩ = false := hQ3.frozen 7
  have q8 : W3.cell? ⟨(w.heap.size + 1), 8, none⟩ = some (.int .i64 0) := hQ3.cell 8
  have f8 : W3.frozen? ⟨(w.heap.size + 1), 8, none⟩ = false := hQ3.frozen 8
  have q9 : W3.cell? ⟨(w.heap.size + 1), 9, none⟩ = some (.bool false) := hQ3.cell 9
  have f9 : W3.frozen? ⟨(w.heap.size + 1), 9, none⟩ = false := hQ3.frozen 9
  have q10 : W3.cell? ⟨(w.heap.size + 1), 10, none⟩ = some (.bool false) := hQ3.cell 10
  have f10 : W3.frozen? ⟨(w.heap.size + 1), 10, none⟩ = false := hQ3.frozen 10
  go_wp2_with fail
  refine sets_ret11 hQ3 rfl (fun W9 e9 hb9 => ?_)
  have c0 : W9.cell? ⟨(w.heap.size + 1), 0, none⟩ = some (.int .i64 x.id) := hb9.cell 0
  have c1 : W9.cell? ⟨(w.heap.size + 1), 1, none⟩ = some (.string x.site) := hb9.cell 1
  have c2 : W9.cell? ⟨(w.heap.size + 1), 2, none⟩ = some (.string x.top) := hb9.cell 2
  have c3 : W9.cell? ⟨(w.heap.size + 1), 3, none⟩ = some (.int .i64 x.ver) := hb9.cell 3
  have c4 : W9.cell? ⟨(w.heap.size + 1), 4, none⟩ = some (.slice B1 x.loaded.length d1) := hb9.cell 4
  have c5 : W9.cell? ⟨(w.heap.size + 1), 5, none⟩ = some (.slice B5 x.mach.script.length d5) := hb9.cell 5
  have c6 : W9.cell? ⟨(w.heap.size + 1), 6, none⟩ = some (.int .i64 x.mach.pc) := hb9.cell 6
  have c7 : W9.cell? ⟨(w.heap.size + 1), 7, none⟩ = some (.slice B7 x.mach.regs.length d7) := hb9.cell 7
  have c8 : W9.cell? ⟨(w.heap.size + 1), 8, none⟩ = some (.int .i64 x.mach.steps) := hb9.cell 8
  have c9 : W9.cell? ⟨(w.heap.size + 1), 9, none⟩ = some (.bool x.mach.done) := hb9.cell 9
  have c10 : W9.cell? ⟨(w.heap.size + 1), 10, none⟩ = some (.bool x.mach.wait) := hb9.cell 10
  refine bodyPost_ret (v := .agg #[.int .i64 x.id, .string x.site, .string x.top, .int .i64 x.ver, .slice B1 x.loaded.length d1, .slice B5 x.mach.script.length d5, .int .i64 x.mach.pc, .slice B7 x.mach.regs.length d7, .int .i64 x.mach.steps, .bool x.mach.done, .bool x.mach.wait]) (by simp [results, Try.results71, go_sem, c0, c1, c2, c3, c4, c5, c6, c7, c8, c9, c10]) rfl ?_
  subst e9
  exact ⟨B1, d1, B5, d5, B7, d7, F2, rfl, (by repeat (first | with_reducible exact Below.refl _ _ | with_reducible assumption | with_reducible refine bel_alloc ?_ _ | with_reducible refine bel_drew ?_ | with_reducible refine bel_drewN ?_ _ | (with_reducible refine bel_set ?_ ?_ _; rotate_left; ((try simp); (try omega))))), (HPV3.out.keepB (by repeat (first | with_reducible exact Keep.refl _ _ | with_reducible assumption | with_reducible refine Keep.alloc ?_ _ | with_reducible refine Keep.drew ?_ | with_reducible refine Keep.drewN ?_ _ | (with_reducible refine Keep.set_ ?_ ?_ _; rotate_left; ((try simp); (try omega)))))).mono (by omega)⟩
end Go.Proofs.Ytlicnppfgfjkgaa
namespace Go.Proofs.Ytlicnppfgfjkgaa
open Go.ChangeShapes Go.WideShapes Go.RowKit

def insMost (kind lines : Int) : Int := if kind = 1 then 1000 else if kind = 2 then 3 else if kind = 3 ∨ kind = 4 then lines else if kind = 6 ∨ kind = 7 ∨ kind = 8 then 100 else 0
def insNamed (kind : Int) : Bool := kind == 5 || kind == 6 || kind == 7 || kind == 8
def isEmpty (s : ByteArray) : Bool := s.toList.isEmpty
def isInstr (x : TIns) (lines : Int) : Bool :=
  inR x.kind 1 9 && inR x.r 0 3 && !((x.kind == 4 || x.kind == 9) && x.r != 0) && (bif insNamed x.kind then isName x.text else isEmpty x.text) && inR x.n 0 (insMost x.kind lines)

theorem ins_zero (n : Int) : (n == 0) = inR n 0 0 := by
  rw [Bool.eq_iff_iff]; simp [inR]; omega
set_option maxHeartbeats 4000000 in
theorem implInstr_any (x : TIns) (lines : Int) (w : World) (hx : x.text.size ≤ maxLen) : Calls Try.prog 64 #[x.val, .int .i64 lines] w (Gives w (.bool (isInstr x lines))) := by
  unfold TIns.val
  obtain ⟨kind, r, n, t⟩ := x
  by_cases hk : inR kind 1 9 = true
  · have hkr := inR_true hk
    have hc : kind = 1 ∨ kind = 2 ∨ kind = 3 ∨ kind = 4 ∨ kind = 5 ∨ kind = 6 ∨ kind = 7 ∨ kind = 8 ∨ kind = 9 := by omega
    clear hkr hk
    rcases hc with rfl | rfl | rfl | rfl | rfl | rfl | rfl | rfl | rfl
    all_goals
      go_enter Try.func64, Try.ntmps64
      go_wp2_with (first
        | (go_at_call 66; refine (inRange_any _ _ _ _).mono ?_; rintro e w1 ⟨rfl, rfl⟩)
        | (go_at_call 74; refine (implName_any _ _ hx).mono ?_; rintro e w1 ⟨rfl, rfl⟩))
    all_goals go_ret
    all_goals refine ⟨ret_bool ?_, (by repeat (first | with_reducible exact Below.refl _ _ | with_reducible assumption | with_reducible refine bel_alloc ?_ _ | with_reducible refine bel_drew ?_ | with_reducible refine bel_drewN ?_ _ | (with_reducible refine bel_set ?_ ?_ _; rotate_left; ((try simp); (try omega)))))⟩
    all_goals try simp only [Bool.not_eq_true', Bool.not_eq_false'] at *
    all_goals first
      | (simp [isInstr, insMost, insNamed, isEmpty, -List.isEmpty_iff, *]; done)
      | (rw [ins_zero]; simp [isInstr, insMost, insNamed, isEmpty, -List.isEmpty_iff, *]; done)
      | skip
  · go_enter Try.func64, Try.ntmps64
    go_wp2_with (first
      | (go_at_call 66; refine (inRange_any _ _ _ _).mono ?_; rintro e w1 ⟨rfl, rfl⟩)
      | (go_at_call 74; refine (implName_any _ _ hx).mono ?_; rintro e w1 ⟨rfl, rfl⟩))
    go_ret
    exact ⟨ret_bool (by simp [isInstr, hk]), (by repeat (first | with_reducible exact Below.refl _ _ | with_reducible assumption | with_reducible refine bel_alloc ?_ _ | with_reducible refine bel_drew ?_ | with_reducible refine bel_drewN ?_ _ | (with_reducible refine bel_set ?_ ?_ _; rotate_left; ((try simp); (try omega)))))⟩
set_option maxHeartbeats 4000000 in
theorem specInstr_any (x : TIns) (lines : Int) (w : World) (hx : x.text.size ≤ maxLen) : Calls Try.prog 180 #[x.val, .int .i64 lines] w (Gives w (.bool (isInstr x lines))) := by
  unfold TIns.val
  obtain ⟨kind, r, n, t⟩ := x
  by_cases hk : inR kind 1 9 = true
  · have hkr := inR_true hk
    have hc : kind = 1 ∨ kind = 2 ∨ kind = 3 ∨ kind = 4 ∨ kind = 5 ∨ kind = 6 ∨ kind = 7 ∨ kind = 8 ∨ kind = 9 := by omega
    clear hkr hk
    rcases hc with rfl | rfl | rfl | rfl | rfl | rfl | rfl | rfl | rfl
    all_goals
      go_enter Try.func180, Try.ntmps180
      go_wp2_with (first
        | (go_at_call 83; refine (l1In_any _ _ _ _).mono ?_; rintro e w1 ⟨rfl, rfl⟩)
        | (go_at_call 126; refine (specName_any _ _ hx).mono ?_; rintro e w1 ⟨rfl, rfl⟩))
    all_goals go_ret
    all_goals refine ⟨ret_bool ?_, (by repeat (first | with_reducible exact Below.refl _ _ | with_reducible assumption | with_reducible refine bel_alloc ?_ _ | with_reducible refine bel_drew ?_ | with_reducible refine bel_drewN ?_ _ | (with_reducible refine bel_set ?_ ?_ _; rotate_left; ((try simp); (try omega)))))⟩
    all_goals try simp only [Bool.not_eq_true', Bool.not_eq_false'] at *
    all_goals first
      | (simp [isInstr, insMost, insNamed, isEmpty, -List.isEmpty_iff, *]; done)
      | (simp [isInstr, insMost, insNamed, isEmpty, -List.isEmpty_iff, inR]; done)
      | skip
  · have hk' : inR kind 1 9 = false := by simpa using hk
    have hkr := inR_false hk'
    have b1 : (kind == 1) = false := by simp; omega
    have b2 : (kind == 2) = false := by simp; omega
    have b3 : (kind == 3) = false := by simp; omega
    have b4 : (kind == 4) = false := by simp; omega
    have b5 : (kind == 5) = false := by simp; omega
    have b6 : (kind == 6) = false := by simp; omega
    have b7 : (kind == 7) = false := by simp; omega
    have b8 : (kind == 8) = false := by simp; omega
    have b9 : (kind == 9) = false := by simp; omega
    clear hkr hk
    go_enter Try.func180, Try.ntmps180
    go_wp2_with (first
      | (go_at_call 83; refine (l1In_any _ _ _ _).mono ?_; rintro e w1 ⟨rfl, rfl⟩)
      | (go_at_call 126; refine (specName_any _ _ hx).mono ?_; rintro e w1 ⟨rfl, rfl⟩))
    all_goals go_ret
    all_goals exact ⟨ret_bool (by simp [isInstr, hk']), (by repeat (first | with_reducible exact Below.refl _ _ | with_reducible assumption | with_reducible refine bel_alloc ?_ _ | with_reducible refine bel_drew ?_ | with_reducible refine bel_drewN ?_ _ | (with_reducible refine bel_set ?_ ?_ _; rotate_left; ((try simp); (try omega)))))⟩
theorem implIsInstr_any (vs : Array Value) (x : TIns) (F : List Nat) (lines : Int) (w : World) (h : cIns.rep w vs.toList x F) (_hn : cIns.sz x ≤ 1048576) (_hl : -9223372036854775808 ≤ lines ∧ lines ≤ 9223372036854775807) :
    Calls Try.prog 64 #[.agg vs, .int .i64 lines] w (Gives w (.bool (isInstr x lines))) := by
  rw [TIns.val_of h]
  exact implInstr_any x lines w (TIns.out h).2.2.h3
theorem specIsInstr_any (vs : Array Value) (x : TIns) (F : List Nat) (lines : Int) (w : World) (h : cIns.rep w vs.toList x F) (_hn : cIns.sz x ≤ 1048576) (_hl : -9223372036854775808 ≤ lines ∧ lines ≤ 9223372036854775807) :
    Calls Try.prog 180 #[.agg vs, .int .i64 lines] w (Gives w (.bool (isInstr x lines))) := by
  rw [TIns.val_of h]
  exact specInstr_any x lines w (TIns.out h).2.2.h3
end Go.Proofs.Ytlicnppfgfjkgaa
