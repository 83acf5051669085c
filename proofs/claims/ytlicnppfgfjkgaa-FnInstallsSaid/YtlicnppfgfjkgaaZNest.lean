/-
  An entry of a cache of a set whose rows are the call's own, written in place or appended. No conditions.
-/
import Derived.Test.YtlicnppfgfjkgaaZStorePlain
namespace Go.Proofs.Ytlicnppfgfjkgaa
open Go.ChangeShapes Go.WideShapes Go.RowKit
set_option linter.unusedVariables false

/-- What is known of one cache (its number k) of an own set of caches. -/
structure NestAt (B : Nat) (w1 : World) (n d1 : Nat) (cs : List TCache) (G1 : List Nat) (k : Nat) (hk : k < cs.length) (g : Nat) (cur : Array Value) (E5 : Option Addr) (e5 : Nat) (FiE : List Nat) : Prop where
  glt : g < w1.heap.size
  gB : B ≤ g
  gG : g ∈ G1
  blk : Blk w1 g 125 cur
  csz : k * 2 + 2 ≤ cur.size
  own : Own cCached 129 B w1 (.slice E5 cs[k].entries.length e5) cs[k].entries FiE
  fresh : Fresh B FiE
  ok : cs[k].Ok
  ne : ∀ g', ownB (.slice E5 cs[k].entries.length e5) = some g' → g' ∉ FiE ∧ g' ≠ g ∧ g' ∈ G1
  inG : ∀ b, b ∈ FiE → b ∈ G1 ∧ b ≠ g
  lt : ∀ b, b ∈ G1 → b < w1.heap.size
  c0 : cur[k * 2]? = some (.int .i64 cs[k].ver)
  c1 : cur[k * 2 + 1]? = some (.slice E5 cs[k].entries.length e5)
  upd : ∀ (L : Nat) (hL : w1.heap.size ≤ L) (w' : World) (cur' : Array Value) (vE' : Value) (es' : List TCached) (F' : List Nat), Blk w' g 125 cur' → cur'.size = cur.size → (∀ o, o < k * 2 ∨ k * 2 + 2 ≤ o → cur'[o]? = cur[o]?) →
    cur'[k * 2]? = some (.int .i64 cs[k].ver) → cur'[k * 2 + 1]? = some vE' → cCachedO.rep w' [vE'] es' F' →
    (∀ b, b ∈ G1 → b ≠ g → b ∉ ownL (.slice E5 cs[k].entries.length e5) ++ FiE → w'.heap[b]? = w1.heap[b]?) → F'.Nodup → (∀ b, b ∈ F' → b ∈ ownL (.slice E5 cs[k].entries.length e5) ++ FiE ∨ L ≤ b) →
    ∃ G', cCachesO.rep w' [.slice (some ⟨g, 0, none⟩) n d1] (cs.set k ⟨cs[k].ver, es'⟩) G' ∧ Fresh B G' ∧ ∀ b, b ∈ G' → b ∈ G1 ∨ L ≤ b

theorem nest_upd {B : Nat} {w1 : World} {A : Option Addr} {n d1 : Nat} {cs : List TCache} {G1 : List Nat} (h : cCachesO.rep w1 [.slice A n d1] cs G1) (hf : Fresh B G1) {k : Nat} (hk : k < cs.length) :
    ∃ g cur E5 e5 FiE, A = some ⟨g, 0, none⟩ ∧ NestAt B w1 n d1 cs G1 k hk g cur E5 e5 FiE := by
  have hlt := Cod.lt _ h
  obtain ⟨Fi, hGF, hown, hFi, hne, hBg⟩ := cO_own h hf
  obtain ⟨g, cur, vs, P1, Pm, P2, rfl, hd1, hnd1, hcm, hgo, hgB, hblk, rfl, hrepk, hcsz, hcur, hupd⟩ := hown.upd (by decide) hk
  obtain ⟨E5, e5, rfl, hok, n5⟩ := TCache.outO hrepk
  have hgL : ownL (.slice (some ⟨g, 0, none⟩) n d1) = [g] := by unfold ownL; rw [hgo]
  rw [hgL] at hGF
  have hgG : g ∈ G1 := by rw [hGF]; simp
  have hgn : g ∉ P1 ++ (Pm ++ P2) := hne g hgo
  have hfm : Fresh B Pm := ⟨fun b hb => hFi.1 b (by simp [hb]), (List.nodup_append.1 (List.nodup_append.1 hFi.2).2.1).1⟩
  obtain ⟨FiE, hPm, hownE, hFiE, hneE, hBE⟩ := cO_own n5 hfm
  have hmG : ∀ b, b ∈ Pm → b ∈ G1 ∧ b ≠ g := fun b hb => ⟨by rw [hGF]; simp [hb], fun e => hgn (by rw [← e]; simp [hb])⟩
  refine ⟨g, cur, E5, e5, FiE, rfl, ⟨hlt g hgG, hgB, hgG, hblk, hcsz, hownE, hFiE, hok, fun g' hg' => ⟨hneE g' hg', (hmG g' (by rw [hPm]; simp [mem_ownL, hg'])).2, (hmG g' (by rw [hPm]; simp [mem_ownL, hg'])).1⟩, fun b hb => hmG b (by rw [hPm]; simp [hb]), hlt, hcur 0 (by decide), hcur 1 (by decide), ?_⟩⟩
  intro L hL w' cur' vE' es' F' hb' hs' hout h0 h1 hrep hkeep hnd hF'
  rw [← hPm] at hF' hkeep
  have hndF := List.nodup_append.1 hFi.2
  have hndM := List.nodup_append.1 hndF.2.1
  have hP1 : ∀ b, b ∈ P1 → b ∈ G1 ∧ b ≠ g ∧ b ∉ Pm := fun b hb => ⟨by rw [hGF]; simp [hb], fun e => hgn (by rw [← e]; simp [hb]), fun hm => hndF.2.2 b hb b (by simp [hm]) rfl⟩
  have hP2 : ∀ b, b ∈ P2 → b ∈ G1 ∧ b ≠ g ∧ b ∉ Pm := fun b hb => ⟨by rw [hGF]; simp [hb], fun e => hgn (by rw [← e]; simp [hb]), fun hm => hndM.2.2 b hm b hb rfl⟩
  have hlen : (cs.set k ⟨cs[k].ver, es'⟩).length = cs.length := List.length_set
  have hin : ∀ j, j < cCacheO.wd → cur'[k * cCacheO.wd + j]? = ([Value.int .i64 cs[k].ver, vE'] : List Value)[j]? := fun j hj => by
    match j, hj with
    | 0, _ => exact h0
    | 1, _ => exact h1
  have hO := hupd w' cur' _ (⟨cs[k].ver, es'⟩ : TCache) F' hb' hs' hout hin (TCache.mkO (x := ⟨cs[k].ver, es'⟩) ⟨hok.h0⟩ hrep) (fun b hb => by
    rcases hb with hb | hb
    · exact hkeep b (hP1 b hb).1 (hP1 b hb).2.1 (hP1 b hb).2.2
    · exact hkeep b (hP2 b hb).1 (hP2 b hb).2.1 (hP2 b hb).2.2)
  have hF1 : ∀ b, b ∈ F' → b ∉ P1 ∧ b ∉ P2 ∧ B ≤ b ∧ b ≠ g := fun b hb => by
    rcases hF' b hb with h9 | h9
    · exact ⟨fun hm => (hP1 b hm).2.2 h9, fun hm => (hP2 b hm).2.2 h9, hfm.1 b h9, (hmG b h9).2⟩
    · have hw : ∀ c, c ∈ G1 → c ≠ b := fun c hc e => by have := hlt c hc; omega
      exact ⟨fun hm => hw b (hP1 b hm).1 rfl, fun hm => hw b (hP2 b hm).1 rfl, by have := hlt g hgG; omega, fun e => hw g hgG e.symm⟩
  obtain ⟨hr2, hf2⟩ := hO.toO (hw2 := by decide) ⟨fun b hb => by
    rcases List.mem_append.1 hb with hb | hb
    · exact hFi.1 b (by simp [hb])
    · rcases List.mem_append.1 hb with hb | hb
      · exact (hF1 b hb).2.2.1
      · exact hFi.1 b (by simp [hb]), List.nodup_append.2 ⟨hndF.1, List.nodup_append.2 ⟨hnd, hndM.2.1, fun a ha b hb e => (hF1 a ha).2.1 (e ▸ hb)⟩, fun a ha b hb e => by
        subst e
        rcases List.mem_append.1 hb with hb | hb
        · exact (hF1 a hb).1 ha
        · exact hndF.2.2 a ha a (by simp [hb]) rfl⟩⟩ (fun g' hg' hm => by
    have e9 : g' = g := Option.some.inj (hg'.symm.trans hgo)
    rw [e9] at hm
    rcases List.mem_append.1 hm with hm | hm
    · exact hgn (by simp [hm])
    · rcases List.mem_append.1 hm with hm | hm
      · exact (hF1 g hm).2.2.2 rfl
      · exact hgn (by simp [hm]))
  refine ⟨_, hr2, hf2, fun b hb => ?_⟩
  rw [hgL] at hb
  rcases List.mem_append.1 hb with hb | hb
  · rw [List.mem_singleton.1 hb]; exact .inl hgG
  · rcases List.mem_append.1 hb with hb | hb
    · exact .inl (hP1 b hb).1
    · rcases List.mem_append.1 hb with hb | hb
      · rcases hF' b hb with h9 | h9
        · exact .inl (hmG b h9).1
        · exact .inr h9
      · exact .inl (hP2 b hb).1

section
variable {B : Nat} {w1 w4 : World} {n d1 : Nat} {cs : List TCache} {G1 : List Nat} {k : Nat} {hk : k < cs.length} {g : Nat} {cur : Array Value} {E5 : Option Addr} {e5 : Nat} {FiE : List Nat}
/-- the entry i: where it lies, and what a store into it leaves -/
theorem nest_put (H : NestAt B w1 n d1 cs G1 k hk g cur E5 e5 FiE) {i : Nat} (hi : i < cs[k].entries.length) :
    ∃ gE v5, E5 = some ⟨gE, 0, none⟩ ∧ gE < w1.heap.size ∧ B ≤ gE ∧ gE ∈ G1 ∧ gE ≠ g ∧ (∀ j, w1.frozen? ⟨gE, j, none⟩ = false) ∧ cs[k].entries[i].Ok ∧
      (∀ j u, ([Value.string cs[k].entries[i].site, .string cs[k].entries[i].path, .int .i64 cs[k].entries[i].resp.type, .int .i64 cs[k].entries[i].resp.status, .int .i64 cs[k].entries[i].resp.ver, v5, .bool cs[k].entries[i].resp.shares] : List Value)[j]? = some u → w1.cell? ⟨gE, i * 7 + j, none⟩ = some u) ∧
      ∀ (L : Nat) (hL : w1.heap.size ≤ L) (w4 : World) (d : Nat) (us vs' : List Value) (y : TCached) (G3 : List Nat), Below w1.heap.size w1 w4 → d + us.length ≤ 7 →
        ([Value.string cs[k].entries[i].site, .string cs[k].entries[i].path, .int .i64 cs[k].entries[i].resp.type, .int .i64 cs[k].entries[i].resp.status, .int .i64 cs[k].entries[i].resp.ver, v5, .bool cs[k].entries[i].resp.shares] : List Value).take d ++ (us ++ ([Value.string cs[k].entries[i].site, .string cs[k].entries[i].path, .int .i64 cs[k].entries[i].resp.type, .int .i64 cs[k].entries[i].resp.status, .int .i64 cs[k].entries[i].resp.ver, v5, .bool cs[k].entries[i].resp.shares] : List Value).drop (d + us.length)) = vs' →
        cCached.rep (putCells w4 gE (i * 7 + d) us) vs' y G3 → Fresh L G3 →
        ∃ G', cCachesO.rep (putCells w4 gE (i * 7 + d) us) [.slice (some ⟨g, 0, none⟩) n d1] (cs.set k ⟨cs[k].ver, cs[k].entries.set i y⟩) G' ∧ Fresh B G' ∧ (∀ b, b ∈ G' → b ∈ G1 ∨ L ≤ b) := by
  obtain ⟨gE, curE, vsE, Q1, Qm, Q2, rfl, he0, hne5, hcme, hgEo, hBgE, hblkE, rfl, hrepi, hcszE, hcurE, hupdE⟩ := H.own.upd (by decide) hi
  have hgE := H.ne gE hgEo
  obtain ⟨v5, F5, rfl, -, hok7, m7⟩ := TCached.out hrepi
  refine ⟨gE, v5, rfl, hblkE.lt, hBgE, hgE.2.2, hgE.2.1, hblkE.frozen, hok7, fun j u hu => ?_, ?_⟩
  · have hj : j < 7 := (List.getElem?_eq_some_iff.1 hu).1
    exact (hblkE.cell _).trans ((hcurE j hj).trans hu)
  · intro L hL w4 d us vs' y G3 hb hd hvs hrep hG3L
    have hG3 := hG3L.mono hL
    subst hvs
    have hblk4 : Blk w4 gE 129 curE := hblkE.bel hb
    obtain ⟨s1, s2, s3⟩ := upd_put (cur := curE) (us := us) (i := i) (wd := 7) (d := d) hcszE hcurE rfl hd
    have hkp : ∀ b, b < w1.heap.size → b ≠ gE → (putCells w4 gE (i * 7 + d) us).heap[b]? = w1.heap[b]? := fun b hlt hne => (putCells_blk _ _ b hne).trans (hb.block b hlt)
    have hltE : ∀ b, b ∈ Q1 ++ (Qm ++ Q2) → b < w1.heap.size := fun b hb => H.lt b (H.inG b hb).1
    have hneE : ∀ b, b ∈ Q1 ++ (Qm ++ Q2) → b ≠ gE := fun b hb e => hgE.1 (e ▸ hb)
    have hO := hupdE _ _ _ y G3 (hblk4.put (i * 7 + d) us) s1 s2 s3 hrep (fun b hb => by
      rcases hb with hb | hb
      · exact hkp b (hltE b (by simp [hb])) (hneE b (by simp [hb]))
      · exact hkp b (hltE b (by simp [hb])) (hneE b (by simp [hb])))
    have hG3B : ∀ b, b ∈ G3 → B ≤ b := fun b hb => by have := hG3.1 b hb; have := hblkE.lt; omega
    obtain ⟨hr2, hf2⟩ := hO.toO (hw2 := by decide) ⟨fun b hb => by
      rcases List.mem_append.1 hb with hb | hb
      · exact H.fresh.1 b (by simp [hb])
      · rcases List.mem_append.1 hb with hb | hb
        · exact hG3B b hb
        · exact H.fresh.1 b (by simp [hb]), nodup_swap H.fresh.2 hltE hG3.2 hG3.1⟩ (fun g' hg' hm => by
      have e9 : g' = gE := Option.some.inj ((show ownB (.slice (some ⟨gE, 0, none⟩) _ e5) = some g' from hg').symm.trans hgEo)
      rw [e9] at hm
      rcases List.mem_append.1 hm with hm | hm
      · exact hgE.1 (by simp [hm])
      · rcases List.mem_append.1 hm with hm | hm
        · have := hG3.1 gE hm; have := hblkE.lt; omega
        · exact hgE.1 (by simp [hm]))
    refine H.upd L hL _ cur _ _ _ (by
      have h9 : (putCells w4 gE (i * 7 + d) us).heap[g]? = w1.heap[g]? := hkp g H.glt (Ne.symm hgE.2.1)
      exact h9.trans H.blk) rfl (fun _ _ => rfl) H.c0 H.c1 hr2 (fun b hbG hbg hbn => hkp b (H.lt b hbG) (fun e => hbn (by simp [mem_ownL, e, hgEo]))) hf2.2 (fun b hb => ?_)
    rcases List.mem_append.1 hb with hb | hb
    · exact .inl (by simp [hb])
    · rcases List.mem_append.1 hb with hb | hb
      · exact .inl (by simp [hb])
      · rcases List.mem_append.1 hb with hb | hb
        · exact .inr (hG3L.1 b hb)
        · exact .inl (by simp [hb])
/-- one entry more: the append (world w5), then the store of its row into the cache -/
theorem nest_app (H : NestAt B w1 n d1 cs G1 k hk g cur E5 e5 FiE) {w5 : World} {v2 : Value} {y : TCached} {G3 : List Nat} (L : Nat) (hL : w1.heap.size ≤ L) (hL4 : L ≤ w4.heap.size) (hb : Below w1.heap.size w1 w4) (hG3L : Fresh L G3) (hG3l : ∀ b, b ∈ G3 → b < w4.heap.size)
    (ho : Own cCached 129 B w5 v2 (cs[k].entries ++ [y]) (FiE ++ G3)) (hg2 : w4.grownBy w5 (ownB (.slice E5 cs[k].entries.length e5))) (hat : ∀ g', ownB v2 = some g' → ownB (.slice E5 cs[k].entries.length e5) = some g' ∨ w4.heap.size ≤ g') :
    ∃ G', cCachesO.rep (w5.setCell ⟨g, k * 2 + 1, none⟩ v2) [.slice (some ⟨g, 0, none⟩) n d1] (cs.set k ⟨cs[k].ver, cs[k].entries ++ [y]⟩) G' ∧ Fresh B G' ∧ (∀ b, b ∈ G' → b ∈ G1 ∨ L ≤ b) := by
  have hG3 := hG3L.mono hL
  have hs4 := hb.size
  have hglt := H.glt
  have hrow : ∀ b, b < w1.heap.size → ownB (.slice E5 cs[k].entries.length e5) ≠ some b → w5.heap[b]? = w1.heap[b]? := fun b hlt hne => (hg2.block b (Nat.lt_of_lt_of_le hlt hs4) (fun e => hne e.symm)).trans (hb.block b hlt)
  have hgr : ownB (.slice E5 cs[k].entries.length e5) ≠ some g := fun e => (H.ne g e).2.1 rfl
  have hblk5 : Blk w5 g 125 cur := (hrow g hglt hgr).trans H.blk
  have hv2 : ∀ g', ownB v2 = some g' → g' ≠ g := fun g' hg' e => by
    rcases hat g' hg' with h9 | h9
    · exact hgr (e ▸ h9)
    · omega
  have hFi : ∀ b, b ∈ FiE ++ G3 → b ≠ g := fun b hb e => by
    rcases List.mem_append.1 hb with hb | hb
    · exact (H.inG b hb).2 e
    · have := hG3.1 b hb; omega
  have hO : Own cCached 129 B (w5.setCell ⟨g, k * 2 + 1, none⟩ v2) v2 (cs[k].entries ++ [y]) (FiE ++ G3) :=
    ho.keep (fun g' hg' => Below.heap_setCell _ _ _ _ (hv2 g' hg')) (fun b hb => Below.heap_setCell _ _ _ _ (hFi b hb))
  have hfr : Fresh B (FiE ++ G3) := ⟨fun b hb => by
    rcases List.mem_append.1 hb with hb | hb
    · exact H.fresh.1 b hb
    · have := hG3.1 b hb; have := H.gB; omega, List.nodup_append.2 ⟨H.fresh.2, hG3.2, fun a ha b hb e => by have h1 := H.lt a (H.inG a ha).1; have h2 := hG3.1 b hb; omega⟩⟩
  obtain ⟨hr2, hf2⟩ := hO.toO (hw2 := by decide) hfr (fun g' hg' hm => by
    rcases hat g' hg' with h9 | h9
    · rcases List.mem_append.1 hm with hm | hm
      · exact (H.ne g' h9).1 hm
      · have h1 := H.lt g' (H.ne g' h9).2.2; have h2 := hG3.1 g' hm; omega
    · rcases List.mem_append.1 hm with hm | hm
      · have h1 := H.lt g' (H.inG g' hm).1; omega
      · have h1 := hG3l g' hm; omega)
  have hc1 := H.csz
  refine H.upd L hL _ (cur.setIfInBounds (k * 2 + 1) v2) v2 _ _ (hblk5.set_ _ _) (by simp) (fun o ho => Array.getElem?_setIfInBounds_ne (by omega)) (by rw [Array.getElem?_setIfInBounds_ne (by omega)]; exact H.c0) (by rw [Array.getElem?_setIfInBounds, if_pos rfl, if_pos (by omega)]) hr2 (fun b hbG hbg hbn => ?_) hf2.2 (fun b hb => ?_)
  · refine (Below.heap_setCell _ _ _ _ hbg).trans (hrow b (H.lt b hbG) (fun e => hbn (by simp [mem_ownL, e])))
  · rcases List.mem_append.1 hb with hb | hb
    · rcases hat b (mem_ownL.1 hb) with h9 | h9
      · exact .inl (by simp [mem_ownL, h9])
      · exact .inr (by omega)
    · rcases List.mem_append.1 hb with hb | hb
      · exact .inl (by simp [hb])
      · exact .inr (hG3L.1 b hb)
end
end Go.Proofs.Ytlicnppfgfjkgaa
