/-
  GivesW, GivesF of the seat. No conditions but sizes.
-/
import Derived.Test.YtghndifnohkokaaGreatZCopyDb
import Derived.Test.YtghndifnohkokaaGreatZOpsPlain
namespace Go.Proofs.YtghndifnohkokaaGreat
open Go.ChangeShapes Go.WideShapes Go.RowKit
set_option linter.unusedVariables false
set_option linter.unusedSimpArgs false
set_option maxRecDepth 100000
set_option maxHeartbeats 16000000
def Lo (B:Nat) (F:List Nat):Prop:=∀b,b∈F→B≤b
theorem Lo.mono {B B':Nat} {F:List Nat} (h:Lo B F) (hB:B'≤B):Lo B' F:=λb hb=>Nat.le_trans hB (h b hb)
theorem Lo.app {B:Nat} {F G:List Nat} (h:Lo B F) (k:Lo B G):Lo B (F++G):=λb hb=>(List.mem_append.1 hb).elim (h b) (k b)
theorem Lo.nil (B:Nat):Lo B []:=λb hb=>by simp at hb
def Zqc {α:Type} (c:Cod α) (w:World) (x:α) (e:Ending) (w':World):Prop:=∃vs F,e=.returned (.agg vs)∧Below w.heap.size w w'∧c.rep w' vs.toList x F∧Lo w.heap.size F
def Zlr {α:Type} (c:Cod α) (w:World) (x:α) (r:Value) (e:Ending) (w':World):Prop:=∃vs F,e=.returned (.tuple #[.agg vs,r])∧Below w.heap.size w w'∧c.rep w' vs.toList x F∧Lo w.heap.size F
def ZjH {α:Type} (c:Cod α) (w:World) (x:α) (r1 r2:Value) (e:Ending) (w':World):Prop:=∃vs F,e=.returned (.tuple #[.agg vs,r1,r2])∧Below w.heap.size w w'∧c.rep w' vs.toList x F∧Lo w.heap.size F
theorem ZgW {w0 w':World} {s:TStore} {e:Ending} (h:ZaT cStoreO w0 s e w'):∃B c F,e=.returned (.agg #[.string s.name,.slice B s.items.length c,.int .i64 s.auto])∧Below w0.heap.size w0 w'∧s.Ok∧cItemS.rep w' [.slice B s.items.length c] s.items F∧Lo w0.heap.size F:=by
 obtain⟨vs,F,he,hb,hr,hf⟩:=h
 obtain⟨A,cp,rfl,hok,hi⟩:=TStore.outO hr
 obtain⟨G,h1,h2,-⟩:=weak_items.fresh hi hf
 exact⟨A,cp,G,he,hb,hok,h1,h2.1⟩
theorem Zox {w0 w':World} {s:TStore} {e:Ending} (h:ZaT cStoreO w0 s e w'):∃B c Fi,e=.returned (.agg #[.string s.name,.slice B s.items.length c,.int .i64 s.auto])∧Below w0.heap.size w0 w'∧s.Ok∧Own cItem 162 w0.heap.size w' (.slice B s.items.length c) s.items Fi∧Fresh w0.heap.size Fi∧(∀g,Zac (.slice B s.items.length c)=some g→g∉Fi):=by
 obtain⟨vs,F,he,hb,hr,hf⟩:=h
 obtain⟨A,cp,rfl,hok,hi⟩:=TStore.outO hr
 obtain⟨Fi,-,ho,hfi,hne,-⟩:=ZnE hi hf
 exact⟨A,cp,Fi,he,hb,hok,ho,hfi,hne⟩
theorem dbO {w0 w':World} {d:TDb} {e:Ending} (h:ZaT cDbO w0 d e w'):∃B c Fi U cu G,e=.returned (.agg #[.string d.name,.int .i64 d.ver,.slice B d.stores.length c,.slice U d.uniq.length cu])∧Below w0.heap.size w0 w'∧d.Ok∧Own cStore 124 w0.heap.size w' (.slice B d.stores.length c) d.stores Fi∧Lo w0.heap.size Fi∧(∀g,Zac (.slice B d.stores.length c)=some g→g∉Fi∧g∉G)∧cIdxS.rep w' [.slice U d.uniq.length cu] d.uniq G∧Lo w0.heap.size G:=by
 obtain⟨vs,F,he,hb,hr,hf⟩:=h
 obtain⟨A,cp,B,cq,F2,F3,rfl,hok,rfl,hi,hu⟩:=TDb.outO hr
 have hnd:=List.nodup_append.1 hf.2
 obtain⟨Fi,hF,ho,hfi,hne,-⟩:=ZnE hi ⟨λb hb=>hf.1 b (by simp[hb]),hnd.1⟩
 refine⟨A,cp,Fi,B,cq,F3,he,hb,hok,ho,hfi.1,λg hg=>⟨hne g hg,λhm=>?_⟩,hu,λb hb=>hf.1 b (by simp[hb])⟩
 exact hnd.2.2 g (by rw[hF];exact List.mem_append_left _ (mem_ownL.2 hg)) g hm rfl
theorem dbW {w0 w':World} {d:TDb} {e:Ending} (h:ZaT cDbO w0 d e w'):∃B c F U cu G,e=.returned (.agg #[.string d.name,.int .i64 d.ver,.slice B d.stores.length c,.slice U d.uniq.length cu])∧Below w0.heap.size w0 w'∧d.Ok∧cStoreS.rep w' [.slice B d.stores.length c] d.stores F∧Lo w0.heap.size F∧cIdxS.rep w' [.slice U d.uniq.length cu] d.uniq G∧Lo w0.heap.size G:=by
 obtain⟨vs,F,he,hb,hr,hf⟩:=h
 obtain⟨A,cp,B,cq,F2,F3,rfl,hok,rfl,hi,hu⟩:=TDb.outO hr
 obtain⟨G,h1,h2⟩:=weak_stores.2 hi
 exact⟨A,cp,G,B,cq,F3,he,hb,hok,h1,λb hb=>hf.1 b (by simp[h2.subset hb]),hu,λb hb=>hf.1 b (by simp[hb])⟩
theorem ZbF (s:TStore) (k:TKey):ZF s k=-1∨∃j:Nat,j<s.items.length∧ZF s k=j:=by
 have h1:=ZpR s k
 by_cases h:0≤ZF s k
 ·have h2:=ZjO (λx:TItem=>Zeg x.key k) s.items h
  exact .inr ⟨(ZF s k).toNat,h2,by omega⟩
 ·exact .inl (by omega)
theorem Zog {P S G:List Nat} {L:Nat} (h:(P++S).Nodup) (hl:∀b,b∈P++S→b<L) (hG:G.Nodup) (hGL:∀b,b∈G→L≤b):(P++(G++S)).Nodup:=Zjp (M:=[]) (by simpa using h) (by simpa using hl) hG hGL
theorem Znh {P M S G:List Nat} {L:Nat} (h:(P++(M++S)).Nodup) (hl:∀b,b∈P++(M++S)→b<L) (hG:G.Nodup) (hGL:∀b,b∈G→L≤b∨b∈M):(P++(G++S)).Nodup:=by
 have h1:=List.nodup_append.1 h
 have h2:=List.nodup_append.1 h1.2.1
 refine List.nodup_append.2 ⟨h1.1,List.nodup_append.2 ⟨hG,h2.2.1,λa ha b hb e=>?_⟩,λa ha b hb e=>?_⟩
 ·rcases hGL a ha with h9|h9
  ·have:=hl b (by simp[hb]);omega
  ·exact h2.2.2 a h9 b hb e
 ·rcases List.mem_append.1 hb with hb|hb
  ·rcases hGL b hb with h9|h9
   ·have:=hl a (by simp[ha]);omega
   ·exact h1.2.2 a ha b (by simp[h9]) e
  ·exact h1.2.2 a ha b (by simp[hb]) e
theorem ZgT {w0 w':World} {s:TStore} {e:Ending} (h:ZaT cStoreO w0 s e w'):∃B c F,e=.returned (.agg #[.string s.name,.slice B s.items.length c,.int .i64 s.auto])∧Below w0.heap.size w0 w'∧s.Ok∧cItemS.rep w' [.slice B s.items.length c] s.items F∧Fresh w0.heap.size F:=by
 obtain⟨vs,F,he,hb,hr,hf⟩:=h
 obtain⟨A,cp,rfl,hok,hi⟩:=TStore.outO hr
 obtain⟨G,h1,h2,-⟩:=weak_items.fresh hi hf
 exact⟨A,cp,G,he,hb,hok,h1,h2⟩
theorem dbOF {w0 w':World} {d:TDb} {e:Ending} (h:ZaT cDbO w0 d e w'):∃B c Fi U cu G,e=.returned (.agg #[.string d.name,.int .i64 d.ver,.slice B d.stores.length c,.slice U d.uniq.length cu])∧Below w0.heap.size w0 w'∧d.Ok∧Own cStore 124 w0.heap.size w' (.slice B d.stores.length c) d.stores Fi∧Lo w0.heap.size Fi∧(∀g,Zac (.slice B d.stores.length c)=some g→g∉Fi∧g∉G)∧cIdxS.rep w' [.slice U d.uniq.length cu] d.uniq G∧Lo w0.heap.size G∧(Fi++G).Nodup:=by
 obtain⟨vs,F,he,hb,hr,hf⟩:=h
 obtain⟨A,cp,B,cq,F2,F3,rfl,hok,rfl,hi,hu⟩:=TDb.outO hr
 have hnd:=List.nodup_append.1 hf.2
 obtain⟨Fi,hF,ho,hfi,hne,-⟩:=ZnE hi ⟨λb hb=>hf.1 b (by simp[hb]),hnd.1⟩
 refine⟨A,cp,Fi,B,cq,F3,he,hb,hok,ho,hfi.1,λg hg=>⟨hne g hg,λhm=>?_⟩,hu,λb hb=>hf.1 b (by simp[hb]),List.nodup_append.2 ⟨hfi.2,hnd.2.1,λa ha b hb e=>hnd.2.2 a (by rw[hF];exact List.mem_append_right _ ha) b hb e⟩⟩
 exact hnd.2.2 g (by rw[hF];exact List.mem_append_left _ (mem_ownL.2 hg)) g hm rfl
theorem dbF {w0 w':World} {d:TDb} {e:Ending} (h:ZaT cDbO w0 d e w'):∃B c F U cu G,e=.returned (.agg #[.string d.name,.int .i64 d.ver,.slice B d.stores.length c,.slice U d.uniq.length cu])∧Below w0.heap.size w0 w'∧d.Ok∧cStoreS.rep w' [.slice B d.stores.length c] d.stores F∧Lo w0.heap.size F∧cIdxS.rep w' [.slice U d.uniq.length cu] d.uniq G∧Lo w0.heap.size G∧(F++G).Nodup:=by
 obtain⟨vs,F,he,hb,hr,hf⟩:=h
 obtain⟨A,cp,B,cq,F2,F3,rfl,hok,rfl,hi,hu⟩:=TDb.outO hr
 have hnd:=List.nodup_append.1 hf.2
 obtain⟨G,h1,h2,h3⟩:=weak_stores.fresh hi ⟨λb hb=>hf.1 b (by simp[hb]),hnd.1⟩
 exact⟨A,cp,G,B,cq,F3,he,hb,hok,h1,h2.1,hu,λb hb=>hf.1 b (by simp[hb]),List.nodup_append.2 ⟨h2.2,hnd.2.1,λa ha b hb e=>hnd.2.2 a (h3 a ha) b hb e⟩⟩
end Go.Proofs.YtghndifnohkokaaGreat
