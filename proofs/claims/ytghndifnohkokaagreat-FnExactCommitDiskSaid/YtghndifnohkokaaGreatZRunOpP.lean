import Derived.Test.YtghndifnohkokaaGreatZOpI
import Derived.Test.YtghndifnohkokaaGreatZIsDbI
namespace Go.Proofs.YtghndifnohkokaaGreat
open Go.ChangeShapes Go.WideShapes Go.RowKit
set_option linter.unusedVariables false
set_option linter.unusedSimpArgs false
set_option maxRecDepth 100000
set_option maxHeartbeats 16000000
theorem ZlH {B:Nat} {w:World} {A:Option Addr} {n cp:Nat} {xs:List TStore} {Fi:List Nat} (h:Own cStore 124 B w (.slice A n cp) xs Fi) {j:Nat} (hj:j<xs.length) :
  ∃g A3 c3 F3,A=some ⟨g,0,none⟩∧n=xs.length∧n≤cp∧Zac (.slice A n cp)=some g∧B≤g∧g<w.heap.size∧xs[j].Ok∧w.cell? ⟨g,j*3,none⟩=some (.string xs[j].name)∧w.cell? ⟨g,j*3+1,none⟩=some (.slice A3 xs[j].items.length c3)∧w.cell? ⟨g,j*3+2,none⟩=some (.int .i64 xs[j].auto)∧(∀o,w.frozen? ⟨g,o,none⟩=false)∧cItemS.rep w [.slice A3 xs[j].items.length c3] xs[j].items F3∧(∀b,b∈F3→b∈Fi):=by
 obtain⟨A',cp',e'⟩:=h.slice;have hn:n=xs.length:=by injection e'
 obtain⟨g,cur,vs,F1,Fm,F2,hA,hcp,hnc,hcm,hgo,hB,hblk,hF,hr,hsz,hcur,-⟩:=h.upd (by decide) hj
 obtain⟨v3,F3,rfl,rfl,hok,hr3⟩:=TStore.out hr;obtain⟨A3,c3,rfl⟩:=Zb hr3
 have hc:∀i,i<3→w.cell? ⟨g,j*3+i,none⟩=([Value.string xs[j].name,Value.slice A3 xs[j].items.length c3,Value.int .i64 xs[j].auto]:List Value)[i]?:=λi hi=>by
  rw[hblk.cell];exact hcur i hi
 exact⟨g,A3,c3,_,hA,hn,hnc,hgo,hB,hblk.lt,hok,hc 0 (by decide),hc 1 (by decide),hc 2 (by decide),λo=>hblk.frozen o,hr3,λb hb=>by rw[hF];simp[hb]⟩
theorem Zpe {B:Nat} {w w':World} {g n cp:Nat} {xs:List TStore} {Fi:List Nat} (h:Own cStore 124 B w (.slice (some ⟨g,0,none⟩) n cp) xs Fi) (hgn:g∉Fi) {j:Nat} (hj:j<xs.length) {y:TStore} {v1:Value} {G:List Nat}
  (hw':w'=((w.setCell ⟨g,j*3,none⟩ (.string y.name)).setCell ⟨g,j*3+1,none⟩ v1).setCell ⟨g,j*3+2,none⟩ (.int .i64 y.auto)) (hok:y.Ok) (hr:cItemS.rep w [v1] y.items G) (hgG:g∉G) :
  ∃F',Own cStore 124 B w' (.slice (some ⟨g,0,none⟩) n cp) (xs.set j y) F'∧∀b,b∈F'→b∈Fi∨b∈G:=by
 obtain⟨g1,cur,vs1,F1,Fm,F2,hA1,hcp0,hnc,hcm,hgo1,hB1,hblk,hF1,hr1,hsz,hcur,hupd⟩:=h.upd (by decide) hj
 obtain rfl:g=g1:=by injection hA1 with hA1;injection hA1
 have hblk':Blk w' g 124 (((cur.setIfInBounds (j*3) (.string y.name)).setIfInBounds (j*3+1) v1).setIfInBounds (j*3+2) (.int .i64 y.auto)):=by
  rw[hw'];exact((hblk.set_ _ _).set_ _ _).set_ _ _
 have hkeep:∀b,b≠g→w'.heap[b]?=w.heap[b]?:=λb hb=>by
  rw[hw']
  exact(Below.heap_setCell _ _ _ _ hb).trans ((Below.heap_setCell _ _ _ _ hb).trans (Below.heap_setCell _ _ _ _ hb))
 have hsz3:j*3+3≤cur.size:=hsz
 refine⟨F1++(G++F2),hupd w' _ [.string y.name,v1,.int .i64 y.auto] y G hblk' (by simp) (λo ho=>?_) (λi hi=>?_) (Cod.keep _ (TStore.mk_ hok hr) λb hb=>hkeep b λe=>hgG (by rw[← e];exact hb)) (λb hb=>hkeep b λe=>hgn (by rw[← e,hF1];rcases hb with hb|hb<;>simp[hb])),λb hb=>?_⟩
 ·have ho':o<j*3∨j*3+3≤o:=ho
  rw[Array.getElem?_setIfInBounds_ne (by omega),Array.getElem?_setIfInBounds_ne (by omega),Array.getElem?_setIfInBounds_ne (by omega)]
 ·have hi':i<3:=hi
  show _=_
  rw[show j*cStore.wd+i=j*3+i from rfl]
  have h5:i=0∨i=1∨i=2:=by omega
  rcases h5 with rfl|rfl|rfl
  ·simp[Array.getElem?_setIfInBounds];omega
  ·simp[Array.getElem?_setIfInBounds];omega
  ·simp[Array.getElem?_setIfInBounds];omega
 ·rcases List.mem_append.1 hb with hb|hb
  ·left;rw[hF1];simp[hb]
  ·rcases List.mem_append.1 hb with hb|hb
   ·right;exact hb
   ·left;rw[hF1];simp[hb]
theorem ZkS {B:Nat} {w:World} {A:Option Addr} {n cp:Nat} {xs:List TStore} {Fi:List Nat} (h:Own cStore 124 B w (.slice A n cp) xs Fi) {j:Nat} (hj:j<xs.length) :
  ∃g A3 c3 F1 F3 F2,A=some ⟨g,0,none⟩∧n=xs.length∧n≤cp∧Zac (.slice A n cp)=some g∧B≤g∧g<w.heap.size∧xs[j].Ok∧w.cell? ⟨g,j*3,none⟩=some (.string xs[j].name)∧w.cell? ⟨g,j*3+1,none⟩=some (.slice A3 xs[j].items.length c3)∧w.cell? ⟨g,j*3+2,none⟩=some (.int .i64 xs[j].auto)∧(∀o,w.frozen? ⟨g,o,none⟩=false)∧cItemS.rep w [.slice A3 xs[j].items.length c3] xs[j].items F3∧Fi=F1++(F3++F2) ∧
   ∀(w7 w':World) (y:TStore) (v1:Value) (G:List Nat),Below w.heap.size w w7→g∉Fi→w'=((w7.setCell ⟨g,j*3,none⟩ (.string y.name)).setCell ⟨g,j*3+1,none⟩ v1).setCell ⟨g,j*3+2,none⟩ (.int .i64 y.auto)→y.Ok→cItemS.rep w7 [v1] y.items G→g∉G →
    Own cStore 124 B w' (.slice (some ⟨g,0,none⟩) n cp) (xs.set j y) (F1++(G++F2)):=by
 obtain⟨A',cp',e'⟩:=h.slice;have hn:n=xs.length:=by injection e'
 have hil:=h.inner_lt;obtain⟨g,cur,vs,F1,Fm,F2,hA,hcp,hnc,hcm,hgo,hB,hblk,hF,hr,hsz,hcur,hupd⟩:=h.upd (by decide) hj
 obtain⟨v3,F3,rfl,rfl,hok,hr3⟩:=TStore.out hr;obtain⟨A3,c3,rfl⟩:=Zb hr3
 have hc:∀i,i<3→w.cell? ⟨g,j*3+i,none⟩=([Value.string xs[j].name,Value.slice A3 xs[j].items.length c3,Value.int .i64 xs[j].auto]:List Value)[i]?:=λi hi=>by
  rw[hblk.cell];exact hcur i hi
 refine⟨g,A3,c3,F1,_,F2,hA,hn,hnc,hgo,hB,hblk.lt,hok,hc 0 (by decide),hc 1 (by decide),hc 2 (by decide),λo=>hblk.frozen o,hr3,hF,λw7 w' y v1 G hb7 hgn hw' hoky hry hgG=>?_⟩
 have hblk':Blk w' g 124 (((cur.setIfInBounds (j*3) (.string y.name)).setIfInBounds (j*3+1) v1).setIfInBounds (j*3+2) (.int .i64 y.auto)):=by
  rw[hw'];exact(((hblk.bel hb7).set_ _ _).set_ _ _).set_ _ _
 have hkeep:∀b,b≠g→w'.heap[b]?=w7.heap[b]?:=λb hb=>by
  rw[hw']
  exact(Below.heap_setCell _ _ _ _ hb).trans ((Below.heap_setCell _ _ _ _ hb).trans (Below.heap_setCell _ _ _ _ hb))
 have hsz3:j*3+3≤cur.size:=hsz
 subst hA;refine hupd w' _ [.string y.name,v1,.int .i64 y.auto] y G hblk' (by simp) (λo ho=>?_) (λi hi=>?_) (Cod.keep _ (TStore.mk_ hoky hry) λb hb=>hkeep b λe=>hgG (by rw[← e];exact hb)) (λb hb=>?_)
 ·have ho':o<j*3∨j*3+3≤o:=ho
  rw[Array.getElem?_setIfInBounds_ne (by omega),Array.getElem?_setIfInBounds_ne (by omega),Array.getElem?_setIfInBounds_ne (by omega)]
 ·have hi':i<3:=hi
  show _=_
  rw[show j*cStore.wd+i=j*3+i from rfl]
  have h5:i=0∨i=1∨i=2:=by omega
  rcases h5 with rfl|rfl|rfl
  ·simp[Array.getElem?_setIfInBounds];omega
  ·simp[Array.getElem?_setIfInBounds];omega
  ·simp[Array.getElem?_setIfInBounds];omega
 ·have hbF:b∈Fi:=by rw[hF];rcases hb with hb|hb<;>simp[hb]
  rw[hkeep b (λe=>hgn (e ▸ hbF))]
  exact hb7.block b (hil b hbF)
theorem Zmn {v:Value} {FR Fi GV:List Nat} (hw9:∀b,b∈FR→Zac v=some b∨b∈Fi) (hn9:(∀g,Zac v=some g→g∉Fi)→Fi.Nodup→FR.Nodup) (hne:∀g,Zac v=some g→g∉Fi∧g∉GV) (hnd:(Fi++GV).Nodup):(FR++GV).Nodup:=by
 obtain⟨h1,h2,h3⟩:=List.nodup_append.1 hnd;refine List.nodup_append.2 ⟨hn9 (λg hg=>(hne g hg).1) h1,h2,λa ha b hb e=>?_⟩
 rcases hw9 a ha with h9|h9
 ·exact(hne a h9).2 (e ▸ hb)
 ·exact h3 a h9 b hb e
theorem Zir {s:TStore} {k:TKey} {r:TRec} (h:(ZO s k r).2=true):Zs (ZO s k r).1=true:=by
 rw[← ZgM] at h⊢
 unfold Zca at h⊢
 cases h1:Zs s&&ZG k&&Zs (ZbP s k r) with
 | false=>rw[h1] at h;simp at h
 | true=>simp only[Bool.and_eq_true] at h1;exact h1.2
theorem Zlc {s:TStore} {lo hi:TKey} {hl hh:Bool} (h:ZcE s):ZcE (ZD s hl hh lo hi).1:=by
 unfold ZD
 cases Zs s with
 | false=>exact h
 | true =>
  refine⟨Nat.le_trans (List.length_filter_le _ _) h.1,λx hx=>h.2 x ?_⟩
  exact(List.mem_filter.1 hx).1
theorem ZmG {s:TStore} {o:TOp} (hs:Zs s=true) (h:(ZdO s o).2.2=true):ZcE (ZdO s o).1:=by
 have hsm:=Zbw hs
 cases e1:(o.kind==1) with
 | true=>rw[on1 e1] at h⊢;exact Zbw (Zir h)
 | false =>
 cases e2:(o.kind==2) with
 | true =>
  rw[on2 e1 e2] at h⊢
  unfold Zcd at h⊢
  by_cases hf:0≤ZF s o.key
  ·rw[if_pos hf] at h;simp at h
  ·rw[if_neg hf] at h⊢;exact Zbw (Zir h)
 | false =>
 cases e3:(o.kind==3) with
 | true=>rw[on3 e1 e2 e3];exact Zlc hsm
 | false =>
 cases e5:(o.kind==5) with
 | true=>rw[on5 e1 e2 e3 e5];exact Zlc hsm
 | false =>
 cases e4:(o.kind==4) with
 | true=>rw[on4 e4];exact hsm
 | false =>
  rw[on6 e1 e2 e3 e5 e4,Zdb] at h⊢
  simp only[Bool.and_eq_true] at h
  exact Zbw (Zir h.2)
theorem Zjy {d:TDb} {j:Nat} {y:TStore} (h:Zbl d) (hy:ZcE y):Zbl (ZaA d j y):=by
 refine⟨by show (d.stores.set j y).length≤_;rw[List.length_set];exact h.1,h.2.1,λs hs=>?_⟩
 rcases List.mem_or_eq_of_mem_set hs with h9|rfl
 ·exact h.2.2 s h9
 ·exact hy
theorem Zdk {d:TDb} {o:TOp} (h:(Zi d&&ZdR o&&decide (0≤Zap d o.store))=false):ZaR d o=(d,0,false):=by unfold ZaR;rw[h];rfl
theorem Zos {d:TDb} {o:TOp} {j:Nat} (h1:Zi d=true) (h2:ZdR o=true) (h3:Zap d o.store=j) (hj:j<d.stores.length) :
  ZaR d o=bif (ZdO d.stores[j] o).2.2&&Zi (ZaA d j (ZdO d.stores[j] o).1) then (ZaA d j (ZdO d.stores[j] o).1,(ZdO d.stores[j] o).2.1,true) else (d,0,false):=by
 unfold ZaR
 rw[h1,h2,h3,decide_eq_true (by omega)]
 show Zla d j o=_
 unfold Zla
 rw[List.getElem?_eq_getElem hj]
theorem Zis {d:TDb} {o:TOp} (h:Zbl d):Zbl (ZaR d o).1:=by
 cases h1:(Zi d&&ZdR o&&decide (0≤Zap d o.store)) with
 | false=>rw[Zdk h1];exact h
 | true =>
  unfold ZaR
  rw[h1]
  show Zbl (Zla d _ o).1
  unfold Zla
  split
  ·cases h2:((ZdO _ o).2.2&&Zi (ZaA d _ (ZdO _ o).1)) with
   | false=>exact h
   | true=>simp only[Bool.and_eq_true] at h2;exact Zke h2.2
  ·exact h
theorem ZgR:∀(l:List TOp) {d e:TDb},Zbl d→ZaV d l=some e→Zbl e
 | [],d,e,h,h1=>by simp only[ZaV,Option.some.injEq] at h1;subst h1;exact h
 | o::l,d,e,h,h1=>by
  simp only[ZaV] at h1
  cases h2:(ZaR d o).2.2 with
  | false=>rw[h2] at h1;simp at h1
  | true=>rw[h2] at h1;exact ZgR l (Zis h) h1
theorem Zet {d:TDb} {l:List TOp} (h:Zbl d):Zbl (Zba d l).1:=by
 unfold Zba
 cases Zi d&&decide ((l.length:Int)≤6) with
 | false=>exact h
 | true =>
  simp only[cond_true]
  cases h1:ZaV d l with
  | none=>exact h
  | some e=>exact ZgR l h h1
structure Zqd (w:World) (F0:List Nat) (r:TStore×Int×Bool) (wq:World) (t9 t10 t11:Value) (xb:Nat) (y:TStore) (n:Int) (B:Option Addr) (c:Nat) (F:List Nat):Prop where
 e9:t9=.pointer (some ⟨xb,0,none⟩)
 e10:t10=.int .i64 n
 e11:t11=.bool r.2.2
 c0:wq.cell? ⟨xb,0,none⟩=some (.string y.name)
 c1:wq.cell? ⟨xb,1,none⟩=some (.slice B y.items.length c)
 c2:wq.cell? ⟨xb,2,none⟩=some (.int .i64 y.auto)
 ok:y.Ok
 rd:cItemS.rep wq [.slice B y.items.length c] y.items F
 lo:∀b,b∈F→w.heap.size≤b∨b∈F0
 yes:r.2.2=true→y=r.1∧n=r.2.1
 x0:w.heap.size≤xb
 x1:xb<wq.heap.size
 bel:Below w.heap.size w wq
theorem Zqi {s:TStore} {o:TOp} (hs:Zs s=true):-1≤(ZdO s o).2.1∧(ZdO s o).2.1≤2000000000:=by
 have hsm:=Zbw hs;have hit:=((ZbW s).1 hs).1
 have hdel:∀(hl hh:Bool) (lo hi:TKey),-1≤(ZD s hl hh lo hi).2∧(ZD s hl hh lo hi).2≤2000000000:=λhl hh lo hi=>by
  unfold ZD
  rw[hs]
  have h1:=List.length_filter_le (λx:TItem=>!Zu x.key hl hh lo hi) s.items
  have h2:=hsm.1
  show -1≤(s.items.length:Int)-_∧(s.items.length:Int)-_≤2000000000
  omega
 cases e1:(o.kind==1) with
 | true=>rw[on1 e1];exact⟨(by decide:(-1:Int)≤1),(by decide:(1:Int)≤2000000000)⟩
 | false =>
 cases e2:(o.kind==2) with
 | true=>rw[on2 e1 e2];exact⟨(by decide:(-1:Int)≤1),(by decide:(1:Int)≤2000000000)⟩
 | false =>
 cases e3:(o.kind==3) with
 | true=>rw[on3 e1 e2 e3];exact hdel _ _ _ _
 | false =>
 cases e5:(o.kind==5) with
 | true=>rw[on5 e1 e2 e3 e5];exact hdel _ _ _ _
 | false =>
 cases e4:(o.kind==4) with
 | true =>
  rw[on4 e4]
  rcases ZbF s o.key with hf|⟨j,hj,hf⟩
  ·rw[hf];exact⟨(by decide:(-1:Int)≤-1),(by decide:(-1:Int)≤2000000000)⟩
  ·show -1≤(if 0≤ZF s o.key then (match s.items[(ZF s o.key).toNat]? with|some x=>(x.rcd.fields.length:Int)|none=>-1) else -1)∧(if 0≤ZF s o.key then (match s.items[(ZF s o.key).toNat]? with|some x=>(x.rcd.fields.length:Int)|none=>-1) else -1)≤2000000000
   rw[hf,if_pos (by omega),show ((j:Int)).toNat=j from rfl,List.getElem?_eq_getElem hj]
   have h2:=ZcR (hit.ok _ (List.getElem_mem hj)).2
   show -1≤(s.items[j].rcd.fields.length:Int)∧(s.items[j].rcd.fields.length:Int)≤2000000000
   omega
 | false =>
  rw[on6 e1 e2 e3 e5 e4,Zdb]
  have hrk:Ze (ZcW s o.key)=true:=by
   rcases ZbF s o.key with hf|⟨j,hj,hf⟩
   ·rw[Zff hf];exact ZhG
   ·rw[Zgb hj hf];exact(hit.ok _ (List.getElem_mem hj)).2
  have h2:=Zdf hrk o.field
  show -1≤(Zk (ZcW s o.key) o.field).1+1∧(Zk (ZcW s o.key) o.field).1+1≤2000000000
  omega
theorem Zor {d:TDb} {o:TOp}:-1≤(ZaR d o).2.1∧(ZaR d o).2.1≤2000000000:=by
 cases h1:Zi d with
 | false=>rw[Zdk (by rw[h1];rfl)];exact⟨(by decide:(-1:Int)≤0),(by decide:(0:Int)≤2000000000)⟩
 | true =>
  cases h2:ZdR o with
  | false=>rw[Zdk (by rw[h1,h2];rfl)];exact⟨(by decide:(-1:Int)≤0),(by decide:(0:Int)≤2000000000)⟩
  | true =>
   rcases ZbM d o.store with hf|⟨j,hj,hf⟩
   ·rw[Zdk (by rw[h1,h2,hf];rfl)];exact⟨(by decide:(-1:Int)≤0),(by decide:(0:Int)≤2000000000)⟩
   ·rw[Zos h1 h2 hf hj]
    have h3:=Zqi (o:=o) (Zew h1 hj)
    cases (ZdO d.stores[j] o).2.2&&Zi (ZaA d j (ZdO d.stores[j] o).1) with
    | false=>exact⟨(by decide:(-1:Int)≤0),(by decide:(0:Int)≤2000000000)⟩
    | true=>exact h3
theorem Zjv:∀(l1 l2:List TOp) (d:TDb),ZaV d (l1++l2)=match ZaV d l1 with|some e=>ZaV e l2|none=>none
 | [],l2,d=>by simp only[List.nil_append,ZaV]
 | p::l1,l2,d=>by
  simp only[List.cons_append,ZaV]
  cases (ZaR d p).2.2 with
  | true=>exact Zjv l1 l2 _
  | false=>rfl
theorem Zka {d:TDb} {l:List TOp} (h:(Zi d&&decide ((l.length:Int)≤6))=false):Zba d l=(d,false):=by unfold Zba;rw[h];rfl
theorem ZpE {d:TDb} {l:List TOp} (h:Zi d=true) (hl:(l.length:Int)≤6):Zba d l=match ZaV d l with|some e=>(e,true)|none=>(d,false):=by unfold Zba;rw[h,decide_eq_true hl];rfl
theorem Zjw {d e:TDb} {l:List TOp} {k:Nat} (hk:k<l.length) (h:ZaV d (l.take k)=some e) (h1:(ZaR e l[k]).2.2=true):ZaV d (l.take (k+1))=some (ZaR e l[k]).1:=by
 rw[List.take_succ_eq_append_getElem hk,Zim,h];simp[h1]
theorem ZkZ {d e:TDb} {l:List TOp} {k:Nat} (hk:k<l.length) (h:ZaV d (l.take k)=some e) (h1:(ZaR e l[k]).2.2=false):ZaV d l=none:=by
 have h2:l=l.take k++l[k]::l.drop (k+1):=by rw[← List.drop_eq_getElem_cons hk,List.take_append_drop]
 rw[h2,Zjv,h]
 simp[ZaV,h1]
structure DbAt (wr:World) (bx L:Nat) (e:TDb) (B:Option Addr) (c:Nat) (V:Option Addr) (cv:Nat) (F G:List Nat):Prop where
 c0:wr.cell? ⟨bx,0,none⟩=some (.string e.name)
 c1:wr.cell? ⟨bx,1,none⟩=some (.int .i64 e.ver)
 c2:wr.cell? ⟨bx,2,none⟩=some (.slice B e.stores.length c)
 c3:wr.cell? ⟨bx,3,none⟩=some (.slice V e.uniq.length cv)
 z0:wr.frozen? ⟨bx,0,none⟩=false
 z1:wr.frozen? ⟨bx,1,none⟩=false
 z2:wr.frozen? ⟨bx,2,none⟩=false
 z3:wr.frozen? ⟨bx,3,none⟩=false
 ok:e.Ok
 sm:Zbl e
 rs:cStoreS.rep wr [.slice B e.stores.length c] e.stores F
 ru:cIdxS.rep wr [.slice V e.uniq.length cv] e.uniq G
 hF:∀b,b∈F→L≤b∧¬b=bx
 hG:∀b,b∈G→L≤b∧¬b=bx
theorem DbAt.keep {wr w':World} {bx L:Nat} {e:TDb} {B:Option Addr} {c:Nat} {V:Option Addr} {cv:Nat} {F G:List Nat} (h:DbAt wr bx L e B c V cv F G) (hx:w'.heap[bx]?=wr.heap[bx]?) (hF:∀b,b∈F→w'.heap[b]?=wr.heap[b]?) (hG:∀b,b∈G→w'.heap[b]?=wr.heap[b]?):DbAt w' bx L e B c V cv F G :=
 ⟨(World.cell?_of_block hx).trans h.c0,(World.cell?_of_block hx).trans h.c1,(World.cell?_of_block hx).trans h.c2,(World.cell?_of_block hx).trans h.c3,(World.frozen?_of_block hx).trans h.z0,(World.frozen?_of_block hx).trans h.z1,(World.frozen?_of_block hx).trans h.z2,(World.frozen?_of_block hx).trans h.z3,
  h.ok,h.sm,Cod.keep _ h.rs hF,Cod.keep _ h.ru hG,h.hF,h.hG⟩
theorem DbAt.lt {wr:World} {bx L:Nat} {e:TDb} {B:Option Addr} {c:Nat} {V:Option Addr} {cv:Nat} {F G:List Nat} (h:DbAt wr bx L e B c V cv F G):(∀b,b∈F→b<wr.heap.size)∧(∀b,b∈G→b<wr.heap.size):=⟨λb hb=>Cod.lt _ h.rs b hb,λb hb=>Cod.lt _ h.ru b hb⟩
theorem DbAt.bel {wr w':World} {bx L:Nat} {e:TDb} {B:Option Addr} {c:Nat} {V:Option Addr} {cv:Nat} {F G:List Nat} (h:DbAt wr bx L e B c V cv F G) (hx:bx<wr.heap.size) (hb:Below wr.heap.size wr w'):DbAt w' bx L e B c V cv F G :=
 h.keep (hb.block bx hx) (λb hm=>hb.block b (h.lt.1 b hm)) (λb hm=>hb.block b (h.lt.2 b hm))
theorem DbAt.grown {wr w':World} {row:Option Nat} {bx L:Nat} {e:TDb} {B:Option Addr} {c:Nat} {V:Option Addr} {cv:Nat} {F G:List Nat} (hg:wr.grownBy w' row) (hx:bx<wr.heap.size) (hne:∀g,row=some g→¬g=bx∧g∉F∧g∉G) (h:DbAt wr bx L e B c V cv F G):DbAt w' bx L e B c V cv F G :=
 h.keep (hg.block bx hx (λe9=>(hne bx e9.symm).1 rfl)) (λb hm=>hg.block b (h.lt.1 b hm) (λe9=>(hne b e9.symm).2.1 hm)) (λb hm=>hg.block b (h.lt.2 b hm) (λe9=>(hne b e9.symm).2.2 hm))
def ZoJ (w:World) (r:TDb×Bool) (e:Ending) (w':World):Prop:=∃vs v2 F,e=.returned (.tuple #[.agg vs,v2,.bool r.2])∧Below w.heap.size w w'∧cDb.rep w' vs.toList r.1 F∧Lo w.heap.size F
def ZpN (wr:World) (r:TDb×Int×Bool) (wq:World) (t10 t11 t12:Value):Prop :=
 ∃xb B c V cv F G,t10=.pointer (some ⟨xb,0,none⟩)∧t11=.int .i64 r.2.1∧t12=.bool r.2.2∧DbAt wq xb wr.heap.size r.1 B c V cv F G∧wr.heap.size≤xb∧xb<wq.heap.size∧Below wr.heap.size wr wq
end Go.Proofs.YtghndifnohkokaaGreat
