import Derived.Test.YtghndifnohkokaaGreatZDelS
namespace Go.Proofs.YtghndifnohkokaaGreat
open Go.ChangeShapes Go.WideShapes Go.RowKit
set_option linter.unusedVariables false
set_option linter.unusedSimpArgs false
set_option maxRecDepth 100000
set_option maxHeartbeats 16000000
theorem ZfA (b:Nat):∀(vs:List Value) (o:Nat) (w a:World),Only [b] a w→Only [b] a (w.setCells b o vs)
 | [],_,_,_,h=>h
 | v::r,o,w,a,h=>by
  show Only [b] a ((w.setCell ⟨b,o,none⟩ v).setCells b (o+1) r)
  exact ZfA b r (o+1) _ a (h.set_ (by simp) v)
theorem ZgL {α:Type} {c:Cod α} {e:TypeId} {B:Nat} {A:Option Addr} {n cp:Nat} {xs:List α} {Fi:List Nat} {g:Nat} (hg:g∉Fi):∀(vs:List Value) (o:Nat) (w:World),xs.length*c.wd≤o→Own c e B w (.slice A n cp) xs Fi→Own c e B (w.setCells g o vs) (.slice A n cp) xs Fi
 | [],_,_,_,h=>h
 | v::r,o,w,ho,h=>by
  show Own c e B ((w.setCell ⟨g,o,none⟩ v).setCells g (o+1) r) (.slice A n cp) xs Fi
  exact ZgL hg r (o+1) _ (by omega) (h.setTail ho hg v)
theorem Zkc {P:Program} (w:World) (t e ty:TypeId) (z:Value) (ht:P.underlying t=some (.slice e)) (hv:∀w,(zeroValue e).run P w=.ok z w) (b o m c:Nat) (hm:0<m) (h1:∀v∈(Builtin.zeroCells z.cells m).toList,v.oneCell'=true)
  (hc:∀j,j<(Builtin.zeroCells z.cells m).toList.length→∃u,w.cell? ⟨b,o+j,none⟩=some u) (hf:∀j,w.frozen? ⟨b,o+j,none⟩=false) :
  (Builtin.clear_ #[t] ty #[.slice (some ⟨b,o,none⟩) m c]).run P w=.ok (.tuple #[]) (w.setCells b o (Builtin.zeroCells z.cells m).toList):=by
 have hst:=run_storeCells_cells (P:=P) b o (Builtin.zeroCells z.cells m).toList 0 w (λj hj=>by obtain⟨u,hu⟩:=hc j hj;rw[Nat.add_zero,hu];rfl) (λj _=>by rw[Nat.add_zero];exact hf j) h1
 simp only[Nat.add_zero] at hst
 obtain⟨m',rfl⟩:∃m',m=m'+1:=⟨m-1,by omega⟩
 simp[Builtin.clear_,run_underlying ht,hv,hst]
theorem ZoD (m:Nat):∀v∈(Builtin.zeroCells (Value.agg #[.int .i64 0,.int .i64 0,.string ⟨#[]⟩,.slice none 0 0]).cells m).toList,v.oneCell'=true:=by
 intro v hv;simp only[Builtin.zeroCells,Array.toList_map,List.mem_map] at hv
 obtain⟨i,-,rfl⟩:=hv;have h4:i % (Value.agg #[.int .i64 0,.int .i64 0,.string ⟨#[]⟩,.slice none 0 0]).cells.size=i % 4:=rfl
 rw[h4]
 have h5:i % 4=0∨i % 4=1∨i % 4=2∨i % 4=3:=by omega
 rcases h5 with h|h|h|h<;>rw[h]<;>rfl
theorem Zpn (m:Nat):(Builtin.zeroCells (Value.agg #[.int .i64 0,.int .i64 0,.string ⟨#[]⟩,.slice none 0 0]).cells m).toList.length=m*4:=by
 simp only[Builtin.zeroCells,Array.toList_map,List.length_map,Array.length_toList,Array.size_range];rfl
theorem ZhK {α:Type} (p:α→Bool):∀xs:List α,(Zcm p xs=-1∧xs.filter (λx=>!p x)=xs)∨∃(k:Nat) (h:k<xs.length),Zcm p xs=k∧p xs[k]=true∧(xs.take k).filter (λx=>!p x)=xs.take k
 | []=>.inl ⟨rfl,rfl⟩
 | x::xs=>by
  cases hp:p x with
  | true=>exact .inr ⟨0,by simp,by simp[Zcm,hp],hp,by simp⟩
  | false =>
   have e:Zcm p (x::xs)=if Zcm p xs<0 then -1 else Zcm p xs+1:=by simp[Zcm,hp]
   rcases ZhK p xs with ⟨h1,h2⟩|⟨k,h,h1,h2,h3⟩
   ·exact .inl ⟨by rw[e,h1];rfl,by simp[hp,h2]⟩
   ·exact .inr ⟨k+1,by simpa using h,by rw[e,h1,if_neg (by omega)];omega,by simpa using h2,by simp[hp,h3]⟩
def RngAt (w:World) (b:Nat) (hl hh:Bool) (lo hi:TKey):Prop :=
 w.cell? ⟨b,0,none⟩=some (.bool hl)∧w.cell? ⟨b,1,none⟩=some (.bool hh)∧w.cell? ⟨b,2,none⟩=some (.int .i64 lo.kind)∧w.cell? ⟨b,3,none⟩=some (.int .i64 lo.n)∧w.cell? ⟨b,4,none⟩=some (.string lo.text)∧w.cell? ⟨b,5,none⟩=some (.int .i64 hi.kind)∧w.cell? ⟨b,6,none⟩=some (.int .i64 hi.n)∧w.cell? ⟨b,7,none⟩=some (.string hi.text)
theorem RngAt.keep {w w':World} {b:Nat} {hl hh:Bool} {lo hi:TKey} (h:RngAt w b hl hh lo hi) (hb:w'.heap[b]?=w.heap[b]?):RngAt w' b hl hh lo hi:=by
 obtain⟨h0,h1,h2,h3,h4,h5,h6,h7⟩:=h;have hk:∀o,w'.cell? ⟨b,o,none⟩=w.cell? ⟨b,o,none⟩:=λo=>World.cell?_of_block (a:=⟨b,o,none⟩) hb
 exact⟨(hk _).trans h0,(hk _).trans h1,(hk _).trans h2,(hk _).trans h3,(hk _).trans h4,(hk _).trans h5,(hk _).trans h6,(hk _).trans h7⟩
theorem Zjb (x:TItem) (v:Value) (b:Nat) (lo hi:TKey) (hl hh:Bool) (w:World) (hR:RngAt w b hl hh lo hi) (hb:b<w.heap.size) (hx:x.key.text.size≤maxLen) (hlo:lo.text.size≤maxLen) (hhi:hi.text.size≤maxLen) :
  Calls Tryz.prog 180 #[.agg #[.int .i64 x.key.kind,.int .i64 x.key.n,.string x.key.text,v],.pointer (some ⟨b,0,none⟩)] w (ZL w (.bool (Zu x.key hl hh lo hi))):=by
 obtain⟨h0,h1,h2,h3,h4,h5,h6,h7⟩:=hR;have hbne:¬b=w.heap.size:=by omega
 have hbne2:¬w.heap.size=b:=by omega
 go_enter Tryz.func180,Tryz.ntmps180
 go_wp2_with fail;refine(Zga x.key lo hi hl hh _ hx hlo hhi).mono ?_
 rintro e w1 ⟨rfl,hb1⟩;obtain⟨hc_w1,hf_w1,hz_w1⟩:=Zc hb1
 try simp at hz_w1
 have ha0_w1:w.heap.size<w1.heap.size:=by omega
 have hb_w1:=zt (w:=w) hb1
 go_wp2_with fail;go_ret
 exact⟨rfl,bl⟩
theorem ZkC (A:Option Addr) (cp:Nat) (b:Nat) (xs:List TItem) (lo hi:TKey) (hl hh:Bool) (F:List Nat) (w:World) (h:cItemS.rep w [.slice A xs.length cp] xs F) (hR:RngAt w b hl hh lo hi) (hb:b<w.heap.size) (hlo:lo.text.size≤maxLen) (hhi:hi.text.size≤maxLen) :
  Calls Tryz.prog 177 #[.slice A xs.length cp,.func (.func 180) #[] #[.pointer (some ⟨b,0,none⟩)]] w (ZL w (.int .i64 (Zcm (λx=>Zu x.key hl hh lo hi) xs))):=by
 obtain⟨-,hcp,hm⟩:=Zq h;obtain⟨n,hxn⟩:∃n,xs.length=n:=⟨_,rfl⟩
 have HN:=zh hxn;rw[hxn] at hcp⊢
 clear hxn
 unfold maxLen at hm
 have HR:=zh hR;clear hR;go_enter Tryz.func177,Tryz.ntmps177
 go_wp2;go_loopw [8] (λi wr=>∃k:Nat,k≤n∧i=.int .i64 k∧ZaQ (λx:TItem=>Zu x.key hl hh lo hi) xs k=true∧Below w.heap.size w wr) (λi _=>n-(intOf i).toNat)
 case atStart=>exact⟨0,Nat.zero_le _,rfl,Zbu _ _,Below.refl _ _⟩
 case round =>
  obtain⟨k,hk,rfl,hno,hB⟩:=hrel;have HO:=zh hno;clear hno;have hbr:b<wr.heap.size:=Nat.lt_of_lt_of_le hb hB.size
  by_cases hlt:k<n
  ·have hkx:k<xs.length:=by rw[HN.out];exact hlt
   obtain⟨g,o,A3,c3,F3,rfl,hgF,hgw,hok3,q0,q1,q2,q3,-,-⟩:=ZaO (zb h hB) hkx
   have hcl:=fun (W:World) (hW:W.heap[b]?=wr.heap[b]?) (hbW:b<W.heap.size)=>Zjb xs[k] (.slice A3 xs[k].rcd.fields.length c3) b lo hi hl hh W ((HR.out.keep (hB.block b hb)).keep hW) hbW hok3.h2 hlo hhi
   cases he:Zu xs[k].key hl hh lo hi
   ·rw[he] at hcl
    have HI:=zh he;go_wp2_with fail;refine(hcl _ rfl hbr).mono ?_
    rintro e w1 ⟨rfl,hb1⟩;go_wp2_with fail;go_roundw
    case rel=>exact⟨k+1,by omega,by go_num,Zbt _ xs k hkx HO.out HI.out,Za hB hb1⟩
    case measure=>simp[intOf];omega
   ·rw[he] at hcl
    have HI:=zh (ZcY (λx:TItem=>Zu x.key hl hh lo hi) xs k hkx HO.out he)
    go_wp2_with fail;refine(hcl _ rfl hbr).mono ?_
    rintro e w1 ⟨rfl,hb1⟩;go_wp2_with fail;go_ret
    exact⟨Zh HI.out.symm,Za hB hb1⟩
  ·obtain rfl:k=n:=by omega
   have HI:=zh (Zcp (λx:TItem=>Zu x.key hl hh lo hi) xs (by rw[HN.out];exact HO.out))
   go_wp2;go_ret
   exact⟨Zh HI.out.symm,bl⟩
def ZpJ (c:Cod TItem) (T:TypeId) (B:Nat) (w:World) (v:Value) (A:Option Addr) (cp:Nat) (zs:List TItem) (Fi:List Nat) (e:Ending) (w':World):Prop :=
 ∃F',e=.returned (.slice A zs.length cp)∧Own c T B w' (.slice A zs.length cp) zs F'∧F'.Sublist Fi∧w.grownBy w' (Zac v)
theorem Zpd {B:Nat} {u:Value} {w w':World} {g n cp:Nat} {ys:List TItem} {Fi:List Nat} (h:Own cItem 162 B w (.slice (some ⟨g,0,none⟩) n cp) ys Fi) (hg:∀g',Zac (.slice (some ⟨g,0,none⟩) n cp)=some g'→g'∉Fi) {q j:Nat} (hq:q<ys.length) (hj:j<ys.length)
  (hw':w'=(((w.setCell ⟨g,q*4,none⟩ (.int .i64 ys[j].key.kind)).setCell ⟨g,q*4+1,none⟩ (.int .i64 ys[j].key.n)).setCell ⟨g,q*4+2,none⟩ (.string ys[j].key.text)).setCell ⟨g,q*4+3,none⟩ u)
  (hcell:w.cell? ⟨g,j*4+3,none⟩=some u):∃F',Own cItem 162 B w' (.slice (some ⟨g,0,none⟩) n cp) (ys.set q ys[j]) F'∧∀b,b∈F'→b∈Fi:=by
 obtain⟨g2,H1,Hm,H2,vs2,hA2,-,-,-,-,hgo2,hF2,hr2,hc2,-,-⟩:=h.put1 (by decide) hj 3 (by decide) (.slice none 0 0)
 obtain rfl:g=g2:=by injection hA2 with hA2;injection hA2
 obtain⟨v3,F3,rfl,rfl,hok,hr3⟩:=TItem.out hr2
 have hu3:u=v3:=by
  have h9:=hc2 3 (by decide)
  have h8:w.cell? ⟨g,j*4+3,none⟩=some v3:=h9
  exact Option.some.inj (hcell.symm.trans h8)
 subst hu3;obtain⟨g1,cur,vs1,F1,Fm,F2,hA1,hcp0,hnc,hcm,hgo1,hB1,hblk,hF1,hr1,hsz,hcur,hupd⟩:=h.upd (by decide) hq
 obtain rfl:g=g1:=by injection hA1 with hA1;injection hA1
 have hgn:g∉Fi:=hg g hgo1
 have hvl:=cItem.len hr1
 have hblk':Blk w' g 162 ((((cur.setIfInBounds (q*4) (.int .i64 ys[j].key.kind)).setIfInBounds (q*4+1) (.int .i64 ys[j].key.n)).setIfInBounds (q*4+2) (.string ys[j].key.text)).setIfInBounds (q*4+3) u):=by
  rw[hw'];exact(((hblk.set_ _ _).set_ _ _).set_ _ _).set_ _ _
 have hkeep:∀b,b≠g→w'.heap[b]?=w.heap[b]?:=λb hb=>by
  rw[hw']
  exact(Below.heap_setCell _ _ _ _ hb).trans ((Below.heap_setCell _ _ _ _ hb).trans ((Below.heap_setCell _ _ _ _ hb).trans (Below.heap_setCell _ _ _ _ hb)))
 have hsz4:q*4+4≤cur.size:=hsz
 refine⟨F1++(Hm++F2),hupd w' _ [.int .i64 ys[j].key.kind,.int .i64 ys[j].key.n,.string ys[j].key.text,u] ys[j] Hm hblk' (by simp) (λo ho=>?_) (λi hi=>?_) (Cod.keep _ (TItem.mk_ hok hr3) λb hb=>hkeep b λe=>hgn (by rw[← e,hF2];simp[hb])) (λb hb=>hkeep b λe=>hgn (by rw[← e,hF1];rcases hb with hb|hb<;>simp[hb])),λb hb=>?_⟩
 ·have ho':o<q*4∨q*4+4≤o:=ho
  rw[Array.getElem?_setIfInBounds_ne (by omega),Array.getElem?_setIfInBounds_ne (by omega),Array.getElem?_setIfInBounds_ne (by omega),Array.getElem?_setIfInBounds_ne (by omega)]
 ·have hi':i<4:=hi
  show _=_
  rw[show q*cItem.wd+i=q*4+i from rfl]
  have h5:i=0∨i=1∨i=2∨i=3:=by omega
  rcases h5 with rfl|rfl|rfl|rfl
  ·simp[Array.getElem?_setIfInBounds];omega
  ·simp[Array.getElem?_setIfInBounds];omega
  ·simp[Array.getElem?_setIfInBounds];omega
  ·simp[Array.getElem?_setIfInBounds];omega
 ·rcases List.mem_append.1 hb with hb|hb
  ·rw[hF1];simp[hb]
  ·rcases List.mem_append.1 hb with hb|hb
   ·rw[hF2];simp[hb]
   ·rw[hF1];simp[hb]
theorem Zgl {α:Type} {c:Cod α} (hf:Flat c) {w:World}:∀{us:List Value} {xs:List α} {F:List Nat},c.reps w us xs F→F=[]
 | _,[],_,h=>h.2
 | _,_::_,_,⟨_,_,_,_,_,hF,h1,h2⟩=>by rw[hF,hf h1,Zgl hf h2];rfl
theorem Zly {w w':World} {v:Value} {xs:List TField} {F F':List Nat} (h:cFieldS.rep w [v] xs F) (h':cFieldS.rep w' [v] xs F'):F=F':=by
 obtain⟨A,cp,hv,-,-,hr⟩:=h;obtain⟨A',cp',hv',-,-,hr'⟩:=h'
 have hA:A=A':=by
  rw[hv] at hv'
  simp only[List.cons.injEq,Value.slice.injEq,and_true,true_and] at hv'
  exact hv'.1
 rcases hr with ⟨h1,h2⟩|⟨hne,g,o,Fs,us,hA1,hF,-,hrs⟩
 ·rcases hr' with ⟨-,h4⟩|⟨hne',-⟩
  ·rw[h2,h4]
  ·exact absurd h1 hne'
 ·rcases hr' with ⟨h3,-⟩|⟨-,g',o',Fs',us',hA2,hF',-,hrs'⟩
  ·exact absurd h3 hne
  ·rw[hF,hF',Zgl Zci hrs,Zgl Zci hrs']
   rw[hA1,hA2] at hA
   injection hA with hA
   injection hA with hA
   rw[hA]
theorem ZnW {w w':World} {vs:List Value} {x:TItem} {F F':List Nat} (h:cItem.rep w vs x F) (h':cItem.rep w' vs x F'):F=F':=by
 obtain⟨v3,F3,e,rfl,-,r⟩:=TItem.out h;obtain⟨v3',F3',e',rfl,-,r'⟩:=TItem.out h';rw[e] at e'
 simp only[List.cons.injEq,and_true,true_and] at e'
 rw[← e'] at r'
 exact Zly r r'
theorem Zjl {w w':World}:∀{us:List Value} {xs:List TItem} {F F':List Nat},cItem.reps w us xs F→cItem.reps w' us xs F'→F=F'
 | _,[],_,_,h,h'=>h.2.trans h'.2.symm
 | _,x::xs,_,_,⟨v1,v2,F1,F2,hu,hF,h1,h2⟩,⟨v1',v2',F1',F2',hu',hF',h1',h2'⟩=>by
  have hl:=cItem.len h1;have hl':=cItem.len h1';obtain⟨e1,e2⟩:=List.append_inj (hu.symm.trans hu') (by rw[hl,hl'])
  subst e1;subst e2;rw[hF,hF',ZnW h1 h1',Zjl h2 h2']
def AtCells (w:World) (g a:Nat) (vs:List Value):Prop:=∀i u,vs[i]?=some u→w.cell? ⟨g,a+i,none⟩=some u
def Live (w:World) (g q j n:Nat) (ys:List TItem) (Fi:List Nat):Prop :=
 ∃(v1 v2:List Value) (G:List Nat),v1.length=q*4∧v2.length=(n-j)*4∧AtCells w g 0 v1∧AtCells w g (j*4) v2∧cItem.reps w (v1++v2) (ys.take q++ys.drop j) G∧G.Sublist Fi
theorem AtCells.bel {w w':World} {g a:Nat} {vs:List Value} (h:AtCells w g a vs) (hg:g<w.heap.size) (hb:Below w.heap.size w w'):AtCells w' g a vs:=λi u hi=>zcl hb (h i u hi)
theorem Live.bel {w w':World} {g q j n:Nat} {ys:List TItem} {Fi:List Nat} (h:Live w g q j n ys Fi) (hg:g<w.heap.size) (hb:Below w.heap.size w w'):Live w' g q j n ys Fi:=by
 obtain⟨v1,v2,G,h1,h2,h3,h4,h5,h6⟩:=h;exact⟨v1,v2,G,h1,h2,h3.bel hg hb,h4.bel hg hb,Cod.reps_bel h5 hb,h6⟩
theorem ZkR {B:Nat} {w:World} {g n cp:Nat} {xs:List TItem} {Fi:List Nat} (h:Own cItem 162 B w (.slice (some ⟨g,0,none⟩) n cp) xs Fi) (hx:0<xs.length) :
  ∃us,us.length=xs.length*4∧AtCells w g 0 us∧cItem.reps w us xs Fi:=by
 rcases h.form with ⟨rfl,-⟩|⟨g',cap,cur,us,hv,-,-,-,-,-,-,ho,hr⟩
 ·simp at hx
 ·simp only[Value.slice.injEq,Option.some.injEq,Addr.mk.injEq] at hv
  obtain⟨⟨rfl,-⟩,rfl,rfl⟩:=hv;refine⟨us,Cod.reps_len hr,λi u hi=>?_,hr⟩
  have hj:=(List.getElem?_eq_some_iff.1 hi).1
  rw[ho.1] at hj
  rw[Nat.zero_add]
  exact(ho.cellAt i hj).trans hi
theorem Zng {B:Nat} {w:World} {g n cp:Nat} {xs:List TItem} {Fi:List Nat} (h:Own cItem 162 B w (.slice (some ⟨g,0,none⟩) n cp) xs Fi) (hn:xs.length=n) {k:Nat} (hk:k<xs.length):Live w g k (k+1) n xs Fi:=by
 obtain⟨us,hul,hat,hr⟩:=ZkR h (by omega)
 rw[← List.take_append_drop k xs] at hr
 obtain⟨u1,u2,F1,F2,rfl,rfl,r1,r2⟩:=Cod.reps_cut hr;rw[List.drop_eq_getElem_cons hk] at r2
 obtain⟨u3,u4,F3,F4,rfl,rfl,r3,r4⟩:=r2;have l1:=Cod.reps_len r1;have l3:=cItem.len r3;have l4:=Cod.reps_len r4;rw[List.length_take,Nat.min_eq_left (by omega)] at l1
 rw[List.length_drop] at l4
 have hw:cItem.wd=4:=rfl
 rw[hw] at l1 l3 l4
 refine⟨u1,u4,F1++F4,l1,by rw[l4,hn],λi u hi=>hat i u ?_,λi u hi=>?_,Cod.reps_app r1 r4,?_⟩
 ·rw[List.getElem?_append_left (List.getElem?_eq_some_iff.1 hi).1];exact hi
 ·have h9:=hat (u1.length+(u3.length+i)) u (by rw[List.getElem?_append_right (by omega),List.getElem?_append_right (by omega)];rw[show u1.length+(u3.length+i)-u1.length-u3.length=i by omega];exact hi)
  rw[show 0+(u1.length+(u3.length+i))=(k+1)*4+i by omega] at h9
  exact h9
 ·exact(List.Sublist.refl F1).append (List.sublist_append_right F3 F4)
theorem Zod {w:World} {g q j n:Nat} {ys:List TItem} {Fi:List Nat} (h:Live w g q j n ys Fi) (hj:j<n) (hn:ys.length=n):Live w g q (j+1) n ys Fi:=by
 obtain⟨v1,v2,G,h1,h2,h3,h4,h5,h6⟩:=h;obtain⟨u1,u2,F1,F2,e,rfl,r1,r2⟩:=Cod.reps_cut h5;rw[List.drop_eq_getElem_cons (by omega:j<ys.length)] at r2
 obtain⟨u3,u4,F3,F4,rfl,rfl,r3,r4⟩:=r2;have l1:=Cod.reps_len r1;have l3:=cItem.len r3;have hw:cItem.wd=4:=rfl
 rw[hw] at l1 l3
 have hq:(ys.take q).length*4=q*4:=by
  have h9:=congrArg List.length e;rw[List.length_append,List.length_append,List.length_append] at h9
  have l4:=Cod.reps_len r4;rw[List.length_drop,hw] at l4
  omega
 obtain⟨e1,e2⟩:=List.append_inj e (by omega)
 subst e1;subst e2;rw[List.length_append] at h2
 refine⟨v1,u4,F1++F4,h1,by omega,h3,λi u hi=>?_,Cod.reps_app r1 r4,((List.Sublist.refl F1).append (List.sublist_append_right F3 F4)).trans h6⟩
 have h9:=h4 (u3.length+i) u (by rw[List.getElem?_append_right (by omega)];rw[show u3.length+i-u3.length=i by omega];exact hi)
 rw[show j*4+(u3.length+i)=(j+1)*4+i by omega] at h9
 exact h9
theorem Zoc {w w':World} {g q j n:Nat} {ys:List TItem} {Fi:List Nat} {a0 a1 a2 a3:Value} (h:Live w g q j n ys Fi) (hqj:q<j) (hj:j<n) (hn:ys.length=n) (hg:g∉Fi)
  (c0:w.cell? ⟨g,j*4,none⟩=some a0) (c1:w.cell? ⟨g,j*4+1,none⟩=some a1) (c2:w.cell? ⟨g,j*4+2,none⟩=some a2) (c3:w.cell? ⟨g,j*4+3,none⟩=some a3)
  (b0:w'.cell? ⟨g,q*4,none⟩=some a0) (b1:w'.cell? ⟨g,q*4+1,none⟩=some a1) (b2:w'.cell? ⟨g,q*4+2,none⟩=some a2) (b3:w'.cell? ⟨g,q*4+3,none⟩=some a3)
  (ho:∀i,i<q*4∨q*4+4≤i→w'.cell? ⟨g,i,none⟩=w.cell? ⟨g,i,none⟩) (hk:∀b,b≠g→w'.heap[b]?=w.heap[b]?):Live w' g (q+1) (j+1) n (ys.set q (ys[j]'(by omega))) Fi:=by
 obtain⟨v1,v2,G,h1,h2,h3,h4,h5,h6⟩:=h;obtain⟨x0,v2,rfl⟩:=List.exists_cons_of_length_pos (show 0<v2.length by omega)
 rw[List.length_cons] at h2
 obtain⟨x1,v2,rfl⟩:=List.exists_cons_of_length_pos (show 0<v2.length by omega)
 rw[List.length_cons] at h2
 obtain⟨x2,v2,rfl⟩:=List.exists_cons_of_length_pos (show 0<v2.length by omega)
 rw[List.length_cons] at h2
 obtain⟨x3,v2,rfl⟩:=List.exists_cons_of_length_pos (show 0<v2.length by omega)
 rw[List.length_cons] at h2
 obtain rfl:a0=x0:=Option.some.inj (c0.symm.trans (h4 0 x0 rfl))
 obtain rfl:a1=x1:=Option.some.inj (c1.symm.trans (h4 1 x1 rfl))
 obtain rfl:a2=x2:=Option.some.inj (c2.symm.trans (h4 2 x2 rfl))
 obtain rfl:a3=x3:=Option.some.inj (c3.symm.trans (h4 3 x3 rfl))
 refine⟨v1++[a0,a1,a2,a3],v2,G,by rw[List.length_append,h1];simp;omega,by omega,λi u hi=>?_,λi u hi=>?_,?_,h6⟩
 ·rw[Nat.zero_add]
  by_cases hi1:i<q*4
  ·rw[List.getElem?_append_left (by omega)] at hi
   rw[ho i (.inl hi1)]
   have h9:=h3 i u hi;rwa [Nat.zero_add] at h9
  ·rw[List.getElem?_append_right (by omega),h1] at hi
   obtain⟨t,rfl⟩:∃t,i=q*4+t:=⟨i-q*4,by omega⟩
   rw[Nat.add_sub_cancel_left] at hi
   have ht:=(List.getElem?_eq_some_iff.1 hi).1
   have ht4:t=0∨t=1∨t=2∨t=3:=by
    have h9:t<4:=ht
    omega
   rcases ht4 with rfl|rfl|rfl|rfl
   ·obtain rfl:a0=u:=Option.some.inj hi
    exact b0
   ·obtain rfl:a1=u:=Option.some.inj hi
    exact b1
   ·obtain rfl:a2=u:=Option.some.inj hi
    exact b2
   ·obtain rfl:a3=u:=Option.some.inj hi
    exact b3
 ·rw[ho _ (.inr (by omega))]
  have h9:=h4 (i+4) u hi
  rw[show j*4+(i+4)=(j+1)*4+i by omega] at h9
  exact h9
 ·have hjx:j<ys.length:=by omega
  have e1:(ys.set q ys[j]).take (q+1)++(ys.set q ys[j]).drop (j+1)=ys.take q++ys.drop j:=by
   have hqx:q<(ys.set q ys[j]).length:=by rw[List.length_set];omega
   rw[List.take_succ_eq_append_getElem hqx,List.getElem_set_self,List.take_set_of_le (Nat.le_refl _),List.drop_set_of_lt (by omega),List.drop_eq_getElem_cons hjx,List.append_assoc]
   rfl
  rw[e1,List.append_assoc]
  exact Cod.reps_keep h5 λb hb=>hk b λe=>hg (e ▸ h6.subset hb)
theorem Znf {w w':World} {g q j n:Nat} {ys:List TItem} {Fi:List Nat} {a0 a1 a2 a3 u0 u1 u2 u3:Value} (h:Live w g q j n ys Fi) (hqj:q<j) (hj:j<n) (hn:ys.length=n) (hg:g∉Fi)
  (c0:w.cell? ⟨g,j*4,none⟩=some a0) (c1:w.cell? ⟨g,j*4+1,none⟩=some a1) (c2:w.cell? ⟨g,j*4+2,none⟩=some a2) (c3:w.cell? ⟨g,j*4+3,none⟩=some a3)
  (k0:w.cell? ⟨g,q*4,none⟩=some u0) (k1:w.cell? ⟨g,q*4+1,none⟩=some u1) (k2:w.cell? ⟨g,q*4+2,none⟩=some u2) (k3:w.cell? ⟨g,q*4+3,none⟩=some u3)
  (hw':w'=(((w.setCell ⟨g,q*4,none⟩ a0).setCell ⟨g,q*4+1,none⟩ a1).setCell ⟨g,q*4+2,none⟩ a2).setCell ⟨g,q*4+3,none⟩ a3):Live w' g (q+1) (j+1) n (ys.set q (ys[j]'(by omega))) Fi:=by
 have ne:∀(W:World) (i j:Nat) (v:Value),i≠j→(W.setCell ⟨g,i,none⟩ v).cell? ⟨g,j,none⟩=W.cell? ⟨g,j,none⟩:=λW i j v h=>World.cell?_setCell_other W ⟨g,i,none⟩ ⟨g,j,none⟩ v (λe=>h (by injection e))
 refine Zoc h hqj hj hn hg c0 c1 c2 c3 ?_ ?_ ?_ ?_ (λi hi=>?_) (λb hb=>?_)
 ·rw[hw',ne _ _ _ _ (by omega),ne _ _ _ _ (by omega),ne _ _ _ _ (by omega)];exact cell?_set_same k0
 ·rw[hw',ne _ _ _ _ (by omega),ne _ _ _ _ (by omega)];exact cell?_set_same ((ne _ _ _ _ (by omega)).trans k1)
 ·rw[hw',ne _ _ _ _ (by omega)];exact cell?_set_same ((ne _ _ _ _ (by omega)).trans ((ne _ _ _ _ (by omega)).trans k2))
 ·rw[hw'];exact cell?_set_same ((ne _ _ _ _ (by omega)).trans ((ne _ _ _ _ (by omega)).trans ((ne _ _ _ _ (by omega)).trans k3)))
 ·rw[hw',ne _ _ _ _ (by omega),ne _ _ _ _ (by omega),ne _ _ _ _ (by omega),ne _ _ _ _ (by omega)]
 ·rw[hw']
  exact(Below.heap_setCell _ _ _ _ hb).trans ((Below.heap_setCell _ _ _ _ hb).trans ((Below.heap_setCell _ _ _ _ hb).trans (Below.heap_setCell _ _ _ _ hb)))
theorem ZoW {B:Nat} {w:World} {g q n cp:Nat} {ys:List TItem} {Fi G1:List Nat} (h:Live w g q n n ys Fi) (ho:Own cItem 162 B w (.slice (some ⟨g,0,none⟩) q cp) (ys.take q) G1) (hq:q≤ys.length) (hn:ys.length=n):G1.Sublist Fi:=by
 obtain⟨v1,v2,G,h1,h2,h3,-,h5,h6⟩:=h;have hv2:v2=[]:=List.eq_nil_of_length_eq_zero (by omega)
 subst hv2;rw[List.append_nil,show ys.drop n=[] from by rw[← hn];simp,List.append_nil] at h5
 by_cases h0:q=0
 ·subst h0
  rcases ho with ⟨-,rfl,-⟩|⟨us,-,hr⟩
  ·exact List.nil_sublist _
  ·have h9:cItem.reps w us [] G1:=hr
   rw[h9.2];exact List.nil_sublist _
 ·have hlt:(ys.take q).length=q:=by rw[List.length_take];omega
  obtain⟨us,hul,hat,hr⟩:=ZkR ho (by omega)
  have hus:us=v1:=by
   refine List.ext_getElem (by omega) λi hi1 hi2=>?_
   have k1:=hat i us[i] (List.getElem?_eq_getElem hi1)
   have k2:=h3 i v1[i] (List.getElem?_eq_getElem hi2)
   exact Option.some.inj (k1.symm.trans k2)
  subst hus;rw[Zjl hr h5]
  exact h6
theorem ZlA {w w':World} (h:Below w.heap.size w w') (row:Option Nat):w.grownBy w' row:=⟨h.os,h.tape,h.output,h.size,λb hb _=>h.block b hb⟩
theorem ZmX {w w':World} {g:Nat} (h:Only [g] w w'):w.grownBy w' (some g):=⟨h.os,h.tape,h.output,h.size,λb hb hne=>h.block b hb (by simp;intro e;exact hne (by rw[e]))⟩
theorem ZpY {α:Type} {xs ys:List α} {j:Nat} (h:ys.drop j=xs.drop j) (h1:j<ys.length) (h2:j<xs.length):ys[j]=xs[j]:=by
 have h3:=congrArg (λl=>l[0]?) h
 simp only[List.getElem?_drop,Nat.add_zero,List.getElem?_eq_getElem h1,List.getElem?_eq_getElem h2,Option.some.injEq] at h3
 exact h3
theorem Zhd (A:Option Addr) (n cp b:Nat) (xs:List TItem) (lo hi:TKey) (hl hh:Bool) (Fi:List Nat) (B:Nat) (w:World) (h:Own cItem 162 B w (.slice A n cp) xs Fi) (hne:∀g,Zac (.slice A n cp)=some g→g∉Fi∧g≠b) (hxn:xs.length=n) (hn:n≤1048576) (hR:RngAt w b hl hh lo hi) (hb:b<w.heap.size) (hlo:lo.text.size≤maxLen) (hhi:hi.text.size≤maxLen) (hB:B≤w.heap.size) :
  Calls Tryz.prog 179 #[.slice A n cp,.func (.func 180) #[] #[.pointer (some ⟨b,0,none⟩)]] w (ZpJ cItem 162 B w (.slice A n cp) A cp (xs.filter (λx=>!Zu x.key hl hh lo hi)) Fi):=by
 obtain⟨F,hr,-,-⟩:=h.rep (hw:=by decide) (hw2:=by decide)
 replace hr:cItemS.rep w [.slice A n cp] xs F:=hr
 obtain⟨-,hncp,hcpm⟩:=Zq hr
 unfold maxLen at hcpm
 have hidx:=ZkC A cp b xs lo hi hl hh F w (by rw[hxn];exact hr) hR hb hlo hhi
 rw[hxn] at hidx
 have HR:=zh hR;have HXN:=zh hxn
 rcases ZhK (λx:TItem=>Zu x.key hl hh lo hi) xs with ⟨h1,h2⟩|⟨k,hk,h1,h2,h3⟩
 ·rw[h1] at hidx
  have H2:=zh h2;have HH:=zh h;clear h h1 h2 hr hR hxn;go_enter Tryz.func179,Tryz.ntmps179
  go_wp2_with fail;refine hidx.mono ?_
  rintro e w1 ⟨rfl,hb1⟩;go_wp2_with fail;go_ret
  rw[H2.out]
  exact⟨Fi,by rw[HXN.out];rfl,by rw[HXN.out];exact HH.out.bel hb1,List.Sublist.refl _,ZlA hb1 _⟩
 ·rw[h1] at hidx
  obtain⟨g,-,-,-,-,rfl,-,-,hBg,hgw,hgo,-⟩:=h.put1 (by decide) hk 3 (by decide) (.slice none 0 0)
  have hgn:=hne g hgo;have H3:=zh (Zfb (p:=λx:TItem=>!Zu x.key hl hh lo hi) hk (by simp[h2]))
  have H3b:=zh h3;have HH:=zh h;have hne':∀F':List Nat,(∀b,b∈F'→b∈Fi)→∀g',Zac (.slice (some ⟨g,0,none⟩) n cp)=some g'→g'∉F':=λF' hF g' hg' hm=>(hne g' hg').1 (hF g' hm)
  have HNE:=zh hne';have hcp0:0<cp:=by omega
  clear h h1 h2 h3 hr hR hxn hne hne';have hkn:k<n:=by rw[← HXN.out];exact hk
  have hk0:¬(k:Int)=-1:=by omega
  have hki:(0:Int)≤(k:Int):=by omega
  go_enter Tryz.func179,Tryz.ntmps179
  go_wp2_with fail;refine hidx.mono ?_
  rintro e w1 ⟨rfl,hb1⟩;go_wp2_with fail;go_loopw [6,5] (λj' i' wr=>∃(q j:Nat) (ys:List TItem) (F':List Nat),j'=.int .i64 j∧i'=.int .i64 q∧q<j∧j≤n∧Own cItem 162 B wr (.slice (some ⟨g,0,none⟩) n cp) ys F'∧(∀b,b∈F'→b∈Fi)∧ys.length=n∧ys.take q=(xs.take j).filter (λx=>!Zu x.key hl hh lo hi)∧ys.drop j=xs.drop j∧Only [g] w wr∧Live wr g q j n ys Fi) (λj' _ _=>n-(intOf j').toNat)
  case atStart=>exact⟨k,k+1,xs,Fi,by go_num,rfl,by omega,by omega,HH.out.bel hb1,λ_ h9=>h9,HXN.out,H3b.out.symm.trans H3.out,rfl,Only.of_below hb1,(Zng HH.out HXN.out (by rw[HXN.out];exact hkn)).bel hgw hb1⟩
  case round =>
   obtain⟨q,j,ys,F',rfl,rfl,hqj,hjn,hown,hFF,hyl,htk,hdr,hon,hlive⟩:=hrel;have HL:=zh hlive;have HO:=zh (And.intro hown (And.intro hFF (And.intro htk (And.intro hdr hon))))
   have HY:=zh hyl;have hzr:=hon.size;have hbr:b<wr.heap.size:=by omega
   have hgr:g<wr.heap.size:=by omega
   have hRb:wr.heap[b]?=w.heap[b]?:=hon.block b hb (by simp;exact λe=>hgn.2 e.symm)
   have HRB:=zh hRb;have hqn:q<n:=by omega
   have hqi:(q:Int)<(n:Int):=by omega
   have hq0:(0:Int)≤(q:Int):=by omega
   clear hown hFF hyl htk hdr hon hRb hlive
   by_cases hlt:j<n
   ·have hjx:j<ys.length:=by rw[HY.out];exact hlt
    have hjxx:j<xs.length:=by rw[HXN.out];exact hlt
    have hji:(j:Int)<(n:Int):=by omega
    have HSAME:=zh (ZpY HO.out.2.2.2.1 hjx hjxx)
    obtain⟨F9,hr9,-,-⟩:=HO.out.1.rep (hw:=by decide) (hw2:=by decide)
    obtain⟨g',o',A3,c3,F3,eA,-,-,hok3,q0,q1,q2,q3,-,-⟩:=ZaO (show cItemS.rep wr [.slice (some ⟨g,0,none⟩) n cp] ys F9 from hr9) hjx
    injection eA with eA
    injection eA with e8 e9
    subst e8;subst e9;simp only[Nat.zero_add] at q0 q1 q2 q3
    clear hr9;have hgne:¬g=wr.heap.size:=by omega
    have hcl:=fun (W:World) (hW:W.heap[b]?=wr.heap[b]?) (hbW:b<W.heap.size)=>Zjb ys[j] (.slice A3 ys[j].rcd.fields.length c3) b lo hi hl hh W ((HR.out.keep HRB.out).keep hW) hbW hok3.h2 hlo hhi
    cases he:Zu ys[j].key hl hh lo hi
    ·rw[he] at hcl
     have hps:(λx:TItem=>!Zu x.key hl hh lo hi) xs[j]=true:=by show (!Zu xs[j].key hl hh lo hi)=true;rw[← HSAME.out,he];rfl
     have HS:=zh (ZhI (p:=λx:TItem=>!Zu x.key hl hh lo hi) hjxx hps)
     clear hps;go_wp2_with fail;refine(hcl _ ((ZM (Below.refl wr.heap.size wr) _).block b hbr) (by (try simp);omega)).mono ?_
     rintro e w2 ⟨rfl,hb2⟩;obtain⟨hc_w2,hf_w2,hz_w2⟩:=Zc hb2
     try simp at hz_w2
     have ha0_w2:wr.heap.size<w2.heap.size:=by omega
     have hbr2:=zt (w:=wr) hb2
     obtain⟨hrm,hfz⟩:=(HO.out.1.bel hbr2).room hcp0
     have hqc:q*4+4≤cp*4:=by omega
     obtain⟨u0,hu0⟩:=hrm (q*4) (by show q*4<cp*4;omega)
     obtain⟨u1,hu1⟩:=hrm (q*4+1) (by show q*4+1<cp*4;omega)
     obtain⟨u2,hu2⟩:=hrm (q*4+2) (by show q*4+2<cp*4;omega)
     obtain⟨u3,hu3⟩:=hrm (q*4+3) (by show q*4+3<cp*4;omega)
     have hf0:=hfz (q*4)
     have hf1:=hfz (q*4+1)
     have hf2:=hfz (q*4+2)
     have hf3:=hfz (q*4+3)
     have hj3:w2.cell? ⟨g,j*4+3,none⟩=some (.slice A3 ys[j].rcd.fields.length c3):=zcl hbr2 q3
     have HJ:=zh hj3;have HCJ:=zh (And.intro (zcl hbr2 q0) (And.intro (zcl hbr2 q1) (zcl hbr2 q2)))
     obtain⟨F5,hown5,hF5⟩:=Zpd (HO.out.1.bel hbr2) (HNE.out F' HO.out.2.1) (q:=q) (j:=j) (by rw[HY.out];exact hqn) hjx (u:=.slice A3 ys[j].rcd.fields.length c3) rfl hj3
     have H5:=zh (And.intro hown5 hF5)
     have hgw2:g<w2.heap.size:=by omega
     have x0:w2.cell? ⟨wr.heap.size,0,none⟩=some (.int .i64 ys[j].key.kind):=by go_simp
     have x1:w2.cell? ⟨wr.heap.size,1,none⟩=some (.int .i64 ys[j].key.n):=by go_simp
     have x2:w2.cell? ⟨wr.heap.size,2,none⟩=some (.string ys[j].key.text):=by go_simp
     have x3:w2.cell? ⟨wr.heap.size,3,none⟩=some (.slice A3 ys[j].rcd.fields.length c3):=by go_simp
     clear hrm hfz hown5 hF5 hj3 hc_w2 hf_w2;go_wp2_with fail;go_roundw
     case rel =>
      have hrel9:∃(q' j':Nat) (ys':List TItem) (F9':List Nat),Value.int .i64 ((j:Int)+1)=.int .i64 j'∧Value.int .i64 ((q:Int)+1)=.int .i64 q'∧q'<j'∧j'≤n∧Own cItem 162 B ((((w2.setCell ⟨g,q*4,none⟩ (.int .i64 ys[j].key.kind)).setCell ⟨g,q*4+1,none⟩ (.int .i64 ys[j].key.n)).setCell ⟨g,q*4+2,none⟩ (.string ys[j].key.text)).setCell ⟨g,q*4+3,none⟩ (.slice A3 ys[j].rcd.fields.length c3)) (.slice (some ⟨g,0,none⟩) n cp) ys' F9'∧(∀b,b∈F9'→b∈Fi)∧ys'.length=n∧ys'.take q'=(xs.take j').filter (λx=>!Zu x.key hl hh lo hi)∧ys'.drop j'=xs.drop j'∧Only [g] w ((((w2.setCell ⟨g,q*4,none⟩ (.int .i64 ys[j].key.kind)).setCell ⟨g,q*4+1,none⟩ (.int .i64 ys[j].key.n)).setCell ⟨g,q*4+2,none⟩ (.string ys[j].key.text)).setCell ⟨g,q*4+3,none⟩ (.slice A3 ys[j].rcd.fields.length c3))∧Live ((((w2.setCell ⟨g,q*4,none⟩ (.int .i64 ys[j].key.kind)).setCell ⟨g,q*4+1,none⟩ (.int .i64 ys[j].key.n)).setCell ⟨g,q*4+2,none⟩ (.string ys[j].key.text)).setCell ⟨g,q*4+3,none⟩ (.slice A3 ys[j].rcd.fields.length c3)) g q' j' n ys' Fi:=by
       refine⟨q+1,j+1,ys.set q ys[j],F5,by go_num,by go_num,by omega,by omega,H5.out.1,λb9 h9=>HO.out.2.1 b9 (H5.out.2 b9 h9),by rw[List.length_set];exact HY.out,?_,?_,?_,?_⟩
       ·have h8:(ys.set q ys[j]).take (q+1)=ys.take q++[ys[j]]:=by
         rw[List.take_succ_eq_append_getElem (by rw[List.length_set,HY.out];exact hqn),List.getElem_set_self,List.take_set_of_le (Nat.le_refl _)]
        rw[h8,HO.out.2.2.1,HSAME.out];exact HS.out
       ·rw[List.drop_set_of_lt (by omega),← List.drop_drop,← List.drop_drop (l:=xs),HO.out.2.2.2.1]
       ·exact((((((HO.out.2.2.2.2.trans (Only.of_below hbr2)).set_ (by simp) _).set_ (by simp) _).set_ (by simp) _).set_ (by simp) _))
       ·exact Znf (HL.out.bel hgr hbr2) hqj hlt HY.out hgn.1 HCJ.out.1 HCJ.out.2.1 HCJ.out.2.2 HJ.out hu0 hu1 hu2 hu3 rfl
      first|exact hrel9|((repeat apply Exists.intro);exact⟨hrel9,rfl⟩)
     case measure=>simp[intOf];omega
    ·rw[he] at hcl
     have hps:(λx:TItem=>!Zu x.key hl hh lo hi) xs[j]=false:=by show (!Zu xs[j].key hl hh lo hi)=false;rw[← HSAME.out,he];rfl
     have HS:=zh (Zfb (p:=λx:TItem=>!Zu x.key hl hh lo hi) hjxx hps)
     clear hps;go_wp2_with fail;refine(hcl _ ((ZM (Below.refl wr.heap.size wr) _).block b hbr) (by (try simp);omega)).mono ?_
     rintro e w2 ⟨rfl,hb2⟩;have hbr2:=zt (w:=wr) hb2
     go_wp2_with fail;go_roundw
     case rel =>
      have hrel9:∃(q' j':Nat) (ys':List TItem) (F9':List Nat),Value.int .i64 ((j:Int)+1)=.int .i64 j'∧Value.int .i64 (q:Int)=.int .i64 q'∧q'<j'∧j'≤n∧Own cItem 162 B w2 (.slice (some ⟨g,0,none⟩) n cp) ys' F9'∧(∀b,b∈F9'→b∈Fi)∧ys'.length=n∧ys'.take q'=(xs.take j').filter (λx=>!Zu x.key hl hh lo hi)∧ys'.drop j'=xs.drop j'∧Only [g] w w2∧Live w2 g q' j' n ys' Fi:=⟨q,j+1,ys,F',by go_num,rfl,by omega,by omega,HO.out.1.bel hbr2,HO.out.2.1,HY.out,HO.out.2.2.1.trans HS.out,by rw[← List.drop_drop,← List.drop_drop (l:=xs),HO.out.2.2.2.1],HO.out.2.2.2.2.trans (Only.of_below hbr2),Zod (HL.out.bel hgr hbr2) hlt HY.out⟩
      first|exact hrel9|((repeat apply Exists.intro);exact⟨hrel9,rfl⟩)
     case measure=>simp[intOf];omega
   ·obtain rfl:n=j:=by omega
    have hfull:xs.filter (λx=>!Zu x.key hl hh lo hi)=ys.take q:=by
     rw[HO.out.2.2.1,List.take_of_length_le (by rw[HXN.out];exact Nat.le_refl _)]
    have hlq:(ys.take q).length=q:=by rw[List.length_take,HY.out];omega
    have HF:=zh (And.intro hfull hlq)
    obtain⟨g2,G1,G2,-,-,-,-,hq1,-,hsub,-,-,-,-,-⟩:=HO.out.1.split (by decide) (k:=q) (j:=q) (Nat.le_refl _) (by rw[HY.out];omega) (by rw[HY.out];omega)
    obtain⟨hrm,hfz⟩:=HO.out.1.room hcp0;have hgG:g∉G1:=λhm=>HNE.out F' HO.out.2.1 g hgo (hsub.subset (by simp[hm]))
    have hcl9:∀ty,(Builtin.clear_ #[122] ty #[.slice (some ⟨g,q*4,none⟩) (n-q) (cp-q)]).run Tryz.prog wr=.ok (.tuple #[]) (wr.setCells g (q*4) (Builtin.zeroCells (Value.agg #[.int .i64 0,.int .i64 0,.string ⟨#[]⟩,.slice none 0 0]).cells (n-q)).toList) :=
     λty=>Zkc wr _ 162 ty _ Tryz.underlying122 Tryz.zeroValue162 g (q*4) (n-q) (cp-q) (by omega) (ZoD _) (λj hj=>hrm _ (by rw[Zpn] at hj;show q*4+j<cp*4;omega)) (λj=>hfz _)
    have hfin:Own cItem 162 B (wr.setCells g (q*4) (Builtin.zeroCells (Value.agg #[.int .i64 0,.int .i64 0,.string ⟨#[]⟩,.slice none 0 0]).cells (n-q)).toList) (.slice (some ⟨g,0,none⟩) q cp) (ys.take q) G1:=ZgL hgG _ _ _ (show (ys.take q).length*4≤q*4 by rw[hlq];exact Nat.le_refl _) hq1
    have hon9:=ZfA g (Builtin.zeroCells (Value.agg #[.int .i64 0,.int .i64 0,.string ⟨#[]⟩,.slice none 0 0]).cells (n-q)).toList (q*4) wr w HO.out.2.2.2.2
    have HX:=zh (And.intro hfin (And.intro hon9 (ZoW HL.out hq1 (by rw[HY.out];omega) HY.out)))
    have hcq:¬cp=q:=by omega
    have hqn9:q≤n:=by omega
    have hqc:q≤cp:=by omega
    have hji:¬(n:Int)<(n:Int):=by omega
    clear hfull hlq hq1 hsub hrm hfz hfin hon9;generalize wr.setCells g (q*4) (Builtin.zeroCells (Value.agg #[.int .i64 0,.int .i64 0,.string ⟨#[]⟩,.slice none 0 0]).cells (n-q)).toList=w9 at *
    go_wp2_with fail;go_ret
    rw[HF.out.1]
    exact⟨G1,by rw[HF.out.2];rfl,by rw[HF.out.2];exact HX.out.1,HX.out.2.2,by rw[hgo];exact ZmX HX.out.2.1⟩
theorem Zdg (v:Value) (s:TStore) (lo hi:TKey) (hl hh:Bool) (F:List Nat) (w:World) (h:cItemS.rep w [v] s.items F) (hok:s.Ok) (hlo:lo.text.size≤maxLen) (hhi:hi.text.size≤maxLen) (hsm0:ZcE s) :
  Calls Tryz.prog 157 #[.agg #[.string s.name,v,.int .i64 s.auto],.agg #[.bool hl,.bool hh,.int .i64 lo.kind,.int .i64 lo.n,.string lo.text,.int .i64 hi.kind,.int .i64 hi.n,.string hi.text]] w (GivesR2 cStore w (ZD s hl hh lo hi).1 (.int .i64 (ZD s hl hh lo hi).2)):=by
 obtain⟨A,cp,rfl⟩:=Zb h;obtain⟨-,hcp,hm⟩:=Zq h;have hnl:=hsm0.1
 unfold maxLen at hm
 go_enter Tryz.func157,Tryz.ntmps157
 go_wp2_with fail;refine(ZI #[_,_,_] s F _ (by exact TStore.mk_ hok (zb h)) hsm0).mono ?_
 intro e w1 hcr;obtain⟨B1,c1,Fi,rfl,hb1,-,ho1,hf1,hne1⟩:=Zox hcr;clear hcr;obtain⟨hc_w1,hf_w1,hz_w1⟩:=Zc hb1
 try simp at hz_w1
 obtain⟨ha0_w1,ha1_w1,ha2_w1⟩:=zg3 w.heap.size w1.heap.size;have hb_w1:=zt (w:=w) hb1
 have hlt1:=λg (hg:Zac (.slice B1 s.items.length c1)=some g)=>ho1.lt g hg
 have HO1:=zh (show Own cItem 162 (w.heap.size+3) w1 (.slice B1 s.items.length c1) s.items Fi∧Fresh (w.heap.size+3) Fi∧(∀g,Zac (.slice B1 s.items.length c1)=some g→g∉Fi∧w.heap.size+3≤g∧g<w1.heap.size) from ⟨ho1.mono (by (try simp);(try omega)),hf1.mono (by (try simp);(try omega)),λg hg=>⟨hne1 g hg,by have h9:=(hlt1 g hg).1;(try simp at h9);omega,(hlt1 g hg).2⟩⟩)
 clear ho1 hf1 hne1 hlt1;go_wp2_with fail;refine(Zag _ s F _ (by exact zb h) hok.h0).mono ?_
 cases e1:Zs s
 ·have HOFF:=zh (ZnK (hl:=hl) (hh:=hh) (lo:=lo) (hi:=hi) e1)
  rintro e w2 ⟨rfl,hb2⟩;obtain⟨hc_w2,hf_w2,hz_w2⟩:=Zc hb2
  try simp at hz_w2
  obtain⟨ha0_w2,ha1_w2,ha2_w2⟩:=zg3 w.heap.size w2.heap.size;have ha3_w2:w1.heap.size<w2.heap.size:=by omega
  have hb_w2:=zt (w:=w) hb2
  have hb12:=zt (w:=w1) hb2
  obtain⟨FR9,hr9,hw9,hn9⟩:=(HO1.out.1.bel hb12).rep (hw:=by decide) (hw2:=by decide)
  have hnd9:FR9.Nodup:=hn9 (λg hg=>(HO1.out.2.2 g hg).1) HO1.out.2.1.2
  have hlow:∀b,b∈FR9→w.heap.size+3≤b:=λb hb=>(hw9 b hb).elim (λh9=>(HO1.out.2.2 b h9).2.1) (λh9=>HO1.out.2.1.1 b h9)
  have HP:=zh hr9;have HND:=zh hnd9;clear hr9 hw9 hn9;go_wp2_with fail;refine bodyPost_ret (v:=.tuple #[.agg #[.string s.name,.slice B1 s.items.length c1,.int .i64 s.auto],.int .i64 0]) (by simp[results,Tryz.results157,go_sem, *]) rfl ?_
  rw[HOFF.out]
  have hfin:cItemS.rep w2 [.slice B1 s.items.length c1] s.items FR9:=HP.out
  exact⟨_,FR9,rfl,bl,TStore.mk_ hok (zks hfin hlow),⟨Lo.mono hlow (by omega),HND.out⟩⟩
 ·have HON:=zh (Zpw (hl:=hl) (hh:=hh) (lo:=lo) (hi:=hi) e1)
  rintro e w2 ⟨rfl,hb2⟩;obtain⟨hc_w2,hf_w2,hz_w2⟩:=Zc hb2
  try simp at hz_w2
  obtain⟨ha0_w2,ha1_w2,ha2_w2⟩:=zg3 w.heap.size w2.heap.size;have ha3_w2:w1.heap.size<w2.heap.size:=by omega
  have hb_w2:=zt (w:=w) hb2
  have hb12:=zt (w:=w1) hb2
  have a0:w2.cell? ⟨w.heap.size,0,none⟩=some (.string s.name):=by go_simp
  have a1:w2.cell? ⟨w.heap.size,1,none⟩=some (.slice A s.items.length cp):=by go_simp
  have a2:w2.cell? ⟨w.heap.size,2,none⟩=some (.int .i64 s.auto):=by go_simp
  have d0:w2.cell? ⟨w.heap.size+2,0,none⟩=some (.string ⟨#[]⟩):=by go_simp
  have d1:w2.cell? ⟨w.heap.size+2,1,none⟩=some (.slice none 0 0):=by go_simp
  have d2:w2.cell? ⟨w.heap.size+2,2,none⟩=some (.int .i64 0):=by go_simp
  have x0:w2.cell? ⟨w1.heap.size,0,none⟩=some (.string s.name):=by go_simp
  have x1:w2.cell? ⟨w1.heap.size,1,none⟩=some (.slice B1 s.items.length c1):=by go_simp
  have x2:w2.cell? ⟨w1.heap.size,2,none⟩=some (.int .i64 s.auto):=by go_simp
  have fd0:w2.frozen? ⟨w.heap.size+2,0,none⟩=false:=by go_simp
  have fd1:w2.frozen? ⟨w.heap.size+2,1,none⟩=false:=by go_simp
  have fd2:w2.frozen? ⟨w.heap.size+2,2,none⟩=false:=by go_simp
  have fx1:w2.frozen? ⟨w1.heap.size,1,none⟩=false:=by go_simp
  have HRG:=zh (show RngAt w2 (w.heap.size+1) hl hh lo hi from ⟨by go_simp,by go_simp,by go_simp,by go_simp,by go_simp,by go_simp,by go_simp,by go_simp⟩)
  have hbw2:Below w.heap.size w w2:=hb_w2
  have hzz1:w.heap.size+2<w1.heap.size:=ha2_w1
  have hzz2:w1.heap.size<w2.heap.size:=ha3_w2
  have HO2:=zh (HO1.out.1.bel hb12)
  clear hc_w1 hf_w1 hb1 hz_w1 ha0_w1 ha1_w1 ha2_w1 hb_w1 hc_w2 hf_w2 hb2 hz_w2 ha0_w2 ha1_w2 ha2_w2 ha3_w2 hb_w2 hb12;obtain⟨n,hxn⟩:∃n,s.items.length=n:=⟨_,rfl⟩
  have HN:=zh hxn;rw[hxn] at h a1 x1 HO1 HO2 hcp hnl
  clear hxn;have hlq:=List.length_filter_le (λx:TItem=>!Zu x.key hl hh lo hi) s.items
  rw[HN.out] at hlq
  go_wp2_with fail;refine(Zhd B1 n c1 (w.heap.size+1) s.items lo hi hl hh Fi (w.heap.size+3) w2 HO2.out (λg hg=>⟨(HO1.out.2.2 g hg).1,by have h9:=(HO1.out.2.2 g hg).2.1;omega⟩) HN.out hnl HRG.out (by omega) hlo hhi (by omega)).mono ?_
  rintro e w3 ⟨F',rfl,ho3,hF3,hg3⟩;obtain⟨q,hq⟩:∃q,(s.items.filter (λx=>!Zu x.key hl hh lo hi)).length=q:=⟨_,rfl⟩
  have HQ:=zh hq;rw[hq] at ho3 hlq⊢
  clear hq;have hz3:=hg3.size;have hblk:∀b,b<w.heap.size+3∨b=w1.heap.size→w3.heap[b]?=w2.heap[b]?:=λb hb=>hg3.block b (by omega) (λe9=>by have h9:=HO1.out.2.2 b e9.symm;omega)
  have k0:=hblk w.heap.size (by omega)
  have k2:=hblk (w.heap.size+2) (by omega)
  have kx:=hblk w1.heap.size (by omega)
  have A1:=(World.cell?_of_block (a:=⟨w.heap.size,1,none⟩) k0).trans a1
  have D0:=(World.cell?_of_block (a:=⟨w.heap.size+2,0,none⟩) k2).trans d0
  have D1:=(World.cell?_of_block (a:=⟨w.heap.size+2,1,none⟩) k2).trans d1
  have D2:=(World.cell?_of_block (a:=⟨w.heap.size+2,2,none⟩) k2).trans d2
  have FD0:=(World.frozen?_of_block (a:=⟨w.heap.size+2,0,none⟩) k2).trans fd0
  have FD1:=(World.frozen?_of_block (a:=⟨w.heap.size+2,1,none⟩) k2).trans fd1
  have FD2:=(World.frozen?_of_block (a:=⟨w.heap.size+2,2,none⟩) k2).trans fd2
  have X0:=(World.cell?_of_block (a:=⟨w1.heap.size,0,none⟩) kx).trans x0
  have X1:=(World.cell?_of_block (a:=⟨w1.heap.size,1,none⟩) kx).trans x1
  have X2:=(World.cell?_of_block (a:=⟨w1.heap.size,2,none⟩) kx).trans x2
  have FX1:=(World.frozen?_of_block (a:=⟨w1.heap.size,1,none⟩) kx).trans fx1
  have hbw3:Below w.heap.size w w3:=hbw2.grown hg3 (by omega) (λg hg=>by have h9:=HO1.out.2.2 g hg;omega)
  obtain⟨FR9,hr9,hw9,hn9⟩:=ho3.rep (hw:=by decide) (hw2:=by decide)
  have hown9:∀b,Zac (.slice B1 q c1)=some b→Zac (.slice B1 n c1)=some b:=λb h9=>by
   cases B1 with
   | none=>simp[Zac] at h9
   | some a9=>cases c1 with
    | zero=>simp[Zac] at h9
    | succ c9=>exact h9
  have hnd9:FR9.Nodup:=hn9 (λg hg hm=>(HO1.out.2.2 g (hown9 g hg)).1 (hF3.subset hm)) (hF3.nodup HO1.out.2.1.2)
  have HND:=zh hnd9;have hFi1:=HO1.out.1.inner_lt
  have hlow:∀b,b∈FR9→w.heap.size+3≤b∧b≠w1.heap.size:=λb hb=>(hw9 b hb).elim (λh9=>by
   have h8:Zac (.slice B1 n c1)=some b:=by
    cases B1 with
    | none=>simp[Zac] at h9
    | some a9=>cases c1 with
     | zero=>simp[Zac] at h9
     | succ c9=>exact h9
   have h7:=(HO1.out.2.2 b h8).2
   omega) (λh9=>by have h8:=HO1.out.2.1.1 b (hF3.subset h9);have h7:=hFi1 b (hF3.subset h9);omega)
  have HP:=zh (show cItemS.rep w3 [.slice B1 q c1] (s.items.filter (λx=>!Zu x.key hl hh lo hi)) FR9 from hr9)
  have hz31:w1.heap.size<w3.heap.size:=by omega
  have hz32:w.heap.size+2<w3.heap.size:=by omega
  have hz33:w.heap.size<w3.heap.size:=by omega
  have hn1:¬w1.heap.size=w.heap.size+2:=by omega
  have hn2:¬w1.heap.size=w.heap.size:=by omega
  have hn3:¬w.heap.size+2=w1.heap.size:=by omega
  have hwq:IntKind.i64.wrap ((n:Int)-(q:Int))=(n:Int)-(q:Int):=IntWalk.i64_in _ (by omega)
  clear hr9 hw9 hn9 hnd9 hown9 hg3 ho3 hblk k0 k2 kx a0 a1 a2 d0 d1 d2 x0 x1 x2 fd0 fd1 fd2 fx1 hF3 hFi1;go_wp2_with fail;have W0:(w3.setCell ⟨w1.heap.size,1,none⟩ (.slice B1 q c1)).cell? ⟨w1.heap.size,0,none⟩=some (.string s.name):=by go_simp
  refine wp_region_held_drew (S:=(λw9=>w9.cell? ⟨w1.heap.size,0,none⟩=some (.string s.name)∧w9.cell? ⟨w1.heap.size,1,none⟩=some (.slice B1 q c1)∧w9.cell? ⟨w1.heap.size,2,none⟩=some (.int .i64 s.auto)∧w9.cell? ⟨w.heap.size,1,none⟩=some (.slice A n cp))) (by kernel_rfl) (by (try dsimp only);(refine⟨?_,?_,?_,?_⟩<;>go_simp)) (λhHeld=>?_)
  refine zrd (i:=0) 18 ?_;refine zrd (i:=1) 19 ?_;refine zrd (i:=2) 20 ?_;refine zrd (i:=3) 21 ?_;(try simp only[Act.put,zp0,zp1,zp2]);refine zrd (i:=4) 22 ?_;refine zrd (i:=5) 23 ?_;refine zrd (i:=6) 24 ?_;refine zrd (i:=7) 25 ?_;(try simp only[Act.put,zp0,zp1,zp2]);refine zst 8 (λK hK=>?_)
  first|fail|go_simp
  refine hK.out _ _ ?_ (λhHeld=>?_)
  ·(try dsimp only)
   (refine⟨?_,?_,?_,?_⟩<;>go_simp)
  clear hK K;refine zrd (i:=9) 5 ?_;(try simp only[Act.put,zp0,zp1,zp2]);refine wpAnyH_done (by kernel_rfl) ?_ _
  go_wp2_with fail;refine bodyPost_ret (v:=.tuple #[.agg #[.string s.name,.slice B1 q c1,.int .i64 s.auto],.int .i64 ((n:Int)-(q:Int))]) (by simp[results,Tryz.results157,go_sem, *]) rfl ?_
  rw[HON.out,HQ.out,HN.out]
  have hfin:cItemS.rep w3 [.slice B1 q c1] (s.items.filter (λx=>!Zu x.key hl hh lo hi)) FR9:=HP.out
  exact⟨_,FR9,rfl,bl,TStore.mk_ (x:=⟨s.name,s.items.filter (λx=>!Zu x.key hl hh lo hi),s.auto⟩) ⟨hok.h0,hok.h2⟩ (zks hfin hlow),⟨λb hb=>by have h9:=(hlow b hb).1;omega,HND.out⟩⟩
end Go.Proofs.YtghndifnohkokaaGreat
