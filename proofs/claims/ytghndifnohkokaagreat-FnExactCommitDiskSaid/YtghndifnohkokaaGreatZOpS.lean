import Derived.Test.YtghndifnohkokaaGreatZSetFS
import Derived.Test.YtghndifnohkokaaGreatZAddItem
import Derived.Test.YtghndifnohkokaaGreatZDelS
import Derived.Test.YtghndifnohkokaaGreatZIsOp
namespace Go.Proofs.YtghndifnohkokaaGreat
open Go.ChangeShapes Go.WideShapes Go.RowKit
set_option linter.unusedVariables false
set_option linter.unusedSimpArgs false
set_option maxRecDepth 100000
set_option maxHeartbeats 16000000
theorem Zdf {r:TRec} (h:Ze r=true) (f:ByteArray):0≤(Zk r f).1∧(Zk r f).1≤1000000000:=by
 obtain⟨h1,-,-⟩:=(Zbm r).1 h
 unfold Zk
 cases hf:r.fields.find? (λg:TField=>Zaz g.name f) with
 | none=>simp
 | some g=>exact ZbZ (h1 g (List.mem_of_find?_eq_some hf)).2
theorem ZhG:Ze ⟨[]⟩=true:=by rw[Zbm];exact⟨λf hf=>by simp at hf,List.Pairwise.nil,by simp⟩
theorem Zou (fs:List TField) (name:ByteArray) (n:Int):(Zfk fs name n).length≤fs.length+1:=by
 have h1:=Zhz name fs
 unfold Zfk
 split
 ·rename_i f h
  cases Zaz f.name name<;>simp<;>omega
 ·simp;omega
theorem Zdw (r:TRec) (name:ByteArray) (n:Int):(Zan r name n).1.fields.length≤r.fields.length+1:=by
 unfold Zan
 have h:=Zou r.fields name n
 cases Ze r&&Ze ⟨Zfk r.fields name n⟩
 ·simp
 ·simpa using h
def ZcW (s:TStore) (k:TKey):TRec:=if 0≤ZF s k then (match s.items[(ZF s k).toNat]? with|some x=>x.rcd|none=>⟨[]⟩) else ⟨[]⟩
theorem Zdb (s:TStore) (k:TKey) (f:ByteArray):Zdh s k f=((ZO s k (Zan (ZcW s k) f ((Zk (ZcW s k) f).1+1)).1).1,(Zk (ZcW s k) f).1+1,(Zan (ZcW s k) f ((Zk (ZcW s k) f).1+1)).2&&(ZO s k (Zan (ZcW s k) f ((Zk (ZcW s k) f).1+1)).1).2):=rfl
theorem Zff {s:TStore} {k:TKey} (h:ZF s k=-1):ZcW s k=⟨[]⟩:=by unfold ZcW;rw[h,if_neg (by omega)]
theorem Zgb {s:TStore} {k:TKey} {j:Nat} (hj:j<s.items.length) (h:ZF s k=j):ZcW s k=s.items[j].rcd:=by
 unfold ZcW;rw[h,if_pos (by omega),show ((j:Int)).toNat=j from rfl,List.getElem?_eq_getElem hj]
theorem ZpD {o:TOp} (h:ZdR o=true):Ze o.rcd=true:=by unfold ZdR at h;simp only[Bool.and_eq_true] at h;exact h.1.2
theorem on1 {s:TStore} {o:TOp} (h:(o.kind==1)=true):ZdO s o=((ZO s o.key o.rcd).1,1,(ZO s o.key o.rcd).2):=by unfold ZdO;rw[if_pos (by simpa using h)]
theorem on2 {s:TStore} {o:TOp} (h1:(o.kind==1)=false) (h:(o.kind==2)=true):ZdO s o=((Zcd s o.key o.rcd).1,1,(Zcd s o.key o.rcd).2):=by unfold ZdO;rw[if_neg (by simpa using h1),if_pos (by simpa using h)]
theorem on3 {s:TStore} {o:TOp} (h1:(o.kind==1)=false) (h2:(o.kind==2)=false) (h:(o.kind==3)=true):ZdO s o=((ZD s true true o.key o.key).1,(ZD s true true o.key o.key).2,true):=by unfold ZdO;rw[if_neg (by simpa using h1),if_neg (by simpa using h2),if_pos (by simpa using h)]
theorem on5 {s:TStore} {o:TOp} (h1:(o.kind==1)=false) (h2:(o.kind==2)=false) (h3:(o.kind==3)=false) (h:(o.kind==5)=true):ZdO s o=((ZD s false false noKey noKey).1,(ZD s false false noKey noKey).2,true):=by unfold ZdO;rw[if_neg (by simpa using h1),if_neg (by simpa using h2),if_neg (by simpa using h3),if_pos (by simpa using h)]
theorem on4 {s:TStore} {o:TOp} (h:(o.kind==4)=true):ZdO s o=(s,(if 0≤ZF s o.key then (match s.items[(ZF s o.key).toNat]? with|some x=>(x.rcd.fields.length:Int)|none=>-1) else -1),true):=by
 have h4:o.kind=4:=by simpa using h
 unfold ZdO;rw[if_neg (by omega),if_neg (by omega),if_neg (by omega),if_neg (by omega),if_pos h4]<;>rfl
theorem on6 {s:TStore} {o:TOp} (h1:(o.kind==1)=false) (h2:(o.kind==2)=false) (h3:(o.kind==3)=false) (h5:(o.kind==5)=false) (h4:(o.kind==4)=false):ZdO s o=Zdh s o.key o.field:=by
 unfold ZdO;rw[if_neg (by simpa using h1),if_neg (by simpa using h2),if_neg (by simpa using h3),if_neg (by simpa using h5),if_neg (by simpa using h4)]
theorem ZlP (v:Value) (s:TStore) (k:TKey) (f:ByteArray) (F:List Nat) (w:World) (h:cItemS.rep w [v] s.items F) (hok:s.Ok) (hkk:k.Ok) (hf:f.size≤maxLen) (hst:Zs s=true) :
  Calls Tryz.prog 143 #[.agg #[.string s.name,v,.int .i64 s.auto],.agg #[.int .i64 k.kind,.int .i64 k.n,.string k.text],.string f] w (ZjH cStore w (Zdh s k f).1 (.int .i64 (Zdh s k f).2.1) (.bool (Zdh s k f).2.2)):=by
 have hsm:=Zbw hst;have HIT:=zh ((ZbW s).1 hst).1
 obtain⟨A,cp,rfl⟩:=Zb h;obtain⟨-,hcp,hm⟩:=Zq h
 unfold maxLen at hm
 go_enter Tryz.func143,Tryz.ntmps143
 go_wp2_with fail;refine(Zcc _ s k F _ (by exact zb h)).mono ?_
 rintro e w1 ⟨he,hb1⟩
 rcases ZbF s k with hfn|⟨j,hj,hfn⟩
 ·rw[hfn] at he
  subst he;obtain⟨hc_w1,hf_w1,hz_w1⟩:=Zc hb1
  try simp at hz_w1
  obtain⟨ha0_w1,ha1_w1,ha2_w1,ha3_w1⟩:=zg4 w.heap.size w1.heap.size;have hb_w1:=zt (w:=w) hb1
  have hir:=Zff hfn;have hrk:Ze (⟨[]⟩:TRec)=true:=ZhG
  have HRR:=zh (show cFieldS.rep w [.slice none 0 0] [] [] from ⟨none,0,rfl,Nat.le_refl _,by decide,.inl ⟨rfl,rfl⟩⟩)
  have HIR:=zh hir;have hng:=Zdf hrk f;have hrl:=ZcR hrk;have hsl:=Zdw (⟨[]⟩:TRec) f ((Zk (⟨[]⟩:TRec) f).1+1)
  clear hir;go_wp2_with fail;refine(ZaP _ ([]:List TField) f _ _ (by exact zb HRR.out)).mono ?_
  rintro e w2 ⟨rfl,hb2⟩;obtain⟨hc_w2,hf_w2,hz_w2⟩:=Zc hb2
  try simp at hz_w2
  obtain⟨ha0_w2,ha1_w2,ha2_w2,ha3_w2⟩:=zg4 w.heap.size w2.heap.size;have hb_w2:=zt (w:=w) hb2
  have hwn:IntKind.i64.wrap ((Zk ⟨([]:List TField)⟩ f).1+1)=(Zk ⟨([]:List TField)⟩ f).1+1:=IntWalk.i64_in _ (by have h9:=hng;omega)
  go_wp2_with fail;refine(Zee _ ([]:List TField) f ((Zk (⟨[]⟩:TRec) f).1+1) _ _ (by exact zb HRR.out) (by omega) hf (by omega)).mono ?_
  have HSL:=zh hsl;generalize hsf:Zan ⟨([]:List TField)⟩ f ((Zk (⟨[]⟩:TRec) f).1+1)=q at *
  have HSF:=zh (show Zan (⟨[]⟩:TRec) f ((Zk (⟨[]⟩:TRec) f).1+1)=q from hsf)
  have hql:q.1.fields.length≤1000000:=by have h9:=HSL.out;(try rw[HSF.out] at h9);omega
  clear hsf hsl;obtain⟨x,xo⟩:=q;rintro e w3 ⟨vs3,F3,rfl,hb3,hr3,hf3⟩;obtain⟨u3,F4,rfl,rfl,-,n3⟩:=TRec.outA hr3;obtain⟨B3,c3,e9⟩:=Zb n3;subst e9;simp only at *
  obtain⟨hc_w3,hf_w3,hz_w3⟩:=Zc hb3
  try simp at hz_w3
  obtain⟨ha0_w3,ha1_w3,ha2_w3,ha3_w3⟩:=zg4 w.heap.size w3.heap.size;have hb_w3:=zt (w:=w) hb3
  have HX3:=zh n3;clear hr3 n3 hf3;go_wp2_with fail;refine(Zcz _ _ s k x F _ _ (by exact zb h) (by exact zb HX3.out) hok hkk hsm hql).mono ?_
  have HE:=zh (show Zdh s k f=((ZO s k x).1,(Zk (⟨[]⟩:TRec) f).1+1,xo&&(ZO s k x).2) by rw[Zdb,HIR.out,HSF.out])
  generalize ZO s k x=q2 at *
  obtain⟨y,yo⟩:=q2;rintro e w4 ⟨vs4,F5,rfl,hb4,hr4,hl4⟩;obtain⟨u4,_,rfl,rfl,hok4,n4⟩:=TStore.outA hr4;obtain⟨B4,c4,e9⟩:=Zb n4;subst e9;simp only at *
  obtain⟨hc_w4,hf_w4,hz_w4⟩:=Zc hb4
  try simp at hz_w4
  obtain⟨ha0_w4,ha1_w4,ha2_w4,ha3_w4⟩:=zg4 w.heap.size w4.heap.size;have ha4_w4:w3.heap.size<w4.heap.size:=by omega
  have hb_w4:=zt (w:=w) hb4
  have HP:=zh (And.intro n4 hl4)
  have hlow:∀b,b∈F5→w.heap.size+4≤b:=λb hb=>by have h9:=hl4 b hb;(try simp at h9);omega
  clear hr4 n4 hl4;cases xo
  all_goals
   go_wp2_with fail;refine bodyPost_ret (v:=.tuple #[.agg #[.string y.name,.slice B4 y.items.length c4,.int .i64 y.auto],.int .i64 ((Zk (⟨[]⟩:TRec) f).1+1),.bool _]) (by simp[results,Tryz.results143,go_sem, *];rfl) rfl ?_
   rw[HE.out]
   have hfin:cItemS.rep w4 [.slice B4 y.items.length c4] y.items F5:=HP.out.1
   exact⟨_,F5,rfl,bl,TStore.mk_ hok4 (zks hfin hlow),Lo.mono hlow (by omega)⟩
 ·rw[hfn] at he
  subst he;obtain⟨hc_w1,hf_w1,hz_w1⟩:=Zc hb1
  try simp at hz_w1
  obtain⟨ha0_w1,ha1_w1,ha2_w1,ha3_w1⟩:=zg4 w.heap.size w1.heap.size;have hb_w1:=zt (w:=w) hb1
  have hir:ZcW s k=⟨s.items[j].rcd.fields⟩:=Zgb hj hfn
  have hrk:Ze (⟨s.items[j].rcd.fields⟩:TRec)=true:=(HIT.out.ok _ (List.getElem_mem hj)).2
  have hj0:(0:Int)≤(j:Int):=by omega
  have hjn:(j:Int)<(s.items.length:Int):=by omega
  obtain⟨g,o,A3,e3,F3,rfl,hgF,hgr,hok3,q0,q1,q2,q3',r3,-⟩:=ZaO h hj;have q3:=zcl (p:=⟨g,o+j*4+3,none⟩) hb_w1 q3'
  have HRR:=zh r3;have hg1:¬g=w.heap.size+3:=by omega
  clear r3 q0 q1 q2 q3';have HIR:=zh hir;have hng:=Zdf hrk f;have hrl:=ZcR hrk;have hsl:=Zdw (⟨s.items[j].rcd.fields⟩:TRec) f ((Zk (⟨s.items[j].rcd.fields⟩:TRec) f).1+1)
  clear hir;go_wp2_with fail;refine(ZaP _ s.items[j].rcd.fields f _ _ (by exact zb HRR.out)).mono ?_
  rintro e w2 ⟨rfl,hb2⟩;obtain⟨hc_w2,hf_w2,hz_w2⟩:=Zc hb2
  try simp at hz_w2
  obtain⟨ha0_w2,ha1_w2,ha2_w2,ha3_w2⟩:=zg4 w.heap.size w2.heap.size;have hb_w2:=zt (w:=w) hb2
  have hwn:IntKind.i64.wrap ((Zk ⟨s.items[j].rcd.fields⟩ f).1+1)=(Zk ⟨s.items[j].rcd.fields⟩ f).1+1:=IntWalk.i64_in _ (by have h9:=hng;omega)
  go_wp2_with fail;refine(Zee _ s.items[j].rcd.fields f ((Zk (⟨s.items[j].rcd.fields⟩:TRec) f).1+1) _ _ (by exact zb HRR.out) (by omega) hf (by omega)).mono ?_
  have HSL:=zh hsl;generalize hsf:Zan ⟨s.items[j].rcd.fields⟩ f ((Zk (⟨s.items[j].rcd.fields⟩:TRec) f).1+1)=q at *
  have HSF:=zh (show Zan (⟨s.items[j].rcd.fields⟩:TRec) f ((Zk (⟨s.items[j].rcd.fields⟩:TRec) f).1+1)=q from hsf)
  have hql:q.1.fields.length≤1000000:=by have h9:=HSL.out;(try rw[HSF.out] at h9);omega
  clear hsf hsl;obtain⟨x,xo⟩:=q;rintro e w3 ⟨vs3,F3,rfl,hb3,hr3,hf3⟩;obtain⟨u3,F4,rfl,rfl,-,n3⟩:=TRec.outA hr3;obtain⟨B3,c3,e9⟩:=Zb n3;subst e9;simp only at *
  obtain⟨hc_w3,hf_w3,hz_w3⟩:=Zc hb3
  try simp at hz_w3
  obtain⟨ha0_w3,ha1_w3,ha2_w3,ha3_w3⟩:=zg4 w.heap.size w3.heap.size;have hb_w3:=zt (w:=w) hb3
  have HX3:=zh n3;clear hr3 n3 hf3;go_wp2_with fail;refine(Zcz _ _ s k x F _ _ (by exact zb h) (by exact zb HX3.out) hok hkk hsm hql).mono ?_
  have HE:=zh (show Zdh s k f=((ZO s k x).1,(Zk (⟨s.items[j].rcd.fields⟩:TRec) f).1+1,xo&&(ZO s k x).2) by rw[Zdb,HIR.out,HSF.out])
  generalize ZO s k x=q2 at *
  obtain⟨y,yo⟩:=q2;rintro e w4 ⟨vs4,F5,rfl,hb4,hr4,hl4⟩;obtain⟨u4,_,rfl,rfl,hok4,n4⟩:=TStore.outA hr4;obtain⟨B4,c4,e9⟩:=Zb n4;subst e9;simp only at *
  obtain⟨hc_w4,hf_w4,hz_w4⟩:=Zc hb4
  try simp at hz_w4
  obtain⟨ha0_w4,ha1_w4,ha2_w4,ha3_w4⟩:=zg4 w.heap.size w4.heap.size;have ha4_w4:w3.heap.size<w4.heap.size:=by omega
  have hb_w4:=zt (w:=w) hb4
  have HP:=zh (And.intro n4 hl4)
  have hlow:∀b,b∈F5→w.heap.size+4≤b:=λb hb=>by have h9:=hl4 b hb;(try simp at h9);omega
  clear hr4 n4 hl4;cases xo
  all_goals
   go_wp2_with fail;refine bodyPost_ret (v:=.tuple #[.agg #[.string y.name,.slice B4 y.items.length c4,.int .i64 y.auto],.int .i64 ((Zk (⟨s.items[j].rcd.fields⟩:TRec) f).1+1),.bool _]) (by simp[results,Tryz.results143,go_sem, *];rfl) rfl ?_
   rw[HE.out]
   have hfin:cItemS.rep w4 [.slice B4 y.items.length c4] y.items F5:=HP.out.1
   exact⟨_,F5,rfl,bl,TStore.mk_ hok4 (zks hfin hlow),Lo.mono hlow (by omega)⟩
theorem Zle (v vo:Value) (s:TStore) (o:TOp) (F FO:List Nat) (w:World) (h:cItemS.rep w [v] s.items F) (ho:cFieldS.rep w [vo] o.rcd.fields FO) (hok:s.Ok) (hoo:o.Ok) (hst:Zs s=true) (hio:ZdR o=true) :
  Calls Tryz.prog 107 #[.agg #[.string s.name,v,.int .i64 s.auto],.agg #[.int .i64 o.kind,.string o.store,.int .i64 o.key.kind,.int .i64 o.key.n,.string o.key.text,vo,.string o.field]] w (ZjH cStore w (ZdO s o).1 (.int .i64 (ZdO s o).2.1) (.bool (ZdO s o).2.2)):=by
 have hsm:=Zbw hst;have hkk:o.key.Ok:=⟨hoo.h2,hoo.h3,hoo.h4⟩
 have hrl:=ZcR (ZpD hio)
 obtain⟨A,cp,rfl⟩:=Zb h;obtain⟨R,cr,rfl⟩:=Zb ho;obtain⟨-,hcp,hm⟩:=Zq h
 unfold maxLen at hm
 go_enter Tryz.func107,Tryz.ntmps107
 cases e1:(o.kind==1)
 case true =>
  have HE:=zh (on1 (s:=s) e1)
  go_wp2_with fail;refine(Zcz _ _ s o.key o.rcd F FO _ (by exact zb h) (by exact zb ho) hok hkk hsm (by omega)).mono ?_
  generalize ZO s o.key o.rcd=q at *
  obtain⟨y,yo⟩:=q;rintro e w1 ⟨vs1,F1,rfl,hb1,hr1,hl1⟩;obtain⟨u1,_,rfl,rfl,hok1,n1⟩:=TStore.outA hr1;obtain⟨B1,c1,e9⟩:=Zb n1;subst e9;simp only at *
  obtain⟨hc_w1,hf_w1,hz_w1⟩:=Zc hb1
  try simp at hz_w1
  obtain⟨ha0_w1,ha1_w1,ha2_w1⟩:=zg3 w.heap.size w1.heap.size;have hb_w1:=zt (w:=w) hb1
  have HP:=zh (And.intro n1 hl1)
  have hlow:∀b,b∈F1→w.heap.size+3≤b:=λb hb=>by have h9:=hl1 b hb;(try simp at h9);omega
  clear hr1 n1 hl1;go_wp2_with fail;refine bodyPost_ret (v:=.tuple #[.agg #[.string y.name,.slice B1 y.items.length c1,.int .i64 y.auto],.int .i64 1,.bool yo]) (by simp[results,Tryz.results107,go_sem, *]) rfl ?_
  rw[HE.out]
  have hfin:cItemS.rep w1 [.slice B1 y.items.length c1] y.items F1:=HP.out.1
  exact⟨_,F1,rfl,bl,TStore.mk_ hok1 (zks hfin hlow),Lo.mono hlow (by omega)⟩
 cases e2:(o.kind==2)
 case true =>
  have HE:=zh (on2 (s:=s) e1 e2)
  go_wp2_with fail;refine(Zit _ _ s o.key o.rcd F FO _ (by exact zb h) (by exact zb ho) hok hkk hsm (by omega)).mono ?_
  generalize Zcd s o.key o.rcd=q at *
  obtain⟨y,yo⟩:=q;rintro e w1 ⟨vs1,F1,rfl,hb1,hr1,hl1⟩;obtain⟨u1,_,rfl,rfl,hok1,n1⟩:=TStore.outA hr1;obtain⟨B1,c1,e9⟩:=Zb n1;subst e9;simp only at *
  obtain⟨hc_w1,hf_w1,hz_w1⟩:=Zc hb1
  try simp at hz_w1
  obtain⟨ha0_w1,ha1_w1,ha2_w1⟩:=zg3 w.heap.size w1.heap.size;have hb_w1:=zt (w:=w) hb1
  have HP:=zh (And.intro n1 hl1)
  have hlow:∀b,b∈F1→w.heap.size+3≤b:=λb hb=>by have h9:=hl1 b hb;(try simp at h9);omega
  clear hr1 n1 hl1;go_wp2_with fail;refine bodyPost_ret (v:=.tuple #[.agg #[.string y.name,.slice B1 y.items.length c1,.int .i64 y.auto],.int .i64 1,.bool yo]) (by simp[results,Tryz.results107,go_sem, *]) rfl ?_
  rw[HE.out]
  have hfin:cItemS.rep w1 [.slice B1 y.items.length c1] y.items F1:=HP.out.1
  exact⟨_,F1,rfl,bl,TStore.mk_ hok1 (zks hfin hlow),Lo.mono hlow (by omega)⟩
 cases e3:(o.kind==3)
 case true =>
  have HE:=zh (on3 (s:=s) e1 e2 e3)
  go_wp2_with fail;refine(Zdl _ s o.key o.key true true F _ (by exact zb h) hok hoo.h4 hoo.h4 hsm).mono ?_
  generalize ZD s true true o.key o.key=q at *
  obtain⟨y,yo⟩:=q;rintro e w1 ⟨vs1,F1,rfl,hb1,hr1,hl1⟩;obtain⟨u1,_,rfl,rfl,hok1,n1⟩:=TStore.outA hr1;obtain⟨B1,c1,e9⟩:=Zb n1;subst e9;simp only at *
  obtain⟨hc_w1,hf_w1,hz_w1⟩:=Zc hb1
  try simp at hz_w1
  obtain⟨ha0_w1,ha1_w1,ha2_w1⟩:=zg3 w.heap.size w1.heap.size;have hb_w1:=zt (w:=w) hb1
  have HP:=zh (And.intro n1 hl1)
  have hlow:∀b,b∈F1→w.heap.size+3≤b:=λb hb=>by have h9:=hl1 b hb;(try simp at h9);omega
  clear hr1 n1 hl1;go_wp2_with fail;refine bodyPost_ret (v:=.tuple #[.agg #[.string y.name,.slice B1 y.items.length c1,.int .i64 y.auto],.int .i64 yo,.bool true]) (by simp[results,Tryz.results107,go_sem, *]) rfl ?_
  rw[HE.out]
  have hfin:cItemS.rep w1 [.slice B1 y.items.length c1] y.items F1:=HP.out.1
  exact⟨_,F1,rfl,bl,TStore.mk_ hok1 (zks hfin hlow),Lo.mono hlow (by omega)⟩
 cases e4:(o.kind==4)
 case true =>
  have HE:=zh (on4 (s:=s) e4)
  go_wp2_with fail;refine(Zcc _ s o.key F _ (by exact zb h)).mono ?_
  rintro e w1 ⟨he,hb1⟩
  rcases ZbF s o.key with hfn|⟨j,hj,hfn⟩
  ·rw[hfn] at he
   subst he;obtain⟨hc_w1,hf_w1,hz_w1⟩:=Zc hb1
   try simp at hz_w1
   obtain⟨ha0_w1,ha1_w1,ha2_w1⟩:=zg3 w.heap.size w1.heap.size;have hb_w1:=zt (w:=w) hb1
   go_wp2_with fail;refine(ZP #[_,_,_] s F _ (by exact TStore.mk_ hok (zb h)) hsm).mono ?_
   intro e w2 hcr;obtain⟨B2,c2,F2,rfl,hb2,-,hr2,hl2⟩:=ZgW hcr;clear hcr;obtain⟨hc_w2,hf_w2,hz_w2⟩:=Zc hb2
   try simp at hz_w2
   obtain⟨ha0_w2,ha1_w2,ha2_w2⟩:=zg3 w.heap.size w2.heap.size;have hb_w2:=zt (w:=w) hb2
   have HP:=zh (And.intro hr2 hl2)
   have hlow:∀b,b∈F2→w.heap.size+3≤b:=λb hb=>by have h9:=hl2 b hb;(try simp at h9);omega
   go_wp2_with fail;refine bodyPost_ret (v:=.tuple #[.agg #[.string s.name,.slice B2 s.items.length c2,.int .i64 s.auto],.int .i64 (-1),.bool true]) (by simp[results,Tryz.results107,go_sem, *]) rfl ?_
   rw[HE.out,hfn]
   have hfin:cItemS.rep w2 [.slice B2 s.items.length c2] s.items F2:=HP.out.1
   exact⟨_,F2,rfl,bl,TStore.mk_ hok (zks hfin hlow),Lo.mono hlow (by omega)⟩
  ·rw[hfn] at he
   subst he;obtain⟨hc_w1,hf_w1,hz_w1⟩:=Zc hb1
   try simp at hz_w1
   obtain⟨ha0_w1,ha1_w1,ha2_w1⟩:=zg3 w.heap.size w1.heap.size;have hb_w1:=zt (w:=w) hb1
   have hj0:¬(j:Int)<0:=by omega
   have hj1:(0:Int)≤(j:Int):=by omega
   have hjn:(j:Int)<(s.items.length:Int):=by omega
   obtain⟨g,o9,A3,e3,F3,rfl,hgF,hgr,hok3,q0,q1,q2,q3,r3,-⟩:=ZaO (zb h (show Below w.heap.size w w1 from hb_w1)) hj
   have HJ:=zh (show (ZdO s o)=(s,(s.items[j].rcd.fields.length:Int),true) by rw[HE.out,hfn,if_pos (by omega),show ((j:Int)).toNat=j from rfl,List.getElem?_eq_getElem hj])
   have a0:w1.cell? ⟨w.heap.size,0,none⟩=some (.string s.name):=by go_simp
   have a1:w1.cell? ⟨w.heap.size,1,none⟩=some (.slice (some ⟨g,o9,none⟩) s.items.length cp):=by go_simp
   have a2:w1.cell? ⟨w.heap.size,2,none⟩=some (.int .i64 s.auto):=by go_simp
   have d0:w1.cell? ⟨w.heap.size+2,0,none⟩=some (.string ⟨#[]⟩):=by go_simp
   have d1:w1.cell? ⟨w.heap.size+2,1,none⟩=some (.slice none 0 0):=by go_simp
   have d2:w1.cell? ⟨w.heap.size+2,2,none⟩=some (.int .i64 0):=by go_simp
   have fd0:w1.frozen? ⟨w.heap.size+2,0,none⟩=false:=by go_simp
   have fd1:w1.frozen? ⟨w.heap.size+2,1,none⟩=false:=by go_simp
   have fd2:w1.frozen? ⟨w.heap.size+2,2,none⟩=false:=by go_simp
   have hgw:g<w.heap.size:=Cod.lt _ h g hgF
   have hg2:¬g=w.heap.size+2:=by omega
   have hbw1:=hb_w1;clear q0 q1 q2 r3 hc_w1 hf_w1 hb1 hz_w1;go_wp2_with fail;refine wp_region_held_drew (S:=(λw9=>w9.cell? ⟨w.heap.size,0,none⟩=some (.string s.name)∧w9.cell? ⟨w.heap.size,1,none⟩=some (.slice (some ⟨g,o9,none⟩) s.items.length cp)∧w9.cell? ⟨w.heap.size,2,none⟩=some (.int .i64 s.auto)∧w9.cell? ⟨g,o9+j*4+3,none⟩=some (.slice A3 s.items[j].rcd.fields.length e3))) (by kernel_rfl) (by (try dsimp only);(refine⟨?_,?_,?_,?_⟩<;>go_simp)) (λhHeld=>?_)
   refine zrd (i:=0) 68 ?_;refine zrd (i:=2) 70 ?_;refine zrd (i:=3) 71 ?_;refine zrd (i:=4) 72 ?_;(try simp only[Act.put,zp0,zp1,zp2]);refine zrd (i:=5) 73 ?_;refine zrd (i:=6) 74 ?_;refine zrd (i:=7) 75 ?_;refine zrd (i:=8) 76 ?_;(try simp only[Act.put,zp0,zp1,zp2]);refine zrd (i:=9) 77 ?_;(try simp only[Act.put,zp0,zp1,zp2]);refine zst 1 (λK hK=>?_)
   go_simp
   (go_at_call 84;refine(ZP #[_,_,_] s F _ (by exact TStore.mk_ hok (zb h (Za hbw1 bl))) hsm).mono ?_;intro e w2 hcr;obtain⟨B2,c2,F2,rfl,hb2,-,hr2,hl2⟩:=ZgW hcr;clear hcr;have hw12:=zt (w:=w1) hb2;have hz12:=hw12.size;have A0:=zcl hw12 a0;have A1:=zcl hw12 a1;have A2:=zcl hw12 a2;have D0:=zcl hw12 d0;have D1:=zcl hw12 d1;have D2:=zcl hw12 d2;have FD0:=zcf hw12 fd0;have FD1:=zcf hw12 fd1;have FD2:=zcf hw12 fd2;have Q3:=zcl (p:=⟨g,o9+j*4+3,none⟩) hw12 q3;have hza:w.heap.size<w2.heap.size:=(by omega);have hzb:w.heap.size+2<w2.heap.size:=(by omega);have HP:=zh (And.intro hr2 hl2))
   try go_wp2_with fail
   refine hK.out _ _ ?_ (λhHeld=>?_)
   ·(try dsimp only)
    (refine⟨?_,?_,?_,?_⟩<;>go_simp)
   clear hK K;(try simp only[Act.put,zp0,zp1,zp2]);refine zst 10 (λK hK=>?_)
   first|(go_at_call 84;refine(ZP #[_,_,_] s F _ (by exact TStore.mk_ hok (zb h (Za hbw1 bl))) hsm).mono ?_;intro e w2 hcr;obtain⟨B2,c2,F2,rfl,hb2,-,hr2,hl2⟩:=ZgW hcr;clear hcr;have hw12:=zt (w:=w1) hb2;have hz12:=hw12.size;have A0:=zcl hw12 a0;have A1:=zcl hw12 a1;have A2:=zcl hw12 a2;have D0:=zcl hw12 d0;have D1:=zcl hw12 d1;have D2:=zcl hw12 d2;have FD0:=zcf hw12 fd0;have FD1:=zcf hw12 fd1;have FD2:=zcf hw12 fd2;have Q3:=zcl (p:=⟨g,o9+j*4+3,none⟩) hw12 q3;have hza:w.heap.size<w2.heap.size:=(by omega);have hzb:w.heap.size+2<w2.heap.size:=(by omega);have HP:=zh (And.intro hr2 hl2))|go_simp
   refine hK.out _ _ ?_ (λhHeld=>?_)
   ·(try dsimp only)
    (refine⟨?_,?_,?_,?_⟩<;>go_simp)
   clear hK K;refine zrd (i:=11) 5 ?_;refine zrd (i:=12) 6 ?_;(try simp only[Act.put,zp0,zp1,zp2]);refine wpAnyH_done (by kernel_rfl) ?_ _
   have hbw2:Below w.heap.size w w2:=Za hbw1 hw12
   have hlow:∀b,b∈F2→w.heap.size+3≤b:=λb hb=>by have h9:=HP.out.2 b hb;(try simp at h9);omega
   go_wp2_with fail;refine bodyPost_ret (v:=.tuple #[.agg #[.string s.name,.slice B2 s.items.length c2,.int .i64 s.auto],.int .i64 (s.items[j].rcd.fields.length:Int),.bool true]) (by simp[results,Tryz.results107,go_sem, *]) rfl ?_
   rw[HJ.out]
   have hfin:cItemS.rep w2 [.slice B2 s.items.length c2] s.items F2:=HP.out.1
   exact⟨_,F2,rfl,bl,TStore.mk_ hok (zks hfin hlow),Lo.mono hlow (by omega)⟩
 cases e5:(o.kind==5)
 case true =>
  have HE:=zh (on5 (s:=s) e1 e2 e3 e5)
  go_wp2_with fail;refine(Zdl _ s noKey noKey false false F _ (by exact zb h) hok (by decide) (by decide) hsm).mono ?_
  generalize ZD s false false noKey noKey=q at *
  obtain⟨y,yo⟩:=q;rintro e w1 ⟨vs1,F1,rfl,hb1,hr1,hl1⟩;obtain⟨u1,_,rfl,rfl,hok1,n1⟩:=TStore.outA hr1;obtain⟨B1,c1,e9⟩:=Zb n1;subst e9;simp only at *
  obtain⟨hc_w1,hf_w1,hz_w1⟩:=Zc hb1
  try simp at hz_w1
  obtain⟨ha0_w1,ha1_w1,ha2_w1⟩:=zg3 w.heap.size w1.heap.size;have hb_w1:=zt (w:=w) hb1
  have HP:=zh (And.intro n1 hl1)
  have hlow:∀b,b∈F1→w.heap.size+3≤b:=λb hb=>by have h9:=hl1 b hb;(try simp at h9);omega
  clear hr1 n1 hl1;go_wp2_with fail;refine bodyPost_ret (v:=.tuple #[.agg #[.string y.name,.slice B1 y.items.length c1,.int .i64 y.auto],.int .i64 yo,.bool true]) (by simp[results,Tryz.results107,go_sem, *]) rfl ?_
  rw[HE.out]
  have hfin:cItemS.rep w1 [.slice B1 y.items.length c1] y.items F1:=HP.out.1
  exact⟨_,F1,rfl,bl,TStore.mk_ hok1 (zks hfin hlow),Lo.mono hlow (by omega)⟩
 have HE:=zh (on6 (s:=s) e1 e2 e3 e5 e4)
 go_wp2_with fail;refine(ZlP _ s o.key o.field F _ (by exact zb h) hok hkk hoo.h6 hst).mono ?_
 generalize Zdh s o.key o.field=q at *
 obtain⟨y,yn,yo⟩:=q;rintro e w1 ⟨vs1,F1,rfl,hb1,hr1,hl1⟩;obtain⟨u1,_,rfl,rfl,hok1,n1⟩:=TStore.outA hr1;obtain⟨B1,c1,e9⟩:=Zb n1;subst e9;simp only at *
 obtain⟨hc_w1,hf_w1,hz_w1⟩:=Zc hb1
 try simp at hz_w1
 obtain⟨ha0_w1,ha1_w1,ha2_w1⟩:=zg3 w.heap.size w1.heap.size;have hb_w1:=zt (w:=w) hb1
 have HP:=zh (And.intro n1 hl1)
 have hlow:∀b,b∈F1→w.heap.size+3≤b:=λb hb=>by have h9:=hl1 b hb;(try simp at h9);omega
 clear hr1 n1 hl1;go_wp2_with fail;refine bodyPost_ret (v:=.tuple #[.agg #[.string y.name,.slice B1 y.items.length c1,.int .i64 y.auto],.int .i64 yn,.bool yo]) (by simp[results,Tryz.results107,go_sem, *]) rfl ?_
 rw[HE.out]
 have hfin:cItemS.rep w1 [.slice B1 y.items.length c1] y.items F1:=HP.out.1
 exact⟨_,F1,rfl,bl,TStore.mk_ hok1 (zks hfin hlow),Lo.mono hlow (by omega)⟩
end Go.Proofs.YtghndifnohkokaaGreat
