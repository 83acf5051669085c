import Derived.Test.YtghndifnohkokaaGreatZOpS
import Derived.Test.YtghndifnohkokaaGreatZDelFn
namespace Go.Proofs.YtghndifnohkokaaGreat
open Go.ChangeShapes Go.WideShapes Go.RowKit
set_option linter.unusedVariables false
set_option linter.unusedSimpArgs false
set_option maxRecDepth 100000
set_option maxHeartbeats 16000000
def Zqb (w:World) (F0:List Nat) (r:TStore×Int×Bool) (e:Ending) (w':World):Prop :=
 ∃(y:TStore) (n:Int) (vs:Array Value) (F:List Nat),e=.returned (.tuple #[.agg vs,.int .i64 n,.bool r.2.2])∧Below w.heap.size w w'∧cStore.rep w' vs.toList y F∧(∀b,b∈F→w.heap.size≤b∨b∈F0)∧(r.2.2=true→y=r.1∧n=r.2.1)∧(F0.Nodup→F.Nodup)
theorem ZkB (v vo:Value) (s:TStore) (o:TOp) (F FO:List Nat) (w:World) (h:cItemS.rep w [v] s.items F) (ho:cFieldS.rep w [vo] o.rcd.fields FO) (hok:s.Ok) (hoo:o.Ok) (hst:Zs s=true) (hio:ZdR o=true) :
  Calls Tryz.prog 120 #[.agg #[.string s.name,v,.int .i64 s.auto],.agg #[.int .i64 o.kind,.string o.store,.int .i64 o.key.kind,.int .i64 o.key.n,.string o.key.text,vo,.string o.field]] w (Zqb w F (ZdO s o)):=by
 have hsm:=Zbw hst;have HIT:=zh ((ZbW s).1 hst).1
 have hkk:o.key.Ok:=⟨hoo.h2,hoo.h3,hoo.h4⟩
 have hrl:=ZcR (ZpD hio)
 obtain⟨A,cp,rfl⟩:=Zb h;obtain⟨R,cr,rfl⟩:=Zb ho;obtain⟨-,hcp,hm⟩:=Zq h
 unfold maxLen at hm
 go_enter Tryz.func120,Tryz.ntmps120
 go_wp2_with fail;refine(ZcT _ s o.key F _ (by exact zb h)).mono ?_
 rintro e w0 ⟨rfl,hb0⟩;obtain⟨hc_w0,hf_w0,hz_w0⟩:=Zc hb0
 try simp at hz_w0
 obtain⟨ha0_w0,ha1_w0,ha2_w0⟩:=zg3 w.heap.size w0.heap.size;have hb_w0:=zt (w:=w) hb0
 have hbw0:Below w.heap.size w w0:=hb_w0
 cases e1:(o.kind==1)
 case true =>
  have HE:=zh (on1 (s:=s) e1)
  go_wp2_with fail;refine(Zcr _ _ s o.key o.rcd F FO _ (by exact zb h) (by exact zb ho) hok hkk hsm (by omega)).mono ?_
  generalize ZO s o.key o.rcd=q at *
  obtain⟨y,yo⟩:=q;rintro e w1 ⟨vs1,F1,rfl,hb1,hr1,hl1⟩;obtain⟨u1,_,rfl,rfl,hok1,n1⟩:=TStore.outA hr1;obtain⟨B1,c1,e9⟩:=Zb n1;subst e9;simp only at *
  obtain⟨hc_w1,hf_w1,hz_w1⟩:=Zc hb1
  try simp at hz_w1
  obtain⟨ha0_w1,ha1_w1,ha2_w1⟩:=zg3 w.heap.size w1.heap.size;have hb_w1:=zt (w:=w) hb1
  have HP:=zh (And.intro n1 hl1)
  have hlow:∀b,b∈F1→w.heap.size+3≤b:=λb hb=>by have h9:=hl1.1 b hb;(try simp at h9);omega
  clear hr1 n1 hl1;go_wp2_with fail;refine bodyPost_ret (v:=.tuple #[.agg #[.string y.name,.slice B1 y.items.length c1,.int .i64 y.auto],.int .i64 1,.bool yo]) (by simp[results,Tryz.results120,go_sem, *]) rfl ?_
  rw[HE.out]
  have hfin:cItemS.rep w1 [.slice B1 y.items.length c1] y.items F1:=HP.out.1
  exact⟨y,_,_,F1,rfl,bl,TStore.mk_ hok1 (zks hfin hlow),λb hb=>.inl (by have h9:=hlow b hb;omega),λ_=>⟨rfl,rfl⟩,λ_=>HP.out.2.2⟩
 cases e2:(o.kind==2)
 case true =>
  have HE:=zh (on2 (s:=s) e1 e2)
  go_wp2_with fail;refine(ZhL _ _ s o.key o.rcd F FO _ (by exact zb h) (by exact zb ho) hok hkk hsm (by omega)).mono ?_
  generalize Zcd s o.key o.rcd=q at *
  obtain⟨y,yo⟩:=q;rintro e w1 ⟨vs1,F1,rfl,hb1,hr1,hl1⟩;obtain⟨u1,_,rfl,rfl,hok1,n1⟩:=TStore.outA hr1;obtain⟨B1,c1,e9⟩:=Zb n1;subst e9;simp only at *
  obtain⟨hc_w1,hf_w1,hz_w1⟩:=Zc hb1
  try simp at hz_w1
  obtain⟨ha0_w1,ha1_w1,ha2_w1⟩:=zg3 w.heap.size w1.heap.size;have hb_w1:=zt (w:=w) hb1
  have HP:=zh (And.intro n1 hl1)
  have hlow:∀b,b∈F1→w.heap.size+3≤b:=λb hb=>by have h9:=hl1.1 b hb;(try simp at h9);omega
  clear hr1 n1 hl1;go_wp2_with fail;refine bodyPost_ret (v:=.tuple #[.agg #[.string y.name,.slice B1 y.items.length c1,.int .i64 y.auto],.int .i64 1,.bool yo]) (by simp[results,Tryz.results120,go_sem, *]) rfl ?_
  rw[HE.out]
  have hfin:cItemS.rep w1 [.slice B1 y.items.length c1] y.items F1:=HP.out.1
  exact⟨y,_,_,F1,rfl,bl,TStore.mk_ hok1 (zks hfin hlow),λb hb=>.inl (by have h9:=hlow b hb;omega),λ_=>⟨rfl,rfl⟩,λ_=>HP.out.2.2⟩
 cases e3:(o.kind==3)
 case true =>
  have HE:=zh (on3 (s:=s) e1 e2 e3)
  go_wp2_with fail;refine(Zdg _ s o.key o.key true true F _ (by exact zb h) hok hoo.h4 hoo.h4 hsm).mono ?_
  generalize ZD s true true o.key o.key=q at *
  obtain⟨y,yo⟩:=q;rintro e w1 ⟨vs1,F1,rfl,hb1,hr1,hl1⟩;obtain⟨u1,_,rfl,rfl,hok1,n1⟩:=TStore.outA hr1;obtain⟨B1,c1,e9⟩:=Zb n1;subst e9;simp only at *
  obtain⟨hc_w1,hf_w1,hz_w1⟩:=Zc hb1
  try simp at hz_w1
  obtain⟨ha0_w1,ha1_w1,ha2_w1⟩:=zg3 w.heap.size w1.heap.size;have hb_w1:=zt (w:=w) hb1
  have HP:=zh (And.intro n1 hl1)
  have hlow:∀b,b∈F1→w.heap.size+3≤b:=λb hb=>by have h9:=hl1.1 b hb;(try simp at h9);omega
  clear hr1 n1 hl1;go_wp2_with fail;refine bodyPost_ret (v:=.tuple #[.agg #[.string y.name,.slice B1 y.items.length c1,.int .i64 y.auto],.int .i64 yo,.bool true]) (by simp[results,Tryz.results120,go_sem, *]) rfl ?_
  rw[HE.out]
  have hfin:cItemS.rep w1 [.slice B1 y.items.length c1] y.items F1:=HP.out.1
  exact⟨y,_,_,F1,rfl,bl,TStore.mk_ hok1 (zks hfin hlow),λb hb=>.inl (by have h9:=hlow b hb;omega),λ_=>⟨rfl,rfl⟩,λ_=>HP.out.2.2⟩
 cases e5:(o.kind==5)
 case true =>
  have HE:=zh (on5 (s:=s) e1 e2 e3 e5)
  go_wp2_with fail;refine(Zdg _ s noKey noKey false false F _ (by exact zb h) hok (by decide) (by decide) hsm).mono ?_
  generalize ZD s false false noKey noKey=q at *
  obtain⟨y,yo⟩:=q;rintro e w1 ⟨vs1,F1,rfl,hb1,hr1,hl1⟩;obtain⟨u1,_,rfl,rfl,hok1,n1⟩:=TStore.outA hr1;obtain⟨B1,c1,e9⟩:=Zb n1;subst e9;simp only at *
  obtain⟨hc_w1,hf_w1,hz_w1⟩:=Zc hb1
  try simp at hz_w1
  obtain⟨ha0_w1,ha1_w1,ha2_w1⟩:=zg3 w.heap.size w1.heap.size;have hb_w1:=zt (w:=w) hb1
  have HP:=zh (And.intro n1 hl1)
  have hlow:∀b,b∈F1→w.heap.size+3≤b:=λb hb=>by have h9:=hl1.1 b hb;(try simp at h9);omega
  clear hr1 n1 hl1;go_wp2_with fail;refine bodyPost_ret (v:=.tuple #[.agg #[.string y.name,.slice B1 y.items.length c1,.int .i64 y.auto],.int .i64 yo,.bool true]) (by simp[results,Tryz.results120,go_sem, *]) rfl ?_
  rw[HE.out]
  have hfin:cItemS.rep w1 [.slice B1 y.items.length c1] y.items F1:=HP.out.1
  exact⟨y,_,_,F1,rfl,bl,TStore.mk_ hok1 (zks hfin hlow),λb hb=>.inl (by have h9:=hlow b hb;omega),λ_=>⟨rfl,rfl⟩,λ_=>HP.out.2.2⟩
 cases e4:(o.kind==4)
 case true =>
  have HE:=zh (on4 (s:=s) e4)
  rcases ZbF s o.key with hfn|⟨j,hj,hfn⟩
  ·rw[hfn]
   go_wp2_with fail;refine bodyPost_ret (v:=.tuple #[.agg #[.string s.name,.slice A s.items.length cp,.int .i64 s.auto],.int .i64 (-1),.bool true]) (by simp[results,Tryz.results120,go_sem, *]) rfl ?_
   rw[HE.out,hfn]
   have hfin:cItemS.rep w0 [.slice A s.items.length cp] s.items F:=zb h hbw0
   have hlow:∀b,b∈F→b<w.heap.size:=λb hb=>Cod.lt _ h b hb
   exact⟨s,_,_,F,rfl,bl,TStore.mk_ hok (zks hfin hlow),λb hb=>.inr hb,λ_=>⟨rfl,rfl⟩,id⟩
  ·rw[hfn]
   have hj0:¬(j:Int)<0:=by omega
   have hj1:(0:Int)≤(j:Int):=by omega
   have hjn:(j:Int)<(s.items.length:Int):=by omega
   obtain⟨g,o9,A3,e3,F3,rfl,hgF,hgw,hok3,q0,q1,q2,q3',r3,-⟩:=ZaO h hj;have q3:=zcl (p:=⟨g,o9+j*4+3,none⟩) hbw0 q3'
   have HJ:=zh (show (ZdO s o)=(s,(s.items[j].rcd.fields.length:Int),true) by rw[HE.out,hfn,if_pos (by omega),show ((j:Int)).toNat=j from rfl,List.getElem?_eq_getElem hj])
   have hg2:¬g=w.heap.size+2:=by omega
   clear q0 q1 q2 q3' r3;go_wp2_with fail;refine wp_region_held_drew (S:=(λw9=>w9.cell? ⟨w.heap.size,0,none⟩=some (.string s.name)∧w9.cell? ⟨w.heap.size,1,none⟩=some (.slice (some ⟨g,o9,none⟩) s.items.length cp)∧w9.cell? ⟨w.heap.size,2,none⟩=some (.int .i64 s.auto)∧w9.cell? ⟨g,o9+j*4+3,none⟩=some (.slice A3 s.items[j].rcd.fields.length e3))) (by kernel_rfl) (by (try dsimp only);(refine⟨?_,?_,?_,?_⟩<;>go_simp)) (λhHeld=>?_)
   refine zrd (i:=0) 83 ?_;refine zrd (i:=1) 84 ?_;refine zrd (i:=2) 85 ?_;refine zrd (i:=3) 86 ?_;(try simp only[Act.put,zp0,zp1,zp2]);refine zrd (i:=4) 87 ?_;refine zrd (i:=5) 88 ?_;refine zrd (i:=6) 89 ?_;refine zrd (i:=7) 90 ?_;(try simp only[Act.put,zp0,zp1,zp2]);refine zrd (i:=8) 91 ?_;(try simp only[Act.put,zp0,zp1,zp2]);refine zst 9 (λK hK=>?_)
   first|fail|go_simp
   refine hK.out _ _ ?_ (λhHeld=>?_)
   ·(try dsimp only)
    (refine⟨?_,?_,?_,?_⟩<;>go_simp)
   clear hK K;refine zrd (i:=10) 5 ?_;refine zrd (i:=11) 6 ?_;(try simp only[Act.put,zp0,zp1,zp2]);refine wpAnyH_done (by kernel_rfl) ?_ _
   go_wp2_with fail;refine bodyPost_ret (v:=.tuple #[.agg #[.string s.name,.slice (some ⟨g,o9,none⟩) s.items.length cp,.int .i64 s.auto],.int .i64 (s.items[j].rcd.fields.length:Int),.bool true]) (by simp[results,Tryz.results120,go_sem, *]) rfl ?_
   rw[HJ.out]
   have hfin:cItemS.rep w0 [.slice (some ⟨g,o9,none⟩) s.items.length cp] s.items F:=zb h hbw0
   have hlow:∀b,b∈F→b<w.heap.size:=λb hb=>Cod.lt _ h b hb
   exact⟨s,_,_,F,rfl,bl,TStore.mk_ hok (zks hfin hlow),λb hb=>.inr hb,λ_=>⟨rfl,rfl⟩,id⟩
 have HE:=zh (on6 (s:=s) e1 e2 e3 e5 e4)
 rcases ZbF s o.key with hfn|⟨j,hj,hfn⟩
 ·rw[hfn]
  have hir:=Zff hfn;have hrk:Ze (⟨[]⟩:TRec)=true:=ZhG
  have HRR:=zh (show cFieldS.rep w [.slice none 0 0] [] [] from ⟨none,0,rfl,Nat.le_refl _,by decide,.inl ⟨rfl,rfl⟩⟩)
  have HIR:=zh hir;have hng:=Zdf hrk o.field;have hrl9:=ZcR hrk;have hsl:=Zdw (⟨[]⟩:TRec) o.field ((Zk (⟨[]⟩:TRec) o.field).1+1)
  clear hir;go_wp2_with fail;refine(ZaN _ ([]:List TField) o.field _ _ (by exact zb HRR.out)).mono ?_
  rintro e w2 ⟨rfl,hb2⟩;obtain⟨hc_w2,hf_w2,hz_w2⟩:=Zc hb2
  try simp at hz_w2
  obtain⟨ha0_w2,ha1_w2,ha2_w2⟩:=zg3 w.heap.size w2.heap.size;have ha3_w2:w0.heap.size<w2.heap.size:=by omega
  have hb_w2:=zt (w:=w) hb2
  have hwn:IntKind.i64.wrap ((Zk (⟨[]⟩:TRec) o.field).1+1)=(Zk (⟨[]⟩:TRec) o.field).1+1:=IntWalk.i64_in _ (by have h9:=hng;omega)
  go_wp2_with fail;refine(Zeb _ ([]:List TField) o.field ((Zk (⟨[]⟩:TRec) o.field).1+1) _ _ (by exact zb HRR.out) (by omega) hoo.h6 (by omega)).mono ?_
  have HSL:=zh hsl;generalize hsf:Zan (⟨[]⟩:TRec) o.field ((Zk (⟨[]⟩:TRec) o.field).1+1)=q at *
  have HSF:=zh (show Zan (⟨[]⟩:TRec) o.field ((Zk (⟨[]⟩:TRec) o.field).1+1)=q from hsf)
  have hql:q.1.fields.length≤1000000:=by have h9:=HSL.out;(try rw[HSF.out] at h9);omega
  clear hsf hsl;obtain⟨x,xo⟩:=q;rintro e w3 ⟨vs3,F3',rfl,hb3,hr3,hf3⟩;obtain⟨u3,F4,rfl,rfl,-,n3⟩:=TRec.outA hr3;obtain⟨B3,c3,e9⟩:=Zb n3;subst e9;simp only at *
  obtain⟨hc_w3,hf_w3,hz_w3⟩:=Zc hb3
  try simp at hz_w3
  obtain⟨ha0_w3,ha1_w3,ha2_w3⟩:=zg3 w.heap.size w3.heap.size;have ha3_w3:w0.heap.size<w3.heap.size:=by omega
  have hb_w3:=zt (w:=w) hb3
  have HX3:=zh (And.intro n3 (show ∀b,b∈F3'→w0.heap.size+1≤b from λb hb=>by have h9:=hf3.1 b hb;(try simp at h9);omega))
  have hlowx:=HX3.out.2;clear hr3 n3 hf3;have HE9:=zh (show Zdh s o.key o.field=((ZO s o.key x).1,(Zk (⟨[]⟩:TRec) o.field).1+1,xo&&(ZO s o.key x).2) by rw[Zdb,HIR.out,HSF.out])
  cases xo
  ·go_wp2_with fail;refine bodyPost_ret (v:=.tuple #[.agg #[.string s.name,.slice A s.items.length cp,.int .i64 s.auto],.int .i64 0,.bool false]) (by simp[results,Tryz.results120,go_sem, *]) rfl ?_
   rw[HE.out,HE9.out]
   have hfin:cItemS.rep w3 [.slice A s.items.length cp] s.items F:=zb h hb_w3
   have hlow:∀b,b∈F→b<w.heap.size:=λb hb=>Cod.lt _ h b hb
   exact⟨s,_,_,F,rfl,bl,TStore.mk_ hok (zks hfin hlow),λb hb=>.inr hb,λh9=>by simp at h9,id⟩
  ·go_wp2_with fail;have hx3:cFieldS.rep w3 [.slice B3 x.fields.length c3] x.fields F3':=HX3.out.1
   refine(Zcr _ _ s o.key x F F3' _ (by exact zb h) (by exact(zks hx3 hlowx)) hok hkk hsm hql).mono ?_
   generalize ZO s o.key x=q2 at *
   obtain⟨y,yo⟩:=q2;rintro e w4 ⟨vs4,F5,rfl,hb4,hr4,hl4⟩;obtain⟨u4,_,rfl,rfl,hok4,n4⟩:=TStore.outA hr4;obtain⟨B4,c4,e9⟩:=Zb n4;subst e9;simp only at *
   obtain⟨hc_w4,hf_w4,hz_w4⟩:=Zc hb4
   try simp at hz_w4
   obtain⟨ha0_w4,ha1_w4,ha2_w4⟩:=zg3 w.heap.size w4.heap.size;have hb_w4:=zt (w:=w) hb4
   have HP:=zh (And.intro n4 hl4)
   have hlow:∀b,b∈F5→w.heap.size+3≤b:=λb hb=>by have h9:=hl4.1 b hb;(try simp at h9);omega
   clear hr4 n4 hl4;go_wp2_with fail;refine bodyPost_ret (v:=.tuple #[.agg #[.string y.name,.slice B4 y.items.length c4,.int .i64 y.auto],.int .i64 ((Zk (⟨[]⟩:TRec) o.field).1+1),.bool yo]) (by simp[results,Tryz.results120,go_sem, *]) rfl ?_
   rw[HE.out,HE9.out]
   have hfin:cItemS.rep w4 [.slice B4 y.items.length c4] y.items F5:=HP.out.1
   refine⟨y,_,_,F5,?_,bl,TStore.mk_ hok4 (zks hfin hlow),λb hb=>.inl (by have h9:=hlow b hb;omega),λ_=>⟨rfl,rfl⟩,λ_=>HP.out.2.2⟩
   simp
 ·rw[hfn]
  have hir:ZcW s o.key=⟨s.items[j].rcd.fields⟩:=Zgb hj hfn
  have hrk:Ze (⟨s.items[j].rcd.fields⟩:TRec)=true:=(HIT.out.ok _ (List.getElem_mem hj)).2
  have hj0:(0:Int)≤(j:Int):=by omega
  have hjn:(j:Int)<(s.items.length:Int):=by omega
  obtain⟨g,o9,A3,e3,F3,rfl,hgF,hgr,hok3,q0,q1,q2,q3',r3,-⟩:=ZaO h hj;have q3:=zcl (p:=⟨g,o9+j*4+3,none⟩) hbw0 q3'
  have HRR:=zh r3;have hg1:¬g=w0.heap.size:=by omega
  have hg2:g<w0.heap.size:=by omega
  have q4:(w0.alloc (Obj.cells #[Value.slice none 0 0] 76)).cell? ⟨g,o9+j*4+3,none⟩=some (.slice A3 s.items[j].rcd.fields.length e3):=by rw[World.cell?_alloc_lt _ _ _ hg2];exact q3
  clear r3 q0 q1 q2;have HIR:=zh hir;have hng:=Zdf hrk o.field;have hrl9:=ZcR hrk;have hsl:=Zdw (⟨s.items[j].rcd.fields⟩:TRec) o.field ((Zk (⟨s.items[j].rcd.fields⟩:TRec) o.field).1+1)
  clear hir;go_wp2_with fail;refine(ZaN _ s.items[j].rcd.fields o.field _ _ (by exact zb HRR.out)).mono ?_
  rintro e w2 ⟨rfl,hb2⟩;obtain⟨hc_w2,hf_w2,hz_w2⟩:=Zc hb2
  try simp at hz_w2
  obtain⟨ha0_w2,ha1_w2,ha2_w2⟩:=zg3 w.heap.size w2.heap.size;have ha3_w2:w0.heap.size<w2.heap.size:=by omega
  have hb_w2:=zt (w:=w) hb2
  have hwn:IntKind.i64.wrap ((Zk (⟨s.items[j].rcd.fields⟩:TRec) o.field).1+1)=(Zk (⟨s.items[j].rcd.fields⟩:TRec) o.field).1+1:=IntWalk.i64_in _ (by have h9:=hng;omega)
  go_wp2_with fail;refine(Zeb _ s.items[j].rcd.fields o.field ((Zk (⟨s.items[j].rcd.fields⟩:TRec) o.field).1+1) _ _ (by exact zb HRR.out) (by omega) hoo.h6 (by omega)).mono ?_
  have HSL:=zh hsl;generalize hsf:Zan (⟨s.items[j].rcd.fields⟩:TRec) o.field ((Zk (⟨s.items[j].rcd.fields⟩:TRec) o.field).1+1)=q at *
  have HSF:=zh (show Zan (⟨s.items[j].rcd.fields⟩:TRec) o.field ((Zk (⟨s.items[j].rcd.fields⟩:TRec) o.field).1+1)=q from hsf)
  have hql:q.1.fields.length≤1000000:=by have h9:=HSL.out;(try rw[HSF.out] at h9);omega
  clear hsf hsl;obtain⟨x,xo⟩:=q;rintro e w3 ⟨vs3,F3',rfl,hb3,hr3,hf3⟩;obtain⟨u3,F4,rfl,rfl,-,n3⟩:=TRec.outA hr3;obtain⟨B3,c3,e9⟩:=Zb n3;subst e9;simp only at *
  obtain⟨hc_w3,hf_w3,hz_w3⟩:=Zc hb3
  try simp at hz_w3
  obtain⟨ha0_w3,ha1_w3,ha2_w3⟩:=zg3 w.heap.size w3.heap.size;have ha3_w3:w0.heap.size<w3.heap.size:=by omega
  have hb_w3:=zt (w:=w) hb3
  have HX3:=zh (And.intro n3 (show ∀b,b∈F3'→w0.heap.size+1≤b from λb hb=>by have h9:=hf3.1 b hb;(try simp at h9);omega))
  have hlowx:=HX3.out.2;clear hr3 n3 hf3;have HE9:=zh (show Zdh s o.key o.field=((ZO s o.key x).1,(Zk (⟨s.items[j].rcd.fields⟩:TRec) o.field).1+1,xo&&(ZO s o.key x).2) by rw[Zdb,HIR.out,HSF.out])
  cases xo
  ·go_wp2_with fail;refine bodyPost_ret (v:=.tuple #[.agg #[.string s.name,.slice (some ⟨g,o9,none⟩) s.items.length cp,.int .i64 s.auto],.int .i64 0,.bool false]) (by simp[results,Tryz.results120,go_sem, *]) rfl ?_
   rw[HE.out,HE9.out]
   have hfin:cItemS.rep w3 [.slice (some ⟨g,o9,none⟩) s.items.length cp] s.items F:=zb h hb_w3
   have hlow:∀b,b∈F→b<w.heap.size:=λb hb=>Cod.lt _ h b hb
   exact⟨s,_,_,F,rfl,bl,TStore.mk_ hok (zks hfin hlow),λb hb=>.inr hb,λh9=>by simp at h9,id⟩
  ·go_wp2_with fail;have hx3:cFieldS.rep w3 [.slice B3 x.fields.length c3] x.fields F3':=HX3.out.1
   refine(Zcr _ _ s o.key x F F3' _ (by exact zb h) (by exact(zks hx3 hlowx)) hok hkk hsm hql).mono ?_
   generalize ZO s o.key x=q2 at *
   obtain⟨y,yo⟩:=q2;rintro e w4 ⟨vs4,F5,rfl,hb4,hr4,hl4⟩;obtain⟨u4,_,rfl,rfl,hok4,n4⟩:=TStore.outA hr4;obtain⟨B4,c4,e9⟩:=Zb n4;subst e9;simp only at *
   obtain⟨hc_w4,hf_w4,hz_w4⟩:=Zc hb4
   try simp at hz_w4
   obtain⟨ha0_w4,ha1_w4,ha2_w4⟩:=zg3 w.heap.size w4.heap.size;have hb_w4:=zt (w:=w) hb4
   have HP:=zh (And.intro n4 hl4)
   have hlow:∀b,b∈F5→w.heap.size+3≤b:=λb hb=>by have h9:=hl4.1 b hb;(try simp at h9);omega
   clear hr4 n4 hl4;go_wp2_with fail;refine bodyPost_ret (v:=.tuple #[.agg #[.string y.name,.slice B4 y.items.length c4,.int .i64 y.auto],.int .i64 ((Zk (⟨s.items[j].rcd.fields⟩:TRec) o.field).1+1),.bool yo]) (by simp[results,Tryz.results120,go_sem, *]) rfl ?_
   rw[HE.out,HE9.out]
   have hfin:cItemS.rep w4 [.slice B4 y.items.length c4] y.items F5:=HP.out.1
   refine⟨y,_,_,F5,?_,bl,TStore.mk_ hok4 (zks hfin hlow),λb hb=>.inl (by have h9:=hlow b hb;omega),λ_=>⟨rfl,rfl⟩,λ_=>HP.out.2.2⟩
   simp
end Go.Proofs.YtghndifnohkokaaGreat
