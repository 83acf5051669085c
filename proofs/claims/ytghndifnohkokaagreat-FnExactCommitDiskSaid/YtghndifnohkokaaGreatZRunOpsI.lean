import Derived.Test.YtghndifnohkokaaGreatZRunOpI
namespace Go.Proofs.YtghndifnohkokaaGreat
open Go.ChangeShapes Go.WideShapes Go.RowKit
set_option linter.unusedVariables false
set_option linter.unusedSimpArgs false
set_option maxRecDepth 100000
set_option maxHeartbeats 16000000
def Znw (w:World) (r:TDb×Bool) (e:Ending) (w':World):Prop:=∃vs v2 F,e=.returned (.tuple #[.agg vs,v2,.bool r.2])∧Below w.heap.size w w'∧cDb.rep w' vs.toList r.1 F∧Fresh w.heap.size F
def ZpO (wr:World) (r:TDb×Int×Bool) (wq:World) (t10 t11 t12:Value):Prop :=
 ∃xb B c V cv F G,t10=.pointer (some ⟨xb,0,none⟩)∧t11=.int .i64 r.2.1∧t12=.bool r.2.2∧DbAt wq xb wr.heap.size r.1 B c V cv F G∧wr.heap.size≤xb∧xb<wq.heap.size∧Below wr.heap.size wr wq∧(F++G).Nodup
theorem ZeP (v u vl:Value) (d:TDb) (l:List TOp) (F G FL:List Nat) (w:World) (h:cStoreS.rep w [v] d.stores F) (hu:cIdxS.rep w [u] d.uniq G) (hl:cOpS.rep w [vl] l FL) (hok:d.Ok) (hsm:Zbl d) :
  Calls Tryz.prog 37 #[.agg #[.string d.name,.int .i64 d.ver,v,u],vl] w (Znw w (Zba d l)):=by
 obtain⟨i0,hi0,jz0,jz1,jz2⟩:=info_parts Zgc;obtain⟨A,cp,rfl⟩:=Zb h;obtain⟨U,cu,rfl⟩:=Zb hu;obtain⟨LA,lc,rfl⟩:=Zb hl;obtain⟨-,hlc,hm⟩:=Zq hl
 unfold maxLen at hm
 obtain⟨n,hxn⟩:∃n,l.length=n:=⟨_,rfl⟩
 have HN:=zh hxn;rw[hxn] at hlc hl⊢
 clear hxn;go_enter Tryz.func37,Tryz.ntmps37
 go_wp2_with fail;generalize hV_:World.alloc _ _=V
 have hbV:Below w.heap.size w V:=by rw[← hV_];exact bl
 have hVs:V.heap.size=w.heap.size+2:=by rw[← hV_];clear hV_;simp
 have a0:V.cell? ⟨w.heap.size,0,none⟩=some (.string d.name):=by rw[← hV_];clear hV_;go_simp
 have a1:V.cell? ⟨w.heap.size,1,none⟩=some (.int .i64 d.ver):=by rw[← hV_];clear hV_;go_simp
 have a2:V.cell? ⟨w.heap.size,2,none⟩=some (.slice A d.stores.length cp):=by rw[← hV_];clear hV_;go_simp
 have a3:V.cell? ⟨w.heap.size,3,none⟩=some (.slice U d.uniq.length cu):=by rw[← hV_];clear hV_;go_simp
 have q0:V.cell? ⟨w.heap.size+1,0,none⟩=some (.string ⟨#[]⟩):=by rw[← hV_];clear hV_;go_simp
 have q1:V.cell? ⟨w.heap.size+1,1,none⟩=some (.int .i64 0):=by rw[← hV_];clear hV_;go_simp
 have q2:V.cell? ⟨w.heap.size+1,2,none⟩=some (.slice none 0 0):=by rw[← hV_];clear hV_;go_simp
 have q3:V.cell? ⟨w.heap.size+1,3,none⟩=some (.slice none 0 0):=by rw[← hV_];clear hV_;go_simp
 have fq0:V.frozen? ⟨w.heap.size+1,0,none⟩=false:=by rw[← hV_];clear hV_;go_simp
 have fq1:V.frozen? ⟨w.heap.size+1,1,none⟩=false:=by rw[← hV_];clear hV_;go_simp
 have fq2:V.frozen? ⟨w.heap.size+1,2,none⟩=false:=by rw[← hV_];clear hV_;go_simp
 have fq3:V.frozen? ⟨w.heap.size+1,3,none⟩=false:=by rw[← hV_];clear hV_;go_simp
 clear hV_;refine(ZaF #[_,_,_,_] d _ _ (by exact TDb.mk_ hok (zb h hbV) (zb hu hbV)) hsm).mono ?_
 intro e w1 hcr;obtain⟨B,c,FB,U1,cu1,GU,rfl,hb1,-,hr1,hl1,hu1,hm1,hnd1⟩:=dbF hcr;have HND1:=zh hnd1;clear hnd1;clear hcr;have hz1:=hb1.size;obtain⟨hc1,hf1,-⟩:=Zc hb1;have hV1:Below V.heap.size V w1:=hb1
 have hq10:w.heap.size<w1.heap.size:=by omega
 have hq11:w.heap.size+1<w1.heap.size:=by omega
 have hbw1:Below w.heap.size w w1:=Za hbV hV1
 have hlt1:∀b,b∈FB→b<w1.heap.size:=λb hb=>Cod.lt _ hr1 b hb
 have hlt2:∀b,b∈GU→b<w1.heap.size:=λb hb=>Cod.lt _ hu1 b hb
 have HP1:=zh (And.intro hr1 hu1)
 clear hr1 hu1;go_wp2_with fail;refine(Zcq _ _ d F G _ (by exact zb h) (by exact zb hu) hok hsm).mono ?_
 rintro e w3 ⟨rfl,hb3⟩;have hz3:=hb3.size;(try simp at hz3)
 have hz30:w1.heap.size<w3.heap.size:=by omega
 obtain⟨hc3,hf3,-⟩:=Zc hb3;have hV3:=zt (w:=V) hb3
 have hb13:=zt (w:=w1) hb3
 have hbw3:Below w.heap.size w w3:=Za hbV hV3
 have x0:w3.cell? ⟨w1.heap.size,0,none⟩=some (.string d.name):=by go_simp
 have x1:w3.cell? ⟨w1.heap.size,1,none⟩=some (.int .i64 d.ver):=by go_simp
 have x2:w3.cell? ⟨w1.heap.size,2,none⟩=some (.slice B d.stores.length c):=by go_simp
 have x3:w3.cell? ⟨w1.heap.size,3,none⟩=some (.slice U1 d.uniq.length cu1):=by go_simp
 have fx0:w3.frozen? ⟨w1.heap.size,0,none⟩=false:=by go_simp
 have fx1:w3.frozen? ⟨w1.heap.size,1,none⟩=false:=by go_simp
 have fx2:w3.frozen? ⟨w1.heap.size,2,none⟩=false:=by go_simp
 have fx3:w3.frozen? ⟨w1.heap.size,3,none⟩=false:=by go_simp
 have HD3:=zh (show DbAt w3 w1.heap.size (w.heap.size+2) d B c U1 cu1 FB GU from ⟨x0,x1,x2,x3,fx0,fx1,fx2,fx3,hok,hsm,zb HP1.out.1 hb13,zb HP1.out.2 hb13,λb hb=>by have h9:=hl1 b hb;have h8:=hlt1 b hb;omega,λb hb=>by have h9:=hm1 b hb;have h8:=hlt2 b hb;omega⟩)
 have a0_w3:=zcl hV3 a0;have a1_w3:=zcl hV3 a1;have a2_w3:=zcl hV3 a2;have a3_w3:=zcl hV3 a3;have q0_w3:=zcl hV3 q0;have q1_w3:=zcl hV3 q1;have q2_w3:=zcl hV3 q2;have q3_w3:=zcl hV3 q3;have fq0_w3:=zcf hV3 fq0;have fq1_w3:=zcf hV3 fq1;have fq2_w3:=zcf hV3 fq2;have fq3_w3:=zcf hV3 fq3;have hw1b:V.heap.size≤w1.heap.size:=hz1
 have hww:w.heap.size<w3.heap.size:=by omega
 have hww1:w.heap.size+1<w3.heap.size:=by omega
 clear hc1 hf1 hb1 hl1 hm1 hlt1 hlt2 HP1 hc3 hf3 hb3
 cases e1:Zi d
 ·have HE:=zh (Zka (d:=d) (l:=l) (by rw[e1];rfl))
  go_wp2_with fail;refine bodyPost_ret (v:=.tuple #[.agg #[.string d.name,.int .i64 d.ver,.slice B d.stores.length c,.slice U1 d.uniq.length cu1],.slice (some ⟨w1.heap.size+1,0,none⟩) 0 0,.bool false]) (by simp[results,Tryz.results37,go_sem, *]) rfl ?_
  rw[HE.out]
  have hrS:=HD3.out.rs;have hrU:=HD3.out.ru;have hl1:∀b,b∈FB→w.heap.size+2≤b:=λb hb=>(HD3.out.hF b hb).1
  have hl2:∀b,b∈GU→w.heap.size+2≤b:=λb hb=>(HD3.out.hG b hb).1
  exact⟨_,_,FB++GU,rfl,bl,TDb.mk_ hok (zks hrS hl1) (zks hrU hl2),⟨Lo.app (Lo.mono hl1 (by omega)) (Lo.mono hl2 (by omega)),HND1.out⟩⟩
 by_cases h6:(6:Int)<(n:Int)
 ·have HE:=zh (Zka (d:=d) (l:=l) (by rw[e1,HN.out,decide_eq_false (by omega)];rfl))
  go_wp2_with fail;refine bodyPost_ret (v:=.tuple #[.agg #[.string d.name,.int .i64 d.ver,.slice B d.stores.length c,.slice U1 d.uniq.length cu1],.slice (some ⟨w1.heap.size+1,0,none⟩) 0 0,.bool false]) (by simp[results,Tryz.results37,go_sem, *]) rfl ?_
  rw[HE.out]
  have hrS:=HD3.out.rs;have hrU:=HD3.out.ru;have hl1:∀b,b∈FB→w.heap.size+2≤b:=λb hb=>(HD3.out.hF b hb).1
  have hl2:∀b,b∈GU→w.heap.size+2≤b:=λb hb=>(HD3.out.hG b hb).1
  exact⟨_,_,FB++GU,rfl,bl,TDb.mk_ hok (zks hrS hl1) (zks hrU hl2),⟨Lo.app (Lo.mono hl1 (by omega)) (Lo.mono hl2 (by omega)),HND1.out⟩⟩
 ·have HE:=zh (ZpE (d:=d) (l:=l) e1 (by rw[HN.out];omega))
  have hn6:n≤6:=by omega
  clear x0 x1 x2 x3 fx0 fx1 fx2 fx3 a0_w3 a1_w3 a2_w3 a3_w3 q0_w3 q1_w3 q2_w3 q3_w3 fq0_w3 fq1_w3 fq2_w3 fq3_w3;go_wp2_with fail;go_loopw [8,29] (λnv i wr=>∃(k:Nat) (e:TDb) (ns:List Int) (Bk:Option Addr) (ck:Nat) (Vk:Option Addr) (cvk:Nat) (Fk Gk:List Nat),k≤n∧i=.int .i64 k∧ZaV d (l.take k)=some e∧DbAt wr w1.heap.size (w.heap.size+2) e Bk ck Vk cvk Fk Gk∧Own cI 3 w3.heap.size wr nv ns []∧ns.length=k∧Below V.heap.size V wr∧w3.heap.size≤wr.heap.size∧(Fk++Gk).Nodup) (λ_ i _=>n-(intOf i).toNat)
  case atStart=>exact⟨0,d,[],B,c,U1,cu1,FB,GU,Nat.zero_le _,rfl,rfl,HD3.out,Own.empty _,rfl,hV3,Nat.le_refl _,HND1.out⟩
  case round =>
   obtain⟨k,e,ns,Bk,ck,Vk,cvk,Fk,Gk,hk,rfl,hall,hDk,hown,hnl,hVr,hrs,hndk⟩:=hrel;have HNDK:=zh hndk;clear hndk;obtain⟨NA,nc,hnv⟩:=hown.slice;subst hnv;rw[hnl] at hown
   have HO:=zh hown;have hlo:=hown.lt;have HD:=zh hDk;have HNS:=zh hnl;have x0:=hDk.c0;have x1:=hDk.c1;have x2:=hDk.c2;have x3:=hDk.c3
   have fx0:=hDk.z0;have fx1:=hDk.z1;have fx2:=hDk.z2;have fx3:=hDk.z3
   have hbwr:Below w.heap.size w wr:=Za hbV hVr
   have a0_wr:=zcl hVr a0;have a1_wr:=zcl hVr a1;have a2_wr:=zcl hVr a2;have a3_wr:=zcl hVr a3;have q0_wr:=zcl hVr q0;have q1_wr:=zcl hVr q1;have q2_wr:=zcl hVr q2;have q3_wr:=zcl hVr q3;have fq0_wr:=zcf hVr fq0;have fq1_wr:=zcf hVr fq1;have fq2_wr:=zcf hVr fq2;have fq3_wr:=zcf hVr fq3;have hr0:w.heap.size<wr.heap.size:=by omega
   have hr1:w.heap.size+1<wr.heap.size:=by omega
   have hr2:w1.heap.size<wr.heap.size:=by omega
   clear hown hDk;rw[hnl]
   clear hnl
   by_cases hlt:k<n
   ·have hkx:k<l.length:=by rw[HN.out];exact hlt
    have hki:((k:Int)<(n:Int)):=by omega
    have hk0:(0:Int)≤(k:Int):=by omega
    obtain⟨g,o,A3,c3,F3,rfl,hgF,hgr,hok3,p0,p1,p2,p3,p4,p5,p6,r3,-⟩:=Zoi (zb hl hbwr) hkx
    have HO3:=zh r3;have HST:=zh (show ((ZaR e l[k]).2.2=true→ZaV d (l.take (k+1))=some (ZaR e l[k]).1)∧((ZaR e l[k]).2.2=false→ZaV d l=none)∧(-1≤(ZaR e l[k]).2.1∧(ZaR e l[k]).2.1≤2000000000) from ⟨Zjw hkx hall,ZkZ hkx hall,Zor⟩)
    have HSR:=zh (And.intro (Zis (o:=l[k]) HD.out.sm) True.intro)
    clear hall r3
    go_upto_region 8 with (fail)
    generalize hY:World.alloc _ _=Y
    have hbY:Below wr.heap.size wr Y:=by rw[← hY];exact bl
    have hYs:Y.heap.size=wr.heap.size+1:=by rw[← hY];clear hY;simp
    have y0:=zcl hbY x0;have y1:=zcl hbY x1;have y2:=zcl hbY x2;have y3:=zcl hbY x3;have p0:Y.cell? ⟨wr.heap.size,0,none⟩=some (.int .i64 l[k].kind):=by rw[← hY];clear hY;go_simp
    have p1:Y.cell? ⟨wr.heap.size,1,none⟩=some (.string l[k].store):=by rw[← hY];clear hY;go_simp
    have p2:Y.cell? ⟨wr.heap.size,2,none⟩=some (.int .i64 l[k].key.kind):=by rw[← hY];clear hY;go_simp
    have p3:Y.cell? ⟨wr.heap.size,3,none⟩=some (.int .i64 l[k].key.n):=by rw[← hY];clear hY;go_simp
    have p4:Y.cell? ⟨wr.heap.size,4,none⟩=some (.string l[k].key.text):=by rw[← hY];clear hY;go_simp
    have p5:Y.cell? ⟨wr.heap.size,5,none⟩=some (.slice A3 l[k].rcd.fields.length c3):=by rw[← hY];clear hY;go_simp
    have p6:Y.cell? ⟨wr.heap.size,6,none⟩=some (.string l[k].field):=by rw[← hY];clear hY;go_simp
    clear hY
    go_cut [11,12,13] from 33 to 39 (λt11 t12 t13 wq=>ZpO Y (ZaR e l[k]) wq t11 t12 t13)
    case first =>
     have hyy:Below Y.heap.size Y Y:=Below.refl _ _
     go_wp2_with fail;refine(ZjR _ _ _ e l[k] Fk Gk F3 _ (by exact zb HD.out.rs hbY) (by exact zb HD.out.ru hbY) (by exact zb HO3.out hbY) HD.out.ok hok3 HD.out.sm).mono ?_
     rintro e6 w6 ⟨vs6,F6,rfl,hb6,hr6,hl6,hnd6⟩;obtain⟨u6,u7,F7,F8,rfl,rfl,hok6,k6,k7⟩:=TDb.outA hr6;obtain⟨B6,c6,e9⟩:=Zb k6;subst e9;obtain⟨V6,c7,e9⟩:=Zb k7;subst e9;simp only at *
     have hw6:Below Y.heap.size Y w6:=Za hyy hb6
     obtain⟨hc6,hf6,-⟩:=Zc hb6;have hz6:=hb6.size;have HP6:=zh (And.intro k6 k7)
     have HND6:=zh hnd6;have hn7:∀b,b∈F7→Y.heap.size≤b∧b<w6.heap.size:=λb hb=>⟨hl6 b (by simp[hb]),Cod.lt _ k6 b hb⟩
     have hn8:∀b,b∈F8→Y.heap.size≤b∧b<w6.heap.size:=λb hb=>⟨hl6 b (by simp[hb]),Cod.lt _ k7 b hb⟩
     clear hr6 hl6 k6 k7 hnd6;go_wp2_with fail;go_meet
     case rel =>
      have k6:=HP6.out.1;have k7:=HP6.out.2;exact⟨_,B6,c6,V6,c7,F7,F8,rfl,rfl,rfl,⟨by go_simp,by go_simp,by go_simp,by go_simp,by go_simp,by go_simp,by go_simp,by go_simp,hok6,HSR.out.1,(zks k6 hn7),(zks k7 hn8),λb hb=>by have h9:=hn7 b hb;(try simp);omega,λb hb=>by have h9:=hn8 b hb;(try simp);omega⟩,by (try simp);(try omega),by (try simp);(try omega),bl,HND6.out⟩
    case rest =>
     generalize wc=w6 at *
     generalize ZaR e l[k]=q at *
     obtain⟨y,yn,yo⟩:=q;obtain⟨xb,B6,c6,V6,c7,F7,F8,e10,e11,e12,hD6,hx0,hx1,hB6,hnd6⟩:=hcut;have HND6:=zh hnd6;clear hnd6;simp only at e10 e11 e12 hD6
     subst e10 e11 e12
     have hB69:Below wr.heap.size wr w6:=hbY.trans (hB6.mono (by omega))
     have hV6:Below V.heap.size V w6:=Za hVr hB69
     have hbw6:Below w.heap.size w w6:=Za hbwr hB69
     have hz6:=hB69.size;have hz60:=hB6.size;have m0:=hD6.c0;have m1:=hD6.c1;have m2:=hD6.c2;have m3:=hD6.c3
     have HD6:=zh hD6;have h60:w.heap.size<w6.heap.size:=by omega
     have h61:w.heap.size+1<w6.heap.size:=by omega
     have h62:w1.heap.size<w6.heap.size:=by omega
     have hK6:Keep w3.heap.size wr w6:=(Keep.refl _ _).bel hB69
     have hx9:¬xb=w1.heap.size:=by omega
     have HX:=zh (show (∀j,w6.cell? ⟨w.heap.size,j,none⟩=wr.cell? ⟨w.heap.size,j,none⟩)∧(∀j,w6.cell? ⟨w.heap.size+1,j,none⟩=wr.cell? ⟨w.heap.size+1,j,none⟩)∧(∀j,w6.frozen? ⟨w.heap.size+1,j,none⟩=wr.frozen? ⟨w.heap.size+1,j,none⟩)∧(∀j,w6.frozen? ⟨w1.heap.size,j,none⟩=wr.frozen? ⟨w1.heap.size,j,none⟩) from ⟨λj=>hB69.cell (by omega),λj=>hB69.cell (by omega),λj=>hB69.frozen (by omega),λj=>hB69.frozen (by omega)⟩)
     have b0:=(HX.out.1 0).trans a0_wr;have b1:=(HX.out.1 1).trans a1_wr;have b2:=(HX.out.1 2).trans a2_wr;have b3:=(HX.out.1 3).trans a3_wr
     have r0:=(HX.out.2.1 0).trans q0_wr;have r1:=(HX.out.2.1 1).trans q1_wr;have r2:=(HX.out.2.1 2).trans q2_wr;have r3:=(HX.out.2.1 3).trans q3_wr
     have fr0:=(HX.out.2.2.1 0).trans fq0_wr;have fr1:=(HX.out.2.2.1 1).trans fq1_wr;have fr2:=(HX.out.2.2.1 2).trans fq2_wr;have fr3:=(HX.out.2.2.1 3).trans fq3_wr
     have gx0:=(HX.out.2.2.2 0).trans fx0;have gx1:=(HX.out.2.2.2 1).trans fx1;have gx2:=(HX.out.2.2.2 2).trans fx2;have gx3:=(HX.out.2.2.2 3).trans fx3
     have xx0:=zcl hB69 x0;have xx1:=zcl hB69 x1;have xx2:=zcl hB69 x2;have xx3:=zcl hB69 x3
     have hw6b:Below w6.heap.size w6 w6:=Below.refl _ _
     clear hD6 p0 p1 p2 p3 p4 p5 p6 y0 y1 y2 y3 x0 x1 x2 x3 fx0 fx1 fx2 fx3 a0_wr a1_wr a2_wr a3_wr q0_wr q1_wr q2_wr q3_wr fq0_wr fq1_wr fq2_wr fq3_wr;cases yo
     ·have HE2:=zh (show Zba d l=(d,false) by rw[HE.out,HST.out.2.1 rfl])
      go_wp2_with fail;refine(ZaF #[_,_,_,_] d _ _ (by exact TDb.mk_ hok (zb h hbw6) (zb hu hbw6)) hsm).mono ?_
      intro e w8 hcr;obtain⟨B8,c8,F8',V8,cv8,G8,rfl,hb8,-,hr8,hl8,hu8,hm8,hnd8⟩:=dbF hcr;have HND8:=zh hnd8;clear hnd8;clear hcr;obtain⟨hc_w8,hf_w8,hz_w8⟩:=Zc hb8
      try simp at hz_w8
      obtain⟨ha0_w8,ha1_w8⟩:=zg2 w.heap.size w8.heap.size;have ha2_w8:w1.heap.size<w8.heap.size:=by omega
      have hb_w8:=zt (w:=w) hb8
      have HP8:=zh (And.intro hr8 hu8)
      have hl1:∀b,b∈F8'→w.heap.size+2≤b:=λb hb=>by have h9:=hl8 b hb;omega
      have hl2:∀b,b∈G8→w.heap.size+2≤b:=λb hb=>by have h9:=hm8 b hb;omega
      clear hr8 hu8 hl8 hm8;go_wp2_with fail;refine bodyPost_ret (v:=.tuple #[.agg #[.string d.name,.int .i64 d.ver,.slice B8 d.stores.length c8,.slice V8 d.uniq.length cv8],.slice (some ⟨w8.heap.size,0,none⟩) 0 0,.bool false]) (by simp[results,Tryz.results37,go_sem, *]) rfl ?_
      rw[HE2.out]
      have hrS:cStoreS.rep w8 [.slice B8 d.stores.length c8] d.stores F8':=HP8.out.1
      have hrU:cIdxS.rep w8 [.slice V8 d.uniq.length cv8] d.uniq G8:=HP8.out.2
      exact⟨_,_,F8'++G8,rfl,bl,TDb.mk_ hok (zks hrS hl1) (zks hrU hl2),⟨Lo.app (Lo.mono hl1 (by omega)) (Lo.mono hl2 (by omega)),HND8.out⟩⟩
     ·have hall2:=HST.out.1 rfl;have HA2:=zh hall2;clear hall2;have hyn:=HST.out.2.2;simp only at hyn
      go_wp2_with (at_builtin;refine Zl (c:=cI) (B:=w3.heap.size) (xs:=ns) (ys:=[yn]) (Fi:=[]) (Fy:=[]) _ rfl _ _ _ rfl i0 _ _ Tryz.underlying67 hi0 jz0 jz1 jz2 rfl (by decide) rfl (HO.out.keepF (by repeat (first|with_reducible exact Keep.refl _ _|with_reducible assumption|with_reducible refine Keep.alloc ?_ _|with_reducible refine Keep.drew ?_|with_reducible refine Keep.drewN ?_ _|(with_reducible refine Keep.set_ ?_ ?_ _;rotate_left;((try simp);(try omega)))))) (.slice (some ⟨w6.heap.size,0,none⟩) 1 1) rfl (Zcf 3 (w6.heap.size) (by simp) ⟨rfl,rfl,by omega⟩) (by have h9:=HNS.out;unfold maxLen;simp;omega) (by have h9:=HNS.out;simp;omega) (by (try simp);(try omega)) (by simp) ?_)
      intro v7 w7 ho7 hg7 hat7;have hz7:=hg7.size;(try simp at hz7)
      have hown2:∀g,Zac (.slice NA k nc)=some g→w3.heap.size≤g∧g<wr.heap.size:=hlo
      have hD7:DbAt w7 w1.heap.size (w.heap.size+2) y B6 c6 V6 c7 F7 F8:=by
       have k6:=HD6.out.rs;have k7:=HD6.out.ru;have hn7:∀b,b∈F7→wr.heap.size≤b∧b<w6.heap.size:=λb hb=>⟨by have h9:=(HD6.out.hF b hb).1;omega,Cod.lt _ k6 b hb⟩
       have hn8:∀b,b∈F8→wr.heap.size≤b∧b<w6.heap.size:=λb hb=>⟨by have h9:=(HD6.out.hG b hb).1;omega,Cod.lt _ k7 b hb⟩
       exact DbAt.grown hg7 (by (try simp);(try omega)) (λg hg=>by
        have h9:=hown2 g hg;exact⟨by omega,λhm=>by have h8:=hn7 g hm;omega,λhm=>by have h8:=hn8 g hm;omega⟩)
        ⟨by go_simp,by go_simp,by go_simp,by go_simp,by go_simp,by go_simp,by go_simp,by go_simp,HD6.out.ok,HD6.out.sm,(zks k6 hn7),(zks k7 hn8),λb hb=>by have h9:=hn7 b hb;omega,λb hb=>by have h9:=hn8 b hb;omega⟩
      have hB7:Below V.heap.size V w7:=(show Below V.heap.size V _ from bl).grown hg7 (by (try simp);omega) (λg hg=>by have h9:=hown2 g hg;omega)
      have HF:=zh (And.intro hD7 (And.intro ho7 hB7))
      clear ho7 hg7 hat7 hD7;go_wp2_with fail;go_roundw
      case rel=>exact⟨k+1,y,ns++[yn],B6,c6,V6,c7,F7,F8,by omega,by go_num,HA2.out,HF.out.1,HF.out.2.1,by rw[List.length_append,HNS.out];rfl,hB7,by omega,HND6.out⟩
      case measure=>simp[intOf];omega
   ·obtain rfl:k=n:=by omega
    have htl:l.take k=l:=List.take_of_length_le (by rw[HN.out];exact Nat.le_refl _)
    rw[htl] at hall
    have HE2:=zh (show Zba d l=(e,true) by rw[HE.out,hall])
    clear hall htl;go_wp2_with fail;refine bodyPost_ret (v:=.tuple #[.agg #[.string e.name,.int .i64 e.ver,.slice Bk e.stores.length ck,.slice Vk e.uniq.length cvk],.slice NA k nc,.bool true]) (by simp[results,Tryz.results37,go_sem, *]) rfl ?_
    rw[HE2.out]
    have hrS:=HD.out.rs;have hrU:=HD.out.ru;have hl1:∀b,b∈Fk→w.heap.size+2≤b:=λb hb=>(HD.out.hF b hb).1
    have hl2:∀b,b∈Gk→w.heap.size+2≤b:=λb hb=>(HD.out.hG b hb).1
    exact⟨_,_,Fk++Gk,rfl,bl,TDb.mk_ HD.out.ok (zks hrS hl1) (zks hrU hl2),⟨Lo.app (Lo.mono hl1 (by omega)) (Lo.mono hl2 (by omega)),HNDK.out⟩⟩
end Go.Proofs.YtghndifnohkokaaGreat
