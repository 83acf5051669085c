import Derived.Test.YtghndifnohkokaaGreatZDiskP
import Derived.Test.YtghndifnohkokaaGreatZDecOpsI
import Derived.Test.YtghndifnohkokaaGreatZRunOpsI
namespace Go.Proofs.YtghndifnohkokaaGreat
open Go.ChangeShapes Go.WideShapes Go.RowKit
set_option linter.unusedVariables false
set_option linter.unusedSimpArgs false
set_option maxRecDepth 100000
set_option maxHeartbeats 16000000
theorem Zea (vs:Array Value) (k:TDisk) (F:List Nat) (w:World) (h:cDisk.rep w vs.toList k F) (hsz:cDisk.sz k≤1048576) :
  Calls Tryz.prog 23 #[.agg vs] w (ZoI w (ZQ k)):=by
 obtain⟨hsm,hlg⟩:=Zcj hsz;obtain⟨v2,v3,v4,F2,F3,F4,rfl,rfl,hok,m2,m3,m4⟩:=TDisk.outA h;obtain⟨A,cp,rfl⟩:=Zb m2;obtain⟨U,cu,rfl⟩:=Zb m3;obtain⟨L,cl,rfl⟩:=Zb m4;have hbok:k.base.Ok:=⟨hok.h0,hok.h1⟩
 go_enter Tryz.func23,Tryz.ntmps23
 go_wp2_with fail;generalize hV_:World.alloc _ _=V
 have hbV:Below w.heap.size w V:=by rw[← hV_];exact bl
 have hVs:V.heap.size=w.heap.size+2:=by rw[← hV_];clear hV_;simp
 have a0:V.cell? ⟨w.heap.size,0,none⟩=some (.string k.base.name):=by rw[← hV_];clear hV_;go_simp
 have a1:V.cell? ⟨w.heap.size,1,none⟩=some (.int .i64 k.base.ver):=by rw[← hV_];clear hV_;go_simp
 have a2:V.cell? ⟨w.heap.size,2,none⟩=some (.slice A k.base.stores.length cp):=by rw[← hV_];clear hV_;go_simp
 have a3:V.cell? ⟨w.heap.size,3,none⟩=some (.slice U k.base.uniq.length cu):=by rw[← hV_];clear hV_;go_simp
 have a4:V.cell? ⟨w.heap.size,4,none⟩=some (.slice L k.log.length cl):=by rw[← hV_];clear hV_;go_simp
 have a5:V.cell? ⟨w.heap.size,5,none⟩=some (.int .i64 k.count):=by rw[← hV_];clear hV_;go_simp
 have q0:V.cell? ⟨w.heap.size+1,0,none⟩=some (.string ⟨#[]⟩):=by rw[← hV_];clear hV_;go_simp
 have fq0:V.frozen? ⟨w.heap.size+1,0,none⟩=false:=by rw[← hV_];clear hV_;go_simp
 have q1:V.cell? ⟨w.heap.size+1,1,none⟩=some (.int .i64 0):=by rw[← hV_];clear hV_;go_simp
 have fq1:V.frozen? ⟨w.heap.size+1,1,none⟩=false:=by rw[← hV_];clear hV_;go_simp
 have q2:V.cell? ⟨w.heap.size+1,2,none⟩=some (.slice none 0 0):=by rw[← hV_];clear hV_;go_simp
 have fq2:V.frozen? ⟨w.heap.size+1,2,none⟩=false:=by rw[← hV_];clear hV_;go_simp
 have q3:V.cell? ⟨w.heap.size+1,3,none⟩=some (.slice none 0 0):=by rw[← hV_];clear hV_;go_simp
 have fq3:V.frozen? ⟨w.heap.size+1,3,none⟩=false:=by rw[← hV_];clear hV_;go_simp
 clear hV_;refine(ZaF #[_,_,_,_] k.base _ _ (by exact TDb.mk_ hbok (zb m2 hbV) (zb m3 hbV)) hsm).mono ?_
 intro e w1 hcr;obtain⟨B1,c1,FB,V1,cv1,GU,rfl,hb1,-,hr1,hl1,hu1,hm1,hnd1⟩:=dbF hcr;clear hcr;have hz1:=hb1.size;have hw10:w.heap.size<w1.heap.size:=by omega
 have hw11:w.heap.size+1<w1.heap.size:=by omega
 have hV1:Below V.heap.size V w1:=hb1
 have hbw1:Below w.heap.size w w1:=Za hbV hV1
 have hlt1:∀b,b∈FB→b<w1.heap.size:=λb hb=>Cod.lt _ hr1 b hb
 have hlt2:∀b,b∈GU→b<w1.heap.size:=λb hb=>Cod.lt _ hu1 b hb
 have HP1:=zh (And.intro hr1 (And.intro hu1 (And.intro hl1 (And.intro hm1 (And.intro hlt1 hlt2)))))
 have a0_w1:=zcl hV1 a0;have a1_w1:=zcl hV1 a1;have a2_w1:=zcl hV1 a2;have a3_w1:=zcl hV1 a3;have a4_w1:=zcl hV1 a4;have a5_w1:=zcl hV1 a5;have HND1:=zh hnd1;clear hnd1;clear hr1 hu1 hl1 hm1 hlt1 hlt2 hb1 a0 a1 a2 a3 a4 a5;go_wp2_with fail;generalize hY:World.alloc _ _=Y
 have hbY:Below w1.heap.size w1 Y:=by rw[← hY];exact bl
 have hYs:Y.heap.size=w1.heap.size+1:=by rw[← hY];clear hY;simp
 have y0:Y.cell? ⟨w1.heap.size,0,none⟩=some (.string k.base.name):=by rw[← hY];clear hY;go_simp
 have fy0:Y.frozen? ⟨w1.heap.size,0,none⟩=false:=by rw[← hY];clear hY;go_simp
 have y1:Y.cell? ⟨w1.heap.size,1,none⟩=some (.int .i64 k.base.ver):=by rw[← hY];clear hY;go_simp
 have fy1:Y.frozen? ⟨w1.heap.size,1,none⟩=false:=by rw[← hY];clear hY;go_simp
 have y2:Y.cell? ⟨w1.heap.size,2,none⟩=some (.slice B1 k.base.stores.length c1):=by rw[← hY];clear hY;go_simp
 have fy2:Y.frozen? ⟨w1.heap.size,2,none⟩=false:=by rw[← hY];clear hY;go_simp
 have y3:Y.cell? ⟨w1.heap.size,3,none⟩=some (.slice V1 k.base.uniq.length cv1):=by rw[← hY];clear hY;go_simp
 have fy3:Y.frozen? ⟨w1.heap.size,3,none⟩=false:=by rw[← hY];clear hY;go_simp
 clear hY;refine(ZhO _ k.log F4 _ (by exact zb m4 (Za hbw1 hbY)) (by omega)).mono ?_
 rintro e w3 ⟨vl,nn,FL,rfl,hb3,hrl,hlL⟩;obtain⟨n,hxn⟩:∃n,(Zak k.log).length=n:=⟨_,rfl⟩
 have hnl:n≤1048576:=by rw[← hxn];have h9:=Zcu (log:=k.log) (k.log.length+1) 0 0 (Nat.zero_le _);unfold Zak;omega
 have hsml:∀x,x∈Zak k.log→x.length≤4000:=ZdT _ _ _
 have HOP:=zh (show ZQ k=Zab k.base 0 ((Zak k.log).drop 0) from rfl)
 generalize Zak k.log=es at *
 obtain⟨LA,lc,rfl⟩:=Zb hrl;have HN:=zh hxn;rw[hxn] at hrl⊢
 have HRL:=zh (And.intro hrl (And.intro hlL hsml))
 have hV3:Below V.heap.size V w3:=Za hV1 (Za hbY hb3)
 have hbw3:Below w.heap.size w w3:=Za hbV hV3
 have hz3:=hb3.size;have hy1:w1.heap.size<Y.heap.size:=by omega
 have HD3:=zh (show DbAt w3 w1.heap.size (w.heap.size+2) k.base B1 c1 V1 cv1 FB GU from
  ⟨zcl hb3 y0,zcl hb3 y1,zcl hb3 y2,zcl hb3 y3,zcf hb3 fy0,zcf hb3 fy1,zcf hb3 fy2,zcf hb3 fy3,hbok,hsm,zb HP1.out.1 (Za hbY hb3),zb HP1.out.2.1 (Za hbY hb3),λb hb=>by have h9:=HP1.out.2.2.1 b hb;have h8:=HP1.out.2.2.2.2.1 b hb;omega,λb hb=>by have h9:=HP1.out.2.2.2.1 b hb;have h8:=HP1.out.2.2.2.2.2 b hb;omega⟩)
 clear hrl hlL hsml hxn y0 fy0 y1 fy1 y2 fy2 y3 fy3 a0_w1 a1_w1 a2_w1 a3_w1 a4_w1 a5_w1;go_wp2_with fail;go_loopw [22] (λi wr=>∃(m:Nat) (e:TDb) (Bk:Option Addr) (ck:Nat) (Vk:Option Addr) (cvk:Nat) (Fk Gk:List Nat),m≤n∧i=.int .i64 m∧Zab k.base 0 (es.drop 0)=Zab e m (es.drop m)∧DbAt wr w1.heap.size (w.heap.size+2) e Bk ck Vk cvk Fk Gk∧Below V.heap.size V wr∧w3.heap.size≤wr.heap.size∧Only [w1.heap.size] w3 wr∧(Fk++Gk).Nodup) (λi _=>n-(intOf i).toNat)
 case atStart=>exact⟨0,k.base,B1,c1,V1,cv1,FB,GU,Nat.zero_le _,rfl,rfl,HD3.out,hV3,Nat.le_refl _,Only.refl _ _,HND1.out⟩
 case round =>
  obtain⟨m,e,Bk,ck,Vk,cvk,Fk,Gk,hm,rfl,hop,hDk,hVr,hrs,hon,hndk⟩:=hrel;have HD:=zh hDk;have HO:=zh (And.intro hop hon)
  have HNDK:=zh hndk;clear hndk;have x0:=hDk.c0;have x1:=hDk.c1;have x2:=hDk.c2;have x3:=hDk.c3
  have fx0:=hDk.z0;have fx1:=hDk.z1;have fx2:=hDk.z2;have fx3:=hDk.z3
  have hbwr:Below w.heap.size w wr:=Za hbV hVr
  have q0_wr:=zcl hVr q0;have fq0_wr:=zcf hVr fq0;have q1_wr:=zcl hVr q1;have fq1_wr:=zcf hVr fq1;have q2_wr:=zcl hVr q2;have fq2_wr:=zcf hVr fq2;have q3_wr:=zcl hVr q3;have fq3_wr:=zcf hVr fq3;have hr1:w.heap.size+1<wr.heap.size:=by omega
  have hr2:w1.heap.size<wr.heap.size:=by omega
  have hne:¬w1.heap.size=w.heap.size+1:=by omega
  clear hDk hop hon
  by_cases hlt:m<n
  ·have hkx:m<es.length:=by rw[HN.out];exact hlt
   have hki:((m:Int)<(n:Int)):=by omega
   have hk0:(0:Int)≤(m:Int):=by omega
   obtain⟨g,o,A5,c5,F5,rfl,hgF,hgw,e0,r5,h5F⟩:=Zmi HRL.out.1 hkx;have hgl:=HRL.out.2.1 g hgF;have hgn:g≠w1.heap.size:=by omega
   have e1:wr.cell? ⟨g,o+m,none⟩=some (.slice A5 es[m].length c5):=(World.cell?_of_block (HO.out.2.block g hgw (by simp;exact hgn))).trans e0
   have r6:cUS.rep wr [.slice A5 es[m].length c5] es[m] F5:=Cod.only r5 HO.out.2 (λb hb=>by simp;intro h9;have h8:=HRL.out.2.1 b (h5F b hb);omega)
   have hl4:=HRL.out.2.2 es[m] (List.getElem_mem hkx)
   have HR6:=zh r6;clear e0 r5 r6 h5F;go_wp2_with fail;refine(ZfZ _ es[m] F5 _ (by exact HR6.out) (by omega)).mono ?_
   have HST:=zh (show ((ZW es[m]).2=false→ZQ k=(e,m))∧((ZW es[m]).2=true→Zab k.base 0 (es.drop 0)=Zab (Zba e (ZW es[m]).1).1 (m+1) (es.drop (m+1))) from ⟨λh9=>by rw[HOP.out,HO.out.1];exact ZkN hkx h9,λh9=>by rw[HO.out.1];exact ZkM hkx h9⟩)
   generalize ZW es[m]=r at *
   obtain⟨ol,ook⟩:=r;rintro e4 w4 ⟨vo,FO,rfl,hb4,hro⟩;obtain⟨OA,oc,e9⟩:=Zb hro;subst e9;simp only at hro HST⊢
   have HRO:=zh hro;have hz4:=hb4.size;have hV4:Below V.heap.size V w4:=Za hVr hb4
   have HD4:=zh (HD.out.bel hr2 hb4)
   have q0_w4:=zcl hV4 q0;have fq0_w4:=zcf hV4 fq0;have q1_w4:=zcl hV4 q1;have fq1_w4:=zcf hV4 fq1;have q2_w4:=zcl hV4 q2;have fq2_w4:=zcf hV4 fq2;have q3_w4:=zcl hV4 q3;have fq3_w4:=zcf hV4 fq3;have z0:=HD4.out.c0;have z1:=HD4.out.c1;have z2:=HD4.out.c2;have z3:=HD4.out.c3
   have fz0:=HD4.out.z0;have fz1:=HD4.out.z1;have fz2:=HD4.out.z2;have fz3:=HD4.out.z3
   have hr41:w.heap.size+1<w4.heap.size:=by omega
   have hr42:w1.heap.size<w4.heap.size:=by omega
   clear hro x0 x1 x2 x3 fx0 fx1 fx2 fx3 q0_wr fq0_wr q1_wr fq1_wr q2_wr fq2_wr q3_wr fq3_wr e1;cases ook
   ·have HE:=zh (HST.out.1 rfl)
    have hbw4:Below w.heap.size w w4:=Za hbV hV4
    go_wp2_with fail;refine bodyPost_ret (v:=.tuple #[.agg #[.string e.name,.int .i64 e.ver,.slice Bk e.stores.length ck,.slice Vk e.uniq.length cvk],.int .i64 m]) (by simp[results,Tryz.results23,go_sem, *]) rfl ?_
    rw[HE.out]
    have hrS:=HD4.out.rs;have hrU:=HD4.out.ru;have hl1:∀b,b∈Fk→w.heap.size+2≤b:=λb hb=>(HD4.out.hF b hb).1
    have hl2:∀b,b∈Gk→w.heap.size+2≤b:=λb hb=>(HD4.out.hG b hb).1
    exact⟨_,Fk++Gk,rfl,bl,TDb.mk_ HD4.out.ok (zks hrS hl1) (zks hrU hl2),⟨Lo.app (Lo.mono hl1 (by omega)) (Lo.mono hl2 (by omega)),HNDK.out⟩⟩
   ·have HE:=zh (HST.out.2 rfl)
    have hon4:Only [w1.heap.size] w3 w4:=HO.out.2.trans (Only.of_below hb4)
    go_wp2_with fail;refine(ZeP _ _ _ e ol Fk Gk FO _ (by exact HD4.out.rs) (by exact HD4.out.ru) (by exact HRO.out) HD4.out.ok HD4.out.sm).mono ?_
    have hsr:=Zet (l:=ol) HD4.out.sm
    generalize Zba e ol=q at *
    obtain⟨y,yo⟩:=q;rintro e5 w5 ⟨vs5,v5,F6,rfl,hb5,hr5,hl5⟩;obtain⟨u6,u7,F7,F8,rfl,rfl,hok5,k6,k7⟩:=TDb.outA hr5;obtain⟨B6,c6,e9⟩:=Zb k6;subst e9;obtain⟨V6,c7,e9⟩:=Zb k7;subst e9;simp only at hsr HE hok5⊢
    have hz5:=hb5.size;have hV5:Below V.heap.size V w5:=Za hV4 hb5
    have HP6:=zh (And.intro k6 (And.intro k7 hl5))
    have hn7:∀b,b∈F7→w4.heap.size≤b∧b<w5.heap.size:=λb hb=>⟨hl5.1 b (by simp[hb]),Cod.lt _ k6 b hb⟩
    have hn8:∀b,b∈F8→w4.heap.size≤b∧b<w5.heap.size:=λb hb=>⟨hl5.1 b (by simp[hb]),Cod.lt _ k7 b hb⟩
    have t0:=zcl hb5 z0;have t1:=zcl hb5 z1;have t2:=zcl hb5 z2;have t3:=zcl hb5 z3
    have ft0:=zcf hb5 fz0;have ft1:=zcf hb5 fz1;have ft2:=zcf hb5 fz2;have ft3:=zcf hb5 fz3
    have hr52:w1.heap.size<w5.heap.size:=by omega
    have hon5:Only [w1.heap.size] w3 w5:=hon4.trans (Only.of_below hb5)
    have hn5:¬w1.heap.size=w5.heap.size:=by omega
    clear hr5 hl5 k6 k7 z0 z1 z2 z3 fz0 fz1 fz2 fz3 q0_w4 fq0_w4 q1_w4 fq1_w4 q2_w4 fq2_w4 q3_w4 fq3_w4;go_wp2_with fail
    have hD7:DbAt ((((w5.setCell ⟨w1.heap.size,0,none⟩ (.string y.name)).setCell ⟨w1.heap.size,1,none⟩ (.int .i64 y.ver)).setCell ⟨w1.heap.size,2,none⟩ (.slice B6 y.stores.length c6)).setCell ⟨w1.heap.size,3,none⟩ (.slice V6 y.uniq.length c7)) w1.heap.size (w.heap.size+2) y B6 c6 V6 c7 F7 F8:=by
     have k6:=HP6.out.1;have k7:=HP6.out.2.1;exact⟨by go_simp,by go_simp,by go_simp,by go_simp,by go_simp,by go_simp,by go_simp,by go_simp,hok5,hsr,(zks k6 hn7),(zks k7 hn8),λb hb=>by have h9:=hn7 b hb;omega,λb hb=>by have h9:=hn8 b hb;omega⟩
    go_roundw
    case rel=>exact⟨m+1,y,B6,c6,V6,c7,F7,F8,by omega,by go_num,HE.out,hD7,bl,by (try simp);(try omega),((((hon5.set_ (by simp) _).set_ (by simp) _).set_ (by simp) _).set_ (by simp) _),HP6.out.2.2.2⟩
    case measure=>simp[intOf];omega
  ·obtain rfl:m=n:=by omega
   have HE:=zh (show ZQ k=(e,m) by rw[HOP.out,HO.out.1];exact Zmy (by rw[HN.out];exact Nat.le_refl _))
   go_wp2_with fail;refine bodyPost_ret (v:=.tuple #[.agg #[.string e.name,.int .i64 e.ver,.slice Bk e.stores.length ck,.slice Vk e.uniq.length cvk],.int .i64 m]) (by simp[results,Tryz.results23,go_sem, *]) rfl ?_
   rw[HE.out]
   have hrS:=HD.out.rs;have hrU:=HD.out.ru;have hl1:∀b,b∈Fk→w.heap.size+2≤b:=λb hb=>(HD.out.hF b hb).1
   have hl2:∀b,b∈Gk→w.heap.size+2≤b:=λb hb=>(HD.out.hG b hb).1
   exact⟨_,Fk++Gk,rfl,bl,TDb.mk_ HD.out.ok (zks hrS hl1) (zks hrU hl2),⟨Lo.app (Lo.mono hl1 (by omega)) (Lo.mono hl2 (by omega)),HNDK.out⟩⟩
end Go.Proofs.YtghndifnohkokaaGreat
