import Derived.Test.YtghndifnohkokaaGreatZRunOpP
namespace Go.Proofs.YtghndifnohkokaaGreat
open Go.ChangeShapes Go.WideShapes Go.RowKit
set_option linter.unusedVariables false
set_option linter.unusedSimpArgs false
set_option maxRecDepth 100000
set_option maxHeartbeats 16000000
theorem ZjR (v u vo:Value) (d:TDb) (o:TOp) (F G FO:List Nat) (w:World) (h:cStoreS.rep w [v] d.stores F) (hu:cIdxS.rep w [u] d.uniq G) (ho:cFieldS.rep w [vo] o.rcd.fields FO) (hok:d.Ok) (hoo:o.Ok) (hsm:Zbl d) :
  Calls Tryz.prog 73 #[.agg #[.string d.name,.int .i64 d.ver,v,u],.agg #[.int .i64 o.kind,.string o.store,.int .i64 o.key.kind,.int .i64 o.key.n,.string o.key.text,vo,.string o.field]] w (GivesR3 cDb w (ZaR d o).1 (.int .i64 (ZaR d o).2.1) (.bool (ZaR d o).2.2)):=by
 obtain⟨A,cp,rfl⟩:=Zb h;obtain⟨U,cu,rfl⟩:=Zb hu;obtain⟨R,cr,rfl⟩:=Zb ho;obtain⟨-,hcp,hm⟩:=Zq h
 unfold maxLen at hm
 go_enter Tryz.func73,Tryz.ntmps73
 go_wp2_with fail;refine(ZaF #[_,_,_,_] d _ _ (by exact TDb.mk_ hok (zb h) (zb hu)) hsm).mono ?_
 intro e w1 hcr;obtain⟨B,c,Fi,V,cv,GV,rfl,hb1,-,HO,hlF,hne,hv,hlG,hnd⟩:=dbOF hcr;have HND:=zh hnd;clear hcr;obtain⟨hc_w1,hf_w1,hz_w1⟩:=Zc hb1
 try simp at hz_w1
 obtain⟨ha0_w1,ha1_w1,ha2_w1⟩:=zg3 w.heap.size w1.heap.size;have hb_w1:=zt (w:=w) hb1
 have HO1:=zh (show Own cStore 124 (w.heap.size+3) w1 (.slice B d.stores.length c) d.stores Fi∧Lo (w.heap.size+3) Fi∧(∀g,Zac (.slice B d.stores.length c)=some g→g∉Fi∧g∉GV)∧cIdxS.rep w1 [.slice V d.uniq.length cv] d.uniq GV∧Lo (w.heap.size+3) GV from ⟨HO.mono (by (try simp);(try omega)),hlF.mono (by (try simp);(try omega)),hne,hv,hlG.mono (by (try simp);(try omega))⟩)
 clear HO hlF hne hv hlG hnd;go_wp2_with fail;refine(ZdE _ _ d o.store F _ (by exact zb h) ⟨U,cu,rfl⟩).mono ?_
 rintro e w2 ⟨rfl,hb2⟩;obtain⟨hc_w2,hf_w2,hz_w2⟩:=Zc hb2
 try simp at hz_w2
 obtain⟨ha0_w2,ha1_w2,ha2_w2⟩:=zg3 w.heap.size w2.heap.size;have ha3_w2:w1.heap.size<w2.heap.size:=by omega
 have hb_w2:=zt (w:=w) hb2
 have hB2:=zt (w:=w1) hb2
 go_wp2_with fail;refine(Zcq _ _ d F G _ (by exact zb h) (by exact zb hu) hok hsm).mono ?_
 cases e1:Zi d
 ·rintro e w3 ⟨rfl,hb3⟩;obtain⟨hc_w3,hf_w3,hz_w3⟩:=Zc hb3
  try simp at hz_w3
  obtain⟨ha0_w3,ha1_w3,ha2_w3⟩:=zg3 w.heap.size w3.heap.size;have ha3_w3:w1.heap.size<w3.heap.size:=by omega
  have hb_w3:=zt (w:=w) hb3
  have hB3:Below w1.heap.size w1 w3:=Za hB2 (zt hb3)
  have HE:=zh (Zdk (d:=d) (o:=o) (by rw[e1];rfl))
  go_wp2_with fail;refine bodyPost_ret (v:=.tuple #[.agg #[.string d.name,.int .i64 d.ver,.slice B d.stores.length c,.slice V d.uniq.length cv],.int .i64 0,.bool false]) (by simp[results,Tryz.results73,go_sem, *]) rfl ?_
  rw[HE.out]
  obtain⟨FR,hr9,hw9,hn9⟩:=(HO1.out.1.bel hB3).rep (hw:=by decide) (hw2:=by decide)
  have hrS:cStoreS.rep w3 [.slice B d.stores.length c] d.stores FR:=hr9
  have hrU:cIdxS.rep w3 [.slice V d.uniq.length cv] d.uniq GV:=zb HO1.out.2.2.2.1 hB3
  have hl1:∀b,b∈FR→w.heap.size+3≤b:=λb hb=>(hw9 b hb).elim (λh9=>(HO1.out.1.lt b h9).1) (λh9=>HO1.out.2.1 b h9)
  have hl2:∀b,b∈GV→w.heap.size+3≤b:=HO1.out.2.2.2.2
  exact⟨_,FR++GV,rfl,bl,TDb.mk_ hok (zks hrS hl1) (zks hrU hl2),⟨Lo.app (Lo.mono hl1 (by omega)) (Lo.mono hl2 (by omega)),Zmn hw9 hn9 HO1.out.2.2.1 HND.out⟩⟩
 ·rintro e w3 ⟨rfl,hb3⟩;obtain⟨hc_w3,hf_w3,hz_w3⟩:=Zc hb3
  try simp at hz_w3
  obtain⟨ha0_w3,ha1_w3,ha2_w3⟩:=zg3 w.heap.size w3.heap.size;have ha3_w3:w1.heap.size<w3.heap.size:=by omega
  have hb_w3:=zt (w:=w) hb3
  have hB3:Below w1.heap.size w1 w3:=Za hB2 (zt hb3)
  go_wp2_with fail;refine(ZgI _ o FO _ (by exact zb ho) hoo).mono ?_
  cases e2:ZdR o
  ·rintro e w4 ⟨rfl,hb4⟩;obtain⟨hc_w4,hf_w4,hz_w4⟩:=Zc hb4
   try simp at hz_w4
   obtain⟨ha0_w4,ha1_w4,ha2_w4⟩:=zg3 w.heap.size w4.heap.size;have ha3_w4:w1.heap.size<w4.heap.size:=by omega
   have hb_w4:=zt (w:=w) hb4
   have hB4:Below w1.heap.size w1 w4:=Za hB3 (zt hb4)
   have HE:=zh (Zdk (d:=d) (o:=o) (by rw[e1,e2];rfl))
   go_wp2_with fail;refine bodyPost_ret (v:=.tuple #[.agg #[.string d.name,.int .i64 d.ver,.slice B d.stores.length c,.slice V d.uniq.length cv],.int .i64 0,.bool false]) (by simp[results,Tryz.results73,go_sem, *]) rfl ?_
   rw[HE.out]
   obtain⟨FR,hr9,hw9,hn9⟩:=(HO1.out.1.bel hB4).rep (hw:=by decide) (hw2:=by decide)
   have hrS:cStoreS.rep w4 [.slice B d.stores.length c] d.stores FR:=hr9
   have hrU:cIdxS.rep w4 [.slice V d.uniq.length cv] d.uniq GV:=zb HO1.out.2.2.2.1 hB4
   have hl1:∀b,b∈FR→w.heap.size+3≤b:=λb hb=>(hw9 b hb).elim (λh9=>(HO1.out.1.lt b h9).1) (λh9=>HO1.out.2.1 b h9)
   have hl2:∀b,b∈GV→w.heap.size+3≤b:=HO1.out.2.2.2.2
   exact⟨_,FR++GV,rfl,bl,TDb.mk_ hok (zks hrS hl1) (zks hrU hl2),⟨Lo.app (Lo.mono hl1 (by omega)) (Lo.mono hl2 (by omega)),Zmn hw9 hn9 HO1.out.2.2.1 HND.out⟩⟩
  ·rintro e w4 ⟨rfl,hb4⟩;obtain⟨hc_w4,hf_w4,hz_w4⟩:=Zc hb4
   try simp at hz_w4
   obtain⟨ha0_w4,ha1_w4,ha2_w4⟩:=zg3 w.heap.size w4.heap.size;have ha3_w4:w1.heap.size<w4.heap.size:=by omega
   have hb_w4:=zt (w:=w) hb4
   have hB4:Below w1.heap.size w1 w4:=Za hB3 (zt hb4)
   rcases ZbM d o.store with hfs|⟨j,hj,hfs⟩
   ·rw[hfs]
    have HE:=zh (Zdk (d:=d) (o:=o) (by rw[e1,e2,hfs];rfl))
    go_wp2_with fail;refine bodyPost_ret (v:=.tuple #[.agg #[.string d.name,.int .i64 d.ver,.slice B d.stores.length c,.slice V d.uniq.length cv],.int .i64 0,.bool false]) (by simp[results,Tryz.results73,go_sem, *]) rfl ?_
    rw[HE.out]
    obtain⟨FR,hr9,hw9,hn9⟩:=(HO1.out.1.bel hB4).rep (hw:=by decide) (hw2:=by decide)
    have hrS:cStoreS.rep w4 [.slice B d.stores.length c] d.stores FR:=hr9
    have hrU:cIdxS.rep w4 [.slice V d.uniq.length cv] d.uniq GV:=zb HO1.out.2.2.2.1 hB4
    have hl1:∀b,b∈FR→w.heap.size+3≤b:=λb hb=>(hw9 b hb).elim (λh9=>(HO1.out.1.lt b h9).1) (λh9=>HO1.out.2.1 b h9)
    have hl2:∀b,b∈GV→w.heap.size+3≤b:=HO1.out.2.2.2.2
    exact⟨_,FR++GV,rfl,bl,TDb.mk_ hok (zks hrS hl1) (zks hrU hl2),⟨Lo.app (Lo.mono hl1 (by omega)) (Lo.mono hl2 (by omega)),Zmn hw9 hn9 HO1.out.2.2.1 HND.out⟩⟩
   ·rw[hfs]
    have HE:=zh (Zos e1 e2 hfs hj)
    have hst:Zs d.stores[j]=true:=Zew e1 hj
    have hj0:¬(j:Int)<0:=by omega
    have hj1:(0:Int)≤(j:Int):=by omega
    have hjn:(j:Int)<(d.stores.length:Int):=by omega
    obtain⟨g,A3,c3,P1,F3,P2,hBg,-,hnc,hgo,hgB,hgw,hoks,s0,s1,s2,hfz,r3,hFi,hput⟩:=ZkS (HO1.out.1.bel hB4) hj
    have hF3:∀b,b∈F3→b∈Fi:=λb hb=>by rw[hFi];simp[hb]
    have hlt4:∀b,b∈Fi++GV→b<w4.heap.size:=λb hb=>(List.mem_append.1 hb).elim (λh9=>(HO1.out.1.bel hB4).inner_lt b h9) (λh9=>Cod.lt _ (zb HO1.out.2.2.2.1 hB4) b h9)
    have HPUT:=zh (And.intro hput (And.intro hFi hlt4))
    clear hput hFi hlt4;have hHO:=HO1.out;have HO4:=zh (show Own cStore 124 (w.heap.size+3) w4 (.slice B d.stores.length c) d.stores Fi from hHO.1.bel hB4)
    have hv4:=zh (show cIdxS.rep w4 [.slice V d.uniq.length cv] d.uniq GV∧Lo (w.heap.size+3) GV from ⟨zb hHO.2.2.2.1 hB4,hHO.2.2.2.2⟩)
    have hlFi:∀b,b∈Fi→w.heap.size+3≤b:=hHO.2.1
    have hgf:g∉Fi∧g∉GV:=hHO.2.2.1 g hgo
    have hgx:¬g=w1.heap.size:=by
     have h9:=(hHO.1.lt g hgo).2
     omega
    clear hHO HO1;subst hBg;have a0:w4.cell? ⟨w.heap.size,0,none⟩=some (.string d.name):=by go_simp
    have a1:w4.cell? ⟨w.heap.size,1,none⟩=some (.int .i64 d.ver):=by go_simp
    have a2:w4.cell? ⟨w.heap.size,2,none⟩=some (.slice A d.stores.length cp):=by go_simp
    have a3:w4.cell? ⟨w.heap.size,3,none⟩=some (.slice U d.uniq.length cu):=by go_simp
    have p0:w4.cell? ⟨w.heap.size+1,0,none⟩=some (.int .i64 o.kind):=by go_simp
    have p1:w4.cell? ⟨w.heap.size+1,1,none⟩=some (.string o.store):=by go_simp
    have p2:w4.cell? ⟨w.heap.size+1,2,none⟩=some (.int .i64 o.key.kind):=by go_simp
    have p3:w4.cell? ⟨w.heap.size+1,3,none⟩=some (.int .i64 o.key.n):=by go_simp
    have p4:w4.cell? ⟨w.heap.size+1,4,none⟩=some (.string o.key.text):=by go_simp
    have p5:w4.cell? ⟨w.heap.size+1,5,none⟩=some (.slice R o.rcd.fields.length cr):=by go_simp
    have p6:w4.cell? ⟨w.heap.size+1,6,none⟩=some (.string o.field):=by go_simp
    have q0:w4.cell? ⟨w.heap.size+2,0,none⟩=some (.string ⟨#[]⟩):=by go_simp
    have q1:w4.cell? ⟨w.heap.size+2,1,none⟩=some (.int .i64 0):=by go_simp
    have q2:w4.cell? ⟨w.heap.size+2,2,none⟩=some (.slice none 0 0):=by go_simp
    have q3:w4.cell? ⟨w.heap.size+2,3,none⟩=some (.slice none 0 0):=by go_simp
    have x0:w4.cell? ⟨w1.heap.size,0,none⟩=some (.string d.name):=by go_simp
    have x1:w4.cell? ⟨w1.heap.size,1,none⟩=some (.int .i64 d.ver):=by go_simp
    have x2:w4.cell? ⟨w1.heap.size,2,none⟩=some (.slice (some ⟨g,0,none⟩) d.stores.length c):=by go_simp
    have x3:w4.cell? ⟨w1.heap.size,3,none⟩=some (.slice V d.uniq.length cv):=by go_simp
    have fq0:w4.frozen? ⟨w.heap.size+2,0,none⟩=false:=by go_simp
    have fq1:w4.frozen? ⟨w.heap.size+2,1,none⟩=false:=by go_simp
    have fq2:w4.frozen? ⟨w.heap.size+2,2,none⟩=false:=by go_simp
    have fq3:w4.frozen? ⟨w.heap.size+2,3,none⟩=false:=by go_simp
    have hbw4:Below w.heap.size w w4:=hb_w4
    have hzz1:w.heap.size+2<w1.heap.size:=ha2_w1
    have hzz2:w1.heap.size<w4.heap.size:=ha3_w4
    have hF0:∀b,b∈F3→b∈Fi∧b<w4.heap.size:=λb hb=>⟨hF3 b hb,Cod.lt _ r3 b hb⟩
    clear hc_w1 hf_w1 hb1 hz_w1 ha0_w1 ha1_w1 ha2_w1 hb_w1 hc_w2 hf_w2 hb2 hz_w2 ha0_w2 ha1_w2 ha2_w2 ha3_w2 hb_w2 hc_w3 hf_w3 hb3 hz_w3 ha0_w3 ha1_w3 ha2_w3 ha3_w3 hb_w3 hc_w4 hf_w4 hb4 hz_w4 ha0_w4 ha1_w4 ha2_w4 ha3_w4 hb_w4 hB2 hB3 hB4
    go_upto_region 5 with (fail)
    have hS:=λw9 (hb:Below w4.heap.size w4 w9)=>zn12 hb (zcl hb x2) (zcl hb s0) (zcl hb s1) (zcl hb s2) (zcl hb p0) (zcl hb p1) (zcl hb p2) (zcl hb p3) (zcl hb p4) (zcl hb p5) (zcl hb p6)
    go_cut [9,10,11] from 31 to 41 (λt9 t10 t11 wq=>∃xb y n6 B6 c6 F6,Zqd w4 F3 (ZdO d.stores[j] o) wq t9 t10 t11 xb y n6 B6 c6 F6∧(F3.Nodup→F6.Nodup))
    case first =>
     go_region_held3 (λw9=>Below w4.heap.size w4 w9∧w9.cell? ⟨w1.heap.size,2,none⟩=some (.slice (some ⟨g,0,none⟩) d.stores.length c)∧w9.cell? ⟨g,j*3,none⟩=some (.string d.stores[j].name)∧w9.cell? ⟨g,j*3+1,none⟩=some (.slice A3 d.stores[j].items.length c3)∧w9.cell? ⟨g,j*3+2,none⟩=some (.int .i64 d.stores[j].auto)∧w9.cell? ⟨w.heap.size+1,0,none⟩=some (.int .i64 o.kind)∧w9.cell? ⟨w.heap.size+1,1,none⟩=some (.string o.store)∧w9.cell? ⟨w.heap.size+1,2,none⟩=some (.int .i64 o.key.kind)∧w9.cell? ⟨w.heap.size+1,3,none⟩=some (.int .i64 o.key.n)∧w9.cell? ⟨w.heap.size+1,4,none⟩=some (.string o.key.text)∧w9.cell? ⟨w.heap.size+1,5,none⟩=some (.slice R o.rcd.fields.length cr)∧w9.cell? ⟨w.heap.size+1,6,none⟩=some (.string o.field)) (exact hS _ bl)
      (first|(go_at_call 120;refine(ZkB _ _ d.stores[j] o _ FO _ (by exact zb r3) (by exact zb ho (Za hbw4 bl)) hoks hoo hst e2).mono ?_;intro e w6 hgn;obtain⟨y,n6,vs6,F6,rfl,hb6,hr6,hl6,hyes,hndn⟩:=hgn;obtain⟨u6,_,rfl,rfl,hok6,k6⟩:=TStore.outA hr6;obtain⟨B6,c6,e9⟩:=Zb k6;subst e9;have hl6b:∀b,b∈F6→w4.heap.size≤b∨b∈F3:=(λb hb=>(hl6 b hb).imp (λh9=>by (try simp at h9);omega) id);have hl6c:∀b,b∈F6→_≤b∨b<w4.heap.size:=(λb hb=>(hl6 b hb).imp id (λh9=>(hF0 b h9).2));(try simp at hl6c);have hlt6:∀b,b∈F6→b<w6.heap.size:=(λb hb=>Cod.lt _ k6 b hb);have HP6:=zh k6;have hw6:=zt (w:=w4) hb6;obtain⟨hc6,hf6,hz6⟩:=Zc hb6;(try simp at hz6);(try have g6:=Nat.lt_of_succ_le hz6);clear hb6 hr6 k6 hl6))
     all_goals
      go_wp2_with fail;go_meet
     all_goals try (case rel =>
      have hk6:cItemS.rep w6 [.slice B6 y.items.length c6] y.items F6:=HP6.out
      have hnb:∀b,b∈F6→(_≤b∨b<w4.heap.size)∧b<w6.heap.size:=λb hb=>⟨hl6c b hb,hlt6 b hb⟩
      exact⟨_,y,n6,B6,c6,F6,⟨rfl,rfl,rfl,by go_simp,by go_simp,by go_simp,hok6,(zks hk6 hnb),hl6b,hyes,by (try simp);(try omega),by (try simp);(try omega),bl⟩,hndn⟩)
    case rest =>
     obtain⟨xb,y,n6,B6,c6,F6,HB,hndn⟩:=hcut;have HNDN:=zh hndn;clear hndn;generalize wc=w7 at *
     have h9:=HB.e9;have h10:=HB.e10;have h11:=HB.e11
     have hB7:Below w4.heap.size w4 w7:=HB.bel
     have hcc0:=HB.c0;have hcc1:=HB.c1;have hcc2:=HB.c2
     have hx0:=HB.x0;have hx1:=HB.x1
     have hk7:=hB7.size;have hH:=zh HB;subst h9 h10 h11
     clear HB hS;have hbw7:Below w.heap.size w w7:=Za hbw4 hB7
     have a07:=zcl hB7 a0;have a17:=zcl hB7 a1;have a27:=zcl hB7 a2;have a37:=zcl hB7 a3;have q07:=zcl hB7 q0;have q17:=zcl hB7 q1;have q27:=zcl hB7 q2;have q37:=zcl hB7 q3;have x07:=zcl hB7 x0;have x17:=zcl hB7 x1;have x27:=zcl hB7 x2;have x37:=zcl hB7 x3;have fq07:=zcf hB7 fq0;have fq17:=zcf hB7 fq1;have fq27:=zcf hB7 fq2;have fq37:=zcf hB7 fq3;have hfz7:∀o,w7.frozen? ⟨g,o,none⟩=false:=λo=>zcf hB7 (hfz o)
     have hF6:∀b,b∈F6→w.heap.size+3≤b∧¬b=g:=λb hb=>by
      rcases hH.out.lo b hb with h9|h9
      ·exact⟨by omega,by omega⟩
      ·have h8:=(hF0 b h9).1
       exact⟨hlFi b h8,λe=>hgf.1 (e ▸ h8)⟩
     have sc0:=zcl (p:=⟨g,j*3,none⟩) hB7 s0
     have sc1:=zcl (p:=⟨g,j*3+1,none⟩) hB7 s1
     have sc2:=zcl (p:=⟨g,j*3+2,none⟩) hB7 s2
     have fz0:=hfz7 (j*3);have fz1:=hfz7 (j*3+1);have fz2:=hfz7 (j*3+2)
     have hg7:g<w7.heap.size:=by omega
     have hgn0:¬g=w.heap.size:=by omega
     have hgn1:¬g=w.heap.size+1:=by omega
     have hgn2:¬g=w.heap.size+2:=by omega
     have hown:=HPUT.out.1 w7 _ y (.slice B6 y.items.length c6) F6 hB7 hgf.1 rfl hH.out.ok hH.out.rd (λh9=>(hF6 g h9).2 rfl)
     have hF':∀b,b∈P1++(F6++P2)→b∈Fi∨b∈F6:=λb hb=>by
      rw[HPUT.out.2.1]
      rcases List.mem_append.1 hb with h9|h9
      ·left;simp[h9]
      ·rcases List.mem_append.1 h9 with h8|h8
       ·right;exact h8
       ·left;simp[h8]
     have HP:=zh (And.intro hown hF')
     have hv7:=zh (show cIdxS.rep w7 [.slice V d.uniq.length cv] d.uniq GV from zb hv4.out.1 hB7)
     clear hown a0 a1 a2 a3 s0 s1 s2 q0 q1 q2 q3 x0 x1 x2 x3 fq0 fq1 fq2 fq3 p0 p1 p2 p3 p4 p5 p6 hfz;have ha0:w.heap.size<w7.heap.size:=by omega
     have ha1:w.heap.size+1<w7.heap.size:=by omega
     have ha2:w.heap.size+2<w7.heap.size:=by omega
     have ha3:w1.heap.size<w7.heap.size:=by omega
     cases e9:(ZdO d.stores[j] o).2.2
     ·have HE2:=zh (show ZaR d o=(d,0,false) by rw[HE.out,e9];rfl)
      go_wp2_with fail;refine(ZaF #[_,_,_,_] d _ _ (by exact TDb.mk_ hok (zb h) (zb hu)) hsm).mono ?_
      intro e w8 hcr;obtain⟨B8,c8,F8,V8,cv8,G8,rfl,hb8,-,hr8,hl8,hu8,hm8,hnd8⟩:=dbF hcr;clear hcr;obtain⟨hc_w8,hf_w8,hz_w8⟩:=Zc hb8
      try simp at hz_w8
      obtain⟨ha0_w8,ha1_w8,ha2_w8⟩:=zg3 w.heap.size w8.heap.size;have hb_w8:=zt (w:=w) hb8
      have HP8:=zh (And.intro hr8 hu8)
      have hl1:∀b,b∈F8→w.heap.size+3≤b:=λb hb=>by have h9:=hl8 b hb;(try simp at h9);omega
      have hl2:∀b,b∈G8→w.heap.size+3≤b:=λb hb=>by have h9:=hm8 b hb;(try simp at h9);omega
      clear hr8 hu8 hl8 hm8;go_wp2_with fail;refine bodyPost_ret (v:=.tuple #[.agg #[.string d.name,.int .i64 d.ver,.slice B8 d.stores.length c8,.slice V8 d.uniq.length cv8],.int .i64 0,.bool false]) (by simp[results,Tryz.results73,go_sem, *]) rfl ?_
      rw[HE2.out]
      have hrS:cStoreS.rep w8 [.slice B8 d.stores.length c8] d.stores F8:=HP8.out.1
      have hrU:cIdxS.rep w8 [.slice V8 d.uniq.length cv8] d.uniq G8:=HP8.out.2
      exact⟨_,F8++G8,rfl,bl,TDb.mk_ hok (zks hrS hl1) (zks hrU hl2),⟨Lo.app (Lo.mono hl1 (by omega)) (Lo.mono hl2 (by omega)),hnd8⟩⟩
     ·have HY:=zh (hH.out.yes e9)
      have hwy:Zbl (ZaA d j y):=Zjy (Zke e1) (by rw[HY.out.1];exact ZmG hst e9)
      obtain⟨FR,hr9,hw9,hn9⟩:=HP.out.1.rep (hw:=by decide) (hw2:=by decide)
      have hndF:((P1++(F6++P2))++GV).Nodup:=by
       have k1:=HND.out;rw[HPUT.out.2.1] at k1
       have k2:(P1++(F3++(P2++GV))).Nodup:=by simpa only [List.append_assoc] using k1
       have k3:F3.Nodup:=(List.nodup_append.1 (List.nodup_append.1 k2).2.1).1
       have k4:=Znh (G:=F6) (L:=w4.heap.size) k2 (λb hb=>HPUT.out.2.2 b (by rw[HPUT.out.2.1];simpa only [List.append_assoc] using hb)) (HNDN.out k3) (λb hb=>hH.out.lo b hb)
       simpa only [List.append_assoc] using k4
      have HNF:=zh (Zmn hw9 hn9 (λg9 hg9=>by
       obtain rfl:g=g9:=Option.some.inj (hgo.symm.trans hg9)
       refine⟨λhm=>?_,hgf.2⟩
       rcases hF' g hm with h9|h9
       ·exact hgf.1 h9
       ·exact(hF6 g h9).2 rfl) hndF)
      have hrR:cStoreS.rep _ [.slice (some ⟨g,0,none⟩) d.stores.length c] (d.stores.set j y) FR:=hr9
      have hl3:∀b,b∈FR→w.heap.size+3≤b:=λb hb=>(hw9 b hb).elim (λh9=>by rw[hgo] at h9;injection h9 with h9;omega) (λh9=>(HP.out.2 b h9).elim (hlFi b) (λh8=>(hF6 b h8).1))
      have HR:=zh hrR;have hgv:∀b,b∈GV→w.heap.size+3≤b∧¬b=g:=λb hb=>⟨hv4.out.2 b hb,λe=>hgf.2 (e ▸ hb)⟩
      have hv77:=hv7.out;have hrU0:cIdxS.rep (((w7.setCell ⟨g,j*3,none⟩ (.string y.name)).setCell ⟨g,j*3+1,none⟩ (.slice B6 y.items.length c6)).setCell ⟨g,j*3+2,none⟩ (.int .i64 y.auto)) [.slice V d.uniq.length cv] d.uniq GV:=(zks hv77 hgv)
      have HU0:=zh hrU0;clear hr9 hw9 hn9 hndF hrR hrU0;go_wp2_with fail;refine(Zcq (.slice (some ⟨g,0,none⟩) d.stores.length c) (.slice V d.uniq.length cv) (ZaA d j y) FR GV _ (by exact HR.out) (by exact HU0.out) ⟨hok.h0,hok.h1⟩ hwy).mono ?_
      cases e10:Zi (ZaA d j y)
      ·rintro e w9 ⟨rfl,hb9⟩;obtain⟨hc_w9,hf_w9,hz_w9⟩:=Zc hb9
       try simp at hz_w9
       obtain⟨ha0_w9,ha1_w9,ha2_w9⟩:=zg3 w.heap.size w9.heap.size;have ha3_w9:w1.heap.size<w9.heap.size:=by omega
       have hb_w9:=zt (w:=w) hb9
       have HE2:=zh (show ZaR d o=(d,0,false) by rw[HE.out,e9,← HY.out.1,e10];rfl)
       go_wp2_with fail;refine(ZaF #[_,_,_,_] d _ _ (by exact TDb.mk_ hok (zb h) (zb hu)) hsm).mono ?_
       intro e w8 hcr;obtain⟨B8,c8,F8,V8,cv8,G8,rfl,hb8,-,hr8,hl8,hu8,hm8,hnd8⟩:=dbF hcr;clear hcr;obtain⟨hc_w8,hf_w8,hz_w8⟩:=Zc hb8
       try simp at hz_w8
       obtain⟨ha0_w8,ha1_w8,ha2_w8⟩:=zg3 w.heap.size w8.heap.size;have hb_w8:=zt (w:=w) hb8
       have HP8:=zh (And.intro hr8 hu8)
       have hl1:∀b,b∈F8→w.heap.size+3≤b:=λb hb=>by have h9:=hl8 b hb;(try simp at h9);omega
       have hl2:∀b,b∈G8→w.heap.size+3≤b:=λb hb=>by have h9:=hm8 b hb;(try simp at h9);omega
       clear hr8 hu8 hl8 hm8;go_wp2_with fail;refine bodyPost_ret (v:=.tuple #[.agg #[.string d.name,.int .i64 d.ver,.slice B8 d.stores.length c8,.slice V8 d.uniq.length cv8],.int .i64 0,.bool false]) (by simp[results,Tryz.results73,go_sem, *]) rfl ?_
       rw[HE2.out]
       have hrS:cStoreS.rep w8 [.slice B8 d.stores.length c8] d.stores F8:=HP8.out.1
       have hrU:cIdxS.rep w8 [.slice V8 d.uniq.length cv8] d.uniq G8:=HP8.out.2
       exact⟨_,F8++G8,rfl,bl,TDb.mk_ hok (zks hrS hl1) (zks hrU hl2),⟨Lo.app (Lo.mono hl1 (by omega)) (Lo.mono hl2 (by omega)),hnd8⟩⟩
      ·rintro e w9 ⟨rfl,hb9⟩;obtain⟨hc_w9,hf_w9,hz_w9⟩:=Zc hb9
       try simp at hz_w9
       obtain⟨ha0_w9,ha1_w9,ha2_w9⟩:=zg3 w.heap.size w9.heap.size;have ha3_w9:w1.heap.size<w9.heap.size:=by omega
       have hb_w9:=zt (w:=w) hb9
       have HE2:=zh (show ZaR d o=(ZaA d j y,n6,true) by rw[HE.out,e9,← HY.out.1,e10,HY.out.2];rfl)
       have hgv9:=hgv;have hrS:cStoreS.rep w9 [.slice (some ⟨g,0,none⟩) d.stores.length c] (d.stores.set j y) FR:=zb HR.out hb9
       have hrU:cIdxS.rep w9 [.slice V d.uniq.length cv] d.uniq GV:=zb HU0.out hb9
       have HZ:=zh (And.intro hrS hrU)
       clear hrS hrU hv77;go_wp2_with fail;refine bodyPost_ret (v:=.tuple #[.agg #[.string d.name,.int .i64 d.ver,.slice (some ⟨g,0,none⟩) d.stores.length c,.slice V d.uniq.length cv],.int .i64 n6,.bool true]) (by simp[results,Tryz.results73,go_sem, *]) rfl ?_
       rw[HE2.out]
       have hrS:=HZ.out.1;have hrU:=HZ.out.2;have hl2:∀b,b∈GV→w.heap.size+3≤b:=hv4.out.2
       exact⟨_,FR++GV,rfl,bl,TDb.mk_ (x:=ZaA d j y) ⟨hok.h0,hok.h1⟩ (show cStoreS.rep _ _ (d.stores.set j y) FR from (zks hrS hl3)) (show cIdxS.rep _ _ d.uniq GV from (zks hrU hl2)),⟨Lo.app (Lo.mono hl3 (by omega)) (Lo.mono hl2 (by omega)),HNF.out⟩⟩
end Go.Proofs.YtghndifnohkokaaGreat
