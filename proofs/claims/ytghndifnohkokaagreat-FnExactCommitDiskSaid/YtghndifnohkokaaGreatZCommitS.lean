import Derived.Test.YtghndifnohkokaaGreatZOpenDS
namespace Go.Proofs.YtghndifnohkokaaGreat
open Go.ChangeShapes Go.WideShapes Go.RowKit
set_option linter.unusedVariables false
set_option linter.unusedSimpArgs false
set_option maxRecDepth 100000
set_option maxHeartbeats 16000000
theorem ZfI (vs:Array Value) (k:TDisk) (F:List Nat) (vl:Value) (l:List TOp) (FL:List Nat) (w:World) (h:cDisk.rep w vs.toList k F) (hsz:cDisk.sz k≤1048576) (hl:cOpS.rep w [vl] l FL) (hlz:cOpS.sz l≤1048576) :
  Calls Tryz.prog 13 #[.agg vs,vl] w (GivesR2 cDisk w (ZH k l).1 (.bool (ZH k l).2)):=by
 obtain⟨hsm,hlg⟩:=Zcj hsz;have hdr:=h;obtain⟨v2,v3,v4,F2,F3,F4,rfl,rfl,hok,m2,m3,m4⟩:=TDisk.outA h;obtain⟨A,cp,rfl⟩:=Zb m2;obtain⟨U,cu,rfl⟩:=Zb m3;obtain⟨L,cl,rfl⟩:=Zb m4;have HDR:=zh hdr;clear hdr;obtain⟨LA,lc,rfl⟩:=Zb hl;have hll:l.length≤1048576:=Nat.le_trans (Cod.len_le cOp l) hlz
 have hon:=Zfh (Zak k.log) k.base 0
 have hos:=Zdz (Zak k.log) 0 hsm
 have hrc:=Zcu (log:=k.log) (k.log.length+1) 0 0 (Nat.zero_le _)
 have hon9:(ZQ k).2≤1048576:=by
  have h1:(ZQ k).2≤0+(Zak k.log).length:=hon.2
  have h2:(Zak k.log).length≤k.log.length-0:=hrc
  omega
 have hos9:Zbl (ZQ k).1:=hos
 clear hon hos hrc;have hel:=ZnN l;go_enter Tryz.func13,Tryz.ntmps13
 go_wp2_with fail;generalize hV_:World.alloc _ _=V
 have hbV:Below w.heap.size w V:=by rw[← hV_];exact bl
 have hVs:V.heap.size=w.heap.size+2:=by rw[← hV_];clear hV_;simp
 have hVp:w.heap.size<V.heap.size:=by omega
 have hVq:w.heap.size+1<V.heap.size:=by omega
 have a0:V.cell? ⟨w.heap.size,0,none⟩=some (.string k.base.name):=by rw[← hV_];clear hV_;go_simp
 have a1:V.cell? ⟨w.heap.size,1,none⟩=some (.int .i64 k.base.ver):=by rw[← hV_];clear hV_;go_simp
 have a2:V.cell? ⟨w.heap.size,2,none⟩=some (.slice A k.base.stores.length cp):=by rw[← hV_];clear hV_;go_simp
 have a3:V.cell? ⟨w.heap.size,3,none⟩=some (.slice U k.base.uniq.length cu):=by rw[← hV_];clear hV_;go_simp
 have a4:V.cell? ⟨w.heap.size,4,none⟩=some (.slice L k.log.length cl):=by rw[← hV_];clear hV_;go_simp
 have a5:V.cell? ⟨w.heap.size,5,none⟩=some (.int .i64 k.count):=by rw[← hV_];clear hV_;go_simp
 have q0:V.cell? ⟨w.heap.size+1,0,none⟩=some (.string ⟨#[]⟩):=by rw[← hV_];clear hV_;go_simp
 have fq0:V.frozen? ⟨w.heap.size+1,0,none⟩=false:=by rw[← hV_];clear hV_;go_simp
 have q1:V.cell? ⟨w.heap.size+1,1,none⟩=some (.int .i64 0):=by rw[← hV_];clear hV_;go_simp
 have fq1:V.frozen? ⟨w.heap.size+1,1,none⟩=false:=by rw[← hV_];clear hV_;go_simp
 have q2:V.cell? ⟨w.heap.size+1,2,none⟩=some (.slice none 0 0):=by rw[← hV_];clear hV_;go_simp
 have fq2:V.frozen? ⟨w.heap.size+1,2,none⟩=false:=by rw[← hV_];clear hV_;go_simp
 have q3:V.cell? ⟨w.heap.size+1,3,none⟩=some (.slice none 0 0):=by rw[← hV_];clear hV_;go_simp
 have fq3:V.frozen? ⟨w.heap.size+1,3,none⟩=false:=by rw[← hV_];clear hV_;go_simp
 have q4:V.cell? ⟨w.heap.size+1,4,none⟩=some (.slice none 0 0):=by rw[← hV_];clear hV_;go_simp
 have fq4:V.frozen? ⟨w.heap.size+1,4,none⟩=false:=by rw[← hV_];clear hV_;go_simp
 have q5:V.cell? ⟨w.heap.size+1,5,none⟩=some (.int .i64 0):=by rw[← hV_];clear hV_;go_simp
 have fq5:V.frozen? ⟨w.heap.size+1,5,none⟩=false:=by rw[← hV_];clear hV_;go_simp
 clear hV_;refine(Zhj #[_,_,_,_,_,_] k _ _ (by exact zb HDR.out hbV) hsz).mono ?_
 rintro e w1 ⟨vs1,F1,rfl,hb1,hr1,hf1⟩;obtain⟨u2,u3,u4,G2,G3,G4,rfl,rfl,-,k2,k3,k4⟩:=TDisk.outA hr1;obtain⟨B1,c1,e9⟩:=Zb k2;subst e9;obtain⟨U1,cu1,e9⟩:=Zb k3;subst e9;obtain⟨L1,cl1,e9⟩:=Zb k4;subst e9;have hV1:Below V.heap.size V w1:=hb1
 have hbw1:Below w.heap.size w w1:=Za hbV hV1
 have hz1:=hb1.size;have hw10:w.heap.size<w1.heap.size:=by omega
 have hw11:w.heap.size+1<w1.heap.size:=by omega
 have hlt1:∀b,b∈G2++G3++G4→b<w1.heap.size:=λb hb=>Cod.lt _ hr1 b hb
 have HC:=zh (And.intro k2 (And.intro k3 (And.intro k4 (And.intro hf1 hlt1))))
 have b0:=zcl hV1 a0;have b1:=zcl hV1 a1;have b2:=zcl hV1 a2;have b3:=zcl hV1 a3;have b4:=zcl hV1 a4;have b5:=zcl hV1 a5;have p0:=zcl hV1 q0;have fp0:=zcf hV1 fq0;have p1:=zcl hV1 q1;have fp1:=zcf hV1 fq1;have p2:=zcl hV1 q2;have fp2:=zcf hV1 fq2;have p3:=zcl hV1 q3;have fp3:=zcf hV1 fq3;have p4:=zcl hV1 q4;have fp4:=zcf hV1 fq4;have p5:=zcl hV1 q5;have fp5:=zcf hV1 fq5;clear hr1 hf1 hlt1 k2 k3 k4 hb1 a0 a1 a2 a3 a4 a5 q0 q1 q2 q3 q4 q5 fq0 fq1 fq2 fq3 fq4 fq5;go_wp2_with fail;generalize hY:World.alloc _ _=Y
 have hbY:Below w1.heap.size w1 Y:=by rw[← hY];exact bl
 have hYs:Y.heap.size=w1.heap.size+1:=by rw[← hY];clear hY;simp
 have hYx:w1.heap.size<Y.heap.size:=by omega
 have x0:Y.cell? ⟨w1.heap.size,0,none⟩=some (.string k.base.name):=by rw[← hY];clear hY;go_simp
 have fx0:Y.frozen? ⟨w1.heap.size,0,none⟩=false:=by rw[← hY];clear hY;go_simp
 have x1:Y.cell? ⟨w1.heap.size,1,none⟩=some (.int .i64 k.base.ver):=by rw[← hY];clear hY;go_simp
 have fx1:Y.frozen? ⟨w1.heap.size,1,none⟩=false:=by rw[← hY];clear hY;go_simp
 have x2:Y.cell? ⟨w1.heap.size,2,none⟩=some (.slice B1 k.base.stores.length c1):=by rw[← hY];clear hY;go_simp
 have fx2:Y.frozen? ⟨w1.heap.size,2,none⟩=false:=by rw[← hY];clear hY;go_simp
 have x3:Y.cell? ⟨w1.heap.size,3,none⟩=some (.slice U1 k.base.uniq.length cu1):=by rw[← hY];clear hY;go_simp
 have fx3:Y.frozen? ⟨w1.heap.size,3,none⟩=false:=by rw[← hY];clear hY;go_simp
 have x4:Y.cell? ⟨w1.heap.size,4,none⟩=some (.slice L1 k.log.length cl1):=by rw[← hY];clear hY;go_simp
 have fx4:Y.frozen? ⟨w1.heap.size,4,none⟩=false:=by rw[← hY];clear hY;go_simp
 have x5:Y.cell? ⟨w1.heap.size,5,none⟩=some (.int .i64 k.count):=by rw[← hY];clear hY;go_simp
 have fx5:Y.frozen? ⟨w1.heap.size,5,none⟩=false:=by rw[← hY];clear hY;go_simp
 clear hY;have hbwY:Below w.heap.size w Y:=Za hbw1 hbY
 have d0:=zcl hbY b0;have d1:=zcl hbY b1;have d2:=zcl hbY b2;have d3:=zcl hbY b3;have d4:=zcl hbY b4;have d5:=zcl hbY b5;have r0:=zcl hbY p0;have fr0:=zcf hbY fp0;have r1:=zcl hbY p1;have fr1:=zcf hbY fp1;have r2:=zcl hbY p2;have fr2:=zcf hbY fp2;have r3:=zcl hbY p3;have fr3:=zcf hbY fp3;have r4:=zcl hbY p4;have fr4:=zcf hbY fp4;have r5:=zcl hbY p5;have fr5:=zcf hbY fp5;clear b0 b1 b2 b3 b4 b5 p0 p1 p2 p3 p4 p5 fp0 fp1 fp2 fp3 fp4 fp5;refine(Zed #[_,_,_,_,_,_] k _ _ (by exact zb HDR.out hbwY) hsz).mono ?_
 have HE:=zh (show ZH k l=bif (Zba (ZQ k).1 l).2&&!(Zn l).isEmpty&&decide (((ZQ k).2:Int)=k.count)&&(Zao k.log k.count (Zn l)).2 then (⟨k.base,(Zao k.log k.count (Zn l)).1,k.count+1⟩,true) else (k,false) from rfl)
 generalize ZQ k=od at *
 obtain⟨y,yn⟩:=od;simp only at hon9 hos9 HE⊢
 rintro e w2 ⟨vs2,F2',rfl,hb2,hr2,-⟩;obtain⟨u2,u3,E2,E3,rfl,rfl,hoky,k2,k3⟩:=TDb.outA hr2;obtain⟨B2,c2,e9⟩:=Zb k2;subst e9;obtain⟨U2,cu2,e9⟩:=Zb k3;subst e9;have hY2:Below Y.heap.size Y w2:=hb2
 have hbw2:Below w.heap.size w w2:=Za hbwY hY2
 have hz2:=hb2.size;have hw20:w.heap.size<w2.heap.size:=by omega
 have hw21:w.heap.size+1<w2.heap.size:=by omega
 have hw22:w1.heap.size<w2.heap.size:=by omega
 have HP2:=zh (And.intro k2 k3)
 clear hr2 k2 k3 hb2;go_wp2_with fail;refine(ZeV _ _ _ y l E2 E3 FL _ (by exact zb HP2.out.1) (by exact zb HP2.out.2) (by exact zb hl (Za hbw2 bl)) hoky hos9).mono ?_
 generalize Zba y l=ro at *
 obtain⟨z,zo⟩:=ro;rintro e w3 ⟨vs3,v3,F3',rfl,hb3,hr3,-⟩;obtain⟨u2,u3,H2,H3,rfl,rfl,-,k2,k3⟩:=TDb.outA hr3;obtain⟨B3,c3,e9⟩:=Zb k2;subst e9;obtain⟨U3,cu3,e9⟩:=Zb k3;subst e9;simp only at HE⊢
 have hY3:Below Y.heap.size Y w3:=Za hY2 (zt hb3)
 have hbw3:Below w.heap.size w w3:=Za hbwY hY3
 have hz3:=hY3.size;clear hr3 k2 k3 hb3;go_wp2_with fail;refine(ZdK _ l FL _ (by exact zb hl (Za hbw3 bl)) hll).mono ?_
 rintro e w4 ⟨v4',rfl,hb4,ho4⟩;obtain⟨D4,cd4,e9⟩:=ho4.slice;subst e9;obtain⟨FD,hrD,-,-⟩:=ho4.fresh (hw:=by decide) (hw2:=by decide)
 have hY4:Below Y.heap.size Y w4:=Za hY3 (zt hb4)
 have hbw4:Below w.heap.size w w4:=Za hbwY hY4
 have HRD:=zh (show cUS.rep w4 [.slice D4 (Zn l).length cd4] (Zn l) FD from hrD)
 generalize Zn l=data at *
 clear ho4 hrD hb4;have hz4:=hY4.size;have hw40:w.heap.size<w4.heap.size:=by omega
 have hw41:w.heap.size+1<w4.heap.size:=by omega
 have hw42:w1.heap.size<w4.heap.size:=by omega
 have hYp:w.heap.size<Y.heap.size:=by omega
 have hYq:w.heap.size+1<Y.heap.size:=by omega
 have g0:=zcl hY4 d0;have g1:=zcl hY4 d1;have g2:=zcl hY4 d2;have g3:=zcl hY4 d3;have g4:=zcl hY4 d4;have g5:=zcl hY4 d5;have s0:=zcl hY4 r0;have fs0:=zcf hY4 fr0;have s1:=zcl hY4 r1;have fs1:=zcf hY4 fr1;have s2:=zcl hY4 r2;have fs2:=zcf hY4 fr2;have s3:=zcl hY4 r3;have fs3:=zcf hY4 fr3;have s4:=zcl hY4 r4;have fs4:=zcf hY4 fr4;have s5:=zcl hY4 r5;have fs5:=zcf hY4 fr5;have t0:=zcl hY4 x0;have ft0:=zcf hY4 fx0;have t1:=zcl hY4 x1;have ft1:=zcf hY4 fx1;have t2:=zcl hY4 x2;have ft2:=zcf hY4 fx2;have t3:=zcl hY4 x3;have ft3:=zcf hY4 fx3;have t4:=zcl hY4 x4;have ft4:=zcf hY4 fx4;have t5:=zcl hY4 x5;have ft5:=zcf hY4 fx5;clear d0 d1 d2 d3 d4 d5 r0 r1 r2 r3 r4 r5 fr0 fr1 fr2 fr3 fr4 fr5 x0 x1 x2 x3 x4 x5 fx0 fx1 fx2 fx3 fx4 fx5;have hb14:Below w1.heap.size w1 w4:=Za hbY hY4
 have hne:¬w1.heap.size=w.heap.size+1:=by omega
 cases zo
 ·have HR:=zh (show ZH k l=(k,false) by rw[HE.out];rfl)
  go_wp2_with fail;refine bodyPost_ret (v:=.tuple #[.agg #[.string k.base.name,.int .i64 k.base.ver,.slice B1 k.base.stores.length c1,.slice U1 k.base.uniq.length cu1,.slice L1 k.log.length cl1,.int .i64 k.count],.bool false]) (by simp[results,Tryz.results13,go_sem, *]) rfl ?_
  rw[HR.out]
  have hx1:=zb HC.out.1 hb14;have hx2:=zb HC.out.2.1 hb14;have hx3:=zb HC.out.2.2.1 hb14;have hlo:∀b,b∈G2++G3++G4→V.heap.size≤b:=HC.out.2.2.2.1.1
  have hl2:∀b,b∈G2→w.heap.size+2≤b∧b<w1.heap.size:=λb hb=>⟨by have h9:=hlo b (by simp[hb]);omega,HC.out.2.2.2.2 b (by simp[hb])⟩
  have hl3:∀b,b∈G3→w.heap.size+2≤b∧b<w1.heap.size:=λb hb=>⟨by have h9:=hlo b (by simp[hb]);omega,HC.out.2.2.2.2 b (by simp[hb])⟩
  have hl4:∀b,b∈G4→w.heap.size+2≤b∧b<w1.heap.size:=λb hb=>⟨by have h9:=hlo b (by simp[hb]);omega,HC.out.2.2.2.2 b (by simp[hb])⟩
  exact⟨_,G2++G3++G4,rfl,bl,TDisk.mk_ hok (zks hx1 hl2) (zks hx2 hl3) (zks hx3 hl4),HC.out.2.2.2.1.mono (by omega)⟩
 ·by_cases hd:data=[]
  ·have HR:=zh (show ZH k l=(k,false) by rw[HE.out,hd];rfl)
   have hdl:data.length=0:=by rw[hd];rfl
   go_wp2_with fail;refine bodyPost_ret (v:=.tuple #[.agg #[.string k.base.name,.int .i64 k.base.ver,.slice B1 k.base.stores.length c1,.slice U1 k.base.uniq.length cu1,.slice L1 k.log.length cl1,.int .i64 k.count],.bool false]) (by simp[results,Tryz.results13,go_sem, *]) rfl ?_
   rw[HR.out]
   have hx1:=zb HC.out.1 hb14;have hx2:=zb HC.out.2.1 hb14;have hx3:=zb HC.out.2.2.1 hb14;have hlo:∀b,b∈G2++G3++G4→V.heap.size≤b:=HC.out.2.2.2.1.1
   have hl2:∀b,b∈G2→w.heap.size+2≤b∧b<w1.heap.size:=λb hb=>⟨by have h9:=hlo b (by simp[hb]);omega,HC.out.2.2.2.2 b (by simp[hb])⟩
   have hl3:∀b,b∈G3→w.heap.size+2≤b∧b<w1.heap.size:=λb hb=>⟨by have h9:=hlo b (by simp[hb]);omega,HC.out.2.2.2.2 b (by simp[hb])⟩
   have hl4:∀b,b∈G4→w.heap.size+2≤b∧b<w1.heap.size:=λb hb=>⟨by have h9:=hlo b (by simp[hb]);omega,HC.out.2.2.2.2 b (by simp[hb])⟩
   exact⟨_,G2++G3++G4,rfl,bl,TDisk.mk_ hok (zks hx1 hl2) (zks hx2 hl3) (zks hx3 hl4),HC.out.2.2.2.1.mono (by omega)⟩
  ·have hdl:¬data.length=0:=λh9=>hd (List.eq_nil_of_length_eq_zero h9)
   have hdi:((data.length:Int)==0)=false:=by rw[beq_eq_false_iff_ne];omega
   have hde:data.isEmpty=false:=by cases data with|nil=>exact absurd rfl hd|cons _ _=>rfl
   by_cases hc:(yn:Int)=k.count
   ·
    have hc1:(k.count==(yn:Int))=true:=by rw[hc];exact beq_self_eq_true _
    have hc2:(k.count !=(yn:Int))=false:=by rw[hc];exact bne_self_eq_false _
    have hc3:((yn:Int)==k.count)=true:=by rw[hc];exact beq_self_eq_true _
    have hc4:((yn:Int) !=k.count)=false:=by rw[hc];exact bne_self_eq_false _
    have HCC:=zh hc;have hwc:IntKind.i64.wrap (k.count+1)=k.count+1:=IntWalk.i64_in _ (by omega)
    clear hc;go_wp2_with fail;refine(Zgm _ _ k.log data k.count F4 FD _ (by exact zb m4 hbw4) (by omega) (by exact HRD.out) (by omega) hok.h5).mono ?_
    generalize Zao k.log k.count data=al at *
    obtain⟨x,xo⟩:=al;simp only at HE⊢
    rintro e w5 ⟨v5,rfl,hb5,ho5⟩;obtain⟨L5,cl5,e9⟩:=ho5.slice;subst e9;obtain⟨F5,hr5,hf5,-⟩:=ho5.fresh (hw:=by decide) (hw2:=by decide)
    have hY5:Below Y.heap.size Y w5:=Za hY4 hb5
    have hbw5:Below w.heap.size w w5:=Za hbwY hY5
    have hb15:Below w1.heap.size w1 w5:=Za hbY hY5
    have hz5:=hb5.size;have hw50:w.heap.size<w5.heap.size:=by omega
    have hw51:w.heap.size+1<w5.heap.size:=by omega
    have hw52:w1.heap.size<w5.heap.size:=by omega
    have hne:¬w1.heap.size=w.heap.size+1:=by omega
    have hne2:¬w1.heap.size=w.heap.size:=by omega
    have H5:=zh (show cUS.rep w5 [.slice L5 x.length cl5] x F5∧(∀b,b∈F5→w4.heap.size≤b)∧F5.Nodup from ⟨hr5,hf5.1,hf5.2⟩)
    have aa0:=zcl hb5 g0;have aa1:=zcl hb5 g1;have aa2:=zcl hb5 g2;have aa3:=zcl hb5 g3;have aa4:=zcl hb5 g4;have aa5:=zcl hb5 g5;have ss0:=zcl hb5 s0;have fss0:=zcf hb5 fs0;have ss1:=zcl hb5 s1;have fss1:=zcf hb5 fs1;have ss2:=zcl hb5 s2;have fss2:=zcf hb5 fs2;have ss3:=zcl hb5 s3;have fss3:=zcf hb5 fs3;have ss4:=zcl hb5 s4;have fss4:=zcf hb5 fs4;have ss5:=zcl hb5 s5;have fss5:=zcf hb5 fs5;have tt0:=zcl hb5 t0;have ftt0:=zcf hb5 ft0;have tt1:=zcl hb5 t1;have ftt1:=zcf hb5 ft1;have tt2:=zcl hb5 t2;have ftt2:=zcf hb5 ft2;have tt3:=zcl hb5 t3;have ftt3:=zcf hb5 ft3;have tt4:=zcl hb5 t4;have ftt4:=zcf hb5 ft4;have tt5:=zcl hb5 t5;have ftt5:=zcf hb5 ft5;clear ho5 hr5 hf5 g0 g1 g2 g3 g4 g5 s0 s1 s2 s3 s4 s5 fs0 fs1 fs2 fs3 fs4 fs5 t0 t1 t2 t3 t4 t5 ft0 ft1 ft2 ft3 ft4 ft5;cases xo
    ·have HR:=zh (show ZH k l=(k,false) by rw[HE.out,Bool.and_false];rfl)
     go_wp2_with fail;refine bodyPost_ret (v:=.tuple #[.agg #[.string k.base.name,.int .i64 k.base.ver,.slice B1 k.base.stores.length c1,.slice U1 k.base.uniq.length cu1,.slice L1 k.log.length cl1,.int .i64 k.count],.bool false]) (by simp[results,Tryz.results13,go_sem, *]) rfl ?_
     rw[HR.out]
     have hx1:=zb HC.out.1 hb15;have hx2:=zb HC.out.2.1 hb15;have hx3:=zb HC.out.2.2.1 hb15;have hlo:∀b,b∈G2++G3++G4→V.heap.size≤b:=HC.out.2.2.2.1.1
     have hl2:∀b,b∈G2→w.heap.size+2≤b∧b<w1.heap.size:=λb hb=>⟨by have h9:=hlo b (by simp[hb]);omega,HC.out.2.2.2.2 b (by simp[hb])⟩
     have hl3:∀b,b∈G3→w.heap.size+2≤b∧b<w1.heap.size:=λb hb=>⟨by have h9:=hlo b (by simp[hb]);omega,HC.out.2.2.2.2 b (by simp[hb])⟩
     have hl4:∀b,b∈G4→w.heap.size+2≤b∧b<w1.heap.size:=λb hb=>⟨by have h9:=hlo b (by simp[hb]);omega,HC.out.2.2.2.2 b (by simp[hb])⟩
     exact⟨_,G2++G3++G4,rfl,bl,TDisk.mk_ hok (zks hx1 hl2) (zks hx2 hl3) (zks hx3 hl4),HC.out.2.2.2.1.mono (by omega)⟩
    ·have HR:=zh (show ZH k l=(⟨k.base,x,k.count+1⟩,true) by rw[HE.out,hde,decide_eq_true HCC.out];rfl)
     go_wp2_with fail;refine bodyPost_ret (v:=.tuple #[.agg #[.string k.base.name,.int .i64 k.base.ver,.slice B1 k.base.stores.length c1,.slice U1 k.base.uniq.length cu1,.slice L5 x.length cl5,.int .i64 (k.count+1)],.bool true]) (by simp[results,Tryz.results13,go_sem, *]) rfl ?_
     rw[HR.out]
     have hx1:=zb HC.out.1 hb15;have hx2:=zb HC.out.2.1 hb15;have hx3:=H5.out.1;have hlo:∀b,b∈G2++G3++G4→V.heap.size≤b:=HC.out.2.2.2.1.1
     have hl2:∀b,b∈G2→w.heap.size+2≤b∧b<w1.heap.size:=λb hb=>⟨by have h9:=hlo b (by simp[hb]);omega,HC.out.2.2.2.2 b (by simp[hb])⟩
     have hl3:∀b,b∈G3→w.heap.size+2≤b∧b<w1.heap.size:=λb hb=>⟨by have h9:=hlo b (by simp[hb]);omega,HC.out.2.2.2.2 b (by simp[hb])⟩
     have hl5:∀b,b∈F5→w1.heap.size<b:=λb hb=>by have h9:=H5.out.2.1 b hb;omega
     exact⟨_,G2++G3++F5,rfl,bl,TDisk.mk_ (x:=⟨k.base,x,k.count+1⟩) ⟨hok.h0,hok.h1,by have h9:=HCC.out;show -9223372036854775808≤k.count+1∧k.count+1≤_;omega⟩ (zks hx1 hl2) (zks hx2 hl3) (by have hl5':∀b,b∈F5→w1.heap.size<b∧w.heap.size+2≤b:=(λb hb=>⟨hl5 b hb,by have h9:=hl5 b hb;omega⟩);exact(zks hx3 hl5')),Fresh.app (C:=w1.heap.size) ⟨λb hb=>by have h9:=hlo b (by rcases List.mem_append.1 hb with h8|h8<;>simp[h8]);omega,(List.nodup_append.1 HC.out.2.2.2.1.2).1⟩ (λb hb=>HC.out.2.2.2.2 b (by rcases List.mem_append.1 hb with h8|h8<;>simp[h8])) ⟨λb hb=>by have h9:=hl5 b hb;omega,H5.out.2.2⟩ (by omega)⟩
   ·have HR:=zh (show ZH k l=(k,false) by rw[HE.out,decide_eq_false hc,Bool.and_false,Bool.false_and];rfl)
    have hc1:(k.count==(yn:Int))=false:=by rw[beq_eq_false_iff_ne];exact λh9=>hc h9.symm
    have hc2:(k.count !=(yn:Int))=true:=by rw[bne_iff_ne];exact λh9=>hc h9.symm
    have hc3:((yn:Int)==k.count)=false:=by rw[beq_eq_false_iff_ne];exact hc
    have hc4:((yn:Int) !=k.count)=true:=by rw[bne_iff_ne];exact hc
    clear hc;go_wp2_with fail;refine bodyPost_ret (v:=.tuple #[.agg #[.string k.base.name,.int .i64 k.base.ver,.slice B1 k.base.stores.length c1,.slice U1 k.base.uniq.length cu1,.slice L1 k.log.length cl1,.int .i64 k.count],.bool false]) (by simp[results,Tryz.results13,go_sem, *]) rfl ?_
    rw[HR.out]
    have hx1:=zb HC.out.1 hb14;have hx2:=zb HC.out.2.1 hb14;have hx3:=zb HC.out.2.2.1 hb14;have hlo:∀b,b∈G2++G3++G4→V.heap.size≤b:=HC.out.2.2.2.1.1
    have hl2:∀b,b∈G2→w.heap.size+2≤b∧b<w1.heap.size:=λb hb=>⟨by have h9:=hlo b (by simp[hb]);omega,HC.out.2.2.2.2 b (by simp[hb])⟩
    have hl3:∀b,b∈G3→w.heap.size+2≤b∧b<w1.heap.size:=λb hb=>⟨by have h9:=hlo b (by simp[hb]);omega,HC.out.2.2.2.2 b (by simp[hb])⟩
    have hl4:∀b,b∈G4→w.heap.size+2≤b∧b<w1.heap.size:=λb hb=>⟨by have h9:=hlo b (by simp[hb]);omega,HC.out.2.2.2.2 b (by simp[hb])⟩
    exact⟨_,G2++G3++G4,rfl,bl,TDisk.mk_ hok (zks hx1 hl2) (zks hx2 hl3) (zks hx3 hl4),HC.out.2.2.2.1.mono (by omega)⟩
end Go.Proofs.YtghndifnohkokaaGreat
