import Derived.Test.YtghndifnohkokaaGreatZDecRecI
import Derived.Test.YtghndifnohkokaaGreatZEncOpsS
import Derived.Test.YtghndifnohkokaaGreatZGivesW
namespace Go.Proofs.YtghndifnohkokaaGreat
open Go.ChangeShapes Go.WideShapes Go.RowKit
set_option linter.unusedVariables false
set_option linter.unusedSimpArgs false
set_option maxRecDepth 100000
set_option maxHeartbeats 16000000
theorem Blk.oth {w:World} {g:Nat} {t:TypeId} {cs:Array Value} (h:Blk w g t cs) {p:Addr} (hne:¬g=p.block) (u:Value):Blk (w.setCell p u) g t cs:=(Below.heap_setCell _ _ _ _ hne).trans h
theorem Blk.set7 {W:World} {q:Nat} {t:TypeId} {u0 u1 u2 u3 u4 u5 u6:Value} (hb:Blk W q t #[u0,u1,u2,u3,u4,u5,u6]) (a0 a1 a2 a3 a4 a5 a6:Value):Blk (((((((W.setCell ⟨q,0,none⟩ a0).setCell ⟨q,1,none⟩ a1).setCell ⟨q,2,none⟩ a2).setCell ⟨q,3,none⟩ a3).setCell ⟨q,4,none⟩ a4).setCell ⟨q,5,none⟩ a5).setCell ⟨q,6,none⟩ a6) q t #[a0,a1,a2,a3,a4,a5,a6]:=by
 have h:=((((((hb.set_ 0 a0).set_ 1 a1).set_ 2 a2).set_ 3 a3).set_ 4 a4).set_ 5 a5).set_ 6 a6
 simp only[List.setIfInBounds_toArray,List.set_cons_zero,List.set_cons_succ] at h
 exact h
theorem Zes {P:Program} {fn:Func} {Q:Ending→World→Prop} {A:Act} {W:World} {q:Nat} {t:TypeId} {u0 u1 u2 u3 u4 u5 u6 a0 a1 a2 a3 a4 a5 a6:Value} (h:Blk W q t #[u0,u1,u2,u3,u4,u5,u6])
  (k:∀W9,(((((((W.setCell ⟨q,0,none⟩ a0).setCell ⟨q,1,none⟩ a1).setCell ⟨q,2,none⟩ a2).setCell ⟨q,3,none⟩ a3).setCell ⟨q,4,none⟩ a4).setCell ⟨q,5,none⟩ a5).setCell ⟨q,6,none⟩ a6)=W9→W9.cell? ⟨q,0,none⟩=some a0→W9.cell? ⟨q,1,none⟩=some a1→W9.cell? ⟨q,2,none⟩=some a2→W9.cell? ⟨q,3,none⟩=some a3→W9.cell? ⟨q,4,none⟩=some a4→W9.cell? ⟨q,5,none⟩=some a5→W9.cell? ⟨q,6,none⟩=some a6→bodyPost P fn Q .ret A W9):bodyPost P fn Q .ret A (((((((W.setCell ⟨q,0,none⟩ a0).setCell ⟨q,1,none⟩ a1).setCell ⟨q,2,none⟩ a2).setCell ⟨q,3,none⟩ a3).setCell ⟨q,4,none⟩ a4).setCell ⟨q,5,none⟩ a5).setCell ⟨q,6,none⟩ a6) :=
 k _ rfl ((h.set7 a0 a1 a2 a3 a4 a5 a6).cell 0) ((h.set7 a0 a1 a2 a3 a4 a5 a6).cell 1) ((h.set7 a0 a1 a2 a3 a4 a5 a6).cell 2) ((h.set7 a0 a1 a2 a3 a4 a5 a6).cell 3) ((h.set7 a0 a1 a2 a3 a4 a5 a6).cell 4) ((h.set7 a0 a1 a2 a3 a4 a5 a6).cell 5) ((h.set7 a0 a1 a2 a3 a4 a5 a6).cell 6)
theorem Znp {P:Program} {fn:Func} {Q:Ending→World→Prop} {A:Act} {W:World} {q:Nat} {t:TypeId} {ob:Obj} {u0 u1 u2 u3 u4 u5 u6 a0 a1 a2 a3 a4 a5 a6:Value} (h:Blk W q t #[u0,u1,u2,u3,u4,u5,u6])
  (k:∀W9,(((((((W.setCell ⟨q,0,none⟩ a0).setCell ⟨q,1,none⟩ a1).setCell ⟨q,2,none⟩ a2).setCell ⟨q,3,none⟩ a3).setCell ⟨q,4,none⟩ a4).setCell ⟨q,5,none⟩ a5).setCell ⟨q,6,none⟩ a6).alloc ob=W9→W9.cell? ⟨q,0,none⟩=some a0→W9.cell? ⟨q,1,none⟩=some a1→W9.cell? ⟨q,2,none⟩=some a2→W9.cell? ⟨q,3,none⟩=some a3→W9.cell? ⟨q,4,none⟩=some a4→W9.cell? ⟨q,5,none⟩=some a5→W9.cell? ⟨q,6,none⟩=some a6→bodyPost P fn Q .ret A W9):bodyPost P fn Q .ret A ((((((((W.setCell ⟨q,0,none⟩ a0).setCell ⟨q,1,none⟩ a1).setCell ⟨q,2,none⟩ a2).setCell ⟨q,3,none⟩ a3).setCell ⟨q,4,none⟩ a4).setCell ⟨q,5,none⟩ a5).setCell ⟨q,6,none⟩ a6).alloc ob) :=
 k _ rfl (((h.set7 a0 a1 a2 a3 a4 a5 a6).bel (ZM (Below.refl _ _) ob)).cell 0) (((h.set7 a0 a1 a2 a3 a4 a5 a6).bel (ZM (Below.refl _ _) ob)).cell 1) (((h.set7 a0 a1 a2 a3 a4 a5 a6).bel (ZM (Below.refl _ _) ob)).cell 2) (((h.set7 a0 a1 a2 a3 a4 a5 a6).bel (ZM (Below.refl _ _) ob)).cell 3) (((h.set7 a0 a1 a2 a3 a4 a5 a6).bel (ZM (Below.refl _ _) ob)).cell 4) (((h.set7 a0 a1 a2 a3 a4 a5 a6).bel (ZM (Below.refl _ _) ob)).cell 5) (((h.set7 a0 a1 a2 a3 a4 a5 a6).bel (ZM (Below.refl _ _) ob)).cell 6)
def noOp:TOp:=⟨0,⟨#[]⟩,noKey,Zgi,⟨#[]⟩⟩
def rdO (b:List UInt8) (a:Nat):TOp×Nat×Bool:=match ZaM b (100,100,200,100) a with
 | some (o,t)=>(o,t,true)
 | none=>(noOp,0,false)
theorem ZeC {b:List UInt8} {a:Nat} (h:ZaM b (100,100,200,100) a=none):rdO b a=(noOp,0,false):=by unfold rdO;rw[h]
theorem ZmF {b:List UInt8} {a t:Nat} {o:TOp} (h:ZaM b (100,100,200,100) a=some (o,t)):rdO b a=(o,t,true):=by unfold rdO;rw[h]
theorem Znm {b:List UInt8} {a t:Nat} {o:TOp} (h:ZaM b (100,100,200,100) a=some (o,t)):t≤b.length:=by
 rw[ZkV b 100 100 200 100 a rfl rfl rfl rfl rfl] at h
 have h5:=(Zdc b (rdB b (rdB b (rdB b (rdU b (a:Int)).2.1 100).2.1 100).2.1 200).2.1 100).2.2
 generalize rdB b (rdB b (rdB b (rdB b (rdU b (a:Int)).2.1 100).2.1 100).2.1 200).2.1 100=r5 at h h5
 revert h
 cases (_&&_:Bool) with
 | false=>intro h;cases h
 | true =>
  intro h;simp only[cond_true,Option.some.injEq,Prod.mk.injEq] at h
  omega
theorem ZhZ:noOp.Ok:=⟨by decide,by decide,by decide,by decide,by decide,by decide⟩
def Znz (w:World) (r:TOp×Nat×Bool) (e:Ending) (w':World):Prop:=∃vs F,e=.returned (.tuple #[.agg vs,.int .i64 r.2.1,.bool r.2.2])∧Below w.heap.size w w'∧cOp.rep w' vs.toList r.1 F∧Lo w.heap.size F
theorem Zlf (v:Value) (b:List UInt8) (a:Nat) (F:List Nat) (w:World) (h:cUS.rep w [v] b F) (hb:b.length≤5000000) (ha:a≤b.length) :
  Calls Tryz.prog 87 #[v,.int .i64 a] w (Znz w (rdO b a)):=by
 obtain⟨A,cp,rfl⟩:=Zb h;go_enter Tryz.func87,Tryz.ntmps87
 go_wp2_with fail;generalize hX:World.alloc _ _=X
 have hbX:Below w.heap.size w X:=by rw[← hX];exact bl
 have hXs:X.heap.size=w.heap.size+1:=by rw[← hX];clear hX;simp
 obtain⟨t,hXb⟩:∃t,Blk X w.heap.size t #[.int .i64 0,.string ⟨#[]⟩,.int .i64 0,.int .i64 0,.string ⟨#[]⟩,.slice none 0 0,.string ⟨#[]⟩]:=⟨_,by rw[← hX];exact Blk.new _ _ _⟩
 clear hX;refine(ZaC _ b (a:Int) _ _ (by exact zb h hbX) (by omega) (by omega)).mono ?_
 have hub:=Zgj b (a:Int)
 have HR1:=zh (ZkV b 100 100 200 100 a (r1:=rdU b (a:Int)) rfl rfl rfl rfl rfl)
 generalize hr1:rdU b (a:Int)=r1 at *
 obtain⟨k1,p1,ok1⟩:=r1;simp only at hub HR1⊢
 rintro e w1 ⟨rfl,hb1⟩;have hB1:Below X.heap.size X w1:=hb1
 go_wp2_with fail;refine(ZaS _ b p1 100 _ _ (by exact zb h (Za hbX hB1)) (by omega) (by omega) (by omega)).mono ?_
 have hsb2:=Zdc b p1 100;generalize hr2:rdB b p1 100=r2 at *
 obtain⟨s2,p2,ok2⟩:=r2;simp only at hsb2 HR1⊢
 rintro e w2 ⟨v2,G2,rfl,hb2,m2,hf2⟩;obtain⟨A2,c2,e9⟩:=Zb m2;subst e9;have hB2:Below X.heap.size X w2:=Za hB1 hb2
 have HM2:=zh (show cUS.rep w2 [.slice A2 s2.length c2] s2 G2 from m2)
 clear m2 hf2 hb2;go_wp2_with fail;refine(ZaS _ b p2 100 _ _ (by exact zb h (Za hbX hB2)) (by omega) (by omega) (by omega)).mono ?_
 have hsb3:=Zdc b p2 100;generalize hr3:rdB b p2 100=r3 at *
 obtain⟨s3,p3,ok3⟩:=r3;simp only at hsb3 HR1⊢
 rintro e w3 ⟨v3,G3,rfl,hb3,m3,hf3⟩;obtain⟨A3,c3,e9⟩:=Zb m3;subst e9;have hB3:Below X.heap.size X w3:=Za hB2 hb3
 have HM3:=zh (show cUS.rep w3 [.slice A3 s3.length c3] s3 G3 from m3)
 replace HM2:=zh (zb HM2.out hb3)
 clear m3 hf3 hb3;go_wp2_with fail;refine(ZaS _ b p3 200 _ _ (by exact zb h (Za hbX hB3)) (by omega) (by omega) (by omega)).mono ?_
 have hsb4:=Zdc b p3 200;generalize hr4:rdB b p3 200=r4 at *
 obtain⟨s4,p4,ok4⟩:=r4;simp only at hsb4 HR1⊢
 rintro e w4 ⟨v4,G4,rfl,hb4,m4,hf4⟩;obtain⟨A4,c4,e9⟩:=Zb m4;subst e9;have hB4:Below X.heap.size X w4:=Za hB3 hb4
 have HM4:=zh (show cUS.rep w4 [.slice A4 s4.length c4] s4 G4 from m4)
 replace HM2:=zh (zb HM2.out hb4)
 replace HM3:=zh (zb HM3.out hb4)
 clear m4 hf4 hb4;go_wp2_with fail;refine(ZaS _ b p4 100 _ _ (by exact zb h (Za hbX hB4)) (by omega) (by omega) (by omega)).mono ?_
 have hsb5:=Zdc b p4 100;generalize hr5:rdB b p4 100=r5 at *
 obtain⟨s5,p5,ok5⟩:=r5;simp only at hsb5 HR1⊢
 rintro e w5 ⟨v5,G5,rfl,hb5,m5,hf5⟩;obtain⟨A5,c5,e9⟩:=Zb m5;subst e9;have hB5:Below X.heap.size X w5:=Za hB4 hb5
 have HM5:=zh (show cUS.rep w5 [.slice A5 s5.length c5] s5 G5 from m5)
 replace HM2:=zh (zb HM2.out hb5)
 replace HM3:=zh (zb HM3.out hb5)
 replace HM4:=zh (zb HM4.out hb5)
 clear m5 hf5 hb5;obtain⟨q5,hq5⟩:∃q5:Nat,p5=(q5:Int):=⟨p5.toNat,by omega⟩
 subst hq5;have hbw5:Below w.heap.size w w5:=Za hbX hB5
 have hz5:=hB5.size;have hzX5:w.heap.size<w5.heap.size:=by omega
 have hXb5:=hXb.bel hB5;have HBX:=zh hXb5;have x0:w5.cell? ⟨w.heap.size,0,none⟩=some (.int .i64 0):=hXb5.cell 0
 have fx0:w5.frozen? ⟨w.heap.size,0,none⟩=false:=hXb5.frozen 0
 have x1:w5.cell? ⟨w.heap.size,1,none⟩=some (.string ⟨#[]⟩):=hXb5.cell 1
 have fx1:w5.frozen? ⟨w.heap.size,1,none⟩=false:=hXb5.frozen 1
 have x2:w5.cell? ⟨w.heap.size,2,none⟩=some (.int .i64 0):=hXb5.cell 2
 have fx2:w5.frozen? ⟨w.heap.size,2,none⟩=false:=hXb5.frozen 2
 have x3:w5.cell? ⟨w.heap.size,3,none⟩=some (.int .i64 0):=hXb5.cell 3
 have fx3:w5.frozen? ⟨w.heap.size,3,none⟩=false:=hXb5.frozen 3
 have x4:w5.cell? ⟨w.heap.size,4,none⟩=some (.string ⟨#[]⟩):=hXb5.cell 4
 have fx4:w5.frozen? ⟨w.heap.size,4,none⟩=false:=hXb5.frozen 4
 have x5:w5.cell? ⟨w.heap.size,5,none⟩=some (.slice none 0 0):=hXb5.cell 5
 have fx5:w5.frozen? ⟨w.heap.size,5,none⟩=false:=hXb5.frozen 5
 have x6:w5.cell? ⟨w.heap.size,6,none⟩=some (.string ⟨#[]⟩):=hXb5.cell 6
 have fx6:w5.frozen? ⟨w.heap.size,6,none⟩=false:=hXb5.frozen 6
 cases ok1
 ·have HN:=zh (show ZaM b (100,100,200,100) a=none from by rw[HR1.out];rfl)
  go_wp2_with fail;refine Zes HBX.out (λW9 hW9 y0 y1 y2 y3 y4 y5 y6=>?_)
  refine bodyPost_ret (v:=.tuple #[.agg #[.int .i64 0,.string ⟨#[]⟩,.int .i64 0,.int .i64 0,.string ⟨#[]⟩,.slice none 0 0,.string ⟨#[]⟩],.int .i64 0,.bool false]) (by simp[results,Tryz.results87,go_sem,y0,y1,y2,y3,y4,y5,y6]) rfl ?_
  rw[ZeC HN.out,← hW9]
  exact⟨_,[],rfl,bl,TOp.mk_ (x:=noOp) ZhZ (show cFieldS.rep _ [.slice none 0 0] [] [] from ⟨none,0,rfl,Nat.le_refl _,by decide,.inl ⟨rfl,rfl⟩⟩),Lo.nil _⟩
 ·
  cases ok2
  ·have HN:=zh (show ZaM b (100,100,200,100) a=none from by rw[HR1.out];rfl)
   go_wp2_with fail;refine Zes HBX.out (λW9 hW9 y0 y1 y2 y3 y4 y5 y6=>?_)
   refine bodyPost_ret (v:=.tuple #[.agg #[.int .i64 0,.string ⟨#[]⟩,.int .i64 0,.int .i64 0,.string ⟨#[]⟩,.slice none 0 0,.string ⟨#[]⟩],.int .i64 0,.bool false]) (by simp[results,Tryz.results87,go_sem,y0,y1,y2,y3,y4,y5,y6]) rfl ?_
   rw[ZeC HN.out,← hW9]
   exact⟨_,[],rfl,bl,TOp.mk_ (x:=noOp) ZhZ (show cFieldS.rep _ [.slice none 0 0] [] [] from ⟨none,0,rfl,Nat.le_refl _,by decide,.inl ⟨rfl,rfl⟩⟩),Lo.nil _⟩
  ·
   cases ok3
   ·have HN:=zh (show ZaM b (100,100,200,100) a=none from by rw[HR1.out];rfl)
    go_wp2_with fail;refine Zes HBX.out (λW9 hW9 y0 y1 y2 y3 y4 y5 y6=>?_)
    refine bodyPost_ret (v:=.tuple #[.agg #[.int .i64 0,.string ⟨#[]⟩,.int .i64 0,.int .i64 0,.string ⟨#[]⟩,.slice none 0 0,.string ⟨#[]⟩],.int .i64 0,.bool false]) (by simp[results,Tryz.results87,go_sem,y0,y1,y2,y3,y4,y5,y6]) rfl ?_
    rw[ZeC HN.out,← hW9]
    exact⟨_,[],rfl,bl,TOp.mk_ (x:=noOp) ZhZ (show cFieldS.rep _ [.slice none 0 0] [] [] from ⟨none,0,rfl,Nat.le_refl _,by decide,.inl ⟨rfl,rfl⟩⟩),Lo.nil _⟩
   ·
    cases ok4
    ·have HN:=zh (show ZaM b (100,100,200,100) a=none from by rw[HR1.out];rfl)
     go_wp2_with fail;refine Zes HBX.out (λW9 hW9 y0 y1 y2 y3 y4 y5 y6=>?_)
     refine bodyPost_ret (v:=.tuple #[.agg #[.int .i64 0,.string ⟨#[]⟩,.int .i64 0,.int .i64 0,.string ⟨#[]⟩,.slice none 0 0,.string ⟨#[]⟩],.int .i64 0,.bool false]) (by simp[results,Tryz.results87,go_sem,y0,y1,y2,y3,y4,y5,y6]) rfl ?_
     rw[ZeC HN.out,← hW9]
     exact⟨_,[],rfl,bl,TOp.mk_ (x:=noOp) ZhZ (show cFieldS.rep _ [.slice none 0 0] [] [] from ⟨none,0,rfl,Nat.le_refl _,by decide,.inl ⟨rfl,rfl⟩⟩),Lo.nil _⟩
    ·
     cases ok5
     ·have HN:=zh (show ZaM b (100,100,200,100) a=none from by rw[HR1.out];rfl)
      go_wp2_with fail;refine Zes HBX.out (λW9 hW9 y0 y1 y2 y3 y4 y5 y6=>?_)
      refine bodyPost_ret (v:=.tuple #[.agg #[.int .i64 0,.string ⟨#[]⟩,.int .i64 0,.int .i64 0,.string ⟨#[]⟩,.slice none 0 0,.string ⟨#[]⟩],.int .i64 0,.bool false]) (by simp[results,Tryz.results87,go_sem,y0,y1,y2,y3,y4,y5,y6]) rfl ?_
      rw[ZeC HN.out,← hW9]
      exact⟨_,[],rfl,bl,TOp.mk_ (x:=noOp) ZhZ (show cFieldS.rep _ [.slice none 0 0] [] [] from ⟨none,0,rfl,Nat.le_refl _,by decide,.inl ⟨rfl,rfl⟩⟩),Lo.nil _⟩
     ·
      have HS:=zh (show ZaM b (100,100,200,100) a=some (⟨k1,Zg s2,(Zv s3).1,(ZC s4).1,Zg s5⟩,q5) from by rw[HR1.out];rfl)
      have hv2:=ZaX HM2.out;have hv5:=ZaX HM5.out;go_wp2_with fail;refine(Zgn _ s3 G3 _ (by exact zb HM3.out) (by omega)).mono ?_
      have HKR:=zh (Zgz s3)
      rintro e w6 ⟨rfl,hb6⟩;have hB6:=zt (w:=w5) hb6
      have hz6:=hb6.size;(try simp at hz6)
      have hz6a:w5.heap.size<w6.heap.size:=by omega
      obtain⟨tO,hOb⟩:∃t,Blk w6 w5.heap.size t #[.int .i64 k1,.string (Zg s2),.int .i64 0,.int .i64 0,.string ⟨#[]⟩,.slice none 0 0,.string (Zg s5)]:=⟨_,(Blk.new w5 _ _).bel hb6⟩
      clear hb6;go_wp2_with fail;refine(ZeJ _ s4 G4 _ (by exact zb HM4.out (Za hB6 bl)) (by omega)).mono ?_
      rintro e w7 ⟨vs7,F7,rfl,hb7,hr7,hf7⟩;obtain⟨v7,_,rfl,rfl,-,n7⟩:=TRec.outA hr7;obtain⟨B7,c7,e9⟩:=Zb n7;subst e9;have hB7:=zt (w:=w6) hb7
      have hz7:=hb7.size;(try simp at hz7)
      have hz7a:w6.heap.size<w7.heap.size:=by omega
      have hz7b:w5.heap.size<w7.heap.size:=by omega
      have hz7c:w.heap.size<w7.heap.size:=by omega
      obtain⟨tk,hKb⟩:∃t,Blk w7 w6.heap.size t #[.int .i64 (Zv s3).1.kind,.int .i64 (Zv s3).1.n,.string (Zv s3).1.text]:=⟨_,(Blk.new w6 _ _).bel hb7⟩
      have hOb7:=hOb.bel hB7;have hXb7:=(HBX.out.bel hB6).bel hB7
      have hlow7:∀b,b∈F7→w6.heap.size<b∧b<w7.heap.size:=λb hb=>⟨by have h9:=hf7.1 b hb;(try simp at h9);omega,Cod.lt _ n7 b hb⟩
      have hbw7:Below w.heap.size w w7:=Za hbw5 (Za hB6 hB7)
      have HN7:=zh (And.intro n7 (And.intro hOb7 hXb7))
      have hne1:¬w.heap.size=w5.heap.size:=by omega
      have hne2:¬w.heap.size=w6.heap.size:=by omega
      have hne3:¬w5.heap.size=w6.heap.size:=by omega
      have hne4:¬w.heap.size=w7.heap.size:=by omega
      have hne5:¬w5.heap.size=w7.heap.size:=by omega
      clear x0 x1 x2 x3 x4 x5 x6 fx0 fx1 fx2 fx3 fx4 fx5 fx6 hr7 hf7 hb7 hOb n7;have x0:w7.cell? ⟨w.heap.size,0,none⟩=some (.int .i64 0):=hXb7.cell 0
      have fx0:w7.frozen? ⟨w.heap.size,0,none⟩=false:=hXb7.frozen 0
      have x1:w7.cell? ⟨w.heap.size,1,none⟩=some (.string ⟨#[]⟩):=hXb7.cell 1
      have fx1:w7.frozen? ⟨w.heap.size,1,none⟩=false:=hXb7.frozen 1
      have x2:w7.cell? ⟨w.heap.size,2,none⟩=some (.int .i64 0):=hXb7.cell 2
      have fx2:w7.frozen? ⟨w.heap.size,2,none⟩=false:=hXb7.frozen 2
      have x3:w7.cell? ⟨w.heap.size,3,none⟩=some (.int .i64 0):=hXb7.cell 3
      have fx3:w7.frozen? ⟨w.heap.size,3,none⟩=false:=hXb7.frozen 3
      have x4:w7.cell? ⟨w.heap.size,4,none⟩=some (.string ⟨#[]⟩):=hXb7.cell 4
      have fx4:w7.frozen? ⟨w.heap.size,4,none⟩=false:=hXb7.frozen 4
      have x5:w7.cell? ⟨w.heap.size,5,none⟩=some (.slice none 0 0):=hXb7.cell 5
      have fx5:w7.frozen? ⟨w.heap.size,5,none⟩=false:=hXb7.frozen 5
      have x6:w7.cell? ⟨w.heap.size,6,none⟩=some (.string ⟨#[]⟩):=hXb7.cell 6
      have fx6:w7.frozen? ⟨w.heap.size,6,none⟩=false:=hXb7.frozen 6
      have o0:w7.cell? ⟨w5.heap.size,0,none⟩=some (.int .i64 k1):=hOb7.cell 0
      have fo0:w7.frozen? ⟨w5.heap.size,0,none⟩=false:=hOb7.frozen 0
      have o1:w7.cell? ⟨w5.heap.size,1,none⟩=some (.string (Zg s2)):=hOb7.cell 1
      have fo1:w7.frozen? ⟨w5.heap.size,1,none⟩=false:=hOb7.frozen 1
      have o2:w7.cell? ⟨w5.heap.size,2,none⟩=some (.int .i64 0):=hOb7.cell 2
      have fo2:w7.frozen? ⟨w5.heap.size,2,none⟩=false:=hOb7.frozen 2
      have o3:w7.cell? ⟨w5.heap.size,3,none⟩=some (.int .i64 0):=hOb7.cell 3
      have fo3:w7.frozen? ⟨w5.heap.size,3,none⟩=false:=hOb7.frozen 3
      have o4:w7.cell? ⟨w5.heap.size,4,none⟩=some (.string ⟨#[]⟩):=hOb7.cell 4
      have fo4:w7.frozen? ⟨w5.heap.size,4,none⟩=false:=hOb7.frozen 4
      have o5:w7.cell? ⟨w5.heap.size,5,none⟩=some (.slice none 0 0):=hOb7.cell 5
      have fo5:w7.frozen? ⟨w5.heap.size,5,none⟩=false:=hOb7.frozen 5
      have o6:w7.cell? ⟨w5.heap.size,6,none⟩=some (.string (Zg s5)):=hOb7.cell 6
      have fo6:w7.frozen? ⟨w5.heap.size,6,none⟩=false:=hOb7.frozen 6
      have kb0:w7.cell? ⟨w6.heap.size,0,none⟩=some (.int .i64 (Zv s3).1.kind):=hKb.cell 0
      have fkb0:w7.frozen? ⟨w6.heap.size,0,none⟩=false:=hKb.frozen 0
      have kb1:w7.cell? ⟨w6.heap.size,1,none⟩=some (.int .i64 (Zv s3).1.n):=hKb.cell 1
      have fkb1:w7.frozen? ⟨w6.heap.size,1,none⟩=false:=hKb.frozen 1
      have kb2:w7.cell? ⟨w6.heap.size,2,none⟩=some (.string (Zv s3).1.text):=hKb.cell 2
      have fkb2:w7.frozen? ⟨w6.heap.size,2,none⟩=false:=hKb.frozen 2
      clear hXb7 hOb7 hKb;go_wp2_with fail;refine Znp ((((HN7.out.2.2.oth (p:=⟨w5.heap.size,2,none⟩) hne1 _).oth (p:=⟨w5.heap.size,3,none⟩) hne1 _).oth (p:=⟨w5.heap.size,4,none⟩) hne1 _).oth (p:=⟨w5.heap.size,5,none⟩) hne1 _) (λW9 hW9 y0 y1 y2 y3 y4 y5 y6=>?_)
      refine bodyPost_ret (v:=.tuple #[.agg #[.int .i64 k1,.string (Zg s2),.int .i64 (Zv s3).1.kind,.int .i64 (Zv s3).1.n,.string (Zv s3).1.text,.slice B7 (ZC s4).1.fields.length c7,.string (Zg s5)],.int .i64 q5,.bool true]) (by simp[results,Tryz.results87,go_sem,y0,y1,y2,y3,y4,y5,y6]) rfl ?_
      rw[ZmF HS.out,← hW9]
      have hn7:=HN7.out.1;exact⟨_,F7,rfl,bl,TOp.mk_ (x:=⟨k1,Zg s2,(Zv s3).1,(ZC s4).1,Zg s5⟩) ⟨by show -9223372036854775808≤k1∧k1≤_;omega,by show (Zg s2).size≤_;rw[ZaD];unfold maxLen;omega,HKR.out.h0,HKR.out.h1,HKR.out.h2,by show (Zg s5).size≤_;rw[ZaD];unfold maxLen;omega⟩ (zks hn7 hlow7),λb hb=>by have h9:=(hlow7 b hb).1;omega⟩
theorem Zgo (v:Value) (b:List UInt8) (F:List Nat) (w:World) (h:cUS.rep w [v] b F) (hb:b.length≤5000000) :
  Calls Tryz.prog 47 #[v] w (GivesDec w (ZW b)):=by
 obtain⟨i0,hi0,iz0,iz1,iz2⟩:=info_parts Zpy;obtain⟨A,cp,rfl⟩:=Zb h;obtain⟨-,hcp,hm⟩:=Zq h
 unfold maxLen at hm
 go_enter Tryz.func47,Tryz.ntmps47
 go_wp2_with fail;refine(ZaC _ b ((0:Nat):Int) _ _ (by exact zb h) (by omega) (by omega)).mono ?_
 rcases ZbH b 0 with ⟨hr,hnone⟩|⟨n,nx,hr,hsome⟩
 ·rw[hr]
  have HD:=zh (Zko (most:=(100,100,200,100)) hnone)
  rintro e w1 ⟨rfl,hb1⟩;go_wp2_with fail;refine bodyPost_ret (v:=.tuple #[.slice (some ⟨w1.heap.size,0,none⟩) 0 0,.bool false]) (by simp[results,Tryz.results47,go_sem]) rfl ?_
  exact GivesDec.no bl HD.out _
 ·rw[hr]
  obtain⟨hn12,hnx0,hnxl,-⟩:=Zas hsome;rintro e w1 ⟨rfl,hb1⟩;simp only
  by_cases h6:6<n
  ·have h6i:(6:Int)<(n:Int):=by omega
   have HD:=zh (Zmh (most:=(100,100,200,100)) hsome h6)
   go_wp2_with fail;refine bodyPost_ret (v:=.tuple #[.slice (some ⟨w1.heap.size,0,none⟩) 0 0,.bool false]) (by simp[results,Tryz.results47,go_sem]) rfl ?_
   exact GivesDec.no bl HD.out _
  ·have h6i:¬(6:Int)<(n:Int):=by omega
   have HSO:=zh (And.intro hsome h6)
   clear hsome;go_wp2_with fail;generalize hW:World.alloc _ _=W
   have hbW:Below w.heap.size w W:=by rw[← hW];exact bl
   clear hW;go_loopw [7,8,5] (λout i a wr=>∃(k at_:Nat) (l:List TOp) (Fi:List Nat),k≤n∧i=.int .i64 k∧a=.int .i64 at_∧at_≤b.length∧l.length=k∧Zad b (100,100,200,100) n nx=ZhT l (Zad b (100,100,200,100) (n-k) at_)∧Own cOp 78 w.heap.size wr out l Fi∧(∀g,Zac out=some g→g∉Fi)∧Below w.heap.size w wr) (λ_ i _ _=>n-(intOf i).toNat)
   case atStart=>exact⟨0,nx,[],[],Nat.zero_le _,rfl,rfl,hnxl,rfl,by rw[ZkH];rfl,Own.empty _,by simp,hbW⟩
   case round =>
    obtain⟨k,at_,l,Fi,hk,rfl,rfl,hal,hll,hro,hown,hnf,hbw⟩:=hrel;obtain⟨Ao,co,hov⟩:=hown.slice;subst hov;rw[hll] at hown hnf
    have HO:=zh (And.intro hown (And.intro hnf (And.intro hll hro)))
    rw[hll]
    have hzw:=hbw.size;clear hown hnf hll hro
    by_cases hlt:k<n
    ·have hki:((k:Int)<(n:Int)):=by omega
     have hsub:n-k=(n-(k+1))+1:=by omega
     go_wp2_with fail;refine(Zlf _ b at_ _ _ (by exact zb h (Za hbw bl)) hb hal).mono ?_
     cases hrd:ZaM b (100,100,200,100) at_ with
     | none =>
      rw[ZeC hrd]
      rintro e w2 ⟨vs2,F2,rfl,hb2,hr2,-⟩;obtain⟨v2,_,rfl,rfl,-,n2⟩:=TOp.outA hr2;obtain⟨B2,c2,e9⟩:=Zb n2;subst e9;have HD:=zh (Zmg HSO.out.1 HSO.out.2 (by rw[HO.out.2.2.2,hsub];exact Zjm hrd))
      have hbw2:Below w.heap.size w w2:=Za hbw hb2
      clear hr2 n2;go_wp2_with fail;refine bodyPost_ret (v:=.tuple #[.slice (some ⟨w2.heap.size+1,0,none⟩) 0 0,.bool false]) (by simp[results,Tryz.results47,go_sem]) rfl ?_
      exact GivesDec.no bl HD.out _
     | some r =>
      obtain⟨op,tn⟩:=r;have htn:=Znm hrd;rw[ZmF hrd]
      rintro e w2 ⟨vs2,F2,rfl,hb2,hr2,hl2⟩;have hr2':=hr2;obtain⟨v2,_,rfl,rfl,-,n2⟩:=TOp.outA hr2;obtain⟨B2,c2,e9⟩:=Zb n2;subst e9;have HR2:=zh (And.intro hr2' hl2)
      have hbw2:Below w.heap.size w w2:=Za hbw hb2
      have hlow2:∀b,b∈F2→wr.heap.size≤b∧b<w2.heap.size:=λb hb=>⟨hl2 b hb,Cod.lt _ n2 b hb⟩
      have HRD:=zh hrd;have hz2:=hb2.size;have hlo:=HO.out.1.lt;have hli:=HO.out.1.inner_lt;clear hr2 hr2' hl2 n2 hrd;go_wp2_with (at_builtin;refine Ziy ?_)
      refine goB ?_
      refine Zl (c:=cOp) (B:=w.heap.size) (xs:=l) (ys:=[op]) (Fi:=Fi) (Fy:=F2) _ rfl _ _ _ rfl i0 _ _ Tryz.underlying45 hi0 iz0 iz1 iz2 rfl (by decide) rfl (HO.out.1.bel (Za hb2 (by exact bl))) (.slice (some ⟨w2.heap.size+1,0,none⟩) 1 1) rfl (Zcf 78 (w2.heap.size+1) (by simp) (by exact zb HR2.out.1)) (by have h9:=HO.out.2.2.1;unfold maxLen;simp;omega) (by have h9:=HO.out.2.2.1;simp;omega) (by (try simp);(try omega)) (λg hg=>⟨HO.out.2.1 g hg,λh9=>by have h8:=(hlow2 _ h9).1;have h7:=(hlo g hg).2;omega⟩) ?_
      intro v6 w6 ho6 hg6 hat6;have hB6:Below w.heap.size w w6:=(show Below w.heap.size w _ from Za hbw2 bl).grown hg6 (by (try simp);(try omega)) (λg hg=>(hlo g hg).1)
      have HF6:=zh (show Own cOp 78 w.heap.size w6 v6 (l++[op]) (Fi++F2)∧(∀g,Zac v6=some g→g∉Fi++F2) from ⟨ho6,λg hg hm=>by
       rcases hat6 g hg with h9|h9
       ·rcases List.mem_append.1 hm with h8|h8
        ·exact HO.out.2.1 g h9 h8
        ·have h7:=(hlow2 _ h8).1;have h6:=(hlo g h9).2;omega
       ·(try simp at h9)
        rcases List.mem_append.1 hm with h8|h8
        ·have h7:=hli g h8;omega
        ·have h7:=(hlow2 _ h8).2;omega⟩)
      have HJ:=zh (show Zad b (100,100,200,100) n nx=ZhT (l++[op]) (Zad b (100,100,200,100) (n-(k+1)) tn) by rw[HO.out.2.2.2,hsub];exact Zjn HRD.out)
      clear ho6 hg6 hat6;go_wp2_with fail;go_roundw
      case rel=>exact⟨k+1,tn,l++[op],Fi++F2,by omega,by go_num,rfl,by omega,by rw[List.length_append,HO.out.2.2.1];rfl,HJ.out,HF6.out.1,HF6.out.2,hB6⟩
      case measure=>simp[intOf];omega
    ·obtain rfl:k=n:=by omega
     have HRD:=zh (show Zad b (100,100,200,100) k nx=some l by rw[HO.out.2.2.2,Nat.sub_self];exact ZkG)
     have HDG:=zh (ZnJ HSO.out.1 HSO.out.2 HRD.out)
     obtain⟨FR,hr9,-,-⟩:=HO.out.1.rep (hw:=by decide) (hw2:=by decide)
     replace hr9:cOpS.rep wr [.slice Ao k co] l FR:=hr9
     have HR9:=zh hr9;have hln:l.length≤1048576:=by have h9:=HO.out.2.2.1;omega
     clear hr9;go_wp2_with fail;refine(ZdK _ l FR _ (by exact HR9.out) hln).mono ?_
     rintro e w2 ⟨v2,rfl,hb2,ho2⟩;obtain⟨B2,c2,e9⟩:=ho2.slice;subst e9;obtain⟨FE,hrE,-,-⟩:=ho2.fresh (hw:=by decide) (hw2:=by decide)
     have HE:=zh (show cUS.rep w2 [.slice B2 (Zn l).length c2] (Zn l) FE from hrE)
     have hbw2:Below w.heap.size w w2:=Za hbw hb2
     clear hrE ho2;go_wp2_with fail;refine(ZfJ _ _ (Zn l) b FE F _ (by exact HE.out) (by exact zb h hbw2)).mono ?_
     rw[ZbR]
     cases e1:(Zn l==b)
     ·have HD:=zh (show ZaB b (100,100,200,100)=([],false) by rw[HDG.out,e1];rfl)
      rintro e w3 ⟨rfl,hb3⟩;have hbw3:Below w.heap.size w w3:=Za hbw2 hb3
      go_wp2_with fail;refine bodyPost_ret (v:=.tuple #[.slice (some ⟨w3.heap.size,0,none⟩) 0 0,.bool false]) (by simp[results,Tryz.results47,go_sem]) rfl ?_
      exact GivesDec.no bl HD.out _
     ·have HD:=zh (show ZaB b (100,100,200,100)=(l,true) by rw[HDG.out,e1];rfl)
      rintro e w3 ⟨rfl,hb3⟩;have hbw3:Below w.heap.size w w3:=Za hbw2 hb3
      have hbr3:Below wr.heap.size wr w3:=Za hb2 hb3
      go_wp2_with fail;refine bodyPost_ret (v:=.tuple #[.slice Ao k co,.bool true]) (by simp[results,Tryz.results47,go_sem]) rfl ?_
      exact⟨_,FR,by rw[show ZW b=(l,true) from HD.out],bl,by rw[show ZW b=(l,true) from HD.out];exact zb HR9.out⟩
end Go.Proofs.YtghndifnohkokaaGreat
