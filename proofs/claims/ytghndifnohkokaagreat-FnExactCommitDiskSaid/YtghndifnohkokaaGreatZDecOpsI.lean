import Derived.Test.YtghndifnohkokaaGreatZDecRecI
import Derived.Test.YtghndifnohkokaaGreatZEncOpsI
namespace Go.Proofs.YtghndifnohkokaaGreat
open Go.ChangeShapes Go.WideShapes Go.RowKit
set_option linter.unusedVariables false
set_option linter.unusedSimpArgs false
set_option maxRecDepth 100000
set_option maxHeartbeats 16000000
def Four (wq:World) (pb:Nat) (cs:Array Value) (f:Nat→List UInt8):Prop:=(∃t,Blk wq pb t cs)∧cs.size=4∧∀j,j<4→∃u F,cs[j]?=some u∧cUS.rep wq [u] (f j) F∧∀b,b∈F→pb<b
theorem Four.bel {w w':World} {pb:Nat} {cs:Array Value} {f:Nat→List UInt8} (h:Four w pb cs f) (hb:Below w.heap.size w w'):Four w' pb cs f:=by
 obtain⟨⟨t,h1⟩,h2,h3⟩:=h;exact⟨⟨t,h1.bel hb⟩,h2,λj hj=>by obtain⟨u,F,a,b,c⟩:=h3 j hj;exact⟨u,F,a,zb b hb,c⟩⟩
theorem Four.new (w:World) (t:TypeId) (f:Nat→List UInt8) (hf:∀j,f j=[]):Four (w.alloc (.cells #[.slice none 0 0,.slice none 0 0,.slice none 0 0,.slice none 0 0] t)) w.heap.size #[.slice none 0 0,.slice none 0 0,.slice none 0 0,.slice none 0 0] f:=by
 refine⟨⟨t,Blk.new _ _ _⟩,rfl,λj hj=>⟨.slice none 0 0,[],?_,by rw[hf];exact ZbQ _ _,by simp⟩⟩
 have h:j=0∨j=1∨j=2∨j=3:=by omega
 rcases h with rfl|rfl|rfl|rfl<;>rfl
theorem Four.set_ {w:World} {pb m:Nat} {cs:Array Value} {f:Nat→List UInt8} (h:Four w pb cs f) (hm:m<4) {v:Value} {s:List UInt8} {F:List Nat} (hr:cUS.rep w [v] s F) (hF:∀b,b∈F→pb<b):Four (w.setCell ⟨pb,m,none⟩ v) pb (cs.setIfInBounds m v) (λj=>if j=m then s else f j):=by
 obtain⟨⟨t,h1⟩,h2,h3⟩:=h;refine⟨⟨t,h1.set_ m v⟩,by simp[h2],λj hj=>?_⟩
 by_cases hjm:j=m
 ·subst hjm;exact⟨v,F,by rw[Array.getElem?_setIfInBounds,if_pos rfl,if_pos (by omega)],by simp only[if_pos];exact Cod.setA hr (λh9=>Nat.lt_irrefl pb (hF _ h9)) _,hF⟩
 ·obtain⟨u,G,a,b,c⟩:=h3 j hj;exact⟨u,G,by rw[Array.getElem?_setIfInBounds_ne (by omega)];exact a,by simp only[if_neg hjm];exact Cod.setA b (λh9=>Nat.lt_irrefl pb (c _ h9)) _,c⟩
theorem Four.low {w:World} {pb ob i:Nat} {cs:Array Value} {f:Nat→List UInt8} (h:Four w pb cs f) (ho:ob<pb) (v:Value):Four (w.setCell ⟨ob,i,none⟩ v) pb cs f:=by
 obtain⟨⟨t,h1⟩,h2,h3⟩:=h;refine⟨⟨t,(Below.heap_setCell _ _ _ _ (by show ¬pb=ob;omega)).trans h1⟩,h2,λj hj=>?_⟩
 obtain⟨u,G,a,b,c⟩:=h3 j hj;exact⟨u,G,a,Cod.setA b (λh9=>by have h8:pb<ob:=c _ h9;omega) _,c⟩
theorem Four.at {w:World} {pb:Nat} {cs:Array Value} {f:Nat→List UInt8} (h:Four w pb cs f) (j:Nat) (hj:j<4):∃A c F,w.cell? ⟨pb,j,none⟩=some (.slice A (f j).length c)∧cUS.rep w [.slice A (f j).length c] (f j) F∧∀b,b∈F→pb<b:=by
 obtain⟨⟨t,h1⟩,h2,h3⟩:=h;obtain⟨u,F,a,b,c⟩:=h3 j hj;obtain⟨A,cp,rfl⟩:=Zb b;exact⟨A,cp,F,(h1.cell j).trans a,b,c⟩
theorem ZfZ (v:Value) (b:List UInt8) (F:List Nat) (w:World) (h:cUS.rep w [v] b F) (hb:b.length≤5000000) :
  Calls Tryz.prog 52 #[v] w (GivesDec w (ZW b)):=by
 rw[← ZiL]
 obtain⟨i0,hi0,iz0,iz1,iz2⟩:=info_parts Zpy;obtain⟨A,cp,rfl⟩:=Zb h;obtain⟨-,hcp,hm⟩:=Zq h
 unfold maxLen at hm
 go_enter Tryz.func52,Tryz.ntmps52
 go_wp2_with fail;refine(Zar _ b ((0:Nat):Int) _ _ (by exact zb h) (by omega) (by omega)).mono ?_
 rcases ZbH b 0 with ⟨hr,hnone⟩|⟨n,nx,hr,hsome⟩
 ·rw[hr]
  have HD:=zh (Zko (most:=(b.length,b.length,b.length,b.length)) hnone)
  rintro e w1 ⟨rfl,hb1⟩;go_wp2_with fail;refine bodyPost_ret (v:=.tuple #[.slice (some ⟨w1.heap.size,0,none⟩) 0 0,.bool false]) (by simp[results,Tryz.results52,go_sem]) rfl ?_
  exact GivesDec.no bl HD.out _
 ·rw[hr]
  obtain⟨hn12,hnx0,hnxl,-⟩:=Zas hsome;rintro e w1 ⟨rfl,hb1⟩;simp only
  by_cases h6:6<n
  ·have h6i:(6:Int)<(n:Int):=by omega
   have HD:=zh (Zmh (most:=(b.length,b.length,b.length,b.length)) hsome h6)
   go_wp2_with fail;refine bodyPost_ret (v:=.tuple #[.slice (some ⟨w1.heap.size,0,none⟩) 0 0,.bool false]) (by simp[results,Tryz.results52,go_sem]) rfl ?_
   exact GivesDec.no bl HD.out _
  ·have h6i:¬(6:Int)<(n:Int):=by omega
   have HSO:=zh (And.intro hsome h6)
   clear hsome;go_wp2_with fail;generalize hW:World.alloc _ _=W
   have hbW:Below w.heap.size w W:=by rw[← hW];exact bl
   have hWs:W.heap.size=w1.heap.size+1:=by rw[← hW];clear hW;simp
   clear hW;go_loopw [7,8,5] (λout i a wr=>∃(k at_:Nat) (l:List TOp) (Fi:List Nat),k≤n∧i=.int .i64 k∧a=.int .i64 at_∧at_≤b.length∧l.length=k∧Zad b (b.length,b.length,b.length,b.length) n nx=ZhT l (Zad b (b.length,b.length,b.length,b.length) (n-k) at_)∧Own cOp 78 w.heap.size wr out l Fi∧(∀g,Zac out=some g→g∉Fi)∧Below w.heap.size w wr) (λ_ i _ _=>n-(intOf i).toNat)
   case atStart=>exact⟨0,nx,[],[],Nat.zero_le _,rfl,rfl,hnxl,rfl,by rw[ZkH];rfl,Own.empty _,by simp,hbW⟩
   case round =>
    obtain⟨k,at_,l,Fi,hk,rfl,rfl,hal,hll,hro,hown,hnf,hbw⟩:=hrel;obtain⟨Ao,co,hov⟩:=hown.slice;subst hov;rw[hll] at hown hnf
    have HO:=zh (And.intro hown (And.intro hnf (And.intro hll hro)))
    rw[hll]
    have hzw:=hbw.size;clear hown hnf hll hro
    by_cases hlt:k<n
    ·have hki:((k:Int)<(n:Int)):=by omega
     have hsub:n-k=(n-(k+1))+1:=by omega
     go_wp2_with fail;refine(Zar _ b (at_:Int) _ _ (by exact zb h (Za hbw bl)) (by omega) (by omega)).mono ?_
     have hub:=Zgj b (at_:Int)
     have HST:=zh (Zjz b (at_:Int))
     have HRO:=zh (Znn b at_)
     generalize hr1:rdU b (at_:Int)=r1 at *
     obtain⟨k1,p1,ok1⟩:=r1;simp only at hub HRO⊢
     rintro e w2 ⟨rfl,hb2⟩;have hO2:∃t,Blk w2 wr.heap.size t #[.int .i64 0,.string ⟨#[]⟩,.int .i64 0,.int .i64 0,.string ⟨#[]⟩,.slice none 0 0,.string ⟨#[]⟩]:=⟨_,(Blk.new wr _ _).bel hb2⟩
     obtain⟨tO,hO2⟩:=hO2;have fo0:=hO2.frozen 0;have co0:w2.cell? ⟨wr.heap.size,0,none⟩=some (.int .i64 0):=hO2.cell 0
     have hz2:=hb2.size;(try simp at hz2)
     have hz2a:wr.heap.size<w2.heap.size:=by omega
     have hbr2:=zt (w:=wr) hb2
     have HO2:=zh hO2;clear hO2 hb2;go_wp2_with fail;generalize hY:World.alloc _ _=Y
     have hbY:Below wr.heap.size wr Y:=by rw[← hY];exact bl
     have hYs:Y.heap.size=w2.heap.size+1:=by rw[← hY];clear hY;simp
     have hYO:Blk Y wr.heap.size tO #[.int .i64 k1,.string ⟨#[]⟩,.int .i64 0,.int .i64 0,.string ⟨#[]⟩,.slice none 0 0,.string ⟨#[]⟩]:=by
      rw[← hY]
      exact(HO2.out.set_ 0 (.int .i64 k1)).bel bl
     have hYF:Four Y w2.heap.size #[.slice none 0 0,.slice none 0 0,.slice none 0 0,.slice none 0 0] (stP b (k1,p1,ok1) 0).1:=by
      rw[← hY]
      first|exact Four.new _ _ _ (λj=>rfl)|(rw[show w2.heap.size=(w2.setCell ⟨wr.heap.size,0,none⟩ (.int .i64 k1)).heap.size by simp];exact Four.new _ _ _ (λj=>rfl))
     have HY:=zh (And.intro hYO hYF)
     clear hY hYO hYF co0 fo0;generalize wr=wo at *
     go_loopw [41,5,6] (λi a ok wq=>∃(m:Nat) (cs:Array Value),m≤4∧i=.int .i64 m∧a=.int .i64 (stP b (k1,p1,ok1) m).2.1∧ok=.bool (stP b (k1,p1,ok1) m).2.2∧Four wq w2.heap.size cs (stP b (k1,p1,ok1) m).1∧Blk wq wo.heap.size tO #[.int .i64 k1,.string ⟨#[]⟩,.int .i64 0,.int .i64 0,.string ⟨#[]⟩,.slice none 0 0,.string ⟨#[]⟩]∧Below wo.heap.size wo wq) (λi _ _ _=>4-(intOf i).toNat)
     case atStart=>exact⟨0,_,by omega,rfl,rfl,rfl,HY.out.2,HY.out.1,hbY⟩
     case round =>
      obtain⟨m,cs,hm4,rfl,rfl,rfl,hF,hO,hbq⟩:=hrel;have HF:=zh (And.intro hF hO)
      have hzq:=hbq.size;have hSTm:=HST.out m;have hb2q:w2.heap.size<wr.heap.size:=by obtain⟨⟨t,h9⟩,-⟩:=hF;exact h9.lt
      by_cases hlm:m<4
      ·have hmi:((m:Int)<4):=by omega
       have hm0:(0:Int)≤(m:Int):=by omega
       cases hok:(stP b (k1,p1,ok1) m).2.2
       ·have HS:=zh (ZpG hok)
        clear hF hO;go_wp2_with fail;go_roundw
        case rel=>exact⟨m+1,cs,by omega,by go_num,by rw[HS.out],by rw[HS.out,hok],by rw[HS.out];exact HF.out.1,HF.out.2,hbq⟩
        case measure=>simp[intOf];omega
       ·have HS:=zh (Zix hok)
        obtain⟨Am,cm,Fm,hcm,-,-⟩:=hF.at m hlm;obtain⟨tF,hFb⟩:=hF.1;have hfr:=hFb.frozen m;clear hF hO hFb;go_wp2_with fail;refine(ZcI _ b (stP b (k1,p1,ok1) m).2.1 b.length _ _ (by exact zb h (Za hbw (Za hbq bl))) (by omega) (by omega) (by omega)).mono ?_
        rintro e w3 ⟨v3,F3,rfl,hb3,hr3,hf3⟩;obtain⟨A3,c3,e9⟩:=Zb hr3;subst e9;have hB3:=zt (w:=wr) hb3
        have hz3:=hB3.size;have hcm3:=zcl (p:=⟨w2.heap.size,m,none⟩) hB3 hcm
        have hfr3:=zcf (p:=⟨w2.heap.size,m,none⟩) hB3 hfr
        have hz3a:w2.heap.size<w3.heap.size:=by omega
        have hlo3:∀b,b∈F3→w2.heap.size<b:=λb hb=>by have h9:=hf3.1 b hb;(try simp at h9);omega
        have HR3:=zh (And.intro hr3 hlo3)
        have hbo3:Below wo.heap.size wo w3:=Za hbq hB3
        clear hr3 hf3 hlo3 hcm hfr hb3;go_wp2_with fail;go_roundw
        case rel=>exact⟨m+1,cs.setIfInBounds m _,by omega,by go_num,by rw[HS.out],by rw[HS.out],by rw[HS.out];exact(HF.out.1.bel hB3).set_ hlm HR3.out.1 HR3.out.2,(Below.heap_setCell _ _ _ _ (by show ¬wo.heap.size=w2.heap.size;omega)).trans (HF.out.2.bel hB3),bl⟩
        case measure=>simp[intOf];omega
      ·obtain rfl:m=4:=by omega
       obtain⟨A0,c0,F0,q0,s0,g0⟩:=hF.at 0 (by decide)
       obtain⟨A1,c1,F1,q1,s1,g1⟩:=hF.at 1 (by decide)
       obtain⟨A2,c2,F2,q2,s2,g2⟩:=hF.at 2 (by decide)
       obtain⟨A3,c3,F3,q3,s3,g3⟩:=hF.at 3 (by decide)
       have b0:=hSTm.1 0;have b1:=hSTm.1 1;have b2:=hSTm.1 2;have b3:=hSTm.1 3;have HRT:=HRO;clear HRO;generalize hf:(stP b (k1,p1,ok1) 4).1=f at *
       generalize hpp:(stP b (k1,p1,ok1) 4).2.1=p4 at *
       obtain⟨pn,hpn⟩:∃pn:Nat,p4=(pn:Int):=⟨p4.toNat,by omega⟩
       subst hpn
       cases hok:(stP b (k1,p1,ok1) 4).2.2
       ·have HN:=zh (show ZaM b (b.length,b.length,b.length,b.length) at_=none by rw[HRT.out,hok];rfl)
        clear hF hO s0 s1 s2 s3 q0 q1 q2 q3;have HD:=zh (Zmg HSO.out.1 HSO.out.2 (by rw[HO.out.2.2.2,hsub];exact Zjm HN.out))
        go_wp2_with fail;have hbwr:Below w.heap.size w wr:=Za hbw hbq
        refine bodyPost_ret (v:=.tuple #[.slice (some ⟨wr.heap.size,0,none⟩) 0 0,.bool false]) (by simp[results,Tryz.results52,go_sem]) rfl ?_
        exact GivesDec.no bl HD.out _
       ·have HS:=zh (show ZaM b (b.length,b.length,b.length,b.length) at_=some (ZoH k1 f,pn) by rw[HRT.out,hok];rfl)
        have hv0:=ZaX s0;have hv3:=ZaX s3;have fo1:=hO.frozen 1;have fo2:=hO.frozen 2;have fo3:=hO.frozen 3;have fo4:=hO.frozen 4;have fo5:=hO.frozen 5;have fo6:=hO.frozen 6
        have co0:wr.cell? ⟨wo.heap.size,0,none⟩=some (.int .i64 k1):=hO.cell 0
        have co1:wr.cell? ⟨wo.heap.size,1,none⟩=some (.string ⟨#[]⟩):=hO.cell 1
        have co2:wr.cell? ⟨wo.heap.size,2,none⟩=some (.int .i64 0):=hO.cell 2
        have co3:wr.cell? ⟨wo.heap.size,3,none⟩=some (.int .i64 0):=hO.cell 3
        have co4:wr.cell? ⟨wo.heap.size,4,none⟩=some (.string ⟨#[]⟩):=hO.cell 4
        have co5:wr.cell? ⟨wo.heap.size,5,none⟩=some (.slice none 0 0):=hO.cell 5
        have co6:wr.cell? ⟨wo.heap.size,6,none⟩=some (.string ⟨#[]⟩):=hO.cell 6
        have hne:¬w2.heap.size=wo.heap.size:=by omega
        have hzo:wo.heap.size<wr.heap.size:=by omega
        have HFO:=zh (And.intro hF hO)
        have HS1:=zh s1;have HS2:=zh s2;have HS3:=zh s3
        have hbwo:Below w.heap.size w wo:=hbw
        have hlb:∀(F9:List Nat),(∀b,b∈F9→w2.heap.size<b)→wo.heap.size∉F9:=λF9 h9 h8=>by have h7:w2.heap.size<wo.heap.size:=h9 _ h8;omega
        clear hF hO s1 s2 s3;go_wp2_with fail;refine(ZfY _ (f 1) F1 _ (by exact Cod.setA HS1.out (hlb F1 g1) _) (by omega)).mono ?_
        have hkr:=Zgz (f 1)
        have HKR:=zh hkr;generalize hX:World.setCell _ _ _=X
        have hbX:Below wo.heap.size wo X:=by rw[← hX];exact ZeZ hbq (Nat.le_refl _) _
        have hXF:Four X w2.heap.size cs f:=by rw[← hX];exact HFO.out.1.low (by omega) _
        have hXO:=HFO.out.2.set_ 1 (.string (Zg (f 0)))
        rw[hX] at hXO
        clear hX;rintro e w4 ⟨rfl,hb4⟩;have hbX4:Below wo.heap.size wo w4:=Za hbX hb4
        have hF4:=hXF.bel hb4;have hO4:=hXO.bel hb4;obtain⟨A2',c2',F2',q2',s2,g2'⟩:=hF4.at 2 (by decide)
        have fp2:=hO4.frozen 2;have fp3:=hO4.frozen 3;have fp4:=hO4.frozen 4
        have cp2:w4.cell? ⟨wo.heap.size,2,none⟩=some (.int .i64 0):=hO4.cell 2
        have cp3:w4.cell? ⟨wo.heap.size,3,none⟩=some (.int .i64 0):=hO4.cell 3
        have cp4:w4.cell? ⟨wo.heap.size,4,none⟩=some (.string ⟨#[]⟩):=hO4.cell 4
        have HFO4:=zh (And.intro hF4 (And.intro hO4 s2))
        have hz4:=hbX4.size;have hz4a:wo.heap.size<w4.heap.size:=hO4.lt
        have hz4b:w2.heap.size<w4.heap.size:=by obtain⟨⟨t,h9⟩,-⟩:=hF4;exact h9.lt
        clear hF4 hO4 s2 hXF hXO hb4 co0 co1 co2 co3 co4 co5 co6 fo1 fo2 fo3 fo4 fo5 fo6 q0 q1 q2 q3 hv0 hv3;go_wp2_with fail;refine(ZeG _ (f 2) F2' _ (by exact Cod.setA (Cod.setA (Cod.setA HFO4.out.2.2 (hlb F2' g2') _) (hlb F2' g2') _) (hlb F2' g2') _) (by omega)).mono ?_
        generalize hX:World.setCell _ _ _=X
        have hbX:Below wo.heap.size wo X:=by rw[← hX];exact bl
        have hXF:Four X w2.heap.size cs f:=by rw[← hX];exact((HFO4.out.1.low (by omega) _).low (by omega) _).low (by omega) _
        have hXO:=((HFO4.out.2.1.set_ 2 (.int .i64 (Zv (f 1)).1.kind)).set_ 3 (.int .i64 (Zv (f 1)).1.n)).set_ 4 (.string (Zv (f 1)).1.text)
        rw[hX] at hXO
        clear hX;rintro e w5 ⟨vs5,F5,rfl,hb5,hr5,hf5⟩;obtain⟨v5,_,rfl,rfl,-,n5⟩:=TRec.outA hr5;obtain⟨B5,c5,e9⟩:=Zb n5;subst e9;have hbX5:Below wo.heap.size wo w5:=Za hbX hb5
        have hF5:=hXF.bel hb5;have hO5:=hXO.bel hb5;have hlow5:∀b,b∈F5→X.heap.size≤b∧b<w5.heap.size:=λb hb=>⟨hf5.1 b hb,Cod.lt _ n5 b hb⟩
        have hzX:=hbX.size;have hzX2:=hXO.lt;have hz5:=hb5.size;have hz5a:wo.heap.size<w5.heap.size:=by omega
        obtain⟨A3',c3',F3',q3',s3,g3'⟩:=hF5.at 3 (by decide)
        have hz5b:w2.heap.size<w5.heap.size:=by obtain⟨⟨t,h9⟩,-⟩:=hF5;exact h9.lt
        have fp5:=hO5.frozen 5;have fp6:=hO5.frozen 6
        have cp0:w5.cell? ⟨wo.heap.size,0,none⟩=some (.int .i64 k1):=hO5.cell 0
        have cp1:w5.cell? ⟨wo.heap.size,1,none⟩=some (.string (Zg (f 0))):=hO5.cell 1
        have cp2':w5.cell? ⟨wo.heap.size,2,none⟩=some (.int .i64 (Zv (f 1)).1.kind):=hO5.cell 2
        have cp3':w5.cell? ⟨wo.heap.size,3,none⟩=some (.int .i64 (Zv (f 1)).1.n):=hO5.cell 3
        have cp4':w5.cell? ⟨wo.heap.size,4,none⟩=some (.string (Zv (f 1)).1.text):=hO5.cell 4
        have cp5:w5.cell? ⟨wo.heap.size,5,none⟩=some (.slice none 0 0):=hO5.cell 5
        have cp6:w5.cell? ⟨wo.heap.size,6,none⟩=some (.string ⟨#[]⟩):=hO5.cell 6
        have hv3:Sem.run Tryz.prog (convert 26 9 _) (w5.setCell ⟨wo.heap.size,5,none⟩ (.slice B5 (ZC (f 2)).1.fields.length c5))=_:=ZaX (Cod.setA s3 (hlb F3' g3') (.slice B5 (ZC (f 2)).1.fields.length c5) (p:=⟨wo.heap.size,5,none⟩))
        have HN5:=zh (And.intro n5 hO5)
        clear hF5 hO5 s3 hXF hXO hr5 hb5 cp2 cp3 cp4 fp2 fp3 fp4 q2' n5;go_wp2_with (at_builtin;refine Ziy ?_)
        refine goB ?_
        have hob:(ZoH k1 f).Ok:=⟨by show -9223372036854775808≤k1∧k1≤_;omega,by show (Zg (f 0)).size≤_;rw[ZaD];unfold maxLen;omega,HKR.out.h0,HKR.out.h1,HKR.out.h2,by show (Zg (f 3)).size≤_;rw[ZaD];unfold maxLen;omega⟩
        have hop:cOp.rep w5 [Value.int .i64 k1,.string (Zg (f 0)),.int .i64 (Zv (f 1)).1.kind,.int .i64 (Zv (f 1)).1.n,.string (Zv (f 1)).1.text,.slice B5 (ZC (f 2)).1.fields.length c5,.string (Zg (f 3))] (ZoH k1 f) F5:=TOp.mk_ (x:=ZoH k1 f) hob HN5.out.1
        have hlo5:wo.heap.size∉F5:=λh9=>by have h8:=(hlow5 _ h9).1;omega
        have hlo:=HO.out.1.lt;have hli:=HO.out.1.inner_lt;refine Zl (c:=cOp) (B:=w.heap.size) (xs:=l) (ys:=[ZoH k1 f]) (Fi:=Fi) (Fy:=F5) _ rfl _ _ _ rfl i0 _ _ Tryz.underlying45 hi0 iz0 iz1 iz2 rfl (by decide) rfl (HO.out.1.bel (by exact bl)) (.slice (some ⟨w5.heap.size,0,none⟩) 1 1) rfl (Zcf 78 (w5.heap.size) (by simp) (Cod.setA (Cod.setA hop hlo5 _) hlo5 _)) (by have h9:=HO.out.2.2.1;unfold maxLen;simp;omega) (by have h9:=HO.out.2.2.1;simp;omega) (by (try simp);(try omega)) (λg hg=>⟨HO.out.2.1 g hg,λh9=>by have h8:=(hlow5 _ h9).1;have h7:=(hlo g hg).2;omega⟩) ?_
        intro v6 w6 ho6 hg6 hat6;have hB6:Below w.heap.size w w6:=(show Below w.heap.size w _ from Za hbwo bl).grown hg6 (by (try simp);(try omega)) (λg hg=>(hlo g hg).1)
        have HF6:=zh (show Own cOp 78 w.heap.size w6 v6 (l++[ZoH k1 f]) (Fi++F5)∧(∀g,Zac v6=some g→g∉Fi++F5) from ⟨ho6,λg hg hm=>by
         rcases hat6 g hg with h9|h9
         ·rcases List.mem_append.1 hm with h8|h8
          ·exact HO.out.2.1 g h9 h8
          ·have h7:=(hlow5 _ h8).1;have h6:=(hlo g h9).2;omega
         ·(try simp at h9)
          rcases List.mem_append.1 hm with h8|h8
          ·have h7:=hli g h8;omega
          ·have h7:=(hlow5 _ h8).2;omega⟩)
        have HJ:=zh (show Zad b (b.length,b.length,b.length,b.length) n nx=ZhT (l++[ZoH k1 f]) (Zad b (b.length,b.length,b.length,b.length) (n-(k+1)) pn) by rw[HO.out.2.2.2,hsub];exact Zjn HS.out)
        clear ho6 hg6 hat6;go_wp2_with fail;go_roundw
        case rel=>exact⟨k+1,pn,l++[ZoH k1 f],Fi++F5,by omega,by go_num,rfl,by omega,by rw[List.length_append,HO.out.2.2.1];rfl,HJ.out,HF6.out.1,HF6.out.2,hB6⟩
        case measure=>simp[intOf];omega
    ·obtain rfl:k=n:=by omega
     have HRD:=zh (show Zad b (b.length,b.length,b.length,b.length) k nx=some l by rw[HO.out.2.2.2,Nat.sub_self];exact ZkG)
     have HDG:=zh (ZnJ HSO.out.1 HSO.out.2 HRD.out)
     obtain⟨FR,hr9,-,-⟩:=HO.out.1.rep (hw:=by decide) (hw2:=by decide)
     replace hr9:cOpS.rep wr [.slice Ao k co] l FR:=hr9
     have HR9:=zh hr9;have hln:l.length≤1048576:=by have h9:=HO.out.2.2.1;omega
     clear hr9;go_wp2_with fail;refine(ZdD _ l FR _ (by exact HR9.out) hln).mono ?_
     rintro e w2 ⟨v2,rfl,hb2,ho2⟩;obtain⟨B2,c2,e9⟩:=ho2.slice;subst e9;obtain⟨FE,hrE,-,-⟩:=ho2.fresh (hw:=by decide) (hw2:=by decide)
     have HE:=zh (show cUS.rep w2 [.slice B2 (Zn l).length c2] (Zn l) FE from hrE)
     have hbw2:Below w.heap.size w w2:=Za hbw hb2
     clear hrE ho2;go_wp2_with fail;refine(ZaL _ _ (Zn l) b FE F _ (by exact HE.out) (by exact zb h hbw2)).mono ?_
     rw[ZbR]
     cases e1:(Zn l==b)
     ·have HD:=zh (show ZaB b (b.length,b.length,b.length,b.length)=([],false) by rw[HDG.out,e1];rfl)
      rintro e w3 ⟨rfl,hb3⟩;have hbw3:Below w.heap.size w w3:=Za hbw2 hb3
      go_wp2_with fail;refine bodyPost_ret (v:=.tuple #[.slice (some ⟨w3.heap.size,0,none⟩) 0 0,.bool false]) (by simp[results,Tryz.results52,go_sem]) rfl ?_
      exact GivesDec.no bl HD.out _
     ·have HD:=zh (show ZaB b (b.length,b.length,b.length,b.length)=(l,true) by rw[HDG.out,e1];rfl)
      rintro e w3 ⟨rfl,hb3⟩;have hbw3:Below w.heap.size w w3:=Za hbw2 hb3
      have hbr3:Below wr.heap.size wr w3:=Za hb2 hb3
      go_wp2_with fail;refine bodyPost_ret (v:=.tuple #[.slice Ao k co,.bool true]) (by simp[results,Tryz.results52,go_sem]) rfl ?_
      exact⟨_,FR,by rw[show Zex b=(l,true) from HD.out],bl,by rw[show Zex b=(l,true) from HD.out];exact zb HR9.out⟩
end Go.Proofs.YtghndifnohkokaaGreat
