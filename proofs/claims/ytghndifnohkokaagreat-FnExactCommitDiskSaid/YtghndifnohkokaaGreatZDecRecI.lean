/-
  DecRecI, ReadLog, DecOpsP, DecRecS of the seat. No conditions but sizes.
-/
import Derived.Test.YtghndifnohkokaaGreatZDecKey
import Derived.Test.YtghndifnohkokaaGreatZEncRec
import Derived.Test.YtghndifnohkokaaGreatZOpsPlain
import Derived.Test.YtghndifnohkokaaGreatZReadB
import Derived.Test.YtghndifnohkokaaGreatZEncOpsP
namespace Go.Proofs.YtghndifnohkokaaGreat
open Go.ChangeShapes Go.WideShapes Go.RowKit
set_option linter.unusedVariables false
set_option linter.unusedSimpArgs false
set_option maxRecDepth 100000
set_option maxHeartbeats 16000000
theorem ZkX {α:Type} {c:Cod α} (hf:Flat c) {w:World}:∀{us:List Value} {xs:List α} {F:List Nat},c.reps w us xs F→F=[]
 | _,[],_,h=>h.2
 | _,_::_,_,⟨_,_,_,_,_,hF,h1,h2⟩=>by rw[hF,hf h1,ZkX hf h2];rfl
theorem Own.flat_nil {α:Type} {c:Cod α} (hf:Flat c) {e:TypeId} {B:Nat} {w:World} {v:Value} {xs:List α} {Fi:List Nat} (h:Own c e B w v xs Fi):Fi=[]:=by
 rcases h with ⟨-,h,-⟩|⟨us,-,h⟩
 ·exact h
 ·exact ZkX hf h
def Znt (pre:List TField):Option (List TField×Nat)→Option (List TField×Nat)
 | none=>none
 | some (fs,e)=>some (pre++fs,e)
theorem Zmp (r:Option (List TField×Nat)):Znt [] r=r:=by
 cases r with
 | none=>rfl
 | some r=>rfl
theorem Zkx {b:List UInt8} {m at_:Nat} {pre:List TField} {s:List UInt8} {nx v mx:Nat} (h1:Zbb b at_ 8=some (s,nx)) (h2:Zbj b nx=some (v,mx)):Znt pre (Zbi b (m+1) at_)=Znt (pre++[⟨Zg s,v⟩]) (Zbi b m mx):=by
 have e:Zbi b (m+1) at_=(match Zbi b m mx with|none=>none|some (fs,e)=>some (⟨Zg s,v⟩::fs,e)):=by
  rw[Zbi,h1]
  simp only[h2]
  rfl
 rw[e]
 cases Zbi b m mx with
 | none=>rfl
 | some r=>simp[Znt]
theorem Zkv {b:List UInt8} {m at_:Nat} {pre:List TField} (h1:Zbb b at_ 8=none):Znt pre (Zbi b (m+1) at_)=none:=by
 unfold Zbi
 rw[h1];rfl
theorem Zkw {b:List UInt8} {m at_:Nat} {pre:List TField} {s:List UInt8} {nx:Nat} (h1:Zbb b at_ 8=some (s,nx)) (h2:Zbj b nx=none):Znt pre (Zbi b (m+1) at_)=none:=by
 unfold Zbi
 rw[h1];simp only
 rw[h2];rfl
theorem Zmo {b:List UInt8} {at_:Nat} {pre:List TField}:Znt pre (Zbi b 0 at_)=some (pre,at_):=by simp[Zbi,Znt]
theorem Zii {b:List UInt8} (h:Zbj b 0=none):Zcw b=none:=by unfold Zcw;rw[h]
theorem Zju {b:List UInt8} {n nx:Nat} (h:Zbj b 0=some (n,nx)) (h6:6<n):Zcw b=none:=by unfold Zcw;rw[h];simp only;rw[if_pos h6]
theorem ZkU {b:List UInt8} {n nx:Nat} (h:Zbj b 0=some (n,nx)) (h6:¬6<n):Zcw b=Zbi b n nx:=by unfold Zcw;rw[h];simp only;rw[if_neg h6]
theorem Zde {b:List UInt8} (h:Zcw b=none):ZC b=(Zgi,false):=by unfold ZC;rw[h]
theorem ZhF {b:List UInt8} {fs:List TField} {e:Nat} (h:Zcw b=some (fs,e)):ZC b=bif Ze ⟨fs⟩&&e==b.length then (⟨fs⟩,true) else (Zgi,false):=by unfold ZC;rw[h]
theorem Zbz (b:List UInt8) (a most:Nat):(rdB b (a:Int) most=([],0,false)∧Zbb b a most=none)∨∃(s:List UInt8) (nx:Nat),rdB b (a:Int) most=(s,(nx:Int),true)∧Zbb b a most=some (s,nx):=by
 unfold rdB
 rw[if_neg (by omega),show ((a:Int)).toNat=a from rfl]
 cases h:Zbb b a most with
 | none=>exact .inl ⟨rfl,rfl⟩
 | some r=>exact .inr ⟨r.1,r.2,rfl,rfl⟩
theorem ZbH (b:List UInt8) (a:Nat):(rdU b (a:Int)=(0,0,false)∧Zbj b a=none)∨∃n nx:Nat,rdU b (a:Int)=((n:Int),(nx:Int),true)∧Zbj b a=some (n,nx):=by
 rcases ZfE b (a:Int) with ⟨h1,h2⟩|⟨n,nx,h1,h2,h3⟩
 ·exact .inl ⟨h1,h2 (by omega)⟩
 ·exact .inr ⟨n,nx,h1,h3⟩
theorem Zml {s:List UInt8} {v:Nat} (hs:s.length≤1000000000) (hv:v≤1000000000000):(⟨Zg s,(v:Int)⟩:TField).Ok:=⟨by rw[ZaD];unfold maxLen;omega,by show -9223372036854775808≤(v:Int)∧(v:Int)≤_;omega⟩
theorem GivesR2.zero {w w':World} (h:Below w.heap.size w w') (b:Bool):GivesR2 cRec w Zgi (.bool b) (.returned (.tuple #[.agg #[.slice none 0 0],.bool b])) w' :=
 ⟨_,[],rfl,h,TRec.mk_ trivial ⟨none,0,rfl,Nat.le_refl _,by decide,.inl ⟨rfl,rfl⟩⟩,Fresh.nil _⟩
theorem ZeG (v:Value) (b:List UInt8) (F:List Nat) (w:World) (h:cUS.rep w [v] b F) (hb:b.length≤1000000000) :
  Calls Tryz.prog 95 #[v] w (GivesR2 cRec w (ZC b).1 (.bool (ZC b).2)):=by
 obtain⟨i0,hi0,hz0,hz1,hz2⟩:=info_parts ZdF
 obtain⟨A,cp,rfl⟩:=Zb h
 obtain⟨-,hcp,hm⟩:=Zq h
 unfold maxLen at hm
 go_enter Tryz.func95,Tryz.ntmps95
 go_wp2_with fail
 refine(Zar _ b ((0:Nat):Int) _ _ (by exact zb h) hb (by omega)).mono ?_
 rcases ZbH b 0 with ⟨hr,hnone⟩|⟨n,nx,hr,hsome⟩
 ·rw[hr]
  have HD:=zh (Zde (Zii hnone))
  rintro e w1 ⟨rfl,hb1⟩
  obtain⟨hc_w1,hf_w1,hz_w1⟩:=Zc hb1
  try simp at hz_w1
  have ha0_w1:w.heap.size<w1.heap.size:=by omega
  have hb_w1:=zt (w:=w) hb1
  go_wp2_with fail
  refine bodyPost_ret (v:=.tuple #[.agg #[.slice none 0 0],.bool false]) (by simp[results,Tryz.results95,go_sem, *]) rfl ?_
  rw[HD.out]
  exact GivesR2.zero (show Below w.heap.size w _ from bl) false
 ·rw[hr]
  obtain⟨hn12,hnx0,hnxl,-⟩:=Zas hsome
  rintro e w1 ⟨rfl,hb1⟩
  simp only
  obtain⟨hc_w1,hf_w1,hz_w1⟩:=Zc hb1
  try simp at hz_w1
  have ha0_w1:w.heap.size<w1.heap.size:=by omega
  have hb_w1:=zt (w:=w) hb1
  by_cases h6:6<n
  ·have h6i:(6:Int)<(n:Int):=by omega
   have HD:=zh (Zde (Zju hsome h6))
   go_wp2_with fail
   refine bodyPost_ret (v:=.tuple #[.agg #[.slice none 0 0],.bool false]) (by simp[results,Tryz.results95,go_sem, *]) rfl ?_
   rw[HD.out]
   exact GivesR2.zero (show Below w.heap.size w _ from bl) false
  ·have h6i:¬(6:Int)<(n:Int):=by omega
   have hraw:=ZkU hsome h6
   have a0:w1.cell? ⟨w.heap.size,0,none⟩=some (.slice none 0 0):=by go_simp
   have fa0:w1.frozen? ⟨w.heap.size,0,none⟩=false:=by go_simp
   clear hc_w1 hf_w1 hb1
   go_wp2_with fail
   generalize hW:World.alloc _ _=W
   have hWs:W.heap.size=w1.heap.size+1:=by rw[← hW];clear hW;simp
   have hbW:Below w.heap.size w W:=by rw[← hW];exact bl
   have b0:W.cell? ⟨w1.heap.size,0,none⟩=some (.slice none 0 0):=by rw[← hW];clear hW;go_simp
   have fb0:W.frozen? ⟨w1.heap.size,0,none⟩=false:=by rw[← hW];clear hW;go_simp
   have a1:W.cell? ⟨w.heap.size,0,none⟩=some (.slice none 0 0):=by rw[← hW];clear hW;go_simp
   have fa1:W.frozen? ⟨w.heap.size,0,none⟩=false:=by rw[← hW];clear hW;go_simp
   have HK:=zh (And.intro b0 (And.intro fb0 (And.intro a1 fa1)))
   have HRAW:=zh hraw
   clear hW a0 fa0 b0 fb0 a1 fa1 hraw
   go_loopw [8,5] (λi a wr=>∃(k at_:Nat) (pre:List TField),k≤n∧i=.int .i64 k∧a=.int .i64 at_∧at_≤b.length∧pre.length=k∧Zbi b n nx=Znt pre (Zbi b (n-k) at_)∧BoxRow cField 114 W wr w1.heap.size 0 pre) (λi _ _=>n-(intOf i).toNat)
   case atStart=>exact⟨0,nx,[],Nat.zero_le _,rfl,rfl,hnxl,rfl,by rw[Zmp];rfl,BoxRow.start HK.out.1⟩
   case round =>
    obtain⟨k,at_,pre,hk,rfl,rfl,hal,hpl,hgo,vE,Fi,HB⟩:=hrel
    obtain⟨Ae,ce,hve⟩:=HB.own.slice
    subst hve
    have HGO:=zh hgo
    have HPL:=zh hpl
    rw[hpl] at HB
    have hE:=HB.cell
    have hfr:=(HB.fz 0).trans HK.out.2.1
    have hz9:=HB.only.size
    have hbw:Below w.heap.size w wr:=hbW.trans ((HB.only.bel w.heap.size (by omega) (λy hy=>by simp at hy;omega)).mono (Nat.le_refl _))
    have hbk:=HB.only.block w.heap.size (by omega) (by intro hm9;simp at hm9;omega)
    have r0:wr.cell? ⟨w.heap.size,0,none⟩=some (.slice none 0 0):=(World.cell?_of_block hbk).trans HK.out.2.2.1
    have fr0:wr.frozen? ⟨w.heap.size,0,none⟩=false:=(World.frozen?_of_block hbk).trans HK.out.2.2.2
    have hws:w.heap.size<wr.heap.size:=by omega
    have hws2:w1.heap.size<wr.heap.size:=by omega
    have hne1:¬w.heap.size=w1.heap.size:=by omega
    have hne2:¬w1.heap.size=w.heap.size:=by omega
    have hHB:=zh HB
    clear HB hgo hpl hbk
    by_cases hlt:k<n
    ·obtain⟨m,hmk⟩:∃m,n-k=m+1:=⟨n-k-1,by omega⟩
     have hki:(k:Int)<(n:Int):=by omega
     go_wp2_with fail
     refine(ZcI _ b (at_:Int) 8 _ _ (by exact zb h hbw) hb (by omega) (by omega)).mono ?_
     rcases Zbz b at_ 8 with ⟨hrb,hbn⟩|⟨s,nx2,hrb,hbs⟩
     ·rw[hrb]
      have HD:=zh (Zde (HRAW.out.trans (HGO.out.trans (by rw[hmk];exact Zkv hbn))))
      rintro e w2 ⟨v2,F2,rfl,hb2,-,-⟩
      simp only
      obtain⟨hc_w2,hf_w2,hz_w2⟩:=Zc hb2
      try simp at hz_w2
      have ha0_w2:w.heap.size<w2.heap.size:=by omega
      have ha1_w2:w1.heap.size<w2.heap.size:=by omega
      have hb_w2:=zt (w:=w) hb2
      go_wp2_with fail
      refine(Zar _ b ((0:Nat):Int) _ _ (by exact zb h) hb (by omega)).mono ?_
      rw[hr]
      rintro e w3 ⟨rfl,hb3⟩
      simp only
      obtain⟨hc_w3,hf_w3,hz_w3⟩:=Zc hb3
      try simp at hz_w3
      have ha0_w3:w.heap.size<w3.heap.size:=by omega
      have ha1_w3:w1.heap.size<w3.heap.size:=by omega
      have hb_w3:=zt (w:=w) hb3
      go_wp2_with fail
      refine bodyPost_ret (v:=.tuple #[.agg #[.slice none 0 0],.bool false]) (by simp[results,Tryz.results95,go_sem, *]) rfl ?_
      rw[HD.out]
      exact GivesR2.zero (show Below w.heap.size w _ from bl) false
     ·rw[hrb]
      obtain⟨hsl,hx1,hx2,-⟩:=Zbc hbs
      rintro e w2 ⟨v2,F2,rfl,hb2,hr2,-⟩
      simp only at hr2⊢
      obtain⟨hc_w2,hf_w2,hz_w2⟩:=Zc hb2
      try simp at hz_w2
      have ha0_w2:w.heap.size<w2.heap.size:=by omega
      have ha1_w2:w1.heap.size<w2.heap.size:=by omega
      have hb_w2:=zt (w:=w) hb2
      go_wp2_with fail
      refine(Zar _ b (nx2:Int) _ _ (by exact zb h) hb (by omega)).mono ?_
      rcases ZbH b nx2 with ⟨hru,hun⟩|⟨x,mx,hru,hus⟩
      ·rw[hru]
       have HD:=zh (Zde (HRAW.out.trans (HGO.out.trans (by rw[hmk];exact Zkw hbs hun))))
       rintro e w3 ⟨rfl,hb3⟩
       obtain⟨hc_w3,hf_w3,hz_w3⟩:=Zc hb3
       try simp at hz_w3
       have ha0_w3:w.heap.size<w3.heap.size:=by omega
       have ha1_w3:w1.heap.size<w3.heap.size:=by omega
       have hb_w3:=zt (w:=w) hb3
       go_wp2_with fail
       refine bodyPost_ret (v:=.tuple #[.agg #[.slice none 0 0],.bool false]) (by simp[results,Tryz.results95,go_sem, *]) rfl ?_
       rw[HD.out]
       exact GivesR2.zero (show Below w.heap.size w _ from bl) false
      ·rw[hru]
       obtain⟨hx12,hmx0,hmxl,-⟩:=Zas hus
       have hstep:=Zkx (m:=m) (pre:=pre) hbs hus
       have HSTEP:=zh (show Zbi b n nx=Znt (pre++[⟨Zg s,x⟩]) (Zbi b (n-(k+1)) mx) by rw[HGO.out,hmk,hstep,show n-(k+1)=m by omega])
       clear hstep
       rintro e w3 ⟨rfl,hb3⟩
       simp only
       have hbr3:Below wr.heap.size wr w3:=Za hb2 hb3
       have hz3:=hbr3.size
       have e0:=zcl hbr3 hE
       have ef0:=zcf hbr3 hfr
       have hz3a:w1.heap.size<w3.heap.size:=by omega
       have hz3b:w.heap.size<w3.heap.size:=by omega
       have hok:=Zml (s:=s) (v:=x) (by omega) hx12
       have HOK:=zh hok
       clear hc_w2 hf_w2 hb_w2 hok
       go_wp2_with fail
       rw[ZaX (xs:=s) (F:=F2)]
       rotate_left
       ·exact zb hr2 hb3
       simp only[Result.andThen]
       rw[Oper.upon_value]
       go_wp2_with (at_builtin;refine Ziy ?_)
       refine goB ?_
       refine ZjF (c:=cField) (ys:=[⟨Zg s,x⟩]) (G:=[]) rfl _ _ _ rfl i0 _ _ Tryz.underlying74 hi0 hz0 hz1 hz2 rfl (by decide) rfl (.slice (some ⟨w3.heap.size,0,none⟩) 1 1) rfl (by omega) hHB.out ?hbel (Fresh.nil _) (by simp) ?hsrc (k+1) ?hm9 ?h1 ?h2 ?h3
       case hbel=>exact Za hbr3 bl
       case hsrc=>exact Zcf (vs:=#[_,_]) _ _ rfl (TField.mk_ HOK.out)
       case hm9=>(rw[List.length_append,HPL.out];rfl)
       case h1=>(unfold maxLen;omega)
       case h2=>omega
       intro A2 c2 w4 HA
       have hX:=HA.cell
       have hXf:=(HA.fz 0).trans HK.out.2.1
       have hs4:=HA.size
       (try simp at hs4)
       have HR:=zh HA.row
       clear HA
       have hsz2:w1.heap.size<w4.heap.size:=by omega
       go_wp2_with fail
       go_roundw
       case rel=>exact⟨k+1,mx,pre++[⟨Zg s,x⟩],by omega,by go_num,rfl,hmxl,by rw[List.length_append,HPL.out];rfl,HSTEP.out,HR.out⟩
       case measure=>simp[intOf];omega
    ·obtain rfl:k=n:=by omega
     have HRR:=zh (show Zcw b=some (pre,at_) by rw[HRAW.out,HGO.out,Nat.sub_self,Zmo])
     have hown:=hHB.out.own
     obtain rfl:=hown.flat_nil Zci
     obtain⟨FP,hrP,hfP,-⟩:=hown.fresh (hw:=by decide) (hw2:=by decide)
     have hfP2:=hfP.mono (show w.heap.size≤_ by omega)
     have hlP:=hown.lt
     have HP:=zh (And.intro hrP (And.intro hfP2 (And.intro hown hlP)))
     clear hown hrP hfP hfP2 hlP
     go_wp2_with fail
     refine(ZcV _ pre FP _ (by rw[← HPL.out] at *;exact HP.out.1)).mono ?_
     rintro e w5 ⟨v5,rfl,hb5,ho5⟩
     obtain⟨F5,hr5,-,-⟩:=ho5.fresh (hw:=by decide) (hw2:=by decide)
     obtain⟨hc_w5,hf_w5,hz_w5⟩:=Zc hb5
     try simp at hz_w5
     have ha0_w5:w.heap.size<w5.heap.size:=by omega
     have ha1_w5:w1.heap.size<w5.heap.size:=by omega
     have hb_w5:=zt (w:=w) hb5
     go_wp2_with fail
     refine(ZaL _ _ (Zx ⟨pre⟩) b _ _ _ (by exact hr5) (by exact zb h)).mono ?_
     rw[ZbR,Zop HRR.out]
     have HDS:=zh (ZhF HRR.out)
     cases e9:(Ze ⟨pre⟩&&at_==b.length)
     ·have HD:=zh (show ZC b=(Zgi,false) by rw[HDS.out,e9];rfl)
      rintro e w6 ⟨rfl,hb6⟩
      obtain⟨hc_w6,hf_w6,hz_w6⟩:=Zc hb6
      try simp at hz_w6
      have ha0_w6:w.heap.size<w6.heap.size:=by omega
      have ha1_w6:w1.heap.size<w6.heap.size:=by omega
      have hb_w6:=zt (w:=w) hb6
      go_wp2_with fail
      refine bodyPost_ret (v:=.tuple #[.agg #[.slice none 0 0],.bool false]) (by simp[results,Tryz.results95,go_sem, *]) rfl ?_
      rw[HD.out]
      exact GivesR2.zero (show Below w.heap.size w _ from bl) false
     ·have HD:=zh (show ZC b=(⟨pre⟩,true) by rw[HDS.out,e9];rfl)
      rintro e w6 ⟨rfl,hb6⟩
      obtain⟨hc_w6,hf_w6,hz_w6⟩:=Zc hb6
      try simp at hz_w6
      have ha0_w6:w.heap.size<w6.heap.size:=by omega
      have ha1_w6:w1.heap.size<w6.heap.size:=by omega
      have hb_w6:=zt (w:=w) hb6
      have hbr6:Below wr.heap.size wr w6:=Za hb5 hb6
      have ho9:=(HP.out.2.2.1.bel hbr6).set_ (p:=⟨w.heap.size,0,none⟩) (λe9=>by have h9:=(HP.out.2.2.2 _ e9).1;(try simp at h9);omega) (.slice Ae k ce)
      obtain⟨F9,hr9,hf9,-⟩:=ho9.fresh (hw:=by decide) (hw2:=by decide)
      have H9:=zh (And.intro hr9 (hf9.mono (show w.heap.size≤_ by omega)))
      clear ho9 hr9 hf9
      go_wp2_with fail
      refine bodyPost_ret (v:=.tuple #[.agg #[.slice Ae k ce],.bool true]) (by simp[results,Tryz.results95,go_sem, *]) rfl ?_
      rw[HD.out]
      exact⟨_,F9,rfl,bl,TRec.mk_ trivial H9.out.1,H9.out.2⟩
def cUSS:Cod (List (List UInt8)):=cL cUS (by decide) (by decide)
theorem ZkE:(Tryz.prog.info? 26).map (λi=>(i.zero,i.size,i.bytes))=some (some (Value.slice none 0 0),1,24):=by kernel_rfl
theorem ZgK {log:List UInt8} {f n a:Nat} {d:List UInt8} {e:Nat} (h:ZbO log n a=some (d,e)):Zbs log (f+1) n a=d::Zbs log f (n+1) e:=by rw[Zbs,h]
theorem ZbN {log:List UInt8} {f n a:Nat} (h:ZbO log n a=none):Zbs log f n a=[]:=by
 cases f with
 | zero=>rfl
 | succ f=>rw[Zbs,h]
theorem Zkg {log:List UInt8} {n a:Nat} (h:Zbb log a 4000=none):ZbO log n a=none:=by unfold ZbO;rw[h]
theorem ZmH {log d:List UInt8} {n a p:Nat} (h:Zbb log a 4000=some (d,p)) (h2:Zbj log p=none):ZbO log n a=none:=by unfold ZbO;rw[h];simp only[h2]
theorem ZmI {log d:List UInt8} {n a p s e:Nat} (h:Zbb log a 4000=some (d,p)) (h2:Zbj log p=some (s,e)) (h3:¬(s:Int)=ZU n d):ZbO log n a=none:=by unfold ZbO;rw[h];simp only[h2];rw[if_neg h3]
theorem ZmJ {log d:List UInt8} {n a p s e:Nat} (h:Zbb log a 4000=some (d,p)) (h2:Zbj log p=some (s,e)) (h3:(s:Int)=ZU n d):ZbO log n a=some (d,e):=by unfold ZbO;rw[h];simp only[h2];rw[if_pos h3]
theorem Zpg {log:List UInt8} {n a:Nat} (h:log.length≤a):ZbO log n a=none:=by
 refine Zkg ?_
 cases hr:Zbb log a 4000 with
 | none=>rfl
 | some r=>obtain⟨s,nx⟩:=r;obtain⟨-,h1,h2,-⟩:=Zbc hr;omega
theorem ZdT {log:List UInt8}:∀(f n a:Nat),∀d,d∈Zbs log f n a→d.length≤4000
 | 0,_,_,d,h=>by simp[Zbs] at h
 | f+1,n,a,d,h=>by
  cases hs:ZbO log n a with
  | none=>rw[Zbs,hs] at h;simp at h
  | some r =>
   obtain⟨x,e⟩:=r
   rw[Zbs,hs] at h
   rcases List.mem_cons.1 h with rfl|h
   ·unfold ZbO at hs
    cases hr:Zbb log a 4000 with
    | none=>rw[hr] at hs;simp at hs
    | some r =>
     obtain⟨s,nx⟩:=r
     rw[hr] at hs
     simp only at hs
     cases hu:Zbj log nx with
     | none=>rw[hu] at hs;simp at hs
     | some u =>
      obtain⟨y,z⟩:=u
      rw[hu] at hs
      simp only at hs
      split at hs
      ·simp only[Option.some.injEq,Prod.mk.injEq] at hs
       rw[← hs.1]
       exact(Zbc hr).1
      ·simp at hs
   ·exact ZdT f (n+1) e d h
theorem Zcu {log:List UInt8}:∀(f n a:Nat),a≤log.length→(Zbs log f n a).length≤log.length-a
 | 0,_,_,_=>by simp[Zbs]
 | f+1,n,a,ha=>by
  cases hs:ZbO log n a with
  | none=>rw[Zbs,hs];simp
  | some r =>
   obtain⟨x,e⟩:=r
   obtain⟨h1,h2⟩:=ZkJ hs
   have h3:=Zcu f (n+1) e h2
   rw[Zbs,hs,List.length_cons]
   omega
def ZlW (w:World) (l:List (List UInt8)) (e:Ending) (w':World):Prop:=∃v n F,e=.returned (.tuple #[v,.int .i64 n])∧Below w.heap.size w w'∧cUSS.rep w' [v] l F∧∀b,b∈F→w.heap.size≤b
theorem ZhO (v:Value) (log:List UInt8) (F:List Nat) (w:World) (h:cUS.rep w [v] log F) (hb:log.length≤5000000) :
  Calls Tryz.prog 51 #[v] w (ZlW w (Zak log)):=by
 obtain⟨i0,hi0,iz0,iz1,iz2⟩:=info_parts ZkE
 obtain⟨A,cp,rfl⟩:=Zb h
 go_enter Tryz.func51,Tryz.ntmps51
 go_wp2_with fail
 generalize hW:World.alloc _ _=W
 have hbW:Below w.heap.size w W:=by rw[← hW];exact bl
 clear hW
 go_loopw [4,5] (λout a wr=>∃(at_ f:Nat) (l:List (List UInt8)) (Fi:List Nat),a=.int .i64 at_∧at_≤log.length∧log.length-at_<f∧l.length≤at_∧Zak log=l++Zbs log f l.length at_∧Own cUS 26 w.heap.size wr out l Fi∧(∀g,Zac out=some g→g∉Fi)∧Below w.heap.size w wr∧∀b,b∈Fi→w.heap.size≤b) (λ_ a _=>log.length-(intOf a).toNat)
 case atStart=>exact⟨0,log.length+1,[],[],rfl,Nat.zero_le _,by omega,Nat.zero_le _,rfl,Own.empty _,by simp,hbW,by simp⟩
 case round =>
  obtain⟨at_,f,l,Fi,rfl,hal,hf,hll,hro,hown,hnf,hbw,hlF⟩:=hrel
  have HLF:=zh hlF
  obtain⟨Ao,co,hov⟩:=hown.slice
  subst hov
  have HO:=zh (And.intro hown (And.intro hnf hro))
  have hzw:=hbw.size
  obtain⟨k,hk⟩:∃k,l.length=k:=⟨_,rfl⟩
  have HK:=zh hk
  obtain⟨f1,rfl⟩:∃f1,f=f1+1:=⟨f-1,by omega⟩
  obtain⟨FR,hr9,hw9,-⟩:=hown.rep (hw:=by decide) (hw2:=by decide)
  have HLR:=zh (show ∀b,b∈FR→w.heap.size≤b from λb hb=>(hw9 b hb).elim (λh9=>(hown.lt b h9).1) (hlF b))
  have HR9:=zh (show cUSS.rep wr [.slice Ao l.length co] l FR from hr9)
  rw[hk] at hll⊢
  clear hown hnf hro hk hr9 hw9 hlF
  go_wp2_with fail
  refine(ZcI _ log (at_:Int) 4000 _ _ (by exact zb h (Za hbw bl)) (by omega) (by omega) (by omega)).mono ?_
  rcases Zbz log at_ 4000 with ⟨hrb,hbn⟩|⟨s,p,hrb,hbs⟩
  ·rw[hrb]
   have HE:=zh (show Zak log=l by rw[HO.out.2.2,ZbN (Zkg hbn),List.append_nil])
   rintro e w2 ⟨v2,F2,rfl,hb2,hr2,-⟩
   obtain⟨A2,c2,e9⟩:=Zb hr2
   subst e9
   simp only
   have hbw2:Below w.heap.size w w2:=Za hbw hb2
   go_wp2_with fail
   refine bodyPost_ret (v:=.tuple #[.slice Ao k co,.int .i64 at_]) (by simp[results,Tryz.results51,go_sem]) rfl ?_
   rw[HE.out]
   exact⟨_,_,FR,rfl,bl,by have h9:=HR9.out;rw[HK.out] at h9;exact zb h9 hb2,HLR.out⟩
  ·rw[hrb]
   obtain⟨hsl,hx1,hx2,-⟩:=Zbc hbs
   rintro e w2 ⟨v2,F2,rfl,hb2,hr2,hf2⟩
   obtain⟨A2,c2,e9⟩:=Zb hr2
   subst e9
   simp only at hr2 hf2⊢
   have hbw2:Below w.heap.size w w2:=Za hbw hb2
   have HR2:=zh (show cUS.rep w2 [.slice A2 s.length c2] s F2∧Fresh wr.heap.size F2 from ⟨hr2,hf2⟩)
   clear hr2 hf2
   go_wp2_with fail
   refine(Zar _ log (p:Int) _ _ (by exact zb h hbw2) (by omega) (by omega)).mono ?_
   rcases ZbH log p with ⟨hru,hun⟩|⟨x,q,hru,hus⟩
   ·rw[hru]
    have HE:=zh (show Zak log=l by rw[HO.out.2.2,ZbN (ZmH hbs hun),List.append_nil])
    rintro e w3 ⟨rfl,hb3⟩
    simp only
    have hbw3:Below w.heap.size w w3:=Za hbw2 hb3
    have hbr3:Below wr.heap.size wr w3:=Za hb2 hb3
    go_wp2_with fail
    refine bodyPost_ret (v:=.tuple #[.slice Ao k co,.int .i64 at_]) (by simp[results,Tryz.results51,go_sem]) rfl ?_
    rw[HE.out]
    exact⟨_,_,FR,rfl,bl,by have h9:=HR9.out;rw[HK.out] at h9;exact zb h9 hbr3,HLR.out⟩
   ·rw[hru]
    obtain⟨hx12,hmx0,hmxl,-⟩:=Zas hus
    rintro e w3 ⟨rfl,hb3⟩
    simp only
    have hbw3:Below w.heap.size w w3:=Za hbw2 hb3
    have hbr3:Below wr.heap.size wr w3:=Za hb2 hb3
    have hcr:=ZfL (k:Int) s
    go_wp2_with fail
    refine(ZdZ (k:Int) _ s F2 _ (by exact zb HR2.out.1) (by omega) (by omega)).mono ?_
    have HSM:=zh (show ZU (k:Int) s=ZU k s from rfl)
    by_cases hsum:(x:Int)=ZU (k:Int) s
    ·have HST:=zh (ZmJ (n:=k) hbs hus hsum)
     rw[← hsum]
     rintro e w4 ⟨rfl,hb4⟩
     have hbw4:Below w.heap.size w w4:=Za hbw3 (zt hb4)
     have hbr4:Below wr.heap.size wr w4:=Za hbr3 (zt hb4)
     have hb24:Below w2.heap.size w2 w4:=Za hb3 (zt hb4)
     have hz24:=hb24.size
     have hzr2:=hb2.size
     have hlow2:∀b,b∈F2→wr.heap.size≤b∧b<w2.heap.size:=λb hb=>⟨HR2.out.2.1 b hb,Cod.lt _ HR2.out.1 b hb⟩
     have hlo:=HO.out.1.lt
     have hli:=HO.out.1.inner_lt
     rw[HK.out] at hlo
     have HO1:=zh (show Own cUS 26 w.heap.size wr (.slice Ao k co) l Fi∧(∀g,Zac (.slice Ao k co)=some g→g∉Fi) from by have h9:=HO.out.1;have h8:=HO.out.2.1;rw[HK.out] at h9 h8;exact⟨h9,h8⟩)
     go_wp2_with (at_builtin;refine Zl (c:=cUS) (B:=w.heap.size) (xs:=l) (ys:=[s]) (Fi:=Fi) (Fy:=F2) _ rfl _ _ _ rfl i0 _ _ Tryz.underlying86 hi0 iz0 iz1 iz2 rfl (by decide) rfl (HO1.out.1.bel (Za hbr4 (by exact bl))) (.slice (some ⟨w4.heap.size,0,none⟩) 1 1) rfl (Zcf 26 (w4.heap.size) (by simp) (by exact zb HR2.out.1 hb24)) (by have h9:=HK.out;unfold maxLen;simp;omega) (by have h9:=HK.out;simp;omega) (by (try simp);(try omega)) (λg hg=>⟨HO1.out.2 g hg,λh9=>by have h8:=(hlow2 _ h9).1;have h7:=(hlo g hg).2;omega⟩) ?_)
     intro v6 w6 ho6 hg6 hat6
     have hB6:Below w.heap.size w w6:=(show Below w.heap.size w _ from Za hbw4 bl).grown hg6 (by (try simp);(try omega)) (λg hg=>(hlo g hg).1)
     have HF6:=zh (show Own cUS 26 w.heap.size w6 v6 (l++[s]) (Fi++F2)∧(∀g,Zac v6=some g→g∉Fi++F2) from ⟨ho6,λg hg hm=>by
      rcases hat6 g hg with h9|h9
      ·rcases List.mem_append.1 hm with h8|h8
       ·exact HO1.out.2 g h9 h8
       ·have h7:=(hlow2 _ h8).1;have h6:=(hlo g h9).2;omega
      ·(try simp at h9)
       rcases List.mem_append.1 hm with h8|h8
       ·have h7:=hli g h8;omega
       ·have h7:=(hlow2 _ h8).2;omega⟩)
     have HJ:=zh (show Zak log=(l++[s])++Zbs log f1 (l++[s]).length q by rw[HO.out.2.2,HK.out,ZgK HST.out,List.length_append,HK.out,List.append_assoc];rfl)
     clear ho6 hg6 hat6
     go_wp2_with fail
     go_roundw
     case rel=>exact⟨q,f1,l++[s],Fi++F2,rfl,hmxl,by omega,by rw[List.length_append,HK.out];simp;omega,HJ.out,HF6.out.1,HF6.out.2,hB6,λb hb=>(List.mem_append.1 hb).elim (HLF.out b) (λh9=>by have h8:=(hlow2 b h9).1;omega)⟩
     case measure=>simp[intOf];omega
    ·have HE:=zh (show Zak log=l by rw[HO.out.2.2,HK.out,ZbN (ZmI hbs hus hsum),List.append_nil])
     generalize hcs:ZU (k:Int) s=cs at *
     rintro e w4 ⟨rfl,hb4⟩
     have hbw4:Below w.heap.size w w4:=Za hbw3 (zt hb4)
     have hbr4:Below wr.heap.size wr w4:=Za hbr3 (zt hb4)
     go_wp2_with fail
     refine bodyPost_ret (v:=.tuple #[.slice Ao k co,.int .i64 at_]) (by simp[results,Tryz.results51,go_sem]) rfl ?_
     rw[HE.out]
     exact⟨_,_,FR,rfl,bl,by have h9:=HR9.out;rw[HK.out] at h9;exact zb h9 hbr4,HLR.out⟩
theorem Ziw (v:Value) (log:List UInt8) (F:List Nat) (w:World) (h:cUS.rep w [v] log F) (hb:log.length≤5000000) :
  Calls Tryz.prog 46 #[v] w (ZlW w (Zak log)):=by
 obtain⟨i0,hi0,iz0,iz1,iz2⟩:=info_parts ZkE
 obtain⟨A,cp,rfl⟩:=Zb h
 go_enter Tryz.func46,Tryz.ntmps46
 go_wp2_with fail
 generalize hW:World.alloc _ _=W
 have hbW:Below w.heap.size w W:=by rw[← hW];exact bl
 clear hW
 go_loopw [4,5] (λout a wr=>∃(at_ f:Nat) (l:List (List UInt8)) (Fi:List Nat),a=.int .i64 at_∧at_≤log.length∧log.length-at_<f∧l.length≤at_∧Zak log=l++Zbs log f l.length at_∧Own cUS 26 w.heap.size wr out l Fi∧(∀g,Zac out=some g→g∉Fi)∧Below w.heap.size w wr∧∀b,b∈Fi→w.heap.size≤b) (λ_ a _=>log.length-(intOf a).toNat)
 case atStart=>exact⟨0,log.length+1,[],[],rfl,Nat.zero_le _,by omega,Nat.zero_le _,rfl,Own.empty _,by simp,hbW,by simp⟩
 case round =>
  obtain⟨at_,f,l,Fi,rfl,hal,hf,hll,hro,hown,hnf,hbw,hlF⟩:=hrel
  have HLF:=zh hlF
  obtain⟨Ao,co,hov⟩:=hown.slice
  subst hov
  have HO:=zh (And.intro hown (And.intro hnf hro))
  have hzw:=hbw.size
  obtain⟨k,hk⟩:∃k,l.length=k:=⟨_,rfl⟩
  have HK:=zh hk
  obtain⟨f1,rfl⟩:∃f1,f=f1+1:=⟨f-1,by omega⟩
  obtain⟨FR,hr9,hw9,-⟩:=hown.rep (hw:=by decide) (hw2:=by decide)
  have HLR:=zh (show ∀b,b∈FR→w.heap.size≤b from λb hb=>(hw9 b hb).elim (λh9=>(hown.lt b h9).1) (hlF b))
  have HR9:=zh (show cUSS.rep wr [.slice Ao l.length co] l FR from hr9)
  rw[hk] at hll⊢
  clear hown hnf hro hk hr9 hw9 hlF
  by_cases hlt:at_<log.length
  ·have hlti:(at_:Int)<(log.length:Int):=by omega
   go_wp2_with fail
   refine(ZaS _ log (at_:Int) 4000 _ _ (by exact zb h (Za hbw bl)) (by omega) (by omega) (by omega)).mono ?_
   rcases Zbz log at_ 4000 with ⟨hrb,hbn⟩|⟨s,p,hrb,hbs⟩
   ·rw[hrb]
    have HE:=zh (show Zak log=l by rw[HO.out.2.2,ZbN (Zkg hbn),List.append_nil])
    rintro e w2 ⟨v2,F2,rfl,hb2,hr2,-⟩
    obtain⟨A2,c2,e9⟩:=Zb hr2
    subst e9
    simp only
    have hbw2:Below w.heap.size w w2:=Za hbw hb2
    go_wp2_with fail
    refine bodyPost_ret (v:=.tuple #[.slice Ao k co,.int .i64 at_]) (by simp[results,Tryz.results46,go_sem]) rfl ?_
    rw[HE.out]
    exact⟨_,_,FR,rfl,bl,by have h9:=HR9.out;rw[HK.out] at h9;exact zb h9 hb2,HLR.out⟩
   ·rw[hrb]
    obtain⟨hsl,hx1,hx2,-⟩:=Zbc hbs
    rintro e w2 ⟨v2,F2,rfl,hb2,hr2,hf2⟩
    obtain⟨A2,c2,e9⟩:=Zb hr2
    subst e9
    simp only at hr2 hf2⊢
    have hbw2:Below w.heap.size w w2:=Za hbw hb2
    have HR2:=zh (show cUS.rep w2 [.slice A2 s.length c2] s F2∧Fresh wr.heap.size F2 from ⟨hr2,hf2⟩)
    clear hr2 hf2
    go_wp2_with fail
    refine(ZaC _ log (p:Int) _ _ (by exact zb h hbw2) (by omega) (by omega)).mono ?_
    rcases ZbH log p with ⟨hru,hun⟩|⟨x,q,hru,hus⟩
    ·rw[hru]
     have HE:=zh (show Zak log=l by rw[HO.out.2.2,ZbN (ZmH hbs hun),List.append_nil])
     rintro e w3 ⟨rfl,hb3⟩
     simp only
     have hbw3:Below w.heap.size w w3:=Za hbw2 hb3
     have hbr3:Below wr.heap.size wr w3:=Za hb2 hb3
     go_wp2_with fail
     refine bodyPost_ret (v:=.tuple #[.slice Ao k co,.int .i64 at_]) (by simp[results,Tryz.results46,go_sem]) rfl ?_
     rw[HE.out]
     exact⟨_,_,FR,rfl,bl,by have h9:=HR9.out;rw[HK.out] at h9;exact zb h9 hbr3,HLR.out⟩
    ·rw[hru]
     obtain⟨hx12,hmx0,hmxl,-⟩:=Zas hus
     rintro e w3 ⟨rfl,hb3⟩
     simp only
     have hbw3:Below w.heap.size w w3:=Za hbw2 hb3
     have hbr3:Below wr.heap.size wr w3:=Za hb2 hb3
     have hcr:=ZfL (k:Int) s
     go_wp2_with fail
     refine(Zec (k:Int) _ s F2 _ (by exact zb HR2.out.1) (by omega) (by omega)).mono ?_
     have HSM:=zh (show ZU (k:Int) s=ZU k s from rfl)
     by_cases hsum:(x:Int)=ZU (k:Int) s
     ·have HST:=zh (ZmJ (n:=k) hbs hus hsum)
      rw[← hsum]
      rintro e w4 ⟨rfl,hb4⟩
      have hbw4:Below w.heap.size w w4:=Za hbw3 (zt hb4)
      have hbr4:Below wr.heap.size wr w4:=Za hbr3 (zt hb4)
      have hb24:Below w2.heap.size w2 w4:=Za hb3 (zt hb4)
      have hz24:=hb24.size
      have hzr2:=hb2.size
      have hlow2:∀b,b∈F2→wr.heap.size≤b∧b<w2.heap.size:=λb hb=>⟨HR2.out.2.1 b hb,Cod.lt _ HR2.out.1 b hb⟩
      have hlo:=HO.out.1.lt
      have hli:=HO.out.1.inner_lt
      rw[HK.out] at hlo
      have HO1:=zh (show Own cUS 26 w.heap.size wr (.slice Ao k co) l Fi∧(∀g,Zac (.slice Ao k co)=some g→g∉Fi) from by have h9:=HO.out.1;have h8:=HO.out.2.1;rw[HK.out] at h9 h8;exact⟨h9,h8⟩)
      go_wp2_with (at_builtin;refine Zl (c:=cUS) (B:=w.heap.size) (xs:=l) (ys:=[s]) (Fi:=Fi) (Fy:=F2) _ rfl _ _ _ rfl i0 _ _ Tryz.underlying86 hi0 iz0 iz1 iz2 rfl (by decide) rfl (HO1.out.1.bel (Za hbr4 (by exact bl))) (.slice (some ⟨w4.heap.size,0,none⟩) 1 1) rfl (Zcf 26 (w4.heap.size) (by simp) (by exact zb HR2.out.1 hb24)) (by have h9:=HK.out;unfold maxLen;simp;omega) (by have h9:=HK.out;simp;omega) (by (try simp);(try omega)) (λg hg=>⟨HO1.out.2 g hg,λh9=>by have h8:=(hlow2 _ h9).1;have h7:=(hlo g hg).2;omega⟩) ?_)
      intro v6 w6 ho6 hg6 hat6
      have hB6:Below w.heap.size w w6:=(show Below w.heap.size w _ from Za hbw4 bl).grown hg6 (by (try simp);(try omega)) (λg hg=>(hlo g hg).1)
      have HF6:=zh (show Own cUS 26 w.heap.size w6 v6 (l++[s]) (Fi++F2)∧(∀g,Zac v6=some g→g∉Fi++F2) from ⟨ho6,λg hg hm=>by
       rcases hat6 g hg with h9|h9
       ·rcases List.mem_append.1 hm with h8|h8
        ·exact HO1.out.2 g h9 h8
        ·have h7:=(hlow2 _ h8).1;have h6:=(hlo g h9).2;omega
       ·(try simp at h9)
        rcases List.mem_append.1 hm with h8|h8
        ·have h7:=hli g h8;omega
        ·have h7:=(hlow2 _ h8).2;omega⟩)
      have HJ:=zh (show Zak log=(l++[s])++Zbs log f1 (l++[s]).length q by rw[HO.out.2.2,HK.out,ZgK HST.out,List.length_append,HK.out,List.append_assoc];rfl)
      clear ho6 hg6 hat6
      go_wp2_with fail
      go_roundw
      case rel=>exact⟨q,f1,l++[s],Fi++F2,rfl,hmxl,by omega,by rw[List.length_append,HK.out];simp;omega,HJ.out,HF6.out.1,HF6.out.2,hB6,λb hb=>(List.mem_append.1 hb).elim (HLF.out b) (λh9=>by have h8:=(hlow2 b h9).1;omega)⟩
      case measure=>simp[intOf];omega
     ·have HE:=zh (show Zak log=l by rw[HO.out.2.2,HK.out,ZbN (ZmI hbs hus hsum),List.append_nil])
      generalize hcs:ZU (k:Int) s=cs at *
      rintro e w4 ⟨rfl,hb4⟩
      have hbw4:Below w.heap.size w w4:=Za hbw3 (zt hb4)
      have hbr4:Below wr.heap.size wr w4:=Za hbr3 (zt hb4)
      go_wp2_with fail
      refine bodyPost_ret (v:=.tuple #[.slice Ao k co,.int .i64 at_]) (by simp[results,Tryz.results46,go_sem]) rfl ?_
      rw[HE.out]
      exact⟨_,_,FR,rfl,bl,by have h9:=HR9.out;rw[HK.out] at h9;exact zb h9 hbr4,HLR.out⟩
  ·have hlti:¬(at_:Int)<(log.length:Int):=by omega
   have HE:=zh (show Zak log=l by rw[HO.out.2.2,ZbN (Zpg (by omega)),List.append_nil])
   go_wp2_with fail
   refine bodyPost_ret (v:=.tuple #[.slice Ao k co,.int .i64 at_]) (by simp[results,Tryz.results46,go_sem]) rfl ?_
   rw[HE.out]
   exact⟨_,_,FR,rfl,hbw,by have h9:=HR9.out;rw[HK.out] at h9;exact h9,HLR.out⟩
theorem Zgj (b:List UInt8) (a:Int):(0≤(rdU b a).1∧(rdU b a).1≤1000000000000)∧0≤(rdU b a).2.1∧(rdU b a).2.1≤b.length:=by
 rcases ZfE b a with ⟨h,-⟩|⟨n,nx,h,-,h2⟩
 ·rw[h];simp
 ·rw[h];obtain⟨h3,-,h4,-⟩:=Zas h2;simp only;omega
theorem Zdc (b:List UInt8) (a:Int) (m:Nat):(rdB b a m).1.length≤b.length∧0≤(rdB b a m).2.1∧(rdB b a m).2.1≤b.length:=by
 unfold rdB
 split
 ·simp
 ·cases h:Zbb b a.toNat m with
  | none=>simp
  | some r =>
   obtain⟨s,nx⟩:=r
   have h1:=ZfF h
   obtain⟨-,-,h2,-⟩:=Zbc h
   simp only;omega
def stP (b:List UInt8) (r:Int×Int×Bool):Nat→(Nat→List UInt8)×Int×Bool
 | 0=>(λ_=>[],r.2.1,r.2.2)
 | m+1=>bif (stP b r m).2.2 then (λj=>if j=m then (rdB b (stP b r m).2.1 b.length).1 else (stP b r m).1 j,(rdB b (stP b r m).2.1 b.length).2) else stP b r m
theorem Zjz (b:List UInt8) (a:Int):∀m,(∀j,((stP b (rdU b a) m).1 j).length≤b.length)∧0≤(stP b (rdU b a) m).2.1∧(stP b (rdU b a) m).2.1≤b.length
 | 0=>⟨λj=>Nat.zero_le _,(Zgj b a).2⟩
 | m+1=>by
  have ih:=Zjz b a m
  unfold stP
  cases (stP b (rdU b a) m).2.2 with
  | false=>exact ih
  | true =>
   have h:=Zdc b (stP b (rdU b a) m).2.1 b.length
   refine⟨λj=>?_,h.2⟩
   show (if j=m then _ else _:List UInt8).length≤_
   split
   ·exact h.1
   ·exact ih.1 j
theorem Zix {b:List UInt8} {r:Int×Int×Bool} {m:Nat} (h:(stP b r m).2.2=true):stP b r (m+1)=(λj=>if j=m then (rdB b (stP b r m).2.1 b.length).1 else (stP b r m).1 j,(rdB b (stP b r m).2.1 b.length).2):=by
 conv=>lhs;unfold stP
 rw[h];rfl
theorem ZpG {b:List UInt8} {r:Int×Int×Bool} {m:Nat} (h:(stP b r m).2.2=false):stP b r (m+1)=stP b r m:=by
 conv=>lhs;unfold stP
 rw[h];rfl
theorem Zgq {b:List UInt8} {r:Int×Int×Bool} {m:Nat} (h:(stP b r m).2.2=false):∀n,(stP b r (m+n)).2.2=false
 | 0=>h
 | n+1=>by rw[← Nat.add_assoc,ZpG (Zgq h n)];exact Zgq h n
def ZoH (k:Int) (f:Nat→List UInt8):TOp:=⟨k,Zg (f 0),(Zv (f 1)).1,(ZC (f 2)).1,Zg (f 3)⟩
theorem Znn (b:List UInt8) (a:Nat):ZaM b (b.length,b.length,b.length,b.length) a=bif (stP b (rdU b (a:Int)) 4).2.2 then some (ZoH (rdU b (a:Int)).1 (stP b (rdU b (a:Int)) 4).1,(stP b (rdU b (a:Int)) 4).2.1.toNat) else none:=by
 rcases ZbH b a with ⟨h1,h2⟩|⟨k,p,h1,h2⟩
 ·have h0:(stP b (rdU b (a:Int)) 0).2.2=false:=by rw[h1];rfl
  rw[show (4:Nat)=0+4 from rfl,Zgq h0 4]
  unfold ZaM
  rw[h2];rfl
 ·have h0:(stP b (rdU b (a:Int)) 0).2.2=true:=by rw[h1];rfl
  have e1:=Zix h0
  rw[show (stP b (rdU b (a:Int)) 0).2.1=(p:Int) from by rw[h1];rfl] at e1
  rcases Zbz b p b.length with ⟨g1,g2⟩|⟨s1,p1,g1,g2⟩
  ·have f1:(stP b (rdU b (a:Int)) 1).2.2=false:=by rw[e1,g1]
   rw[show (4:Nat)=1+3 from rfl,Zgq f1 3]
   unfold ZaM
   rw[h2];simp only[g2];rfl
  have f1:(stP b (rdU b (a:Int)) 1).2.2=true:=by rw[e1,g1]
  have e2:=Zix f1
  rw[show (stP b (rdU b (a:Int)) 1).2.1=(p1:Int) from by rw[e1,g1]] at e2
  rcases Zbz b p1 b.length with ⟨i1,i2⟩|⟨s2,p2,i1,i2⟩
  ·have f2:(stP b (rdU b (a:Int)) 2).2.2=false:=by rw[e2,i1]
   rw[show (4:Nat)=2+2 from rfl,Zgq f2 2]
   unfold ZaM
   rw[h2];simp only[g2,i2];rfl
  have f2:(stP b (rdU b (a:Int)) 2).2.2=true:=by rw[e2,i1]
  have e3:=Zix f2
  rw[show (stP b (rdU b (a:Int)) 2).2.1=(p2:Int) from by rw[e2,i1]] at e3
  rcases Zbz b p2 b.length with ⟨j1,j2⟩|⟨s3,p3,j1,j2⟩
  ·have f3:(stP b (rdU b (a:Int)) 3).2.2=false:=by rw[e3,j1]
   rw[show (4:Nat)=3+1 from rfl,Zgq f3 1]
   unfold ZaM
   rw[h2];simp only[g2,i2,j2];rfl
  have f3:(stP b (rdU b (a:Int)) 3).2.2=true:=by rw[e3,j1]
  have e4:=Zix f3
  rw[show (stP b (rdU b (a:Int)) 3).2.1=(p3:Int) from by rw[e3,j1]] at e4
  rcases Zbz b p3 b.length with ⟨l1,l2⟩|⟨s4,p4,l1,l2⟩
  ·rw[show (stP b (rdU b (a:Int)) 4).2.2=false from by rw[e4,l1]]
   unfold ZaM
   rw[h2];simp only[g2,i2,j2,l2];rfl
  rw[show (stP b (rdU b (a:Int)) 4).2.2=true from by rw[e4,l1]]
  have c0:(stP b (rdU b (a:Int)) 4).1 0=s1:=by rw[e4];simp only;rw[if_neg (by decide),e3];simp only;rw[if_neg (by decide),e2];simp only;rw[if_neg (by decide),e1];simp[g1]
  have c1:(stP b (rdU b (a:Int)) 4).1 1=s2:=by rw[e4];simp only;rw[if_neg (by decide),e3];simp only;rw[if_neg (by decide),e2];simp[i1]
  have c2:(stP b (rdU b (a:Int)) 4).1 2=s3:=by rw[e4];simp only;rw[if_neg (by decide),e3];simp[j1]
  have c3:(stP b (rdU b (a:Int)) 4).1 3=s4:=by rw[e4];simp[l1]
  have c4:(stP b (rdU b (a:Int)) 4).2.1=(p4:Int):=by rw[e4,l1]
  unfold ZoH
  rw[c0,c1,c2,c3,c4]
  unfold ZaM
  rw[h2];simp only[g2,i2,j2,l2,h1];rfl
theorem ZkV (b:List UInt8) (m1 m2 m3 m4:Nat) (a:Nat) {r1:Int×Int×Bool} {r2 r3 r4 r5:List UInt8×Int×Bool} (h1:rdU b (a:Int)=r1) (h2:rdB b r1.2.1 m1=r2) (h3:rdB b r2.2.1 m2=r3) (h4:rdB b r3.2.1 m3=r4) (h5:rdB b r4.2.1 m4=r5) :
  ZaM b (m1,m2,m3,m4) a=bif r1.2.2&&(r2.2.2&&(r3.2.2&&(r4.2.2&&r5.2.2))) then some (⟨r1.1,Zg r2.1,(Zv r3.1).1,(ZC r4.1).1,Zg r5.1⟩,r5.2.1.toNat) else none:=by
 subst h1
 unfold ZaM
 rcases ZbH b a with ⟨e,e'⟩|⟨k,p,e,e'⟩
 ·rw[e',e];rfl
 rw[e] at h2⊢
 rw[e']
 simp only at h2⊢
 rcases Zbz b p m1 with ⟨g,g'⟩|⟨s1,p1,g,g'⟩
 ·rw[g] at h2;subst h2;rw[g'];rfl
 rw[g] at h2
 subst h2
 rw[g']
 simp only at h3⊢
 rcases Zbz b p1 m2 with ⟨g,g'⟩|⟨s2,p2,g,g'⟩
 ·rw[g] at h3;subst h3;rw[g'];rfl
 rw[g] at h3
 subst h3
 rw[g']
 simp only at h4⊢
 rcases Zbz b p2 m3 with ⟨g,g'⟩|⟨s3,p3,g,g'⟩
 ·rw[g] at h4;subst h4;rw[g'];rfl
 rw[g] at h4
 subst h4
 rw[g']
 simp only at h5⊢
 rcases Zbz b p3 m4 with ⟨g,g'⟩|⟨s4,p4,g,g'⟩
 ·rw[g] at h5;subst h5;rw[g'];rfl
 rw[g] at h5
 subst h5
 rw[g']
 rfl
def ZhT (l:List TOp):Option (List TOp)→Option (List TOp)
 | none=>none
 | some m=>some (l++m)
theorem ZkH (r:Option (List TOp)):ZhT [] r=r:=by cases r<;>rfl
theorem Zjn {b:List UInt8} {most:Nat×Nat×Nat×Nat} {m a t:Nat} {l:List TOp} {o:TOp} (h:ZaM b most a=some (o,t)):ZhT l (Zad b most (m+1) a)=ZhT (l++[o]) (Zad b most m t):=by
 rw[Zad,h]
 simp only
 cases Zad b most m t with
 | none=>rfl
 | some r=>simp[ZhT]
theorem Zjm {b:List UInt8} {most:Nat×Nat×Nat×Nat} {m a:Nat} {l:List TOp} (h:ZaM b most a=none):ZhT l (Zad b most (m+1) a)=none:=by
 rw[Zad,h];rfl
theorem ZkG {b:List UInt8} {most:Nat×Nat×Nat×Nat} {a:Nat} {l:List TOp}:ZhT l (Zad b most 0 a)=some l:=by simp[Zad,ZhT]
theorem Zko {b:List UInt8} {most:Nat×Nat×Nat×Nat} (h:Zbj b 0=none):ZaB b most=([],false):=by unfold ZaB;rw[h]
theorem Zmh {b:List UInt8} {most:Nat×Nat×Nat×Nat} {n nx:Nat} (h:Zbj b 0=some (n,nx)) (h6:6<n):ZaB b most=([],false):=by unfold ZaB;rw[h];simp only;rw[if_pos h6]
theorem Zmg {b:List UInt8} {most:Nat×Nat×Nat×Nat} {n nx:Nat} (h:Zbj b 0=some (n,nx)) (h6:¬6<n) (hr:Zad b most n nx=none):ZaB b most=([],false):=by unfold ZaB;rw[h];simp only;rw[if_neg h6,hr]
theorem ZnJ {b:List UInt8} {most:Nat×Nat×Nat×Nat} {n nx:Nat} {l:List TOp} (h:Zbj b 0=some (n,nx)) (h6:¬6<n) (hr:Zad b most n nx=some l):ZaB b most=bif Zn l==b then (l,true) else ([],false):=by unfold ZaB;rw[h];simp only;rw[if_neg h6,hr]
theorem Zgz (b:List UInt8):(Zv b).1.Ok:=by
 have h0:noKey.Ok:=⟨by decide,by decide,by decide⟩
 unfold Zv
 cases ZcF b with
 | none=>exact h0
 | some k =>
  cases hk:ZG k with
  | false=>simp only[hk,cond_false];exact h0
  | true =>
   simp only[hk,cond_true]
   have h:=Zep hk
   exact⟨by omega,by omega,by unfold maxLen;omega⟩
def GivesDec (w:World) (r:List TOp×Bool) (e:Ending) (w':World):Prop:=∃v F,e=.returned (.tuple #[v,.bool r.2])∧Below w.heap.size w w'∧cOpS.rep w' [v] r.1 F
theorem GivesDec.no {w w':World} {r:List TOp×Bool} (h:Below w.heap.size w w') (hr:r=([],false)) (A:Option Addr):GivesDec w r (.returned (.tuple #[.slice A 0 0,.bool false])) w':=by
 subst hr
 exact⟨_,[],rfl,h,⟨A,0,rfl,Nat.le_refl _,by decide,.inl ⟨rfl,rfl⟩⟩⟩
theorem Zpy:(Tryz.prog.info? 78).map (λi=>(i.zero,i.size,i.bytes))=some (some (Value.agg #[.int .i64 0,.string ByteArray.empty,.int .i64 0,.int .i64 0,.string ByteArray.empty,.slice none 0 0,.string ByteArray.empty]),7,96):=by kernel_rfl
def l5R (b:List UInt8):TRec×Int×Bool:=match Zcw b with|none=>(Zgi,0,false)|some (fs,e)=>(⟨fs⟩,(e:Int),Ze ⟨fs⟩)
theorem Zft {b:List UInt8} (h:Zcw b=none):l5R b=(Zgi,0,false):=by unfold l5R;rw[h]
theorem Zmu {b:List UInt8} {fs:List TField} {e:Nat} (h:Zcw b=some (fs,e)):l5R b=(⟨fs⟩,(e:Int),Ze ⟨fs⟩):=by unfold l5R;rw[h]
theorem GivesR3.zero {w w':World} (h:Below w.heap.size w w'):GivesR3 cRec w Zgi (.int .i64 0) (.bool false) (.returned (.tuple #[.agg #[.slice none 0 0],.int .i64 0,.bool false])) w' :=
 ⟨_,[],rfl,h,TRec.mk_ trivial ⟨none,0,rfl,Nat.le_refl _,by decide,.inl ⟨rfl,rfl⟩⟩,Fresh.nil _⟩
theorem ZiU (v:Value) (b:List UInt8) (F:List Nat) (w:World) (h:cUS.rep w [v] b F) (hb:b.length≤1000000000) :
  Calls Tryz.prog 164 #[v,.int .i64 0] w (GivesR3 cRec w (l5R b).1 (.int .i64 (l5R b).2.1) (.bool (l5R b).2.2)):=by
 obtain⟨i0,hi0,hz0,hz1,hz2⟩:=info_parts ZdF
 obtain⟨A,cp,rfl⟩:=Zb h
 obtain⟨-,hcp,hm⟩:=Zq h
 unfold maxLen at hm
 go_enter Tryz.func164,Tryz.ntmps164
 go_wp2_with fail
 refine(ZaC _ b ((0:Nat):Int) _ _ (by exact zb h) hb (by omega)).mono ?_
 rcases ZbH b 0 with ⟨hr,hnone⟩|⟨n,nx,hr,hsome⟩
 ·rw[hr]
  have HD:=zh (Zft (Zii hnone))
  rintro e w1 ⟨rfl,hb1⟩
  obtain⟨hc_w1,hf_w1,hz_w1⟩:=Zc hb1
  try simp at hz_w1
  have ha0_w1:w.heap.size<w1.heap.size:=by omega
  have hb_w1:=zt (w:=w) hb1
  go_wp2_with fail
  refine bodyPost_ret (v:=.tuple #[.agg #[.slice none 0 0],.int .i64 0,.bool false]) (by simp[results,Tryz.results164,go_sem, *]) rfl ?_
  rw[HD.out]
  exact GivesR3.zero (show Below w.heap.size w _ from bl)
 ·rw[hr]
  obtain⟨hn12,hnx0,hnxl,-⟩:=Zas hsome
  rintro e w1 ⟨rfl,hb1⟩
  simp only
  obtain⟨hc_w1,hf_w1,hz_w1⟩:=Zc hb1
  try simp at hz_w1
  have ha0_w1:w.heap.size<w1.heap.size:=by omega
  have hb_w1:=zt (w:=w) hb1
  by_cases h6:6<n
  ·have h6i:(6:Int)<(n:Int):=by omega
   have HD:=zh (Zft (Zju hsome h6))
   go_wp2_with fail
   refine bodyPost_ret (v:=.tuple #[.agg #[.slice none 0 0],.int .i64 0,.bool false]) (by simp[results,Tryz.results164,go_sem, *]) rfl ?_
   rw[HD.out]
   exact GivesR3.zero (show Below w.heap.size w _ from bl)
  ·have h6i:¬(6:Int)<(n:Int):=by omega
   have hraw:=ZkU hsome h6
   have a0:w1.cell? ⟨w.heap.size,0,none⟩=some (.slice none 0 0):=by go_simp
   have fa0:w1.frozen? ⟨w.heap.size,0,none⟩=false:=by go_simp
   clear hc_w1 hf_w1 hb1
   go_wp2_with fail
   generalize hW:World.alloc _ _=W
   have hWs:W.heap.size=w1.heap.size+1:=by rw[← hW];clear hW;simp
   have hbW:Below w.heap.size w W:=by rw[← hW];exact bl
   have b0:W.cell? ⟨w1.heap.size,0,none⟩=some (.slice none 0 0):=by rw[← hW];clear hW;go_simp
   have fb0:W.frozen? ⟨w1.heap.size,0,none⟩=false:=by rw[← hW];clear hW;go_simp
   have a1:W.cell? ⟨w.heap.size,0,none⟩=some (.slice none 0 0):=by rw[← hW];clear hW;go_simp
   have fa1:W.frozen? ⟨w.heap.size,0,none⟩=false:=by rw[← hW];clear hW;go_simp
   have HK:=zh (And.intro b0 (And.intro fb0 (And.intro a1 fa1)))
   have HRAW:=zh hraw
   clear hW a0 fa0 b0 fb0 a1 fa1 hraw
   go_loopw [11,8] (λi a wr=>∃(k at_:Nat) (pre:List TField),k≤n∧i=.int .i64 k∧a=.int .i64 at_∧at_≤b.length∧pre.length=k∧Zbi b n nx=Znt pre (Zbi b (n-k) at_)∧BoxRow cField 114 W wr w1.heap.size 0 pre) (λi _ _=>n-(intOf i).toNat)
   case atStart=>exact⟨0,nx,[],Nat.zero_le _,rfl,rfl,hnxl,rfl,by rw[Zmp];rfl,BoxRow.start HK.out.1⟩
   case round =>
    obtain⟨k,at_,pre,hk,rfl,rfl,hal,hpl,hgo,vE,Fi,HB⟩:=hrel
    obtain⟨Ae,ce,hve⟩:=HB.own.slice
    subst hve
    have HGO:=zh hgo
    have HPL:=zh hpl
    rw[hpl] at HB
    have hE:=HB.cell
    have hfr:=(HB.fz 0).trans HK.out.2.1
    have hz9:=HB.only.size
    have hbw:Below w.heap.size w wr:=hbW.trans ((HB.only.bel w.heap.size (by omega) (λy hy=>by simp at hy;omega)).mono (Nat.le_refl _))
    have hbk:=HB.only.block w.heap.size (by omega) (by intro hm9;simp at hm9;omega)
    have r0:wr.cell? ⟨w.heap.size,0,none⟩=some (.slice none 0 0):=(World.cell?_of_block hbk).trans HK.out.2.2.1
    have fr0:wr.frozen? ⟨w.heap.size,0,none⟩=false:=(World.frozen?_of_block hbk).trans HK.out.2.2.2
    have hws:w.heap.size<wr.heap.size:=by omega
    have hws2:w1.heap.size<wr.heap.size:=by omega
    have hne1:¬w.heap.size=w1.heap.size:=by omega
    have hne2:¬w1.heap.size=w.heap.size:=by omega
    have hHB:=zh HB
    clear HB hgo hpl hbk
    by_cases hlt:k<n
    ·obtain⟨m,hmk⟩:∃m,n-k=m+1:=⟨n-k-1,by omega⟩
     have hki:(k:Int)<(n:Int):=by omega
     go_wp2_with fail
     refine(ZaS _ b (at_:Int) 8 _ _ (by exact zb h hbw) hb (by omega) (by omega)).mono ?_
     rcases Zbz b at_ 8 with ⟨hrb,hbn⟩|⟨s,nx2,hrb,hbs⟩
     ·rw[hrb]
      have HD:=zh (Zft (HRAW.out.trans (HGO.out.trans (by rw[hmk];exact Zkv hbn))))
      rintro e w2 ⟨v2,F2,rfl,hb2,-,-⟩
      simp only
      obtain⟨hc_w2,hf_w2,hz_w2⟩:=Zc hb2
      try simp at hz_w2
      have ha0_w2:w.heap.size<w2.heap.size:=by omega
      have ha1_w2:w1.heap.size<w2.heap.size:=by omega
      have hb_w2:=zt (w:=w) hb2
      go_wp2_with fail
      refine bodyPost_ret (v:=.tuple #[.agg #[.slice none 0 0],.int .i64 0,.bool false]) (by simp[results,Tryz.results164,go_sem, *]) rfl ?_
      rw[HD.out]
      exact GivesR3.zero (show Below w.heap.size w _ from bl)
     ·rw[hrb]
      obtain⟨hsl,hx1,hx2,-⟩:=Zbc hbs
      rintro e w2 ⟨v2,F2,rfl,hb2,hr2,-⟩
      simp only at hr2⊢
      obtain⟨hc_w2,hf_w2,hz_w2⟩:=Zc hb2
      try simp at hz_w2
      have ha0_w2:w.heap.size<w2.heap.size:=by omega
      have ha1_w2:w1.heap.size<w2.heap.size:=by omega
      have hb_w2:=zt (w:=w) hb2
      go_wp2_with fail
      refine(ZaC _ b (nx2:Int) _ _ (by exact zb h) hb (by omega)).mono ?_
      rcases ZbH b nx2 with ⟨hru,hun⟩|⟨x,mx,hru,hus⟩
      ·rw[hru]
       have HD:=zh (Zft (HRAW.out.trans (HGO.out.trans (by rw[hmk];exact Zkw hbs hun))))
       rintro e w3 ⟨rfl,hb3⟩
       obtain⟨hc_w3,hf_w3,hz_w3⟩:=Zc hb3
       try simp at hz_w3
       have ha0_w3:w.heap.size<w3.heap.size:=by omega
       have ha1_w3:w1.heap.size<w3.heap.size:=by omega
       have hb_w3:=zt (w:=w) hb3
       go_wp2_with fail
       refine bodyPost_ret (v:=.tuple #[.agg #[.slice none 0 0],.int .i64 0,.bool false]) (by simp[results,Tryz.results164,go_sem, *]) rfl ?_
       rw[HD.out]
       exact GivesR3.zero (show Below w.heap.size w _ from bl)
      ·rw[hru]
       obtain⟨hx12,hmx0,hmxl,-⟩:=Zas hus
       have hstep:=Zkx (m:=m) (pre:=pre) hbs hus
       have HSTEP:=zh (show Zbi b n nx=Znt (pre++[⟨Zg s,x⟩]) (Zbi b (n-(k+1)) mx) by rw[HGO.out,hmk,hstep,show n-(k+1)=m by omega])
       clear hstep
       rintro e w3 ⟨rfl,hb3⟩
       simp only
       have hbr3:Below wr.heap.size wr w3:=Za hb2 hb3
       have hz3:=hbr3.size
       have e0:=zcl hbr3 hE
       have ef0:=zcf hbr3 hfr
       have hz3a:w1.heap.size<w3.heap.size:=by omega
       have hz3b:w.heap.size<w3.heap.size:=by omega
       have hok:=Zml (s:=s) (v:=x) (by omega) hx12
       have HOK:=zh hok
       clear hc_w2 hf_w2 hb_w2 hok
       go_wp2_with fail
       rw[ZaX (xs:=s) (F:=F2)]
       rotate_left
       ·exact zb hr2 hb3
       simp only[Result.andThen]
       rw[Oper.upon_value]
       go_wp2_with (at_builtin;refine Ziy ?_)
       refine goB ?_
       refine ZjF (c:=cField) (ys:=[⟨Zg s,x⟩]) (G:=[]) rfl _ _ _ rfl i0 _ _ Tryz.underlying74 hi0 hz0 hz1 hz2 rfl (by decide) rfl (.slice (some ⟨w3.heap.size,0,none⟩) 1 1) rfl (by omega) hHB.out ?hbel (Fresh.nil _) (by simp) ?hsrc (k+1) ?hm9 ?h1 ?h2 ?h3
       case hbel=>exact Za hbr3 bl
       case hsrc=>exact Zcf (vs:=#[_,_]) _ _ rfl (TField.mk_ HOK.out)
       case hm9=>(rw[List.length_append,HPL.out];rfl)
       case h1=>(unfold maxLen;omega)
       case h2=>omega
       intro A2 c2 w4 HA
       have hX:=HA.cell
       have hXf:=(HA.fz 0).trans HK.out.2.1
       have hs4:=HA.size
       (try simp at hs4)
       have HR:=zh HA.row
       clear HA
       have hsz2:w1.heap.size<w4.heap.size:=by omega
       go_wp2_with fail
       go_roundw
       case rel=>exact⟨k+1,mx,pre++[⟨Zg s,x⟩],by omega,by go_num,rfl,hmxl,by rw[List.length_append,HPL.out];rfl,HSTEP.out,HR.out⟩
       case measure=>simp[intOf];omega
    ·obtain rfl:k=n:=by omega
     have HRR:=zh (show Zcw b=some (pre,at_) by rw[HRAW.out,HGO.out,Nat.sub_self,Zmo])
     have hown:=hHB.out.own
     obtain rfl:=hown.flat_nil Zci
     obtain⟨FP,hrP,hfP,-⟩:=hown.fresh (hw:=by decide) (hw2:=by decide)
     have hfP2:=hfP.mono (show w.heap.size≤_ by omega)
     have hlP:=hown.lt
     have HP:=zh (And.intro hrP (And.intro hfP2 (And.intro hown hlP)))
     clear hown hrP hfP hfP2 hlP
     have hS:∀w9,Below wr.heap.size wr w9→w9.cell? ⟨w1.heap.size,0,none⟩=some (.slice Ae k ce) :=
      λw9 hb=>zcl hb hE
     go_wp2_with fail
     refine wp_region_held_drew (S:=(λw9=>w9.cell? ⟨w1.heap.size,0,none⟩=some (.slice Ae k ce))) (by kernel_rfl) (by (try dsimp only);(first|assumption|(go_simp;done)|exact hS _ bl)) (λhHeld=>?_)
     refine zrd (i:=0) 68 ?_
     refine zrd (i:=1) 69 ?_
     refine zrd (i:=2) 70 ?_
     try simp only[Act.put,zp0,zp1,zp2]
     refine zst 3 (λK hK=>?_)
     go_simp
     (go_at_call 109;refine(Zo _ pre FP _ (by rw[← HPL.out] at *;exact zb HP.out.1)).mono ?_;rintro e w5 ⟨rfl,hb5⟩;have hbr5:=zt (w:=wr) hb5;have hbw5:Below w.heap.size w w5:=Za hbw hbr5;have hE5:=hS _ hbr5;have t50:w5.cell? ⟨w.heap.size,0,none⟩=some (.slice none 0 0):=zcl hbr5 r0;have t51:w5.frozen? ⟨w.heap.size,0,none⟩=false:=zcf hbr5 fr0;have hz5:w.heap.size<w5.heap.size:=by (have h9:=hbr5.size;omega))
     try go_wp2_with fail
     refine hK.out _ _ ?_ (λhHeld=>?_)
     ·(try dsimp only)
      (first|assumption|(go_simp;done)|exact hS _ bl)
     clear hK K
     try simp only[Act.put,zp0,zp1,zp2]
     refine zst 4 (λK hK=>?_)
     first|(go_at_call 109;refine(Zo _ pre FP _ (by rw[← HPL.out] at *;exact zb HP.out.1)).mono ?_;rintro e w5 ⟨rfl,hb5⟩;have hbr5:=zt (w:=wr) hb5;have hbw5:Below w.heap.size w w5:=Za hbw hbr5;have hE5:=hS _ hbr5;have t50:w5.cell? ⟨w.heap.size,0,none⟩=some (.slice none 0 0):=zcl hbr5 r0;have t51:w5.frozen? ⟨w.heap.size,0,none⟩=false:=zcf hbr5 fr0;have hz5:w.heap.size<w5.heap.size:=by (have h9:=hbr5.size;omega))|go_simp
     refine hK.out _ _ ?_ (λhHeld=>?_)
     ·(try dsimp only)
      (first|assumption|(go_simp;done)|exact hS _ bl)
     clear hK K
     refine zrd (i:=5) 5 ?_
     refine zrd (i:=6) 6 ?_
     try simp only[Act.put,zp0,zp1,zp2]
     refine wpAnyH_done (by kernel_rfl) ?_ _
     have ho9:=(HP.out.2.2.1.bel hbr5).set_ (p:=⟨w.heap.size,0,none⟩) (λe9=>by have h9:=(HP.out.2.2.2 _ e9).1;(try simp at h9);omega) (.slice Ae k ce)
     obtain⟨F9,hr9,hf9,-⟩:=ho9.fresh (hw:=by decide) (hw2:=by decide)
     have H9:=zh (And.intro hr9 (hf9.mono (show w.heap.size≤_ by omega)))
     have HD:=zh (Zmu HRR.out)
     clear ho9 hr9 hf9
     go_wp2_with fail
     refine bodyPost_ret (v:=.tuple #[.agg #[.slice Ae k ce],.int .i64 at_,.bool (Ze ⟨pre⟩)]) (by simp[results,Tryz.results164,go_sem, *]) rfl ?_
     rw[HD.out]
     exact⟨_,F9,rfl,bl,TRec.mk_ trivial H9.out.1,H9.out.2⟩
theorem Zqg (b:List UInt8):ZC b=bif (l5R b).2.2&&(l5R b).2.1==(b.length:Int) then ((l5R b).1,true) else (Zgi,false):=by
 cases h:Zcw b with
 | none=>rw[Zde h,Zft h];rfl
 | some r =>
  obtain⟨fs,e⟩:=r
  rw[ZhF h,Zmu h]
  simp only
  congr 2
  cases h1:e==b.length with
  | true=>have:=beq_iff_eq.1 h1;subst this;simp
  | false =>
   have:¬(e:Int)=(b.length:Int):=λh9=>by rw[show e=b.length by omega] at h1;simp at h1
   simp[this]
theorem ZeJ (v:Value) (b:List UInt8) (F:List Nat) (w:World) (h:cUS.rep w [v] b F) (hb:b.length≤1000000000) :
  Calls Tryz.prog 129 #[v] w (GivesR2 cRec w (ZC b).1 (.bool (ZC b).2)):=by
 obtain⟨A,cp,rfl⟩:=Zb h
 go_enter Tryz.func129,Tryz.ntmps129
 go_wp2_with fail
 refine(ZiU _ b _ _ (by exact zb h) hb).mono ?_
 have HDL:=zh (Zqg b)
 rintro e w1 ⟨vs1,F1,rfl,hb1,hr1,hf1⟩
 obtain⟨v1,F2,rfl,rfl,-,n1⟩:=TRec.outA hr1
 obtain⟨B1,d1,e9⟩:=Zb n1
 subst e9
 obtain⟨hc_w1,hf_w1,hz_w1⟩:=Zc hb1
 try simp at hz_w1
 have ha0_w1:w.heap.size<w1.heap.size:=by omega
 have hb_w1:=zt (w:=w) hb1
 have a0:w1.cell? ⟨w.heap.size,0,none⟩=some (.slice none 0 0):=by go_simp
 have fa0:w1.frozen? ⟨w.heap.size,0,none⟩=false:=by go_simp
 have H1:=zh (And.intro n1 (And.intro hf1 (λb hb=>Cod.lt _ n1 b hb)))
 have hlow:∀b,b∈F1→w.heap.size+1≤b:=λb hb=>by have h9:=hf1.1 b hb;(try simp at h9);omega
 have HLOW:=zh hlow
 generalize hl5:l5R b=q at *
 obtain⟨⟨rf⟩,rn,rk⟩:=q
 simp only at *
 clear n1 hf1 hr1 hlow hc_w1 hf_w1 hb1 hl5
 have hbn:(rn !=(b.length:Int))=!(rn==(b.length:Int)):=rfl
 cases e1:rk
 ·have HD:=zh (show ZC b=(Zgi,false) by rw[HDL.out,e1];rfl)
  subst e1
  go_wp2_with fail
  refine bodyPost_ret (v:=.tuple #[.agg #[.slice none 0 0],.bool false]) (by simp[results,Tryz.results129,go_sem, *]) rfl ?_
  rw[HD.out]
  exact GivesR2.zero (show Below w.heap.size w _ from bl) false
 ·cases e2:(rn==(b.length:Int))
  ·rw[e2,Bool.not_false] at hbn
   have HD:=zh (show ZC b=(Zgi,false) by rw[HDL.out,e1,e2];rfl)
   subst e1
   go_wp2_with fail
   refine bodyPost_ret (v:=.tuple #[.agg #[.slice none 0 0],.bool false]) (by simp[results,Tryz.results129,go_sem, *]) rfl ?_
   rw[HD.out]
   exact GivesR2.zero (show Below w.heap.size w _ from bl) false
  ·rw[e2,Bool.not_true] at hbn
   have HD:=zh (show ZC b=(⟨rf⟩,true) by rw[HDL.out,e1,e2];rfl)
   subst e1
   go_wp2_with fail
   refine bodyPost_ret (v:=.tuple #[.agg #[.slice B1 rf.length d1],.bool true]) (by simp[results,Tryz.results129,go_sem, *]) rfl ?_
   rw[HD.out]
   have hk:∀W:World,(∀b,b∈F1→W.heap[b]?=w1.heap[b]?)→cFieldS.rep W [.slice B1 rf.length d1] rf F1:=λW hb=>Cod.keep _ H1.out.1 hb
   refine⟨_,F1,rfl,bl,TRec.mk_ trivial (hk _ λb hb=>?_),H1.out.2.1.mono (by (try simp);(try omega))⟩
   have h7:=HLOW.out b hb
   have h8:=H1.out.2.2 b hb
   first
    | exact((ZM (Below.refl _ _) _).block b (by (try simp);omega)).trans (Below.heap_setCell _ _ _ _ (by intro e9;(try simp at e9);omega))
    | exact(Below.heap_setCell _ _ _ _ (by intro e9;(try simp at e9);omega))
end Go.Proofs.YtghndifnohkokaaGreat
