/-
  SetFS of the seat. No conditions but sizes.
-/
import Derived.Test.YtghndifnohkokaaGreatZSetFI
import Derived.Test.YtghndifnohkokaaGreatZGivesW
import Derived.Test.YtghndifnohkokaaGreatZOpsPlain
namespace Go.Proofs.YtghndifnohkokaaGreat
open Go.ChangeShapes Go.WideShapes Go.RowKit
set_option linter.unusedVariables false
set_option linter.unusedSimpArgs false
set_option maxRecDepth 100000
set_option maxHeartbeats 16000000
theorem Zot {fs:List TField} {name:ByteArray} {n:Int} {k:Nat} (hk:k<fs.length) (h:Zaw name fs=k) (he:Zaz fs[k].name name=true):Zfk fs name n=fs.set k ⟨fs[k].name,n⟩:=by
 unfold Zfk;rw[h,List.getElem?_eq_getElem hk];simp[he]
theorem Zov {fs:List TField} {name:ByteArray} {n:Int} {k:Nat} (h:Zaw name fs=k) (he:∀hk:k<fs.length,Zaz fs[k].name name=false):Zfk fs name n=fs.take k++⟨name,n⟩::fs.drop k:=by
 unfold Zfk;rw[h]
 by_cases hk:k<fs.length
 ·rw[List.getElem?_eq_getElem hk];simp[he hk]
 ·rw[List.getElem?_eq_none (by omega)]
theorem Zip {fs:List TField} {name:ByteArray} {n:Int} (h:Ze ⟨fs⟩=false):Zan ⟨fs⟩ name n=(⟨fs⟩,false):=by unfold Zan;rw[h];rfl
theorem Ziq {fs gs:List TField} {name:ByteArray} {n:Int} (hs:Zfk fs name n=gs) (h:Ze ⟨gs⟩=false):Zan ⟨fs⟩ name n=(⟨fs⟩,false):=by unfold Zan;simp only[hs,h,Bool.and_false];rfl
theorem ZlO {fs gs:List TField} {name:ByteArray} {n:Int} (hs:Zfk fs name n=gs) (h1:Ze ⟨fs⟩=true) (h:Ze ⟨gs⟩=true):Zan ⟨fs⟩ name n=(⟨gs⟩,true):=by unfold Zan;simp only[hs,h,h1,Bool.and_self];rfl
theorem Zee (v:Value) (fs:List TField) (name:ByteArray) (n:Int) (F:List Nat) (w:World) (h:cFieldS.rep w [v] fs F) (hl:fs.length≤1000000) (hs:name.size≤maxLen) (hn:-9223372036854775808≤n∧n≤9223372036854775807) :
  Calls Tryz.prog 171 #[.agg #[v],.string name,.int .i64 n] w (GivesR2 cRec w (Zan ⟨fs⟩ name n).1 (.bool (Zan ⟨fs⟩ name n).2)):=by
 obtain⟨i0,hi0,hz0,hz1,hz2⟩:=info_parts ZdF
 obtain⟨A,cp,rfl⟩:=Zb h
 obtain⟨-,hcp,hm⟩:=Zq h
 unfold maxLen at hm
 go_enter Tryz.func171,Tryz.ntmps171
 go_wp2_with fail
 refine(Zai _ fs _ _ (by exact zb h) (by omega)).mono ?_
 rintro e w1 ⟨v1,rfl,hb1,ho1⟩
 obtain⟨B1,d1,e9⟩:=ho1.slice
 subst e9
 obtain⟨hc_w1,hf_w1,hz_w1⟩:=Zc hb1
 try simp at hz_w1
 obtain⟨ha0_w1,ha1_w1⟩:=zg2 w.heap.size w1.heap.size
 have hb_w1:=zt (w:=w) hb1
 have hlow:∀g,Zac (.slice B1 fs.length d1)=some g→w.heap.size+2≤g∧g<w1.heap.size:=λg hg=>by have h8:=ho1.lt g hg;(try simp at h8);omega
 have HLOW:=zh hlow
 have HO1:=zh (ho1.mono (show w.heap.size+2≤_ by (try simp);(try omega)))
 have hbw1:=hb_w1
 clear ho1 hlow
 go_upto_region 2 with (fail)
 generalize hW2:World.alloc _ _=w2
 have hbw2:Below w.heap.size w w2:=by rw[← hW2];exact bl
 have hz2s:w2.heap.size=w1.heap.size+1:=by rw[← hW2];clear hW2;simp
 have a0:w2.cell? ⟨w.heap.size,0,none⟩=some (.slice A fs.length cp):=by rw[← hW2];clear hW2;go_simp
 have b0:w2.cell? ⟨w.heap.size+1,0,none⟩=some (.slice none 0 0):=by rw[← hW2];clear hW2;go_simp
 have fb0:w2.frozen? ⟨w.heap.size+1,0,none⟩=false:=by rw[← hW2];clear hW2;go_simp
 have o0:w2.cell? ⟨w1.heap.size,0,none⟩=some (.slice B1 fs.length d1):=by rw[← hW2];clear hW2;go_simp
 have fo0:w2.frozen? ⟨w1.heap.size,0,none⟩=false:=by rw[← hW2];clear hW2;go_simp
 have HO2:=zh (show Own cField 114 (w.heap.size+2) w2 (.slice B1 fs.length d1) fs [] by rw[← hW2];exact HO1.out.bel (ZM (Below.refl _ _) _))
 have hw01:w.heap.size+1<w1.heap.size:=by omega
 obtain⟨ob,hob⟩:∃ob,w1.heap.size=ob:=⟨_,rfl⟩
 have hz1w:w1.heap.size=ob:=hob
 rw[hob] at o0 fo0 HLOW hz2s hw01⊢
 have hob2:ob<w2.heap.size:=by omega
 clear hW2 hc_w1 hf_w1 hb1 hz_w1 ha0_w1 ha1_w1 hb_w1 hbw1 HO1 hob hz1w
 go_cut [9] from 9 to 9 (λv wq=>v=.int .i64 0∧w2=wq)
 case first =>
  go_wp2_with fail
  go_meet
  case rel=>exact⟨rfl,rfl⟩
 obtain⟨rfl,rfl⟩:=hcut
 apply_assumption
 refine wp_seq_k (λK hK=>?_)
 go_cut [9] from 12 to 28 (λv wq=>v=.int .i64 (Zaw name fs)∧w2=wq)
 case first =>
  go_wp2_with fail
  go_loop [9] (λi=>∃k:Nat,k≤fs.length∧i=.int .i64 k∧Zdd name fs k=true) (λi=>fs.length-(intOf i).toNat)
  case atStart=>exact⟨0,Nat.zero_le _,rfl,Zgw _ _⟩
  case round =>
   obtain⟨k,hk,rfl,hno⟩:=hrel
   have HNO:=zh hno
   clear hno
   by_cases hlt:k<fs.length
   ·obtain⟨g,o,rfl,hgF,hgw,-,q0,q1⟩:=ZbS (zb h hbw2) hlt
    have hki:(k:Int)<(fs.length:Int):=by omega
    cases hls:Op.bytesLess fs[k].name.toList name.toList
    ·have HS:=zh (ZeY hlt HNO.out hls)
     go_wp2_with fail
     go_meet
     case rel=>exact⟨by rw[HS.out],rfl⟩
    ·have HS:=zh (Zgv hlt HNO.out hls)
     go_wp2_with fail
     go_round
     case rel=>exact⟨k+1,by omega,by go_num,HS.out⟩
     case measure=>simp[intOf];omega
   ·obtain rfl:k=fs.length:=by omega
    have HS:=zh (ZfT HNO.out)
    go_wp2_with fail
    go_meet
    case rel=>exact⟨by rw[HS.out],rfl⟩
 case rest =>
  obtain⟨rfl,rfl⟩:=hcut
  have hkl:=Zhz name fs
  obtain⟨k,hat⟩:∃k,Zaw name fs=k:=⟨_,rfl⟩
  rw[hat] at hkl⊢
  have hdec:(∃hk:k<fs.length,Zaz fs[k].name name=true)∨(∀hk:k<fs.length,Zaz fs[k].name name=false):=by
   by_cases hk:k<fs.length
   ·cases he:Zaz fs[k].name name
    ·exact .inr (λ_=>he)
    ·exact .inl ⟨hk,he⟩
   ·exact .inr (λh9=>absurd h9 hk)
  go_upto_region 5 with (fail)
  rcases hdec with ⟨hk,he9⟩|hne9
  ·go_cut [43] from 29 to 42 (λv wq=>v=.bool true∧w2=wq)
   case first =>
    obtain⟨g,o,rfl,hgF,hgw,-,q0,q1⟩:=ZbS (zb h hbw2) hk
    have hki0:(k:Int)<(fs.length:Int):=by omega
    have hen:(fs[k].name.toList==name.toList)=true:=he9
    go_wp2_with fail
    go_meet
    case rel=>exact⟨rfl,rfl⟩
   obtain⟨rfl,rfl⟩:=hcut
   have HSET:=zh (Zot (n:=n) hk hat he9)
   clear hat
   obtain⟨g,F1,Fm,F2,ws,hA9,-,hnc,hBg,hgw,hgo,hFi,hrj,hcj,hfj,hput⟩:=HO2.out.put1 (by decide) hk 1 (by decide) (.int .i64 n)
   subst hA9
   obtain⟨rfl,rfl,hokk⟩:=TField.out hrj
   have g1:w2.cell? ⟨g,k*2+1,none⟩=some (.int .i64 fs[k].n):=hcj 1 (by decide)
   have gf1:=hfj (k*2+1)
   have hown:Own cField 114 (w.heap.size+2) (w2.setCell ⟨g,k*2+1,none⟩ (.int .i64 n)) (.slice (some ⟨g,0,none⟩) fs.length d1) (fs.set k ⟨fs[k].name,n⟩) []:=by
    have h9:=hput ⟨fs[k].name,n⟩ [] (by simp) (TField.mk_ (x:=⟨fs[k].name,n⟩) ⟨hokk.h0,hn⟩)
    have h7:F1=[]∧F2=[]:=⟨(List.append_eq_nil_iff.1 hFi.symm).1,(List.append_eq_nil_iff.1 (List.append_eq_nil_iff.1 hFi.symm).2).2⟩
    rw[h7.1,h7.2] at h9
    exact h9
   have hgob:¬g=ob:=by have h9:=HLOW.out g hgo;omega
   have hg1:¬g=w.heap.size+1:=by omega
   have hg0:¬g=w.heap.size:=by omega
   clear hcj hfj hput hFi hrj hnc
   have hki:(k:Int)<(fs.length:Int):=by omega
   go_wp2_with fail
   have HOW:=zh hown
   have x0:(w2.setCell ⟨g,k*2+1,none⟩ (.int .i64 n)).cell? ⟨w.heap.size,0,none⟩=some (.slice A fs.length cp):=by go_simp
   have x1:(w2.setCell ⟨g,k*2+1,none⟩ (.int .i64 n)).cell? ⟨w.heap.size+1,0,none⟩=some (.slice none 0 0):=by go_simp
   have x2:(w2.setCell ⟨g,k*2+1,none⟩ (.int .i64 n)).frozen? ⟨w.heap.size+1,0,none⟩=false:=by go_simp
   have x3:(w2.setCell ⟨g,k*2+1,none⟩ (.int .i64 n)).cell? ⟨ob,0,none⟩=some (.slice (some ⟨g,0,none⟩) fs.length d1):=by go_simp
   have hbw10:Below w.heap.size w (w2.setCell ⟨g,k*2+1,none⟩ (.int .i64 n)):=ZeZ hbw2 (by (try simp);(try omega)) _
   have hzs:(w2.setCell ⟨g,k*2+1,none⟩ (.int .i64 n)).heap.size=w2.heap.size:=by simp
   clear hown a0 b0 fb0 o0 fo0 g1 gf1
   generalize w2.setCell ⟨g,k*2+1,none⟩ (.int .i64 n)=w10 at *
   obtain⟨FO,hrO,hfO,-⟩:=HOW.out.fresh (hw:=by decide) (hw2:=by decide)
   have HRO:=zh (show cFieldS.rep w10 [.slice (some ⟨g,0,none⟩) fs.length d1] (fs.set k ⟨fs[k].name,n⟩) FO∧(∀b,b∈FO→w.heap.size+2≤b)∧Fresh w.heap.size FO from ⟨hrO,λb hb=>hfO.1 b hb,hfO.mono (by omega)⟩)
   generalize hgs_:fs.set k ⟨fs[k].name,n⟩=gs at *
   have hz1a:w.heap.size<w10.heap.size:=by omega
   have hz1b:w.heap.size+1<w10.heap.size:=by omega
   have hz1c:ob<w10.heap.size:=by omega
   have hobn:¬ob=w.heap.size+1:=by omega
   clear hrO hfO HOW hzs hz2s
   go_wp2_with fail
   refine(Zo _ fs F _ (by exact zb h)).mono ?_
   cases e1:Ze ⟨fs⟩
   ·have HE:=zh (Zip (name:=name) (n:=n) e1)
    rintro e w11 ⟨rfl,hb11⟩
    obtain⟨hc_w11,hf_w11,hz_w11⟩:=Zc hb11
    try simp at hz_w11
    obtain⟨ha0_w11,ha1_w11⟩:=zg2 w.heap.size w11.heap.size
    have ha2_w11:ob<w11.heap.size:=by omega
    have hb_w11:=zt (w:=w) hb11
    go_wp2_with fail
    refine(Zai _ fs F _ (by exact zb h) (by omega)).mono ?_
    rintro e w12 ⟨v12,rfl,hb12,ho12⟩
    obtain⟨B12,d12,e9⟩:=ho12.slice
    subst e9
    obtain⟨hc_w12,hf_w12,hz_w12⟩:=Zc hb12
    try simp at hz_w12
    obtain⟨ha0_w12,ha1_w12⟩:=zg2 w.heap.size w12.heap.size
    have ha2_w12:ob<w12.heap.size:=by omega
    have hb_w12:=zt (w:=w) hb12
    have ho13:=(ho12.set_ (p:=⟨w.heap.size+1,0,none⟩) (λe9=>by have h9:=(ho12.lt _ e9).1;(try simp at h9);(try omega)) (.slice B12 fs.length d12)).mono (show w.heap.size≤_ by (try simp);(try omega))
    obtain⟨F13,hr13,hf13,-⟩:=ho13.fresh (hw:=by decide) (hw2:=by decide)
    have H13:=zh (And.intro hr13 hf13)
    clear ho12 ho13 hr13 hf13
    go_wp2_with fail
    refine bodyPost_ret (v:=.tuple #[.agg #[.slice B12 fs.length d12],.bool false]) (by simp[results,Tryz.results171,go_sem, *]) rfl ?_
    rw[HE.out]
    exact⟨_,F13,rfl,bl,TRec.mk_ trivial H13.out.1,H13.out.2⟩
   ·rintro e w11 ⟨rfl,hb11⟩
    obtain⟨hc_w11,hf_w11,hz_w11⟩:=Zc hb11
    try simp at hz_w11
    obtain⟨ha0_w11,ha1_w11⟩:=zg2 w.heap.size w11.heap.size
    have ha2_w11:ob<w11.heap.size:=by omega
    have hb_w11:=zt (w:=w) hb11
    go_wp2_with fail
    refine(Zo _ gs _ _ (by exact zb HRO.out.1)).mono ?_
    cases e2:Ze ⟨gs⟩
    ·have HE:=zh (Ziq HSET.out e2)
     rintro e w12 ⟨rfl,hb12⟩
     obtain⟨hc_w12,hf_w12,hz_w12⟩:=Zc hb12
     try simp at hz_w12
     obtain⟨ha0_w12,ha1_w12⟩:=zg2 w.heap.size w12.heap.size
     have ha2_w12:ob<w12.heap.size:=by omega
     have hb_w12:=zt (w:=w) hb12
     go_wp2_with fail
     refine(Zai _ fs F _ (by exact zb h) (by omega)).mono ?_
     rintro e w13 ⟨v13,rfl,hb13,ho13⟩
     obtain⟨B13,d13,e9⟩:=ho13.slice
     subst e9
     obtain⟨hc_w13,hf_w13,hz_w13⟩:=Zc hb13
     try simp at hz_w13
     obtain⟨ha0_w13,ha1_w13⟩:=zg2 w.heap.size w13.heap.size
     have ha2_w13:ob<w13.heap.size:=by omega
     have hb_w13:=zt (w:=w) hb13
     have ho14:=(ho13.set_ (p:=⟨w.heap.size+1,0,none⟩) (λe9=>by have h9:=(ho13.lt _ e9).1;(try simp at h9);(try omega)) (.slice B13 fs.length d13)).mono (show w.heap.size≤_ by (try simp);(try omega))
     obtain⟨F14,hr14,hf14,-⟩:=ho14.fresh (hw:=by decide) (hw2:=by decide)
     have H14:=zh (And.intro hr14 hf14)
     clear ho13 ho14 hr14 hf14
     go_wp2_with fail
     refine bodyPost_ret (v:=.tuple #[.agg #[.slice B13 fs.length d13],.bool false]) (by simp[results,Tryz.results171,go_sem, *]) rfl ?_
     rw[HE.out]
     exact⟨_,F14,rfl,bl,TRec.mk_ trivial H14.out.1,H14.out.2⟩
    ·have HE:=zh (ZlO HSET.out e1 e2)
     rintro e w12 ⟨rfl,hb12⟩
     obtain⟨hc_w12,hf_w12,hz_w12⟩:=Zc hb12
     try simp at hz_w12
     obtain⟨ha0_w12,ha1_w12⟩:=zg2 w.heap.size w12.heap.size
     have ha2_w12:ob<w12.heap.size:=by omega
     have hb_w12:=zt (w:=w) hb12
     have hfin:=zb (zb HRO.out.1 hb11) hb12
     have hlow:∀b,b∈FO→w.heap.size+2≤b:=HRO.out.2.1
     go_wp2_with fail
     refine bodyPost_ret (v:=.tuple #[.agg #[.slice (some ⟨g,0,none⟩) (fs.length) d1],.bool true]) (by simp[results,Tryz.results171,go_sem, *]) rfl ?_
     rw[HE.out]
     have hfin2:cFieldS.rep w12 [.slice (some ⟨g,0,none⟩) (fs.length) d1] gs FO:=hfin
     exact⟨_,FO,rfl,bl,TRec.mk_ trivial (zks hfin2 hlow),HRO.out.2.2.mono (by omega)⟩
  ·go_cut [43] from 29 to 42 (λv wq=>v=.bool false∧w2=wq)
   case first =>
    by_cases hk:k<fs.length
    ·obtain⟨g,o,rfl,hgF,hgw,-,q0,q1⟩:=ZbS (zb h hbw2) hk
     have hki0:(k:Int)<(fs.length:Int):=by omega
     have hen:(fs[k].name.toList==name.toList)=false:=hne9 hk
     go_wp2_with fail
     go_meet
     case rel=>exact⟨rfl,rfl⟩
    ·have hkn:¬(k:Int)<(fs.length:Int):=by omega
     go_wp2_with fail
     go_meet
     case rel=>exact⟨rfl,rfl⟩
   obtain⟨rfl,rfl⟩:=hcut
   have HSET:=zh (Zov (n:=n) hat (by intro hk9;exact hne9 hk9))
   clear hat
   go_upto_region 7 with (fail)
   have hbV:Below w2.heap.size w2 w2:=Below.refl _ _
   obtain⟨GT,hT,-⟩:=Zkl h k (by omega)
   obtain⟨GD,hD,-,-⟩:=Zgx h k (by omega)
   have hsT:=AppSrc.flat (hw:=by decide) (hw2:=by decide) Zci (zb hT hbw2)
   have hsD:=AppSrc.flat (hw:=by decide) (hw2:=by decide) Zci (zb hD hbw2)
   have HSRC:=zh (And.intro hsT hsD)
   have hltT:(fs.take k).length=k:=by rw[List.length_take];omega
   have hltD:(fs.drop k).length=fs.length-k:=by rw[List.length_drop]
   have HLEN:=zh (And.intro hltT hltD)
   have hl16:(fs.take k++[(⟨name,n⟩:TField)]).length=k+1:=by rw[List.length_append,hltT];rfl
   have HL16:=zh hl16
   clear hT hD hsT hsD hltT hltD hl16
   have hki:(k:Int)≤(fs.length:Int):=by omega
   have hkc:(k:Int)≤(cp:Int):=by omega
   have hS:∀w9,Only [ob] w2 w9→Only [ob] w2 w9∧w9.cell? ⟨w.heap.size,0,none⟩=some (.slice A fs.length cp) :=
    λw9 hb=>⟨hb,(World.cell?_of_block (a:=⟨w.heap.size,0,none⟩) (hb.block w.heap.size (by omega) (by simp;omega))).trans a0⟩
   by_cases hcm:cp=k
   case pos =>
    have h9:=HSRC.out.2
    rw[if_pos hcm] at h9
    have HS2:=zh h9
    have hcm':=hcm.symm
    clear hcm h9
    subst hcm'
    go_cut [] from 50 to 66 (λwq=>∃A c,wq.cell? ⟨ob,0,none⟩=some (.slice A (fs.length+1) c)∧Own cField 114 w2.heap.size wq (.slice A (fs.length+1) c) (fs.take k++⟨name,n⟩::fs.drop k) []∧Only [ob] w2 wq)
    case first =>
     go_region_held3 (λw9=>Only [ob] w2 w9∧w9.cell? ⟨w.heap.size,0,none⟩=some (.slice A fs.length k)) (exact hS _ (by repeat (first|with_reducible exact Only.refl _ _|with_reducible assumption|with_reducible refine Only.alloc ?_ _|with_reducible refine Only.drew ?_|with_reducible refine Only.drewN ?_ _|(with_reducible refine Only.set_ ?_ (by simp) _))))
      (first
       | (
        refine ZcA (c:=cField) (B:=w2.heap.size) (xs:=[]) (ys:=fs.take k) (Fi:=[]) (Fy:=[]) _ rfl _ _ _ rfl i0 _ _ Tryz.underlying74 hi0 hz0 hz1 hz2 rfl (by decide) (v:=.slice (some _) 0 0) rfl (Own.empty _) _ rfl (AppSrc.bel HSRC.out.1 (by exact bl)) (by rw[HLEN.out.1];unfold maxLen;simp;omega) (by rw[HLEN.out.1];simp;omega) (by (try simp);(try omega)) (by simp[Zac]) ?_
        intro v8 w8 ho8 hg8 hat8
        replace ho8:Own cField 114 w2.heap.size w8 v8 (fs.take k) []:=ho8
        obtain⟨B8,c8,e8⟩:=ho8.slice
        rw[HLEN.out.1] at e8
        subst e8
        have hb8:=(Below.refl _ _).grown hg8 (Nat.le_refl _) (by simp[Zac])
        have hV8:=zt (w:=w2) hb8
        obtain⟨hc8,hf8,hz8⟩:=Zc hb8
        (try simp at hz8)
        have HO8:=zh ho8
        have hN8:Only [ob] w2 w8:=Only.of_below hV8
        clear hat8 hg8 ho8)
       | (
        refine ZcA (c:=cField) (B:=w2.heap.size) (xs:=fs.take k) (ys:=[(⟨name,n⟩:TField)]) (Fi:=[]) (Fy:=[]) _ rfl _ _ _ rfl i0 _ _ Tryz.underlying74 hi0 hz0 hz1 hz2 rfl (by decide) rfl (HO8.out.bel (by exact bl)) (.slice (some ⟨_,0,none⟩) 1 1) rfl (Zeu (vs:=[.string name,.int .i64 n]) (TField.mk_ (x:=⟨name,n⟩) ⟨hs,hn⟩) (λj u hu=>by
         match j,hu with
         | 0,hu=>(simp at hu;subst hu;go_simp)
         | 1,hu=>(simp at hu;subst hu;go_simp)
         | j+2,hu=>simp at hu)) (by rw[HLEN.out.1];unfold maxLen;simp;omega) (by rw[HLEN.out.1];simp;omega) (by (try simp);(try omega)) (by simp) ?_
        intro v10 w10 ho10 hg10 hat10
        replace ho10:Own cField 114 w2.heap.size w10 v10 (fs.take k++[(⟨name,n⟩:TField)]) []:=ho10
        obtain⟨B10,c10,e10⟩:=ho10.slice
        rw[HL16.out] at e10
        subst e10
        have hV10:Below w2.heap.size w2 w10:=(show Below w2.heap.size w2 _ from bl).grown hg10 (by (try simp);(try omega)) (λg hg=>(HO8.out.lt g hg).1)
        have hz10:=hV10.size
        have HO10:=zh ho10
        have hN10:Only [ob] w2 w10:=Only.of_below hV10
        clear hat10 hg10 ho10)
       | (
        refine ZcA (c:=cField) (B:=w2.heap.size) (xs:=fs.take k++[(⟨name,n⟩:TField)]) (ys:=fs.drop k) (Fi:=[]) (Fy:=[]) _ rfl _ _ _ rfl i0 _ _ Tryz.underlying74 hi0 hz0 hz1 hz2 rfl (by decide) rfl (HO10.out.bel (by exact bl)) _ rfl (by first|exact AppSrc.bel HS2.out bl|(have h9:=HS2.out;(simp only[Nat.sub_self] at h9);exact AppSrc.bel h9 bl)|(have h9:=HS2.out;(simp only[Nat.sub_self,Nat.sub_eq_zero_of_le hcp] at h9);exact AppSrc.bel h9 bl)) (by rw[HL16.out,HLEN.out.2];unfold maxLen;omega) (by rw[HL16.out,HLEN.out.2];omega) (by (try simp);(try omega)) (by simp) ?_
        intro v11 w11 ho11 hg11 hat11
        replace ho11:Own cField 114 w2.heap.size w11 v11 ((fs.take k++[(⟨name,n⟩:TField)])++fs.drop k) []:=ho11
        have hl17:((fs.take k++[(⟨name,n⟩:TField)])++fs.drop k).length=fs.length+1:=(by rw[List.length_append,HL16.out,HLEN.out.2];omega)
        obtain⟨B11,c11,e11⟩:=ho11.slice
        rw[hl17] at e11
        subst e11
        have hV11:Below w2.heap.size w2 w11:=(show Below w2.heap.size w2 _ from bl).grown hg11 (by (try simp);(try omega)) (λg hg=>(HO10.out.lt g hg).1)
        have hO11:=zcl hV11 o0
        have hF11:=zcf hV11 fo0
        have hobz:ob<w11.heap.size:=Nat.lt_of_lt_of_le hob2 hV11.size
        rw[List.append_assoc,List.singleton_append] at ho11
        have HO11:=zh ho11
        have hN11:Only [ob] w2 w11:=Only.of_below hV11
        clear hat11 hg11 ho11 hl17))
     all_goals
      go_wp2_with fail
      go_meet
     all_goals try (case rel=>exact⟨B11,c11,by go_simp,HO11.out.set_ (p:=⟨ob,0,none⟩) (λe9=>by have h9:=(HO11.out.lt _ e9).1;(try simp at h9);omega) _,(Only.of_below hV11).set_ (by simp) _⟩)
    case rest =>
     obtain⟨B11,c11,hO1,hown,hon⟩:=hcut
     generalize wc=w10 at *
     have q0:=(World.cell?_of_block (a:=⟨w.heap.size,0,none⟩) (hon.block w.heap.size (by omega) (by simp;omega))).trans a0
     have r0:=(World.cell?_of_block (a:=⟨w.heap.size+1,0,none⟩) (hon.block (w.heap.size+1) (by omega) (by simp;omega))).trans b0
     have fr0:=(World.frozen?_of_block (a:=⟨w.heap.size+1,0,none⟩) (hon.block (w.heap.size+1) (by omega) (by simp;omega))).trans fb0
     have hz10:=hon.size
     have hbw10:Below w.heap.size w w10:=hbw2.trans ((hon.bel w.heap.size (by omega) (λy hy=>by simp at hy;omega)).mono (Nat.le_refl _))
     obtain⟨FO,hrO,hfO,-⟩:=hown.fresh (hw:=by decide) (hw2:=by decide)
     have HRO:=zh (show cFieldS.rep w10 [.slice B11 (fs.length+1) c11] (fs.take k++⟨name,n⟩::fs.drop k) FO∧(∀b,b∈FO→w.heap.size+2≤b)∧Fresh w.heap.size FO from ⟨hrO,λb hb=>by have h9:=hfO.1 b hb;omega,hfO.mono (by omega)⟩)
     generalize hgs_:fs.take k++(⟨name,n⟩:TField)::fs.drop k=gs at *
     have hz1a:w.heap.size<w10.heap.size:=by omega
     have hz1b:w.heap.size+1<w10.heap.size:=by omega
     have hz1c:ob<w10.heap.size:=by omega
     have hobn:¬ob=w.heap.size+1:=by omega
     clear hown hrO hfO a0 b0 fb0 o0 fo0 hS HSRC HLEN HL16
     go_wp2_with fail
     refine(Zo _ fs F _ (by exact zb h)).mono ?_
     cases e1:Ze ⟨fs⟩
     ·have HE:=zh (Zip (name:=name) (n:=n) e1)
      rintro e w11 ⟨rfl,hb11⟩
      obtain⟨hc_w11,hf_w11,hz_w11⟩:=Zc hb11
      try simp at hz_w11
      obtain⟨ha0_w11,ha1_w11⟩:=zg2 w.heap.size w11.heap.size
      have ha2_w11:ob<w11.heap.size:=by omega
      have hb_w11:=zt (w:=w) hb11
      go_wp2_with fail
      refine(Zai _ fs F _ (by exact zb h) (by omega)).mono ?_
      rintro e w12 ⟨v12,rfl,hb12,ho12⟩
      obtain⟨B12,d12,e9⟩:=ho12.slice
      subst e9
      obtain⟨hc_w12,hf_w12,hz_w12⟩:=Zc hb12
      try simp at hz_w12
      obtain⟨ha0_w12,ha1_w12⟩:=zg2 w.heap.size w12.heap.size
      have ha2_w12:ob<w12.heap.size:=by omega
      have hb_w12:=zt (w:=w) hb12
      have ho13:=(ho12.set_ (p:=⟨w.heap.size+1,0,none⟩) (λe9=>by have h9:=(ho12.lt _ e9).1;(try simp at h9);(try omega)) (.slice B12 fs.length d12)).mono (show w.heap.size≤_ by (try simp);(try omega))
      obtain⟨F13,hr13,hf13,-⟩:=ho13.fresh (hw:=by decide) (hw2:=by decide)
      have H13:=zh (And.intro hr13 hf13)
      clear ho12 ho13 hr13 hf13
      go_wp2_with fail
      refine bodyPost_ret (v:=.tuple #[.agg #[.slice B12 fs.length d12],.bool false]) (by simp[results,Tryz.results171,go_sem, *]) rfl ?_
      rw[HE.out]
      exact⟨_,F13,rfl,bl,TRec.mk_ trivial H13.out.1,H13.out.2⟩
     ·rintro e w11 ⟨rfl,hb11⟩
      obtain⟨hc_w11,hf_w11,hz_w11⟩:=Zc hb11
      try simp at hz_w11
      obtain⟨ha0_w11,ha1_w11⟩:=zg2 w.heap.size w11.heap.size
      have ha2_w11:ob<w11.heap.size:=by omega
      have hb_w11:=zt (w:=w) hb11
      go_wp2_with fail
      refine(Zo _ gs _ _ (by exact zb HRO.out.1)).mono ?_
      cases e2:Ze ⟨gs⟩
      ·have HE:=zh (Ziq HSET.out e2)
       rintro e w12 ⟨rfl,hb12⟩
       obtain⟨hc_w12,hf_w12,hz_w12⟩:=Zc hb12
       try simp at hz_w12
       obtain⟨ha0_w12,ha1_w12⟩:=zg2 w.heap.size w12.heap.size
       have ha2_w12:ob<w12.heap.size:=by omega
       have hb_w12:=zt (w:=w) hb12
       go_wp2_with fail
       refine(Zai _ fs F _ (by exact zb h) (by omega)).mono ?_
       rintro e w13 ⟨v13,rfl,hb13,ho13⟩
       obtain⟨B13,d13,e9⟩:=ho13.slice
       subst e9
       obtain⟨hc_w13,hf_w13,hz_w13⟩:=Zc hb13
       try simp at hz_w13
       obtain⟨ha0_w13,ha1_w13⟩:=zg2 w.heap.size w13.heap.size
       have ha2_w13:ob<w13.heap.size:=by omega
       have hb_w13:=zt (w:=w) hb13
       have ho14:=(ho13.set_ (p:=⟨w.heap.size+1,0,none⟩) (λe9=>by have h9:=(ho13.lt _ e9).1;(try simp at h9);(try omega)) (.slice B13 fs.length d13)).mono (show w.heap.size≤_ by (try simp);(try omega))
       obtain⟨F14,hr14,hf14,-⟩:=ho14.fresh (hw:=by decide) (hw2:=by decide)
       have H14:=zh (And.intro hr14 hf14)
       clear ho13 ho14 hr14 hf14
       go_wp2_with fail
       refine bodyPost_ret (v:=.tuple #[.agg #[.slice B13 fs.length d13],.bool false]) (by simp[results,Tryz.results171,go_sem, *]) rfl ?_
       rw[HE.out]
       exact⟨_,F14,rfl,bl,TRec.mk_ trivial H14.out.1,H14.out.2⟩
      ·have HE:=zh (ZlO HSET.out e1 e2)
       rintro e w12 ⟨rfl,hb12⟩
       obtain⟨hc_w12,hf_w12,hz_w12⟩:=Zc hb12
       try simp at hz_w12
       obtain⟨ha0_w12,ha1_w12⟩:=zg2 w.heap.size w12.heap.size
       have ha2_w12:ob<w12.heap.size:=by omega
       have hb_w12:=zt (w:=w) hb12
       have hfin:=zb (zb HRO.out.1 hb11) hb12
       have hlow:∀b,b∈FO→w.heap.size+2≤b:=HRO.out.2.1
       go_wp2_with fail
       refine bodyPost_ret (v:=.tuple #[.agg #[.slice B11 (fs.length+1) c11],.bool true]) (by simp[results,Tryz.results171,go_sem, *]) rfl ?_
       rw[HE.out]
       have hfin2:cFieldS.rep w12 [.slice B11 (fs.length+1) c11] gs FO:=hfin
       exact⟨_,FO,rfl,bl,TRec.mk_ trivial (zks hfin2 hlow),HRO.out.2.2.mono (by omega)⟩
   case neg =>
    have h9:=HSRC.out.2
    rw[if_neg hcm] at h9
    have HS2:=zh h9
    clear h9
    go_cut [] from 50 to 66 (λwq=>∃A c,wq.cell? ⟨ob,0,none⟩=some (.slice A (fs.length+1) c)∧Own cField 114 w2.heap.size wq (.slice A (fs.length+1) c) (fs.take k++⟨name,n⟩::fs.drop k) []∧Only [ob] w2 wq)
    case first =>
     go_region_held3 (λw9=>Only [ob] w2 w9∧w9.cell? ⟨w.heap.size,0,none⟩=some (.slice A fs.length cp)) (exact hS _ (by repeat (first|with_reducible exact Only.refl _ _|with_reducible assumption|with_reducible refine Only.alloc ?_ _|with_reducible refine Only.drew ?_|with_reducible refine Only.drewN ?_ _|(with_reducible refine Only.set_ ?_ (by simp) _))))
      (first
       | (
        refine ZcA (c:=cField) (B:=w2.heap.size) (xs:=[]) (ys:=fs.take k) (Fi:=[]) (Fy:=[]) _ rfl _ _ _ rfl i0 _ _ Tryz.underlying74 hi0 hz0 hz1 hz2 rfl (by decide) (v:=.slice (some _) 0 0) rfl (Own.empty _) _ rfl (AppSrc.bel HSRC.out.1 (by exact bl)) (by rw[HLEN.out.1];unfold maxLen;simp;omega) (by rw[HLEN.out.1];simp;omega) (by (try simp);(try omega)) (by simp[Zac]) ?_
        intro v8 w8 ho8 hg8 hat8
        replace ho8:Own cField 114 w2.heap.size w8 v8 (fs.take k) []:=ho8
        obtain⟨B8,c8,e8⟩:=ho8.slice
        rw[HLEN.out.1] at e8
        subst e8
        have hb8:=(Below.refl _ _).grown hg8 (Nat.le_refl _) (by simp[Zac])
        have hV8:=zt (w:=w2) hb8
        obtain⟨hc8,hf8,hz8⟩:=Zc hb8
        (try simp at hz8)
        have HO8:=zh ho8
        have hN8:Only [ob] w2 w8:=Only.of_below hV8
        clear hat8 hg8 ho8)
       | (
        refine ZcA (c:=cField) (B:=w2.heap.size) (xs:=fs.take k) (ys:=[(⟨name,n⟩:TField)]) (Fi:=[]) (Fy:=[]) _ rfl _ _ _ rfl i0 _ _ Tryz.underlying74 hi0 hz0 hz1 hz2 rfl (by decide) rfl (HO8.out.bel (by exact bl)) (.slice (some ⟨_,0,none⟩) 1 1) rfl (Zeu (vs:=[.string name,.int .i64 n]) (TField.mk_ (x:=⟨name,n⟩) ⟨hs,hn⟩) (λj u hu=>by
         match j,hu with
         | 0,hu=>(simp at hu;subst hu;go_simp)
         | 1,hu=>(simp at hu;subst hu;go_simp)
         | j+2,hu=>simp at hu)) (by rw[HLEN.out.1];unfold maxLen;simp;omega) (by rw[HLEN.out.1];simp;omega) (by (try simp);(try omega)) (by simp) ?_
        intro v10 w10 ho10 hg10 hat10
        replace ho10:Own cField 114 w2.heap.size w10 v10 (fs.take k++[(⟨name,n⟩:TField)]) []:=ho10
        obtain⟨B10,c10,e10⟩:=ho10.slice
        rw[HL16.out] at e10
        subst e10
        have hV10:Below w2.heap.size w2 w10:=(show Below w2.heap.size w2 _ from bl).grown hg10 (by (try simp);(try omega)) (λg hg=>(HO8.out.lt g hg).1)
        have hz10:=hV10.size
        have HO10:=zh ho10
        have hN10:Only [ob] w2 w10:=Only.of_below hV10
        clear hat10 hg10 ho10)
       | (
        refine ZcA (c:=cField) (B:=w2.heap.size) (xs:=fs.take k++[(⟨name,n⟩:TField)]) (ys:=fs.drop k) (Fi:=[]) (Fy:=[]) _ rfl _ _ _ rfl i0 _ _ Tryz.underlying74 hi0 hz0 hz1 hz2 rfl (by decide) rfl (HO10.out.bel (by exact bl)) _ rfl (by first|exact AppSrc.bel HS2.out bl|(have h9:=HS2.out;(simp only[Nat.sub_self] at h9);exact AppSrc.bel h9 bl)|(have h9:=HS2.out;(simp only[Nat.sub_self,Nat.sub_eq_zero_of_le hcp] at h9);exact AppSrc.bel h9 bl)) (by rw[HL16.out,HLEN.out.2];unfold maxLen;omega) (by rw[HL16.out,HLEN.out.2];omega) (by (try simp);(try omega)) (by simp) ?_
        intro v11 w11 ho11 hg11 hat11
        replace ho11:Own cField 114 w2.heap.size w11 v11 ((fs.take k++[(⟨name,n⟩:TField)])++fs.drop k) []:=ho11
        have hl17:((fs.take k++[(⟨name,n⟩:TField)])++fs.drop k).length=fs.length+1:=(by rw[List.length_append,HL16.out,HLEN.out.2];omega)
        obtain⟨B11,c11,e11⟩:=ho11.slice
        rw[hl17] at e11
        subst e11
        have hV11:Below w2.heap.size w2 w11:=(show Below w2.heap.size w2 _ from bl).grown hg11 (by (try simp);(try omega)) (λg hg=>(HO10.out.lt g hg).1)
        have hO11:=zcl hV11 o0
        have hF11:=zcf hV11 fo0
        have hobz:ob<w11.heap.size:=Nat.lt_of_lt_of_le hob2 hV11.size
        rw[List.append_assoc,List.singleton_append] at ho11
        have HO11:=zh ho11
        have hN11:Only [ob] w2 w11:=Only.of_below hV11
        clear hat11 hg11 ho11 hl17))
     all_goals
      go_wp2_with fail
      go_meet
     all_goals try (case rel=>exact⟨B11,c11,by go_simp,HO11.out.set_ (p:=⟨ob,0,none⟩) (λe9=>by have h9:=(HO11.out.lt _ e9).1;(try simp at h9);omega) _,(Only.of_below hV11).set_ (by simp) _⟩)
    case rest =>
     obtain⟨B11,c11,hO1,hown,hon⟩:=hcut
     generalize wc=w10 at *
     have q0:=(World.cell?_of_block (a:=⟨w.heap.size,0,none⟩) (hon.block w.heap.size (by omega) (by simp;omega))).trans a0
     have r0:=(World.cell?_of_block (a:=⟨w.heap.size+1,0,none⟩) (hon.block (w.heap.size+1) (by omega) (by simp;omega))).trans b0
     have fr0:=(World.frozen?_of_block (a:=⟨w.heap.size+1,0,none⟩) (hon.block (w.heap.size+1) (by omega) (by simp;omega))).trans fb0
     have hz10:=hon.size
     have hbw10:Below w.heap.size w w10:=hbw2.trans ((hon.bel w.heap.size (by omega) (λy hy=>by simp at hy;omega)).mono (Nat.le_refl _))
     obtain⟨FO,hrO,hfO,-⟩:=hown.fresh (hw:=by decide) (hw2:=by decide)
     have HRO:=zh (show cFieldS.rep w10 [.slice B11 (fs.length+1) c11] (fs.take k++⟨name,n⟩::fs.drop k) FO∧(∀b,b∈FO→w.heap.size+2≤b)∧Fresh w.heap.size FO from ⟨hrO,λb hb=>by have h9:=hfO.1 b hb;omega,hfO.mono (by omega)⟩)
     generalize hgs_:fs.take k++(⟨name,n⟩:TField)::fs.drop k=gs at *
     have hz1a:w.heap.size<w10.heap.size:=by omega
     have hz1b:w.heap.size+1<w10.heap.size:=by omega
     have hz1c:ob<w10.heap.size:=by omega
     have hobn:¬ob=w.heap.size+1:=by omega
     clear hown hrO hfO a0 b0 fb0 o0 fo0 hS HSRC HLEN HL16
     go_wp2_with fail
     refine(Zo _ fs F _ (by exact zb h)).mono ?_
     cases e1:Ze ⟨fs⟩
     ·have HE:=zh (Zip (name:=name) (n:=n) e1)
      rintro e w11 ⟨rfl,hb11⟩
      obtain⟨hc_w11,hf_w11,hz_w11⟩:=Zc hb11
      try simp at hz_w11
      obtain⟨ha0_w11,ha1_w11⟩:=zg2 w.heap.size w11.heap.size
      have ha2_w11:ob<w11.heap.size:=by omega
      have hb_w11:=zt (w:=w) hb11
      go_wp2_with fail
      refine(Zai _ fs F _ (by exact zb h) (by omega)).mono ?_
      rintro e w12 ⟨v12,rfl,hb12,ho12⟩
      obtain⟨B12,d12,e9⟩:=ho12.slice
      subst e9
      obtain⟨hc_w12,hf_w12,hz_w12⟩:=Zc hb12
      try simp at hz_w12
      obtain⟨ha0_w12,ha1_w12⟩:=zg2 w.heap.size w12.heap.size
      have ha2_w12:ob<w12.heap.size:=by omega
      have hb_w12:=zt (w:=w) hb12
      have ho13:=(ho12.set_ (p:=⟨w.heap.size+1,0,none⟩) (λe9=>by have h9:=(ho12.lt _ e9).1;(try simp at h9);(try omega)) (.slice B12 fs.length d12)).mono (show w.heap.size≤_ by (try simp);(try omega))
      obtain⟨F13,hr13,hf13,-⟩:=ho13.fresh (hw:=by decide) (hw2:=by decide)
      have H13:=zh (And.intro hr13 hf13)
      clear ho12 ho13 hr13 hf13
      go_wp2_with fail
      refine bodyPost_ret (v:=.tuple #[.agg #[.slice B12 fs.length d12],.bool false]) (by simp[results,Tryz.results171,go_sem, *]) rfl ?_
      rw[HE.out]
      exact⟨_,F13,rfl,bl,TRec.mk_ trivial H13.out.1,H13.out.2⟩
     ·rintro e w11 ⟨rfl,hb11⟩
      obtain⟨hc_w11,hf_w11,hz_w11⟩:=Zc hb11
      try simp at hz_w11
      obtain⟨ha0_w11,ha1_w11⟩:=zg2 w.heap.size w11.heap.size
      have ha2_w11:ob<w11.heap.size:=by omega
      have hb_w11:=zt (w:=w) hb11
      go_wp2_with fail
      refine(Zo _ gs _ _ (by exact zb HRO.out.1)).mono ?_
      cases e2:Ze ⟨gs⟩
      ·have HE:=zh (Ziq HSET.out e2)
       rintro e w12 ⟨rfl,hb12⟩
       obtain⟨hc_w12,hf_w12,hz_w12⟩:=Zc hb12
       try simp at hz_w12
       obtain⟨ha0_w12,ha1_w12⟩:=zg2 w.heap.size w12.heap.size
       have ha2_w12:ob<w12.heap.size:=by omega
       have hb_w12:=zt (w:=w) hb12
       go_wp2_with fail
       refine(Zai _ fs F _ (by exact zb h) (by omega)).mono ?_
       rintro e w13 ⟨v13,rfl,hb13,ho13⟩
       obtain⟨B13,d13,e9⟩:=ho13.slice
       subst e9
       obtain⟨hc_w13,hf_w13,hz_w13⟩:=Zc hb13
       try simp at hz_w13
       obtain⟨ha0_w13,ha1_w13⟩:=zg2 w.heap.size w13.heap.size
       have ha2_w13:ob<w13.heap.size:=by omega
       have hb_w13:=zt (w:=w) hb13
       have ho14:=(ho13.set_ (p:=⟨w.heap.size+1,0,none⟩) (λe9=>by have h9:=(ho13.lt _ e9).1;(try simp at h9);(try omega)) (.slice B13 fs.length d13)).mono (show w.heap.size≤_ by (try simp);(try omega))
       obtain⟨F14,hr14,hf14,-⟩:=ho14.fresh (hw:=by decide) (hw2:=by decide)
       have H14:=zh (And.intro hr14 hf14)
       clear ho13 ho14 hr14 hf14
       go_wp2_with fail
       refine bodyPost_ret (v:=.tuple #[.agg #[.slice B13 fs.length d13],.bool false]) (by simp[results,Tryz.results171,go_sem, *]) rfl ?_
       rw[HE.out]
       exact⟨_,F14,rfl,bl,TRec.mk_ trivial H14.out.1,H14.out.2⟩
      ·have HE:=zh (ZlO HSET.out e1 e2)
       rintro e w12 ⟨rfl,hb12⟩
       obtain⟨hc_w12,hf_w12,hz_w12⟩:=Zc hb12
       try simp at hz_w12
       obtain⟨ha0_w12,ha1_w12⟩:=zg2 w.heap.size w12.heap.size
       have ha2_w12:ob<w12.heap.size:=by omega
       have hb_w12:=zt (w:=w) hb12
       have hfin:=zb (zb HRO.out.1 hb11) hb12
       have hlow:∀b,b∈FO→w.heap.size+2≤b:=HRO.out.2.1
       go_wp2_with fail
       refine bodyPost_ret (v:=.tuple #[.agg #[.slice B11 (fs.length+1) c11],.bool true]) (by simp[results,Tryz.results171,go_sem, *]) rfl ?_
       rw[HE.out]
       have hfin2:cFieldS.rep w12 [.slice B11 (fs.length+1) c11] gs FO:=hfin
       exact⟨_,FO,rfl,bl,TRec.mk_ trivial (zks hfin2 hlow),HRO.out.2.2.mono (by omega)⟩
end Go.Proofs.YtghndifnohkokaaGreat
