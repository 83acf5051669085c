import Derived.Test.YtghndifnohkokaaGreatZLessIx
import Derived.Test.YtghndifnohkokaaGreatZGivesW
namespace Go.Proofs.YtghndifnohkokaaGreat
open Go.ChangeShapes Go.WideShapes Go.RowKit
set_option linter.unusedVariables false
set_option linter.unusedSimpArgs false
set_option maxRecDepth 100000
set_option maxHeartbeats 16000000
theorem ZhA {f:ByteArray} {out:List TItem} {x:TItem} {j:Nat} (h:j<out.length) (hl:Zdu f x out[j]=true):Zbe f out x (j+1)=Zbe f out x j:=by
 rw[Zbe,List.getElem?_eq_getElem h];simp[hl]
theorem ZhB {f:ByteArray} {out:List TItem} {x:TItem} {j:Nat} (h:j<out.length) (hl:Zdu f x out[j]=false):Zbe f out x (j+1)=j+1:=by
 rw[Zbe,List.getElem?_eq_getElem h];simp[hl]
theorem ZgJ {xs:List TItem} {f:ByteArray} {k:Nat} (h:k<xs.length) (hf:(Zk ⟨xs[k].rcd.fields⟩ f).2=false):ZaH xs f (k+1)=ZaH xs f k:=by
 rw[ZaH,List.getElem?_eq_getElem h];simp[show Zhn xs[k] f=false from hf]
theorem ZhP {xs:List TItem} {f:ByteArray} {k:Nat} (h:k<xs.length) (hf:(Zk ⟨xs[k].rcd.fields⟩ f).2=true):ZaH xs f (k+1)=(ZaH xs f k).take (Zbe f (ZaH xs f k) xs[k] (ZaH xs f k).length)++xs[k]::(ZaH xs f k).drop (Zbe f (ZaH xs f k) xs[k] (ZaH xs f k).length):=by
 rw[ZaH,List.getElem?_eq_getElem h];simp[show Zhn xs[k] f=true from hf,ZoU]
def Zpq {α:Type} (c:Cod α) (w:World) (x:α) (e:Ending) (w':World):Prop:=∃v F,e=.returned v∧Below w.heap.size w w'∧c.rep w' [v] x F∧∀a n cp,v=.slice (some a) (n+1) cp→w.heap.size≤a.block
theorem Own.above {α:Type} {c:Cod α} {e:TypeId} {B:Nat} {w:World} {v:Value} {xs:List α} {Fi:List Nat} (h:Own c e B w v xs Fi):∀a n cp,v=.slice (some a) (n+1) cp→B≤a.block:=λa n cp hv=>by
 rcases h.form with ⟨-,-,A',rfl⟩|⟨g,cap,cur,us,rfl,hB,-⟩
 ·simp at hv
 ·simp only[Value.slice.injEq,Option.some.injEq] at hv
  rw[← hv.1];exact hB
theorem ZhM (v:Value) (s:TStore) (f:ByteArray) (F:List Nat) (w:World) (h:cItemS.rep w [v] s.items F) (hsm0:ZcE s) :
  Calls Tryz.prog 152 #[.agg #[.string s.name,v,.int .i64 s.auto],.string f] w (Zpq cItemS w (ZbJ s f)):=by
 obtain⟨i0,hi0,hz0,hz1,hz2⟩:=info_parts Zds;obtain⟨A,cp,rfl⟩:=Zb h;obtain⟨-,hcp,hm⟩:=Zq h;have hnl:=hsm0.1;have HSM:=zh hsm0.2;have HTOT:=zh (show ZbJ s f=ZaH s.items f s.items.length from rfl)
 clear hsm0;obtain⟨n,hxn⟩:∃n,s.items.length=n:=⟨_,rfl⟩
 have HN:=zh hxn;rw[hxn] at hcp hnl⊢
 clear hxn
 unfold maxLen at hm
 go_enter Tryz.func152,Tryz.ntmps152
 go_wp2;generalize hW:World.alloc _ _=W
 have hWs:W.heap.size=w.heap.size+2:=by rw[← hW];clear hW;simp
 have hbW:Below w.heap.size w W:=by rw[← hW];exact bl
 have HK:=zh (show W.cell? ⟨w.heap.size,0,none⟩=some (.string s.name)∧W.cell? ⟨w.heap.size,1,none⟩=some (.slice A n cp)∧W.cell? ⟨w.heap.size,2,none⟩=some (.int .i64 s.auto) from by refine⟨?_,?_,?_⟩<;>(rw[← hW];clear hW;go_simp))
 clear hW;go_loopw [15,5] (λi out wr=>∃(k:Nat) (Fi:List Nat),k≤n∧i=.int .i64 k∧Own cItem 162 W.heap.size wr out (ZaH s.items f k) Fi∧(∀g,Zac out=some g→g∉Fi)∧Below W.heap.size W wr) (λi _ _=>n-(intOf i).toNat)
 case atStart=>exact⟨0,[],Nat.zero_le _,rfl,Own.empty _,by simp[Zac],Below.refl _ _⟩
 case round =>
  obtain⟨k,Fi,hk,rfl,hown,hne,hB⟩:=hrel;generalize wr=wo at *
  have hws_wo:w.heap.size<wo.heap.size:=by have:=hB.size;omega
  have hbw:Below w.heap.size w wo:=Za hbW hB
  have k0_wo:wo.cell? ⟨w.heap.size,0,none⟩=some (.string s.name):=zcl hB HK.out.1
  have k1_wo:wo.cell? ⟨w.heap.size,1,none⟩=some (.slice A n cp):=zcl hB HK.out.2.1
  have k2_wo:wo.cell? ⟨w.heap.size,2,none⟩=some (.int .i64 s.auto):=zcl hB HK.out.2.2
  have b1:=k1_wo;have hbk:=Zdi s.items f k;obtain⟨lA,lc,e9⟩:=hown.slice;subst e9
  by_cases hlt:k<n
  ·have hkx:k<s.items.length:=by rw[HN.out];exact hlt
   obtain⟨g,o,A3,cc3,F3,rfl,hgF,hgr,hok3,q0,q1,q2,q3,r3,-⟩:=ZaO (zb h hbw) hkx
   have hki:((k:Int)<(n:Int)):=by omega
   have hsm:=HSM.out _ (List.getElem_mem hkx)
   have hgn:¬g=wo.heap.size:=by omega
   have hskip:=λh9=>ZgJ (f:=f) hkx h9
   have hins:=λh9=>ZhP (f:=f) hkx h9
   generalize hl_:ZaH s.items f k=l at *
   obtain⟨ln,hln⟩:∃ln,l.length=ln:=⟨_,rfl⟩
   have HL:=zh hln;have HO:=zh (And.intro hown hne)
   have HSK:=zh hskip;have HINS:=zh hins;rw[hln] at hbk
   have hHO:=zh (show Own cItem 162 W.heap.size wo (.slice lA ln lc) l Fi by rw[← hln];exact hown)
   rw[hln] at HO⊢
   clear hown hne hskip hins hln hl_;go_wp2_with fail;refine(ZaN _ s.items[k].rcd.fields f _ _ (by exact zb r3)).mono ?_
   rintro e w1 ⟨rfl,hb1⟩;obtain⟨hc_w1,hf_w1,hz_w1⟩:=Zc hb1
   try simp at hz_w1
   have ha0_w1:wo.heap.size<w1.heap.size:=by omega
   have hb_w1:=zt (w:=w) hb1
   have hbr1:=zt (w:=wo) hb1
   have c0:w1.cell? ⟨wo.heap.size,0,none⟩=some (.int .i64 s.items[k].key.kind):=by go_simp
   have c1:w1.cell? ⟨wo.heap.size,1,none⟩=some (.int .i64 s.items[k].key.n):=by go_simp
   have c2:w1.cell? ⟨wo.heap.size,2,none⟩=some (.string s.items[k].key.text):=by go_simp
   have c3:w1.cell? ⟨wo.heap.size,3,none⟩=some (.slice A3 s.items[k].rcd.fields.length cc3):=by go_simp
   have hzr1:=hbr1.size;clear q0 q1 q2 q3
   cases e5:(Zk ⟨s.items[k].rcd.fields⟩ f).2
   ·have HIX:=zh (HSK.out e5)
    go_wp2_with fail;go_roundw
    case rel=>exact⟨k+1,Fi,by omega,by go_num,by rw[HIX.out];exact HO.out.1.bel hbr1,HO.out.2,Za hB hbr1⟩
    case measure=>simp[intOf];omega
   ·have HX3:=zh (zb r3 hbr1)
    have hwr1:w.heap.size<w1.heap.size:=by omega
    have hgw1:g<w1.heap.size:=by omega
    clear r3 k0_wo k1_wo k2_wo hb1 hc_w1 hf_w1
    go_upto_region 7 with (fail)
    go_cut [10] from 28 to 29 (λv wq=>v=.int .i64 ln∧w1=wq)
    case first =>
     go_wp2_with fail;go_meet
     case rel=>exact⟨rfl,rfl⟩
    obtain⟨rfl,rfl⟩:=hcut
    apply_assumption
    refine wp_seq_k (λK hK=>?_)
    go_cut [10] from 30 to 43 (λv wq=>v=.int .i64 (Zbe f l s.items[k] ln)∧Below w1.heap.size w1 wq)
    case first =>
     go_wp2_with fail;go_loopw [10] (λi wj=>∃j:Nat,j≤ln∧i=.int .i64 j∧Zbe f l s.items[k] ln=Zbe f l s.items[k] j∧Below w1.heap.size w1 wj) (λi _=>(intOf i).toNat)
     case atStart=>exact⟨ln,Nat.le_refl _,rfl,rfl,Below.refl _ _⟩
     case round =>
      generalize wr=wj at *
      obtain⟨j1,hj1,rfl,hbt,hBj⟩:=hrel;have HBT:=zh hbt;have hzj:=hBj.size;clear hbt;have d0:=zcl hBj c0;have d1:=zcl hBj c1;have d2:=zcl hBj c2;have d3:=zcl hBj c3;clear c0 c1 c2 c3
      cases j1 with
      | zero =>
       have HS:=zh (show Zbe f l s.items[k] ln=0 from HBT.out)
       go_wp2_with fail;have hS:=λw9 (hb:Below wj.heap.size wj w9)=>zn5 hb (zcl hb d0) (zcl hb d1) (zcl hb d2) (zcl hb d3)
       refine wp_region_held_drew (S:=(λw9=>Below wj.heap.size wj w9∧w9.cell? ⟨wo.heap.size,0,none⟩=some (.int .i64 s.items[k].key.kind)∧w9.cell? ⟨wo.heap.size,1,none⟩=some (.int .i64 s.items[k].key.n)∧w9.cell? ⟨wo.heap.size,2,none⟩=some (.string s.items[k].key.text)∧w9.cell? ⟨wo.heap.size,3,none⟩=some (.slice A3 s.items[k].rcd.fields.length cc3))) (by kernel_rfl) (by (try dsimp only);exact hS _ bl) (λhHeld=>?_)
       refine zrd (i:=0) 30 ?_;refine zrd (i:=1) 31 ?_;refine zrd (i:=2) 32 ?_;refine zsk (i:=3) 33 ?_;(try simp only[Act.put,zp0,zp1,zp2]);refine zsk (i:=4) 34 ?_;refine zsk (i:=5) 35 ?_;refine zsk (i:=6) 36 ?_;refine zsk (i:=7) 37 ?_;(try simp only[Act.put,zp0,zp1,zp2]);refine zsk (i:=8) 38 ?_;refine zsk (i:=9) 39 ?_;refine zsk (i:=10) 40 ?_;refine zrd (i:=11) 41 ?_;(try simp only[Act.put,zp0,zp1,zp2]);refine wpAnyH_done (by kernel_rfl) ?_ _
       go_wp2_with fail;go_meet
       case rel=>exact⟨by first|(rw[HS.out];done)|(rw[HS.out];rfl),bl⟩
      | succ j =>
       have hjx:j<l.length:=by rw[HL.out];omega
       have hwj:IntKind.i64.wrap (j:Int)=(j:Int):=IntWalk.i64_in _ (by omega)
       have hd1:decide ((0:Int)<(j:Int)+1)=true:=decide_eq_true (by omega)
       have hjn:(j:Int)<(ln:Int):=by omega
       obtain⟨FR,hrl,-,-⟩:=(hHO.out.bel (Za hbr1 hBj)).rep (hw:=by decide) (hw2:=by decide)
       obtain⟨g2,o2,A5,c5,F5,rfl,hgF2,hgr2,hok5,z0,z1,z2,z3,r5,-⟩:=ZaO (show cItemS.rep wj [.slice lA ln lc] l FR from hrl) hjx
       clear hrl
       cases hls:Zdu f s.items[k] l[j]
       ·have HS:=zh (HBT.out.trans (ZhB hjx hls))
        go_wp2_with fail;have hS:=λw9 (hb:Below wj.heap.size wj w9)=>zn9 hb (zcl hb d0) (zcl hb d1) (zcl hb d2) (zcl hb d3) (zcl hb z0) (zcl hb z1) (zcl hb z2) (zcl hb z3)
        refine wp_region_held_drew (S:=(λw9=>Below wj.heap.size wj w9∧w9.cell? ⟨wo.heap.size,0,none⟩=some (.int .i64 s.items[k].key.kind)∧w9.cell? ⟨wo.heap.size,1,none⟩=some (.int .i64 s.items[k].key.n)∧w9.cell? ⟨wo.heap.size,2,none⟩=some (.string s.items[k].key.text)∧w9.cell? ⟨wo.heap.size,3,none⟩=some (.slice A3 s.items[k].rcd.fields.length cc3)∧w9.cell? ⟨g2,o2+j*4,none⟩=some (.int .i64 l[j].key.kind)∧w9.cell? ⟨g2,o2+j*4+1,none⟩=some (.int .i64 l[j].key.n)∧w9.cell? ⟨g2,o2+j*4+2,none⟩=some (.string l[j].key.text)∧w9.cell? ⟨g2,o2+j*4+3,none⟩=some (.slice A5 l[j].rcd.fields.length c5))) (by kernel_rfl) (by (try dsimp only);exact hS _ bl) (λhHeld=>?_)
        refine zrd (i:=0) 30 ?_;refine zrd (i:=1) 31 ?_;refine zrd (i:=2) 32 ?_;refine zrd (i:=3) 33 ?_;(try simp only[Act.put,zp0,zp1,zp2]);refine zrd (i:=4) 34 ?_;refine zrd (i:=5) 35 ?_;refine zrd (i:=6) 36 ?_;refine zrd (i:=7) 37 ?_;(try simp only[Act.put,zp0,zp1,zp2]);refine zrd (i:=8) 38 ?_;refine zrd (i:=9) 39 ?_;(try simp only[Act.put,zp0,zp1,zp2]);refine zst 10 (λK hK=>?_)
        go_simp
        (go_at_call 174;refine(ZeO _ _ s.items[k] l[j] f _ _ _ (by exact zb HX3.out (Za hBj bl)) (by exact zb r5) hok3 hok5).mono ?_;rw[hls];rintro e w5 ⟨rfl,hb5⟩;have hj5:=zt (w:=wj) hb5;have hw5:Below w1.heap.size w1 w5:=Za hBj hj5)
        try go_wp2_with fail
        refine hK.out _ _ ?_ (λhHeld=>?_)
        ·(try dsimp only)
         exact hS _ bl
        clear hK K;refine zrd (i:=11) 41 ?_;(try simp only[Act.put,zp0,zp1,zp2]);refine wpAnyH_done (by kernel_rfl) ?_ _
        go_wp2_with fail;go_meet
        case rel=>exact⟨by first|(rw[HS.out];done)|(rw[HS.out];go_num),bl⟩
       ·have HS:=zh (HBT.out.trans (ZhA hjx hls))
        go_wp2_with fail;have hS:=λw9 (hb:Below wj.heap.size wj w9)=>zn9 hb (zcl hb d0) (zcl hb d1) (zcl hb d2) (zcl hb d3) (zcl hb z0) (zcl hb z1) (zcl hb z2) (zcl hb z3)
        refine wp_region_held_drew (S:=(λw9=>Below wj.heap.size wj w9∧w9.cell? ⟨wo.heap.size,0,none⟩=some (.int .i64 s.items[k].key.kind)∧w9.cell? ⟨wo.heap.size,1,none⟩=some (.int .i64 s.items[k].key.n)∧w9.cell? ⟨wo.heap.size,2,none⟩=some (.string s.items[k].key.text)∧w9.cell? ⟨wo.heap.size,3,none⟩=some (.slice A3 s.items[k].rcd.fields.length cc3)∧w9.cell? ⟨g2,o2+j*4,none⟩=some (.int .i64 l[j].key.kind)∧w9.cell? ⟨g2,o2+j*4+1,none⟩=some (.int .i64 l[j].key.n)∧w9.cell? ⟨g2,o2+j*4+2,none⟩=some (.string l[j].key.text)∧w9.cell? ⟨g2,o2+j*4+3,none⟩=some (.slice A5 l[j].rcd.fields.length c5))) (by kernel_rfl) (by (try dsimp only);exact hS _ bl) (λhHeld=>?_)
        refine zrd (i:=0) 30 ?_;refine zrd (i:=1) 31 ?_;refine zrd (i:=2) 32 ?_;refine zrd (i:=3) 33 ?_;(try simp only[Act.put,zp0,zp1,zp2]);refine zrd (i:=4) 34 ?_;refine zrd (i:=5) 35 ?_;refine zrd (i:=6) 36 ?_;refine zrd (i:=7) 37 ?_;(try simp only[Act.put,zp0,zp1,zp2]);refine zrd (i:=8) 38 ?_;refine zrd (i:=9) 39 ?_;(try simp only[Act.put,zp0,zp1,zp2]);refine zst 10 (λK hK=>?_)
        go_simp
        (go_at_call 174;refine(ZeO _ _ s.items[k] l[j] f _ _ _ (by exact zb HX3.out (Za hBj bl)) (by exact zb r5) hok3 hok5).mono ?_;rw[hls];rintro e w5 ⟨rfl,hb5⟩;have hj5:=zt (w:=wj) hb5;have hw5:Below w1.heap.size w1 w5:=Za hBj hj5)
        try go_wp2_with fail
        refine hK.out _ _ ?_ (λhHeld=>?_)
        ·(try dsimp only)
         exact hS _ bl
        clear hK K;refine zrd (i:=11) 41 ?_;(try simp only[Act.put,zp0,zp1,zp2]);refine wpAnyH_done (by kernel_rfl) ?_ _
        go_wp2_with fail;go_roundw
        case rel=>exact⟨j,by omega,by go_num,HS.out,bl⟩
        case measure=>first|(simp[intOf];done)|(simp[intOf];omega)
    case rest =>
     obtain⟨rfl,hB12⟩:=hcut;generalize wc=w2 at *
     have hz12:=hB12.size;have hbr2:Below wo.heap.size wo w2:=Za hbr1 hB12
     have hzr:=hB.size;have hpl:Zbe f l s.items[k] ln≤ln:=Zfn f l s.items[k] ln
     have HIX:=zh (show ZaH s.items f (k+1)=l.take (Zbe f l s.items[k] ln)++s.items[k]::l.drop (Zbe f l s.items[k] ln) by rw[← HL.out];exact HINS.out e5)
     have e0:=zcl hB12 c0;have e1:=zcl hB12 c1;have e2:=zcl hB12 c2;have e3:=zcl hB12 c3;clear c0 c1 c2 c3;generalize Zbe f l s.items[k] ln=p at *
     go_wp2_with fail;refine(ZcS #[_,_,_,_] s.items[k] F3 _ (by exact TItem.mk_ hok3 (zb HX3.out (Za hB12 bl))) hsm).mono ?_
     rintro e w3 ⟨vs3,F9,rfl,hb3,hr9,hf9⟩;obtain⟨v6,_,rfl,rfl,hok6,n6⟩:=TItem.outA hr9;obtain⟨B6,d6,rfl⟩:=Zb n6;have hb23:=zt (w:=w2) hb3
     have hz23:=hb23.size;have hF9:∀b,b∈F9→w2.heap.size≤b∧b<w3.heap.size:=λb hb=>⟨by have h9:=hf9.1 b hb;(try simp at h9);omega,Cod.lt _ hr9 b hb⟩
     have HR9:=zh hr9;clear hr9 hf9 n6 hb3;go_wp2_with fail;refine(ZcO _ ln lc p l s.items[k] #[.int .i64 s.items[k].key.kind,.int .i64 s.items[k].key.n,.string s.items[k].key.text,.slice B6 s.items[k].rcd.fields.length d6] Fi F9 w3.heap.size W.heap.size _ (HO.out.1.bel (by exact Za hbr2 (Za hb23 bl))) (λg hg=>⟨HO.out.2 g hg,λhm=>by have h8:=(hF9 g hm).1;have h7:=(HO.out.1.lt g hg).2;omega,by have h7:=(HO.out.1.lt g hg).2;omega⟩) HL.out hpl (by omega) (by exact Blk.new _ _ _) (by exact zb HR9.out) (by (try simp);(try omega))).mono ?_
     rintro e w4 ⟨A10,c10,F1,F2,rfl,hFF,ho10,hg10,hat10⟩;rw[HL.out] at ho10 hat10⊢
     have hB24:Below W.heap.size W w4:=by
      have h1:Below W.heap.size W (w3.alloc (.cells #[.int .i64 s.items[k].key.kind,.int .i64 s.items[k].key.n,.string s.items[k].key.text,.slice B6 s.items[k].rcd.fields.length d6] 162)):=Za hB (Za hbr2 (Za hb23 bl))
      exact h1.grown hg10 (by (try simp);(try omega)) (λg hg=>(HO.out.1.lt g hg).1)
     have hne10:∀g,Zac (.slice A10 (ln+1) c10)=some g→g∉F1++(F9++F2):=λg hg hm=>by
      rcases hat10 g hg with h9|h9
      ·have h8:=HO.out.2 g h9;rw[hFF] at h8
       rcases List.mem_append.1 hm with h7|h7
       ·exact h8 (by simp[h7])
       ·rcases List.mem_append.1 h7 with h6|h6
        ·have h5:=(hF9 g h6).1;have h4:=(HO.out.1.lt g h9).2;omega
        ·exact h8 (by simp[h6])
      ·(try simp at h9)
       have h8:g<w3.heap.size:=by
        rcases List.mem_append.1 hm with h7|h7
        ·have h5:=HO.out.1.inner_lt g (by rw[hFF];simp[h7]);omega
        ·rcases List.mem_append.1 h7 with h6|h6
         ·exact(hF9 g h6).2
         ·have h5:=HO.out.1.inner_lt g (by rw[hFF];simp[h6]);omega
       omega
     have HN10:=zh (And.intro ho10 hne10)
     clear hat10 hg10 ho10 hne10 hFF;go_wp2_with fail;go_roundw
     case rel=>exact⟨k+1,_,by omega,by go_num,by rw[HIX.out];exact HN10.out.1,HN10.out.2,hB24⟩
     case measure=>simp[intOf];omega
  ·obtain rfl:k=n:=by omega
   obtain⟨FR9,hr9,-,-⟩:=hown.rep (hw:=by decide) (hw2:=by decide)
   have H9:=zh (And.intro hr9 (hown.mono (show w.heap.size≤W.heap.size by omega)).above)
   clear hown hne hr9;go_wp2_with fail;go_ret
   exact⟨_,FR9,rfl,bl,by rw[HTOT.out,HN.out];exact H9.out.1,H9.out.2⟩
theorem Ziu (v:Value) (s:TStore) (f:ByteArray) (F:List Nat) (w:World) (h:cItemS.rep w [v] s.items F) (hsm0:ZcE s) :
  Calls Tryz.prog 137 #[.agg #[.string s.name,v,.int .i64 s.auto],.string f] w (Zpq cItemS w (ZbJ s f)):=by
 obtain⟨i0,hi0,hz0,hz1,hz2⟩:=info_parts Zds;obtain⟨A,cp,rfl⟩:=Zb h;obtain⟨-,hcp,hm⟩:=Zq h;have hnl:=hsm0.1;have HSM:=zh hsm0.2;have HTOT:=zh (show ZbJ s f=ZaH s.items f s.items.length from rfl)
 clear hsm0;obtain⟨n,hxn⟩:∃n,s.items.length=n:=⟨_,rfl⟩
 have HN:=zh hxn;rw[hxn] at hcp hnl⊢
 clear hxn
 unfold maxLen at hm
 go_enter Tryz.func137,Tryz.ntmps137
 go_wp2;generalize hW:World.alloc _ _=W
 have hWs:W.heap.size=w.heap.size+2:=by rw[← hW];clear hW;simp
 have hbW:Below w.heap.size w W:=by rw[← hW];exact bl
 have HK:=zh (show W.cell? ⟨w.heap.size,0,none⟩=some (.string s.name)∧W.cell? ⟨w.heap.size,1,none⟩=some (.slice A n cp)∧W.cell? ⟨w.heap.size,2,none⟩=some (.int .i64 s.auto) from by refine⟨?_,?_,?_⟩<;>(rw[← hW];clear hW;go_simp))
 clear hW;go_loopw [6,5] (λi out wr=>∃(k:Nat) (Fi:List Nat),k≤n∧i=.int .i64 k∧Own cItem 162 W.heap.size wr out (ZaH s.items f k) Fi∧(∀g,Zac out=some g→g∉Fi)∧Below W.heap.size W wr) (λi _ _=>n-(intOf i).toNat)
 case atStart=>exact⟨0,[],Nat.zero_le _,rfl,Own.empty _,by simp[Zac],Below.refl _ _⟩
 case round =>
  obtain⟨k,Fi,hk,rfl,hown,hne,hB⟩:=hrel;generalize wr=wo at *
  have hws_wo:w.heap.size<wo.heap.size:=by have:=hB.size;omega
  have hbw:Below w.heap.size w wo:=Za hbW hB
  have k0_wo:wo.cell? ⟨w.heap.size,0,none⟩=some (.string s.name):=zcl hB HK.out.1
  have k1_wo:wo.cell? ⟨w.heap.size,1,none⟩=some (.slice A n cp):=zcl hB HK.out.2.1
  have k2_wo:wo.cell? ⟨w.heap.size,2,none⟩=some (.int .i64 s.auto):=zcl hB HK.out.2.2
  have b1:=k1_wo;have hbk:=Zdi s.items f k;obtain⟨lA,lc,e9⟩:=hown.slice;subst e9
  by_cases hlt:k<n
  ·have hkx:k<s.items.length:=by rw[HN.out];exact hlt
   obtain⟨g,o,A3,cc3,F3,rfl,hgF,hgr,hok3,q0,q1,q2,q3,r3,-⟩:=ZaO (zb h hbw) hkx
   have hki:((k:Int)<(n:Int)):=by omega
   have hsm:=HSM.out _ (List.getElem_mem hkx)
   have hgn:¬g=wo.heap.size:=by omega
   have hskip:=λh9=>ZgJ (f:=f) hkx h9
   have hins:=λh9=>ZhP (f:=f) hkx h9
   generalize hl_:ZaH s.items f k=l at *
   obtain⟨ln,hln⟩:∃ln,l.length=ln:=⟨_,rfl⟩
   have HL:=zh hln;have HO:=zh (And.intro hown hne)
   have HSK:=zh hskip;have HINS:=zh hins;rw[hln] at hbk
   have hHO:=zh (show Own cItem 162 W.heap.size wo (.slice lA ln lc) l Fi by rw[← hln];exact hown)
   rw[hln] at HO⊢
   clear hown hne hskip hins hln hl_;go_wp2_with fail;refine(ZaP _ s.items[k].rcd.fields f _ _ (by exact zb r3)).mono ?_
   rintro e w1 ⟨rfl,hb1⟩;obtain⟨hc_w1,hf_w1,hz_w1⟩:=Zc hb1
   try simp at hz_w1
   have ha0_w1:w.heap.size<w1.heap.size:=by omega
   have hb_w1:=zt (w:=w) hb1
   have hbr1:=zt (w:=wo) hb1
   have c0:=zcl (p:=⟨g,o+k*4,none⟩) hbr1 q0
   have c1:=zcl (p:=⟨g,o+k*4+1,none⟩) hbr1 q1
   have c2:=zcl (p:=⟨g,o+k*4+2,none⟩) hbr1 q2
   have c3:=zcl (p:=⟨g,o+k*4+3,none⟩) hbr1 q3
   have c4:=zcl hbr1 b1;have hzr1:=hbr1.size;clear q0 q1 q2 q3
   cases e5:(Zk ⟨s.items[k].rcd.fields⟩ f).2
   ·have HIX:=zh (HSK.out e5)
    go_wp2_with fail;go_roundw
    case rel=>exact⟨k+1,Fi,by omega,by go_num,by rw[HIX.out];exact HO.out.1.bel hbr1,HO.out.2,Za hB hbr1⟩
    case measure=>simp[intOf];omega
   ·have HX3:=zh (zb r3 hbr1)
    have hwr1:w.heap.size<w1.heap.size:=by omega
    have hgw1:g<w1.heap.size:=by omega
    clear r3 k0_wo k1_wo k2_wo hb1 hc_w1 hf_w1
    go_upto_region 7 with (fail)
    go_cut [9] from 32 to 33 (λv wq=>v=.int .i64 ln∧w1=wq)
    case first =>
     go_wp2_with fail;go_meet
     case rel=>exact⟨rfl,rfl⟩
    obtain⟨rfl,rfl⟩:=hcut
    apply_assumption
    refine wp_seq_k (λK hK=>?_)
    go_cut [9] from 34 to 51 (λv wq=>v=.int .i64 (Zbe f l s.items[k] ln)∧Below w1.heap.size w1 wq)
    case first =>
     go_wp2_with fail;go_loopw [9] (λi wj=>∃j:Nat,j≤ln∧i=.int .i64 j∧Zbe f l s.items[k] ln=Zbe f l s.items[k] j∧Below w1.heap.size w1 wj) (λi _=>(intOf i).toNat)
     case atStart=>exact⟨ln,Nat.le_refl _,rfl,rfl,Below.refl _ _⟩
     case round =>
      generalize wr=wj at *
      obtain⟨j1,hj1,rfl,hbt,hBj⟩:=hrel;have HBT:=zh hbt;have hzj:=hBj.size;clear hbt;have d0:=zcl (p:=⟨g,o+k*4,none⟩) hBj c0
      have d1:=zcl (p:=⟨g,o+k*4+1,none⟩) hBj c1
      have d2:=zcl (p:=⟨g,o+k*4+2,none⟩) hBj c2
      have d3:=zcl (p:=⟨g,o+k*4+3,none⟩) hBj c3
      have d4:=zcl hBj c4;clear c0 c1 c2 c3 c4
      cases j1 with
      | zero =>
       have HS:=zh (show Zbe f l s.items[k] ln=0 from HBT.out)
       go_wp2_with fail;have hS:=λw9 (hb:Below wj.heap.size wj w9)=>zn6 hb (zcl hb d0) (zcl hb d1) (zcl hb d2) (zcl hb d3) (zcl hb d4)
       refine wp_region_held_drew (S:=(λw9=>Below wj.heap.size wj w9∧w9.cell? ⟨g,o+k*4,none⟩=some (.int .i64 s.items[k].key.kind)∧w9.cell? ⟨g,o+k*4+1,none⟩=some (.int .i64 s.items[k].key.n)∧w9.cell? ⟨g,o+k*4+2,none⟩=some (.string s.items[k].key.text)∧w9.cell? ⟨g,o+k*4+3,none⟩=some (.slice A3 s.items[k].rcd.fields.length cc3)∧w9.cell? ⟨w.heap.size,1,none⟩=some (.slice (some ⟨g,o,none⟩) n cp))) (by kernel_rfl) (by (try dsimp only);exact hS _ bl) (λhHeld=>?_)
       refine zrd (i:=0) 34 ?_;refine zrd (i:=1) 35 ?_;refine zrd (i:=2) 36 ?_;refine zsk (i:=3) 37 ?_;(try simp only[Act.put,zp0,zp1,zp2]);refine zsk (i:=4) 38 ?_;refine zsk (i:=5) 39 ?_;refine zsk (i:=6) 40 ?_;refine zsk (i:=7) 41 ?_;(try simp only[Act.put,zp0,zp1,zp2]);refine zsk (i:=8) 42 ?_;refine zsk (i:=9) 43 ?_;refine zsk (i:=10) 44 ?_;refine zsk (i:=11) 45 ?_;(try simp only[Act.put,zp0,zp1,zp2]);refine zsk (i:=12) 46 ?_;refine zsk (i:=13) 47 ?_;refine zsk (i:=14) 48 ?_;refine zrd (i:=15) 49 ?_;(try simp only[Act.put,zp0,zp1,zp2]);refine wpAnyH_done (by kernel_rfl) ?_ _
       go_wp2_with fail;go_meet
       case rel=>exact⟨by first|(rw[HS.out];done)|(rw[HS.out];rfl),bl⟩
      | succ j =>
       have hjx:j<l.length:=by rw[HL.out];omega
       have hwj:IntKind.i64.wrap (j:Int)=(j:Int):=IntWalk.i64_in _ (by omega)
       have hd1:decide ((0:Int)<(j:Int)+1)=true:=decide_eq_true (by omega)
       have hjn:(j:Int)<(ln:Int):=by omega
       obtain⟨FR,hrl,-,-⟩:=(hHO.out.bel (Za hbr1 hBj)).rep (hw:=by decide) (hw2:=by decide)
       obtain⟨g2,o2,A5,c5,F5,rfl,hgF2,hgr2,hok5,z0,z1,z2,z3,r5,-⟩:=ZaO (show cItemS.rep wj [.slice lA ln lc] l FR from hrl) hjx
       clear hrl
       cases hls:Zdu f s.items[k] l[j]
       ·have HS:=zh (HBT.out.trans (ZhB hjx hls))
        go_wp2_with fail;have hS:=λw9 (hb:Below wj.heap.size wj w9)=>zn10 hb (zcl hb d0) (zcl hb d1) (zcl hb d2) (zcl hb d3) (zcl hb d4) (zcl hb z0) (zcl hb z1) (zcl hb z2) (zcl hb z3)
        refine wp_region_held_drew (S:=(λw9=>Below wj.heap.size wj w9∧w9.cell? ⟨g,o+k*4,none⟩=some (.int .i64 s.items[k].key.kind)∧w9.cell? ⟨g,o+k*4+1,none⟩=some (.int .i64 s.items[k].key.n)∧w9.cell? ⟨g,o+k*4+2,none⟩=some (.string s.items[k].key.text)∧w9.cell? ⟨g,o+k*4+3,none⟩=some (.slice A3 s.items[k].rcd.fields.length cc3)∧w9.cell? ⟨w.heap.size,1,none⟩=some (.slice (some ⟨g,o,none⟩) n cp)∧w9.cell? ⟨g2,o2+j*4,none⟩=some (.int .i64 l[j].key.kind)∧w9.cell? ⟨g2,o2+j*4+1,none⟩=some (.int .i64 l[j].key.n)∧w9.cell? ⟨g2,o2+j*4+2,none⟩=some (.string l[j].key.text)∧w9.cell? ⟨g2,o2+j*4+3,none⟩=some (.slice A5 l[j].rcd.fields.length c5))) (by kernel_rfl) (by (try dsimp only);exact hS _ bl) (λhHeld=>?_)
        refine zrd (i:=0) 34 ?_;refine zrd (i:=1) 35 ?_;refine zrd (i:=2) 36 ?_;refine zrd (i:=3) 37 ?_;(try simp only[Act.put,zp0,zp1,zp2]);refine zrd (i:=4) 38 ?_;refine zrd (i:=5) 39 ?_;refine zrd (i:=6) 40 ?_;refine zrd (i:=7) 41 ?_;(try simp only[Act.put,zp0,zp1,zp2]);refine zrd (i:=8) 42 ?_;refine zrd (i:=9) 43 ?_;refine zrd (i:=10) 44 ?_;refine zrd (i:=11) 45 ?_;(try simp only[Act.put,zp0,zp1,zp2]);refine zrd (i:=12) 46 ?_;refine zrd (i:=13) 47 ?_;(try simp only[Act.put,zp0,zp1,zp2]);refine zst 14 (λK hK=>?_)
        go_simp
        (go_at_call 169;refine(ZeU _ _ s.items[k] l[j] f _ _ _ (by exact zb HX3.out (Za hBj bl)) (by exact zb r5) hok3 hok5).mono ?_;rw[hls];rintro e w5 ⟨rfl,hb5⟩;have hj5:=zt (w:=wj) hb5;have hw5:Below w1.heap.size w1 w5:=Za hBj hj5)
        try go_wp2_with fail
        refine hK.out _ _ ?_ (λhHeld=>?_)
        ·(try dsimp only)
         exact hS _ bl
        clear hK K;refine zrd (i:=15) 49 ?_;(try simp only[Act.put,zp0,zp1,zp2]);refine wpAnyH_done (by kernel_rfl) ?_ _
        go_wp2_with fail;go_meet
        case rel=>exact⟨by first|(rw[HS.out];done)|(rw[HS.out];go_num),bl⟩
       ·have HS:=zh (HBT.out.trans (ZhA hjx hls))
        go_wp2_with fail;have hS:=λw9 (hb:Below wj.heap.size wj w9)=>zn10 hb (zcl hb d0) (zcl hb d1) (zcl hb d2) (zcl hb d3) (zcl hb d4) (zcl hb z0) (zcl hb z1) (zcl hb z2) (zcl hb z3)
        refine wp_region_held_drew (S:=(λw9=>Below wj.heap.size wj w9∧w9.cell? ⟨g,o+k*4,none⟩=some (.int .i64 s.items[k].key.kind)∧w9.cell? ⟨g,o+k*4+1,none⟩=some (.int .i64 s.items[k].key.n)∧w9.cell? ⟨g,o+k*4+2,none⟩=some (.string s.items[k].key.text)∧w9.cell? ⟨g,o+k*4+3,none⟩=some (.slice A3 s.items[k].rcd.fields.length cc3)∧w9.cell? ⟨w.heap.size,1,none⟩=some (.slice (some ⟨g,o,none⟩) n cp)∧w9.cell? ⟨g2,o2+j*4,none⟩=some (.int .i64 l[j].key.kind)∧w9.cell? ⟨g2,o2+j*4+1,none⟩=some (.int .i64 l[j].key.n)∧w9.cell? ⟨g2,o2+j*4+2,none⟩=some (.string l[j].key.text)∧w9.cell? ⟨g2,o2+j*4+3,none⟩=some (.slice A5 l[j].rcd.fields.length c5))) (by kernel_rfl) (by (try dsimp only);exact hS _ bl) (λhHeld=>?_)
        refine zrd (i:=0) 34 ?_;refine zrd (i:=1) 35 ?_;refine zrd (i:=2) 36 ?_;refine zrd (i:=3) 37 ?_;(try simp only[Act.put,zp0,zp1,zp2]);refine zrd (i:=4) 38 ?_;refine zrd (i:=5) 39 ?_;refine zrd (i:=6) 40 ?_;refine zrd (i:=7) 41 ?_;(try simp only[Act.put,zp0,zp1,zp2]);refine zrd (i:=8) 42 ?_;refine zrd (i:=9) 43 ?_;refine zrd (i:=10) 44 ?_;refine zrd (i:=11) 45 ?_;(try simp only[Act.put,zp0,zp1,zp2]);refine zrd (i:=12) 46 ?_;refine zrd (i:=13) 47 ?_;(try simp only[Act.put,zp0,zp1,zp2]);refine zst 14 (λK hK=>?_)
        go_simp
        (go_at_call 169;refine(ZeU _ _ s.items[k] l[j] f _ _ _ (by exact zb HX3.out (Za hBj bl)) (by exact zb r5) hok3 hok5).mono ?_;rw[hls];rintro e w5 ⟨rfl,hb5⟩;have hj5:=zt (w:=wj) hb5;have hw5:Below w1.heap.size w1 w5:=Za hBj hj5)
        try go_wp2_with fail
        refine hK.out _ _ ?_ (λhHeld=>?_)
        ·(try dsimp only)
         exact hS _ bl
        clear hK K;refine zrd (i:=15) 49 ?_;(try simp only[Act.put,zp0,zp1,zp2]);refine wpAnyH_done (by kernel_rfl) ?_ _
        go_wp2_with fail;go_roundw
        case rel=>exact⟨j,by omega,by go_num,HS.out,bl⟩
        case measure=>first|(simp[intOf];done)|(simp[intOf];omega)
    case rest =>
     obtain⟨rfl,hB12⟩:=hcut;generalize wc=w2 at *
     have hz12:=hB12.size;have hbr2:Below wo.heap.size wo w2:=Za hbr1 hB12
     have hzr:=hB.size;have hpl:Zbe f l s.items[k] ln≤ln:=Zfn f l s.items[k] ln
     have HIX:=zh (show ZaH s.items f (k+1)=l.take (Zbe f l s.items[k] ln)++s.items[k]::l.drop (Zbe f l s.items[k] ln) by rw[← HL.out];exact HINS.out e5)
     have e0:=zcl (p:=⟨g,o+k*4,none⟩) hB12 c0
     have e1:=zcl (p:=⟨g,o+k*4+1,none⟩) hB12 c1
     have e2:=zcl (p:=⟨g,o+k*4+2,none⟩) hB12 c2
     have e3:=zcl (p:=⟨g,o+k*4+3,none⟩) hB12 c3
     have e4:=zcl hB12 c4;clear c0 c1 c2 c3 c4;generalize Zbe f l s.items[k] ln=p at *
     obtain⟨FR7,hr7,hw7,-⟩:=(HO.out.1.bel hbr2).rep (hw:=by decide) (hw2:=by decide)
     replace hr7:cItemS.rep w2 [.slice lA ln lc] l FR7:=hr7
     obtain⟨GT,hT,hTs⟩:=Zkl hr7 p hpl;obtain⟨FyT,hsT,hsTs⟩:=AppSrc.of_rep _ hT;obtain⟨GD,hD,hDs,-⟩:=Zgx hr7 p hpl;obtain⟨FyD,hsD,hsDs⟩:=AppSrc.of_rep _ hD;have hFT:∀b,b∈FyT→b<w2.heap.size:=λb hb=>Cod.lt _ hr7 b (hTs b (hsTs b hb))
     have hFD:∀b,b∈FyD→b<w2.heap.size:=λb hb=>Cod.lt _ hr7 b (hDs b (hsDs b hb))
     have hltT:(l.take p).length=p:=by rw[List.length_take];have h9:=HL.out;omega
     have hltD:(l.drop p).length=ln-p:=by rw[List.length_drop,HL.out]
     have HSRC:=zh (And.intro hsT hsD)
     have HLEN:=zh (And.intro hltT hltD)
     have hlc:ln≤lc∧lc≤maxLen:=by have h9:=Zq hr7;exact⟨h9.2.1,h9.2.2⟩
     have hlc2:=hlc.2
     unfold maxLen at hlc2
     have hlc1:=hlc.1;clear hr7 hw7 hT hD hTs hDs hsT hsD hsTs hsDs hltT hltD hlc;have hpi:(p:Int)≤(ln:Int):=by omega
     have hpc:(p:Int)≤(lc:Int):=by omega
     go_wp2_with (at_builtin;refine Ziy ?_)
     refine goB ?_
     refine Zl (c:=cItem) (B:=w2.heap.size) (xs:=[]) (ys:=l.take p) (Fi:=[]) (Fy:=FyT) _ rfl _ _ _ rfl i0 _ _ Tryz.underlying122 hi0 hz0 hz1 hz2 rfl (by decide) (v:=.slice (some _) 0 0) rfl (Own.empty _) _ rfl (AppSrc.bel HSRC.out.1 bl) (by unfold maxLen;rw[HLEN.out.1];simp;omega) (by rw[HLEN.out.1];simp;omega) (by (try simp);(try omega)) (by simp[Zac]) ?_
     intro v8 w8 ho8 hg8 hat8;replace ho8:Own cItem 162 w2.heap.size w8 v8 (l.take p) FyT:=ho8
     obtain⟨B8,c8,e8⟩:=ho8.slice;rw[HLEN.out.1] at e8
     subst e8;have hb28:Below w2.heap.size w2 w8:=(show Below w2.heap.size w2 (w2.alloc _) from bl).grown hg8 (by (try simp);(try omega)) (by simp[Zac])
     have hz8:=hg8.size;(try simp at hz8)
     have hlt8:=λg hg=>ho8.lt g hg
     have HO8:=zh (And.intro ho8 hlt8)
     clear ho8 hg8 hat8 hlt8;obtain⟨hc8,hf8,-⟩:=Zc hb28;have d0:=zcl (p:=⟨g,o+k*4,none⟩) hb28 e0
     have d1:=zcl (p:=⟨g,o+k*4+1,none⟩) hb28 e1
     have d2:=zcl (p:=⟨g,o+k*4+2,none⟩) hb28 e2
     have d3:=zcl (p:=⟨g,o+k*4+3,none⟩) hb28 e3
     have d4:=zcl hb28 e4;have hgw8:g<w8.heap.size:=by omega
     go_wp2_with fail;refine(ZbD #[_,_,_,_] s.items[k] F3 _ (by exact TItem.mk_ hok3 (zb HX3.out (Za hB12 (Za hb28 bl)))) hsm).mono ?_
     rintro e w9 ⟨vs3,F9,rfl,hb9,hr9,hf9⟩;obtain⟨v6,_,rfl,rfl,hok6,n6⟩:=TItem.outA hr9;obtain⟨B6,d6,rfl⟩:=Zb n6;have hb89:=zt (w:=w8) hb9
     have hz9:=hb89.size;have hF9:∀b,b∈F9→w8.heap.size≤b∧b<w9.heap.size:=λb hb=>⟨by have h9:=hf9.1 b hb;(try simp at h9);omega,Cod.lt _ hr9 b hb⟩
     have HR9:=zh hr9;clear hr9 hf9 n6 hb9;go_wp2_with (at_builtin;refine Ziy ?_)
     refine goB ?_
     refine Zl (c:=cItem) (B:=w2.heap.size) (xs:=l.take p) (ys:=[s.items[k]]) (Fi:=FyT) (Fy:=F9) _ rfl _ _ _ rfl i0 _ _ Tryz.underlying122 hi0 hz0 hz1 hz2 rfl (by decide) rfl (HO8.out.1.bel (Za hb89 bl)) (.slice (some ⟨w9.heap.size,0,none⟩) 1 1) rfl (AppSrc.bel (Zcf (w:=w9) (vs:=#[.int .i64 s.items[k].key.kind,.int .i64 s.items[k].key.n,.string s.items[k].key.text,.slice B6 s.items[k].rcd.fields.length d6]) 162 _ rfl HR9.out) bl) (by rw[HLEN.out.1];unfold maxLen;simp;omega) (by rw[HLEN.out.1];simp;omega) (by (try simp);(try omega)) (λg hg=>⟨λhm=>by have h9:=(HO8.out.2 g hg).1;have h8:=hFT g hm;omega,λhm=>by have h9:=(HO8.out.2 g hg).2;have h8:=(hF9 g hm).1;omega⟩) ?_
     intro v10 w10 ho10 hg10 hat10;obtain⟨B10,c10,e10⟩:=ho10.slice;rw[List.length_append,List.length_singleton,HLEN.out.1] at e10
     subst e10;have hb8x:Below w8.heap.size w8 (w9.alloc (.cells #[.int .i64 s.items[k].key.kind,.int .i64 s.items[k].key.n,.string s.items[k].key.text,.slice B6 s.items[k].rcd.fields.length d6] 162)):=Za hb89 bl
     have hb210:Below w2.heap.size w2 w10:=(Za hb28 hb8x).grown hg10 (by (try simp);(try omega)) (λg hg=>(HO8.out.2 g hg).1)
     have hat10':∀g,Zac (.slice B10 (p+1) c10)=some g→w2.heap.size≤g∧g∉F9:=λg hg=>by
      rcases hat10 g hg with h9|h9
      ·have h8:=HO8.out.2 g h9;exact⟨h8.1,λhm=>by have h7:=(hF9 g hm).1;omega⟩
      ·(try simp at h9)
       exact⟨by omega,λhm=>by have h7:=(hF9 g hm).2;omega⟩
     have hlt10:∀g,Zac (.slice B10 (p+1) c10)=some g→g<w10.heap.size:=λg hg=>(ho10.lt g hg).2
     have hz10:=hg10.size;(try simp at hz10)
     have HO10:=zh (And.intro ho10 (And.intro hat10' hlt10))
     clear ho10 hg10 hat10 hat10' hlt10 hb8x hc8 hf8;have hl16:(l.take p++[s.items[k]]).length=p+1:=by rw[List.length_append,HLEN.out.1];rfl
     have HL16:=zh hl16;clear hl16;have hz210:=hb210.size
     by_cases hcm:lc=p
     all_goals
      go_wp2_with (at_builtin;refine Ziy ?_)
      refine goB ?_
      refine Zl (c:=cItem) (B:=w2.heap.size) (xs:=l.take p++[s.items[k]]) (ys:=l.drop p) (Fi:=FyT++F9) (Fy:=FyD) _ rfl _ _ _ rfl i0 _ _ Tryz.underlying122 hi0 hz0 hz1 hz2 rfl (by decide) rfl HO10.out.1 _ rfl (by have h9:=AppSrc.bel HSRC.out.2 hb210;(simp only[hcm,if_true,if_false,↓reduceIte] at h9);first|exact h9|((simp only[Nat.sub_self] at h9);exact h9)) (by rw[HL16.out,HLEN.out.2];unfold maxLen;omega) (by rw[HL16.out,HLEN.out.2];omega) (by omega) (λg hg=>⟨λhm=>by
       have h8:=HO10.out.2.1 g hg
       rcases List.mem_append.1 hm with h9|h9
       ·have h7:=hFT g h9;omega
       ·exact h8.2 h9,λhm=>by have h9:=(HO10.out.2.1 g hg).1;have h8:=hFD g hm;omega⟩) ?_
      intro v11 w11 ho11 hg11 hat11;have hl17:((l.take p++[s.items[k]])++l.drop p).length=ln+1:=by rw[List.length_append,HL16.out,HLEN.out.2];omega
      obtain⟨B11,c11,e11⟩:=ho11.slice;rw[hl17] at e11
      subst e11;have hb211:Below w2.heap.size w2 w11:=hb210.grown hg11 (by omega) (λg hg=>(HO10.out.2.1 g hg).1)
      have hB11:Below W.heap.size W w11:=Za hB (Za hbr2 hb211)
      have hne11:∀g,Zac (.slice B11 (ln+1) c11)=some g→g∉(FyT++F9)++FyD:=λg hg hm=>by
       rcases hat11 g hg with h9|h9
       ·have h8:=HO10.out.2.1 g h9
        rcases List.mem_append.1 hm with h7|h7
        ·rcases List.mem_append.1 h7 with h6|h6
         ·have h5:=hFT g h6;omega
         ·exact h8.2 h6
        ·have h5:=hFD g h7;omega
       ·have h8:g<w10.heap.size:=by
         rcases List.mem_append.1 hm with h7|h7
         ·rcases List.mem_append.1 h7 with h6|h6
          ·have h5:=hFT g h6;omega
          ·have h5:=(hF9 g h6).2;omega
         ·have h5:=hFD g h7;omega
        omega
      rw[List.append_assoc,List.singleton_append] at ho11
      have HN10:=zh (And.intro (ho11.mono (show W.heap.size≤w2.heap.size by omega)) hne11)
      clear hat11 hg11 ho11 hne11;go_wp2_with fail;go_roundw
      case rel=>exact⟨k+1,_,by omega,by go_num,by rw[HIX.out];exact HN10.out.1,HN10.out.2,hB11⟩
      case measure=>simp[intOf];omega
  ·obtain rfl:k=n:=by omega
   obtain⟨FR9,hr9,-,-⟩:=hown.rep (hw:=by decide) (hw2:=by decide)
   have H9:=zh (And.intro hr9 (hown.mono (show w.heap.size≤W.heap.size by omega)).above)
   clear hown hne hr9;go_wp2_with fail;go_ret
   exact⟨_,FR9,rfl,bl,by rw[HTOT.out,HN.out];exact H9.out.1,H9.out.2⟩
end Go.Proofs.YtghndifnohkokaaGreat
