import Derived.Test.YtghndifnohkokaaGreatZGivesW
import Derived.Test.YtghndifnohkokaaGreatZIsStore
import Derived.Test.YtghndifnohkokaaGreatZInRangeOf
namespace Go.Proofs.YtghndifnohkokaaGreat
open Go.ChangeShapes Go.WideShapes Go.RowKit
set_option linter.unusedVariables false
set_option linter.unusedSimpArgs false
set_option maxRecDepth 100000
set_option maxHeartbeats 16000000
theorem ZnK {s:TStore} {hl hh:Bool} {lo hi:TKey} (h:Zs s=false):ZD s hl hh lo hi=(s,0):=by unfold ZD;rw[h];rfl
theorem Zpw {s:TStore} {hl hh:Bool} {lo hi:TKey} (h:Zs s=true):ZD s hl hh lo hi=(⟨s.name,s.items.filter (λx=>!Zu x.key hl hh lo hi),s.auto⟩,(s.items.length:Int)-(s.items.filter (λx=>!Zu x.key hl hh lo hi)).length):=by unfold ZD;rw[h];rfl
theorem ZhI {α:Type} {p:α→Bool} {xs:List α} {k:Nat} (h:k<xs.length) (hp:p xs[k]=true):(xs.take k).filter p++[xs[k]]=(xs.take (k+1)).filter p:=by
 rw[List.take_succ_eq_append_getElem h,List.filter_append];simp[hp]
theorem Zfb {α:Type} {p:α→Bool} {xs:List α} {k:Nat} (h:k<xs.length) (hp:p xs[k]=false):(xs.take k).filter p=(xs.take (k+1)).filter p:=by
 rw[List.take_succ_eq_append_getElem h,List.filter_append];simp[hp]
theorem BoxAt.bel {α:Type} {c:Cod α} {T:TypeId} {V wr w2:World} {xb o:Nat} {es:List α} {vE:Value} {Fi:List Nat} (H:BoxAt c T V wr xb o es vE Fi) (hx:xb<wr.heap.size) (hb:Below wr.heap.size wr w2):BoxAt c T V w2 xb o es vE Fi :=
 ⟨zcl hb H.cell,H.own.bel hb,H.fresh,H.ne,H.only.trans (Only.of_below hb),λi=>zcf hb (H.fz i),λi hi=>zcl hb (H.oth i hi)⟩
theorem ZnQ {α:Type} (p:α→Bool) (xs:List α) (k:Nat):((xs.take k).filter p).length≤k:=by
 have h1:=List.length_filter_le p (xs.take k)
 have h2:=List.length_take_le k xs
 omega
theorem Zdl (v:Value) (s:TStore) (lo hi:TKey) (hl hh:Bool) (F:List Nat) (w:World) (h:cItemS.rep w [v] s.items F) (hok:s.Ok) (hlo:lo.text.size≤maxLen) (hhi:hi.text.size≤maxLen) (hsm0:ZcE s) :
  Calls Tryz.prog 141 #[.agg #[.string s.name,v,.int .i64 s.auto],.agg #[.bool hl,.bool hh,.int .i64 lo.kind,.int .i64 lo.n,.string lo.text,.int .i64 hi.kind,.int .i64 hi.n,.string hi.text]] w (Zlr cStore w (ZD s hl hh lo hi).1 (.int .i64 (ZD s hl hh lo hi).2)):=by
 obtain⟨i0,hi0,hz0,hz1,hz2⟩:=info_parts Zds;obtain⟨A,cp,rfl⟩:=Zb h;obtain⟨-,hcp,hm⟩:=Zq h;have hnl:=hsm0.1;have HSM:=zh hsm0.2
 unfold maxLen at hm
 go_enter Tryz.func141,Tryz.ntmps141
 go_wp2_with fail;refine(Zbk _ s F _ (by exact zb h) hok.h0).mono ?_
 cases e1:Zs s
 ·have HOFF:=zh (ZnK (hl:=hl) (hh:=hh) (lo:=lo) (hi:=hi) e1)
  rintro e w1 ⟨rfl,hb1⟩;obtain⟨hc_w1,hf_w1,hz_w1⟩:=Zc hb1
  try simp at hz_w1
  obtain⟨ha0_w1,ha1_w1,ha2_w1⟩:=zg3 w.heap.size w1.heap.size;have hb_w1:=zt (w:=w) hb1
  go_wp2_with fail;refine(ZP #[_,_,_] s F _ (by exact TStore.mk_ hok (zb h)) hsm0).mono ?_
  intro e w2 hcr;obtain⟨B2,c2,G2,rfl,hb2,-,hr2,hl2⟩:=ZgW hcr;clear hcr;obtain⟨hc_w2,hf_w2,hz_w2⟩:=Zc hb2
  try simp at hz_w2
  obtain⟨ha0_w2,ha1_w2,ha2_w2⟩:=zg3 w.heap.size w2.heap.size;have hb_w2:=zt (w:=w) hb2
  have HP:=zh (And.intro hr2 hl2)
  have hlow:∀b,b∈G2→w.heap.size+3≤b:=λb hb=>by have h9:=hl2 b hb;(try simp at h9);omega
  go_wp2_with fail;refine bodyPost_ret (v:=.tuple #[.agg #[.string s.name,.slice B2 s.items.length c2,.int .i64 s.auto],.int .i64 0]) (by simp[results,Tryz.results141,go_sem, *]) rfl ?_
  rw[HOFF.out]
  have hfin:cItemS.rep w2 [.slice B2 s.items.length c2] s.items G2:=HP.out.1
  exact⟨_,G2,rfl,bl,TStore.mk_ hok (zks hfin hlow),Lo.mono hlow (by omega)⟩
 ·have HON:=zh (Zpw (hl:=hl) (hh:=hh) (lo:=lo) (hi:=hi) e1)
  rintro e w1 ⟨rfl,hb1⟩;obtain⟨hc_w1,hf_w1,hz_w1⟩:=Zc hb1
  try simp at hz_w1
  obtain⟨ha0_w1,ha1_w1,ha2_w1⟩:=zg3 w.heap.size w1.heap.size;have hb_w1:=zt (w:=w) hb1
  obtain⟨n,hxn⟩:∃n,s.items.length=n:=⟨_,rfl⟩
  have HN:=zh hxn;rw[hxn] at hcp hnl h⊢
  clear hxn;have hbw1:=hb_w1
  go_upto_region 4 with (fail)
  generalize hW:World.alloc _ _=W
  have hWs:W.heap.size=w1.heap.size+1:=by rw[← hW];clear hW;simp
  have hbW:Below w.heap.size w W:=by rw[← hW];exact bl
  have HP0:=zh (show W.cell? ⟨w.heap.size,1,none⟩=some (.slice A s.items.length cp)∧W.cell? ⟨w.heap.size+1,0,none⟩=some (.bool hl)∧W.cell? ⟨w.heap.size+1,1,none⟩=some (.bool hh)∧W.cell? ⟨w.heap.size+1,2,none⟩=some (.int .i64 lo.kind)∧W.cell? ⟨w.heap.size+1,3,none⟩=some (.int .i64 lo.n)∧W.cell? ⟨w.heap.size+1,4,none⟩=some (.string lo.text)∧W.cell? ⟨w.heap.size+1,5,none⟩=some (.int .i64 hi.kind)∧W.cell? ⟨w.heap.size+1,6,none⟩=some (.int .i64 hi.n)∧W.cell? ⟨w.heap.size+1,7,none⟩=some (.string hi.text) from by refine⟨?_,?_,?_,?_,?_,?_,?_,?_,?_⟩<;>(rw[← hW];clear hW;go_simp))
  have HZR:=zh (show W.cell? ⟨w.heap.size+2,0,none⟩=some (.string ⟨#[]⟩)∧W.cell? ⟨w.heap.size+2,1,none⟩=some (.slice none 0 0)∧W.cell? ⟨w.heap.size+2,2,none⟩=some (.int .i64 0)∧W.frozen? ⟨w.heap.size+2,0,none⟩=false∧W.frozen? ⟨w.heap.size+2,1,none⟩=false∧W.frozen? ⟨w.heap.size+2,2,none⟩=false from by refine⟨?_,?_,?_,?_,?_,?_⟩<;>(rw[← hW];clear hW;go_simp))
  have HK:=zh (show W.cell? ⟨w1.heap.size,0,none⟩=some (.string s.name)∧W.cell? ⟨w1.heap.size,1,none⟩=some (.slice none 0 0)∧W.cell? ⟨w1.heap.size,2,none⟩=some (.int .i64 s.auto)∧W.frozen? ⟨w1.heap.size,1,none⟩=false from by refine⟨?_,?_,?_,?_⟩<;>(rw[← hW];clear hW;go_simp))
  have hz12:w.heap.size+2<w1.heap.size:=ha2_w1
  have b1:W.cell? ⟨w.heap.size,1,none⟩=some (.slice A n cp):=by rw[← HN.out];exact HP0.out.1
  have hx1:=HK.out.2.1;clear hW hc_w1 hf_w1 hb1 hz_w1 ha0_w1 ha1_w1 ha2_w1 hb_w1 hbw1;go_wp2_with fail;go_loopw [7] (λi wr=>∃k:Nat,k≤n∧i=.int .i64 k∧BoxRow cItem 162 W wr w1.heap.size 1 ((s.items.take k).filter (λx=>!Zu x.key hl hh lo hi))) (λi _=>n-(intOf i).toNat)
  case atStart=>exact⟨0,Nat.zero_le _,rfl,BoxRow.start hx1⟩
  case round =>
   clear b1 hx1;obtain⟨k,hk,rfl,vE,Fi,HB⟩:=hrel;obtain⟨Ae,ce,hve⟩:=HB.own.slice;subst hve;have hql:=ZnQ (λx:TItem=>!Zu x.key hl hh lo hi) s.items k
   obtain⟨q,hq⟩:∃q,((s.items.take k).filter (λx=>!Zu x.key hl hh lo hi)).length=q:=⟨_,rfl⟩
   have HQ:=zh hq;rw[hq] at HB hql
   clear hq;have hE:=HB.cell;have hfr:=(HB.fz 1).trans HK.out.2.2.2
   have hz9:=HB.only.size;have hbw:Below w.heap.size w wr:=hbW.trans ((HB.only.bel w.heap.size (by omega) (λy hy=>by simp at hy;omega)).mono (Nat.le_refl _))
   have hbk0:=HB.only.block w.heap.size (by omega) (by intro hm9;simp at hm9;omega)
   have hbk1:=HB.only.block (w.heap.size+1) (by omega) (by intro hm9;simp at hm9;omega)
   have b1:wr.cell? ⟨w.heap.size,1,none⟩=some (.slice A n cp):=by rw[← HN.out];exact(World.cell?_of_block hbk0).trans HP0.out.1
   have r0:wr.cell? ⟨w.heap.size+1,0,none⟩=some (.bool hl):=(World.cell?_of_block hbk1).trans HP0.out.2.1
   have r1:wr.cell? ⟨w.heap.size+1,1,none⟩=some (.bool hh):=(World.cell?_of_block hbk1).trans HP0.out.2.2.1
   have r2:wr.cell? ⟨w.heap.size+1,2,none⟩=some (.int .i64 lo.kind):=(World.cell?_of_block hbk1).trans HP0.out.2.2.2.1
   have r33:wr.cell? ⟨w.heap.size+1,3,none⟩=some (.int .i64 lo.n):=(World.cell?_of_block hbk1).trans HP0.out.2.2.2.2.1
   have r4:wr.cell? ⟨w.heap.size+1,4,none⟩=some (.string lo.text):=(World.cell?_of_block hbk1).trans HP0.out.2.2.2.2.2.1
   have r5:wr.cell? ⟨w.heap.size+1,5,none⟩=some (.int .i64 hi.kind):=(World.cell?_of_block hbk1).trans HP0.out.2.2.2.2.2.2.1
   have r6:wr.cell? ⟨w.heap.size+1,6,none⟩=some (.int .i64 hi.n):=(World.cell?_of_block hbk1).trans HP0.out.2.2.2.2.2.2.2.1
   have r7:wr.cell? ⟨w.heap.size+1,7,none⟩=some (.string hi.text):=(World.cell?_of_block hbk1).trans HP0.out.2.2.2.2.2.2.2.2
   have hws:w.heap.size<wr.heap.size:=by omega
   have hws1:w.heap.size+1<wr.heap.size:=by omega
   have hws2:w1.heap.size<wr.heap.size:=by omega
   have hHB:=zh HB
   by_cases hlt:k<n
   ·have hkx:k<s.items.length:=by rw[HN.out];exact hlt
    obtain⟨g,o,A3,cc3,F3,rfl,hgF,hgr,hok3,q0,q1,q2,q3,r3,-⟩:=ZaO (zb h hbw) hkx
    have hki:((k:Int)<(n:Int)):=by omega
    have hsm:=HSM.out _ (List.getElem_mem hkx)
    clear HB hbk0 hbk1
    cases e3:Zu s.items[k].key hl hh lo hi
    ·go_wp2_with fail;have hwr:Below wr.heap.size wr wr:=Below.refl _ _
     have hS:=λw9 (hb:Below wr.heap.size wr w9)=>zn13 hb (zcl hb b1) (zcl hb q0) (zcl hb q1) (zcl hb q2) (zcl hb r0) (zcl hb r1) (zcl hb r2) (zcl hb r33) (zcl hb r4) (zcl hb r5) (zcl hb r6) (zcl hb r7)
     refine wp_region_held_drew (S:=(λw9=>Below wr.heap.size wr w9∧w9.cell? ⟨w.heap.size,1,none⟩=some (.slice (some ⟨g,o,none⟩) n cp)∧w9.cell? ⟨g,o+k*4,none⟩=some (.int .i64 s.items[k].key.kind)∧w9.cell? ⟨g,o+k*4+1,none⟩=some (.int .i64 s.items[k].key.n)∧w9.cell? ⟨g,o+k*4+2,none⟩=some (.string s.items[k].key.text)∧w9.cell? ⟨w.heap.size+1,0,none⟩=some (.bool hl)∧w9.cell? ⟨w.heap.size+1,1,none⟩=some (.bool hh)∧w9.cell? ⟨w.heap.size+1,2,none⟩=some (.int .i64 lo.kind)∧w9.cell? ⟨w.heap.size+1,3,none⟩=some (.int .i64 lo.n)∧w9.cell? ⟨w.heap.size+1,4,none⟩=some (.string lo.text)∧w9.cell? ⟨w.heap.size+1,5,none⟩=some (.int .i64 hi.kind)∧w9.cell? ⟨w.heap.size+1,6,none⟩=some (.int .i64 hi.n)∧w9.cell? ⟨w.heap.size+1,7,none⟩=some (.string hi.text))) (by kernel_rfl) (by (try dsimp only);exact hS _ bl) (λhHeld=>?_)
     refine zrd (i:=0) 25 ?_;refine zrd (i:=1) 26 ?_;refine zrd (i:=2) 27 ?_;refine zrd (i:=3) 28 ?_;(try simp only[Act.put,zp0,zp1,zp2]);refine zrd (i:=4) 29 ?_;refine zrd (i:=5) 30 ?_;refine zrd (i:=6) 31 ?_;(try simp only[Act.put,zp0,zp1,zp2]);refine zst 7 (λK hK=>?_)
     go_simp
     (go_at_call 170;refine(ZdM s.items[k].key lo hi hl hh _ hok3.h2 hlo hhi).mono ?_;rw[e3];rintro e w2 ⟨rfl,hb2⟩;have hbr2:=zt (w:=wr) hb2)
     try go_wp2_with fail
     refine hK.out _ _ ?_ (λhHeld=>?_)
     ·(try dsimp only)
      exact hS _ bl
     clear hK K;refine zrd (i:=8) 33 ?_;(try simp only[Act.put,zp0,zp1,zp2]);refine wpAnyH_done (by kernel_rfl) ?_ _
     have hz2r:=hbr2.size;have E2:=zcl hbr2 hE;have EF2:=zcf hbr2 hfr;have B2:=zcl hbr2 b1;have Q0:=zcl (p:=⟨g,o+k*4,none⟩) hbr2 q0
     have Q1:=zcl (p:=⟨g,o+k*4+1,none⟩) hbr2 q1
     have Q2:=zcl (p:=⟨g,o+k*4+2,none⟩) hbr2 q2
     have Q3:=zcl (p:=⟨g,o+k*4+3,none⟩) hbr2 q3
     have hg2:g<w2.heap.size:=by omega
     have hwz2:w.heap.size<w2.heap.size:=by omega
     have hwz3:w1.heap.size<w2.heap.size:=by omega
     clear q0 q1 q2 q3 hE hfr b1 r0 r1 r2 r33 r4 r5 r6 r7 hS;have hw22:Below w2.heap.size w2 w2:=Below.refl _ _
     go_wp2_with fail;have hS:=λw9 (hb:Below w2.heap.size w2 w9)=>zn7 hb (zcl hb E2) (zcl hb B2) (zcl hb Q0) (zcl hb Q1) (zcl hb Q2) (zcl hb Q3)
     refine ZaE (S:=(λw9=>Below w2.heap.size w2 w9∧w9.cell? ⟨w1.heap.size,1,none⟩=some (.slice Ae q ce)∧w9.cell? ⟨w.heap.size,1,none⟩=some (.slice (some ⟨g,o,none⟩) n cp)∧w9.cell? ⟨g,o+k*4,none⟩=some (.int .i64 s.items[k].key.kind)∧w9.cell? ⟨g,o+k*4+1,none⟩=some (.int .i64 s.items[k].key.n)∧w9.cell? ⟨g,o+k*4+2,none⟩=some (.string s.items[k].key.text)∧w9.cell? ⟨g,o+k*4+3,none⟩=some (.slice A3 s.items[k].rcd.fields.length cc3))) [9,10,11] (by kernel_rfl) (by (try dsimp only);exact hS _ bl) (λhHeld=>?_)
     refine zrdT (i:=0) 12 34 ?_;refine zrdT (i:=1) 12 35 ?_;refine zrdT (i:=2) 12 36 ?_;refine zrdT (i:=3) 12 37 ?_;(try simp only[Act.put,zp0,zp1,zp2]);refine zrdT (i:=4) 12 38 ?_;refine zrdT (i:=5) 12 39 ?_;refine zrdT (i:=6) 12 40 ?_;(try simp only[Act.put,zp0,zp1,zp2]);refine ZdW 7 (by kernel_rfl) rfl (λK hK=>?_)
     go_simp
     (go_at_call 127;refine(ZbD #[_,_,_,_] s.items[k] F3 _ (by exact TItem.mk_ hok3 (zb r3 (Za hbr2 bl))) hsm).mono ?_;rintro e w4 ⟨vs1,G1,rfl,hb4,hrep1,hf1⟩;obtain⟨v6,_,rfl,rfl,hok6,n6⟩:=TItem.outA hrep1;obtain⟨B6,d6,rfl⟩:=Zb n6;have hb24:=zt (w:=w2) hb4;have hbr4:Below wr.heap.size wr w4:=Za hbr2 hb24;(try simp at hf1);have hf2:Fresh wr.heap.size G1:=hf1.mono (by have h9:=hbr2.size;(try simp);(try omega)))
     try go_wp2_with fail
     refine hK.out _ _ ?_ (λhHeld=>?_)
     ·(try dsimp only)
      exact hS _ bl
     clear hK K;refine ZdW 8 (by kernel_rfl) rfl (λK hK=>?_)
     first|(go_at_call 127;refine(ZbD #[_,_,_,_] s.items[k] F3 _ (by exact TItem.mk_ hok3 (zb r3 (Za hbr2 bl))) hsm).mono ?_;rintro e w4 ⟨vs1,G1,rfl,hb4,hrep1,hf1⟩;obtain⟨v6,_,rfl,rfl,hok6,n6⟩:=TItem.outA hrep1;obtain⟨B6,d6,rfl⟩:=Zb n6;have hb24:=zt (w:=w2) hb4;have hbr4:Below wr.heap.size wr w4:=Za hbr2 hb24;(try simp at hf1);have hf2:Fresh wr.heap.size G1:=hf1.mono (by have h9:=hbr2.size;(try simp);(try omega)))|go_simp
     refine hK.out _ _ ?_ (λhHeld=>?_)
     ·(try dsimp only)
      exact hS _ bl
     clear hK K;refine ZT 9 (by kernel_rfl) rfl (by kernel_rfl) (λK hK=>?_)
     (refine ZfK (c:=cItem) (ys:=[s.items[k]]) (G:=G1) rfl _ _ _ rfl i0 _ _ Tryz.underlying122 hi0 hz0 hz1 hz2 rfl (by decide) rfl (.slice (some ⟨w4.heap.size,0,none⟩) 1 1) rfl (by omega) hHB.out (Za hbr4 bl) hf2 (λb hb=>by have h9:=Cod.lt _ n6 b hb;(try simp);omega) (Zcf (vs:=#[_,_,_,_]) _ _ (by simp) (TItem.mk_ hok6 n6)) (q+1) (by rw[List.length_append,HQ.out];rfl) (by unfold maxLen;omega) (by omega) ?_;intro A2 c2 w5 HA;rw[ZhI hkx (by rw[e3];rfl)] at HA;have hX:=HA.cell;have hXf:=(HA.fz 1).trans HK.out.2.2.2;have HR:=zh HA.row;clear HA)
     refine hK.out _ _ ?_
     clear hK K;refine ZT 10 (by kernel_rfl) rfl (by kernel_rfl) (λK hK=>?_)
     go_simp
     refine hK.out _ _ ?_
     clear hK K;refine ZT 11 (by kernel_rfl) rfl (by kernel_rfl) (λK hK=>?_)
     go_simp
     refine hK.out _ _ ?_
     clear hK K;refine Zfa (by kernel_rfl) ?_ _
     go_wp2_with fail;go_roundw
     case rel=>exact⟨k+1,by omega,by go_num,HR.out⟩
     case measure=>simp[intOf];omega
    ·have HSK:=zh (Zfb (p:=λx:TItem=>!Zu x.key hl hh lo hi) hkx (by rw[e3];rfl))
     go_wp2_with fail;have hwr:Below wr.heap.size wr wr:=Below.refl _ _
     have hS:=λw9 (hb:Below wr.heap.size wr w9)=>zn13 hb (zcl hb b1) (zcl hb q0) (zcl hb q1) (zcl hb q2) (zcl hb r0) (zcl hb r1) (zcl hb r2) (zcl hb r33) (zcl hb r4) (zcl hb r5) (zcl hb r6) (zcl hb r7)
     refine wp_region_held_drew (S:=(λw9=>Below wr.heap.size wr w9∧w9.cell? ⟨w.heap.size,1,none⟩=some (.slice (some ⟨g,o,none⟩) n cp)∧w9.cell? ⟨g,o+k*4,none⟩=some (.int .i64 s.items[k].key.kind)∧w9.cell? ⟨g,o+k*4+1,none⟩=some (.int .i64 s.items[k].key.n)∧w9.cell? ⟨g,o+k*4+2,none⟩=some (.string s.items[k].key.text)∧w9.cell? ⟨w.heap.size+1,0,none⟩=some (.bool hl)∧w9.cell? ⟨w.heap.size+1,1,none⟩=some (.bool hh)∧w9.cell? ⟨w.heap.size+1,2,none⟩=some (.int .i64 lo.kind)∧w9.cell? ⟨w.heap.size+1,3,none⟩=some (.int .i64 lo.n)∧w9.cell? ⟨w.heap.size+1,4,none⟩=some (.string lo.text)∧w9.cell? ⟨w.heap.size+1,5,none⟩=some (.int .i64 hi.kind)∧w9.cell? ⟨w.heap.size+1,6,none⟩=some (.int .i64 hi.n)∧w9.cell? ⟨w.heap.size+1,7,none⟩=some (.string hi.text))) (by kernel_rfl) (by (try dsimp only);exact hS _ bl) (λhHeld=>?_)
     refine zrd (i:=0) 25 ?_;refine zrd (i:=1) 26 ?_;refine zrd (i:=2) 27 ?_;refine zrd (i:=3) 28 ?_;(try simp only[Act.put,zp0,zp1,zp2]);refine zrd (i:=4) 29 ?_;refine zrd (i:=5) 30 ?_;refine zrd (i:=6) 31 ?_;(try simp only[Act.put,zp0,zp1,zp2]);refine zst 7 (λK hK=>?_)
     go_simp
     (go_at_call 170;refine(ZdM s.items[k].key lo hi hl hh _ hok3.h2 hlo hhi).mono ?_;rw[e3];rintro e w2 ⟨rfl,hb2⟩;have hbr2:=zt (w:=wr) hb2)
     try go_wp2_with fail
     refine hK.out _ _ ?_ (λhHeld=>?_)
     ·(try dsimp only)
      exact hS _ bl
     clear hK K;refine zrd (i:=8) 33 ?_;(try simp only[Act.put,zp0,zp1,zp2]);refine wpAnyH_done (by kernel_rfl) ?_ _
     have HB2:=zh (hHB.out.bel hws2 hbr2)
     go_wp2_with fail;go_roundw
     case rel=>exact⟨k+1,by omega,by go_num,by rw[← HSK.out];exact⟨_,_,HB2.out⟩⟩
     case measure=>simp[intOf];omega
   ·obtain rfl:k=n:=by omega
    have c0:wr.cell? ⟨w1.heap.size,0,none⟩=some (.string s.name):=(HB.oth 0 (by decide)).trans HK.out.1
    have c2:wr.cell? ⟨w1.heap.size,2,none⟩=some (.int .i64 s.auto):=(HB.oth 2 (by decide)).trans HK.out.2.2.1
    have hbk2:=HB.only.block (w.heap.size+2) (by omega) (by intro hm9;simp at hm9;omega)
    have d0:wr.cell? ⟨w.heap.size+2,0,none⟩=some (.string ⟨#[]⟩):=(World.cell?_of_block hbk2).trans HZR.out.1
    have d1:wr.cell? ⟨w.heap.size+2,1,none⟩=some (.slice none 0 0):=(World.cell?_of_block hbk2).trans HZR.out.2.1
    have d2:wr.cell? ⟨w.heap.size+2,2,none⟩=some (.int .i64 0):=(World.cell?_of_block hbk2).trans HZR.out.2.2.1
    have f0:wr.frozen? ⟨w.heap.size+2,0,none⟩=false:=(World.frozen?_of_block hbk2).trans HZR.out.2.2.2.1
    have f1:wr.frozen? ⟨w.heap.size+2,1,none⟩=false:=(World.frozen?_of_block hbk2).trans HZR.out.2.2.2.2.1
    have f2:wr.frozen? ⟨w.heap.size+2,2,none⟩=false:=(World.frozen?_of_block hbk2).trans HZR.out.2.2.2.2.2
    have hws3:w.heap.size+2<wr.heap.size:=by omega
    have hn1:¬w1.heap.size=w.heap.size+2:=by omega
    have hn2:¬w.heap.size+2=w1.heap.size:=by omega
    have htl:s.items.take k=s.items:=List.take_of_length_le (by rw[HN.out];exact Nat.le_refl _)
    have hown:=HB.own;rw[htl] at hown HQ
    obtain⟨FR9,hr9,hw9,-⟩:=hown.rep (hw:=by decide) (hw2:=by decide)
    have hlow:∀b,b∈FR9→w.heap.size+3≤b:=λb hb=>(hw9 b hb).elim (λh9=>by have h8:=(hown.lt b h9).1;omega) (λh9=>by have h8:=HB.fresh.1 b h9;omega)
    have hwq:IntKind.i64.wrap ((k:Int)-(q:Int))=(k:Int)-(q:Int):=IntWalk.i64_in _ (by omega)
    have HRP:=zh hr9;clear HB hown hr9 hw9 htl hbk0 hbk1 hbk2 r0 r1 r2 r33 r4 r5 r6 r7;go_wp2_with fail;refine wp_region_held_drew (S:=(λw9=>w9.cell? ⟨w1.heap.size,0,none⟩=some (.string s.name)∧w9.cell? ⟨w1.heap.size,1,none⟩=some (.slice Ae q ce)∧w9.cell? ⟨w1.heap.size,2,none⟩=some (.int .i64 s.auto)∧w9.cell? ⟨w.heap.size,1,none⟩=some (.slice A k cp))) (by kernel_rfl) (by (try dsimp only);(refine⟨?_,?_,?_,?_⟩<;>go_simp)) (λhHeld=>?_)
    refine zrd (i:=0) 45 ?_;refine zrd (i:=1) 46 ?_;refine zrd (i:=2) 47 ?_;refine zrd (i:=3) 48 ?_;(try simp only[Act.put,zp0,zp1,zp2]);refine zrd (i:=4) 49 ?_;refine zrd (i:=5) 50 ?_;refine zrd (i:=6) 51 ?_;refine zrd (i:=7) 52 ?_;(try simp only[Act.put,zp0,zp1,zp2]);refine zst 8 (λK hK=>?_)
    first|fail|go_simp
    refine hK.out _ _ ?_ (λhHeld=>?_)
    ·(try dsimp only)
     (refine⟨?_,?_,?_,?_⟩<;>go_simp)
    clear hK K;refine zrd (i:=9) 5 ?_;(try simp only[Act.put,zp0,zp1,zp2]);refine wpAnyH_done (by kernel_rfl) ?_ _
    go_wp2_with fail;refine bodyPost_ret (v:=.tuple #[.agg #[.string s.name,.slice Ae q ce,.int .i64 s.auto],.int .i64 ((k:Int)-(q:Int))]) (by simp[results,Tryz.results141,go_sem, *]) rfl ?_
    rw[HON.out,HQ.out,HN.out]
    have hfin:cItemS.rep wr [.slice Ae q ce] (s.items.filter (λx=>!Zu x.key hl hh lo hi)) FR9:=HRP.out
    exact⟨_,FR9,rfl,bl,TStore.mk_ (x:=⟨s.name,s.items.filter (λx=>!Zu x.key hl hh lo hi),s.auto⟩) ⟨hok.h0,hok.h2⟩ (zks hfin hlow),Lo.mono hlow (by omega)⟩
end Go.Proofs.YtghndifnohkokaaGreat
