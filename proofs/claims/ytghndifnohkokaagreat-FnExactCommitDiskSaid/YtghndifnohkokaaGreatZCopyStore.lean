/-
  CopyStore of the seat. No conditions but sizes.
-/
import Derived.Test.YtghndifnohkokaaGreatZCopyItem
namespace Go.Proofs.YtghndifnohkokaaGreat
open Go.ChangeShapes Go.WideShapes Go.RowKit
set_option linter.unusedVariables false
set_option linter.unusedSimpArgs false
set_option maxRecDepth 100000
set_option maxHeartbeats 16000000
theorem ZI (vs:Array Value) (s:TStore) (F:List Nat) (w:World) (h:cStore.rep w vs.toList s F) (hn:ZcE s) :
  Calls Tryz.prog 91 #[.agg vs] w (ZaT cStoreO w s):=by
 obtain⟨i0,hi0,hz0,hz1,hz2⟩:=info_parts Zds
 obtain⟨v1,F1,rfl,-,hok,m1⟩:=TStore.outA h
 obtain⟨A,cp,rfl⟩:=Zb m1
 obtain⟨-,hcp,hm⟩:=Zq m1
 have hnl:=hn.1
 have HSM:=zh hn.2
 clear h hn
 obtain⟨n,hxn⟩:∃n,s.items.length=n:=⟨_,rfl⟩
 have HN:=zh hxn
 rw[hxn] at hcp hnl⊢
 clear hxn
 unfold maxLen at hm
 go_enter Tryz.func91,Tryz.ntmps91
 go_wp2
 generalize hW:World.alloc _ _=W
 have hWs:W.heap.size=w.heap.size+3:=by rw[← hW];clear hW;simp
 have hbW:Below w.heap.size w W:=by rw[← hW];exact bl
 have HK:=zh (show W.cell? ⟨w.heap.size,0,none⟩=some (.string s.name)∧W.cell? ⟨w.heap.size,1,none⟩=some (.slice A n cp)∧W.cell? ⟨w.heap.size,2,none⟩=some (.int .i64 s.auto)∧W.cell? ⟨w.heap.size+1,0,none⟩=some (.string ⟨#[]⟩)∧W.cell? ⟨w.heap.size+1,1,none⟩=some (.slice none 0 0)∧W.cell? ⟨w.heap.size+1,2,none⟩=some (.int .i64 0)∧W.cell? ⟨w.heap.size+1+1,0,none⟩=some (.string s.name)∧W.cell? ⟨w.heap.size+1+1,1,none⟩=some (.slice none 0 0)∧W.cell? ⟨w.heap.size+1+1,2,none⟩=some (.int .i64 s.auto) from by refine⟨?_,?_,?_,?_,?_,?_,?_,?_,?_⟩<;>(rw[← hW];clear hW;go_simp))
 have HZ0:W.frozen? ⟨w.heap.size+1,0,none⟩=false:=by rw[← hW];clear hW;go_simp
 have HZ1:W.frozen? ⟨w.heap.size+1,1,none⟩=false:=by rw[← hW];clear hW;go_simp
 have HZ2:W.frozen? ⟨w.heap.size+1,2,none⟩=false:=by rw[← hW];clear hW;go_simp
 have HZ3:W.frozen? ⟨w.heap.size+1+1,1,none⟩=false:=by rw[← hW];clear hW;go_simp
 clear hW
 have hfz:W.frozen? ⟨w.heap.size+1+1,1,none⟩=false:=HZ3
 go_loopw [14] (λi wr=>∃k:Nat,k≤n∧i=.int .i64 k∧BoxRow cItem 162 W wr (w.heap.size+1+1) 1 (s.items.take k)) (λi _=>n-(intOf i).toNat)
 case atStart=>exact⟨0,Nat.zero_le _,rfl,BoxRow.start HK.out.2.2.2.2.2.2.2.1⟩
 case round =>
  obtain⟨k,hk,rfl,vE,Fi,HB⟩:=hrel
  obtain⟨Ae,ce,hve⟩:=HB.own.slice
  subst hve
  have hlk:(s.items.take k).length=k:=by rw[List.length_take,HN.out];omega
  rw[hlk] at HB
  clear hlk
  have hE:=HB.cell
  have hfr:=(HB.fz 1).trans hfz
  have hC0:=HB.oth 0 (by decide)
  have hC2:=HB.oth 2 (by decide)
  have hz9:=HB.only.size
  have hbw:Below w.heap.size w wr:=hbW.trans ((HB.only.bel w.heap.size (by omega) (λy hy=>by simp at hy;omega)).mono (Nat.le_refl _))
  have hbk:=HB.only.block w.heap.size (by omega) (by intro hm9;simp at hm9;omega)
  have b0:wr.cell? ⟨w.heap.size,0,none⟩=some (.string s.name):=(World.cell?_of_block hbk).trans HK.out.1
  have b1:wr.cell? ⟨w.heap.size,1,none⟩=some (.slice A n cp):=(World.cell?_of_block hbk).trans HK.out.2.1
  have hws:w.heap.size<wr.heap.size:=by omega
  have hws2:w.heap.size+1+1<wr.heap.size:=by omega
  have hHB:=zh HB
  by_cases hlt:k<n
  ·have hkx:k<s.items.length:=by rw[HN.out];exact hlt
   obtain⟨g,o,A3,c3',F3,rfl,hgF,hgr,hok3,q0,q1,q2,q3,r3,-⟩:=ZaO (zb m1 hbw) hkx
   have hki:((k:Int)<(n:Int)):=by omega
   have hsm:=HSM.out _ (List.getElem_mem hkx)
   have hwr1:¬wr.heap.size=w.heap.size+1+1:=by omega
   have hwr2:¬wr.heap.size=w.heap.size:=by omega
   have hwr3:¬g=wr.heap.size:=by omega
   have hnlk:k+1≤1048577:=by omega
   clear HB hC0 hC2
   go_wp2_with fail
   generalize hV:World.alloc _ _=V
   have hbV:Below wr.heap.size wr V:=by rw[← hV];exact bl
   have hVs:V.heap.size=wr.heap.size+1:=by rw[← hV];clear hV;simp
   have c0:V.cell? ⟨wr.heap.size,0,none⟩=some (.int .i64 s.items[k].key.kind):=by rw[← hV];clear hV;go_simp
   have c1:V.cell? ⟨wr.heap.size,1,none⟩=some (.int .i64 s.items[k].key.n):=by rw[← hV];clear hV;go_simp
   have c2:V.cell? ⟨wr.heap.size,2,none⟩=some (.string s.items[k].key.text):=by rw[← hV];clear hV;go_simp
   have c3:V.cell? ⟨wr.heap.size,3,none⟩=some (.slice A3 s.items[k].rcd.fields.length c3'):=by rw[← hV];clear hV;go_simp
   clear hV
   have hS:=λw9 (hb:Below V.heap.size V w9)=>zn6 hb (zcl hb ((World.cell?_of_block (hbV.block (w.heap.size+1+1) (by omega))).trans hE)) (zcl hb c0) (zcl hb c1) (zcl hb c2) (zcl hb c3)
   clear hE
   refine ZaE (S:=(λw9=>Below V.heap.size V w9∧w9.cell? ⟨w.heap.size+1+1,1,none⟩=some (.slice Ae k ce)∧w9.cell? ⟨wr.heap.size,0,none⟩=some (.int .i64 s.items[k].key.kind)∧w9.cell? ⟨wr.heap.size,1,none⟩=some (.int .i64 s.items[k].key.n)∧w9.cell? ⟨wr.heap.size,2,none⟩=some (.string s.items[k].key.text)∧w9.cell? ⟨wr.heap.size,3,none⟩=some (.slice A3 s.items[k].rcd.fields.length c3'))) [5,6,7] (by kernel_rfl) (by (try dsimp only);exact hS _ bl) (λhHeld=>?_)
   refine zrdT (i:=0) 8 18 ?_
   refine zrdT (i:=1) 8 19 ?_
   refine zrdT (i:=2) 8 20 ?_
   try simp only[Act.put,zp0,zp1,zp2]
   refine ZdW 3 (by kernel_rfl) rfl (λK hK=>?_)
   go_simp
   (go_at_call 131;refine(ZcS #[_,_,_,_] s.items[k] F3 _ (by exact TItem.mk_ hok3 (zb r3 (Za hbV bl))) hsm).mono ?_;rintro e w1 ⟨vs1,G1,rfl,hb1,hrep1,hf1⟩;obtain⟨v6,_,rfl,rfl,hok6,n6⟩:=TItem.outA hrep1;obtain⟨B6,d6,rfl⟩:=Zb n6;have hbV1:=zt (w:=V) hb1;have hbr1:Below wr.heap.size wr w1:=Za hbV hbV1;(try simp at hf1);have hf2:Fresh wr.heap.size G1:=hf1.mono (by (try simp);(try omega)))
   try go_wp2_with fail
   refine hK.out _ _ ?_ (λhHeld=>?_)
   ·(try dsimp only)
    exact hS _ bl
   clear hK K
   refine ZdW 4 (by kernel_rfl) rfl (λK hK=>?_)
   first|(go_at_call 131;refine(ZcS #[_,_,_,_] s.items[k] F3 _ (by exact TItem.mk_ hok3 (zb r3 (Za hbV bl))) hsm).mono ?_;rintro e w1 ⟨vs1,G1,rfl,hb1,hrep1,hf1⟩;obtain⟨v6,_,rfl,rfl,hok6,n6⟩:=TItem.outA hrep1;obtain⟨B6,d6,rfl⟩:=Zb n6;have hbV1:=zt (w:=V) hb1;have hbr1:Below wr.heap.size wr w1:=Za hbV hbV1;(try simp at hf1);have hf2:Fresh wr.heap.size G1:=hf1.mono (by (try simp);(try omega)))|go_simp
   refine hK.out _ _ ?_ (λhHeld=>?_)
   ·(try dsimp only)
    exact hS _ bl
   clear hK K
   refine ZT 5 (by kernel_rfl) rfl (by kernel_rfl) (λK hK=>?_)
   (refine ZfK (c:=cItem) (ys:=[s.items[k]]) (G:=G1) rfl _ _ _ rfl i0 _ _ Tryz.underlying122 hi0 hz0 hz1 hz2 rfl (by decide) rfl (.slice (some ⟨w1.heap.size,0,none⟩) 1 1) rfl (by omega) hHB.out (Za hbr1 bl) hf2 (λb hb=>by have h9:=Cod.lt _ n6 b hb;(try simp);omega) (Zcf (vs:=#[_,_,_,_]) _ _ (by simp) (TItem.mk_ hok6 n6)) (k+1) (by have h9:=HN.out;simp only[List.length_append,List.length_take,List.length_singleton];omega) (by unfold maxLen;omega) (by omega) ?_;intro A2 c2 w2 HA;rw[Zhq hkx] at HA;have hX:=HA.cell;have hXf:=(HA.fz 1).trans hfz;have HR:=zh HA.row;clear HA)
   refine hK.out _ _ ?_
   clear hK K
   refine ZT 6 (by kernel_rfl) rfl (by kernel_rfl) (λK hK=>?_)
   go_simp
   refine hK.out _ _ ?_
   clear hK K
   refine ZT 7 (by kernel_rfl) rfl (by kernel_rfl) (λK hK=>?_)
   go_simp
   refine hK.out _ _ ?_
   clear hK K
   refine Zfa (by kernel_rfl) ?_ _
   go_wp2_with fail
   go_roundw
   case rel=>exact⟨k+1,by omega,by go_num,HR.out⟩
   case measure=>simp[intOf];omega
  ·obtain rfl:k=n:=by omega
   have c0:wr.cell? ⟨w.heap.size+1+1,0,none⟩=some (.string s.name):=hC0.trans HK.out.2.2.2.2.2.2.1
   have c2:wr.cell? ⟨w.heap.size+1+1,2,none⟩=some (.int .i64 s.auto):=hC2.trans HK.out.2.2.2.2.2.2.2.2
   clear hC0 hC2
   have hb9:=HB.only.block (w.heap.size+1) (by omega) (by simp)
   have d0:wr.cell? ⟨w.heap.size+1,0,none⟩=some (.string ⟨#[]⟩):=(World.cell?_of_block hb9).trans HK.out.2.2.2.1
   have d1:wr.cell? ⟨w.heap.size+1,1,none⟩=some (.slice none 0 0):=(World.cell?_of_block hb9).trans HK.out.2.2.2.2.1
   have d2:wr.cell? ⟨w.heap.size+1,2,none⟩=some (.int .i64 0):=(World.cell?_of_block hb9).trans HK.out.2.2.2.2.2.1
   have f0:wr.frozen? ⟨w.heap.size+1,0,none⟩=false:=(World.frozen?_of_block hb9).trans HZ0
   have f1:wr.frozen? ⟨w.heap.size+1,1,none⟩=false:=(World.frozen?_of_block hb9).trans HZ1
   have f2:wr.frozen? ⟨w.heap.size+1,2,none⟩=false:=(World.frozen?_of_block hb9).trans HZ2
   have hws1:w.heap.size+1<wr.heap.size:=by omega
   have htl:s.items.take k=s.items:=List.take_of_length_le (by rw[HN.out];exact Nat.le_refl _)
   have hown:=HB.own
   rw[htl] at hown
   obtain⟨hrep,hff⟩:=hown.toO (hw2:=by decide) HB.fresh HB.ne
   have hlow:∀b,b∈ZlG (.slice Ae k ce)++Fi→W.heap.size≤b:=hff.1
   have HRP:=zh hrep
   clear HB hown hrep htl hb9 hbk
   go_wp2_with fail
   refine bodyPost_ret (v:=.agg #[.string s.name,.slice Ae k ce,.int .i64 s.auto]) (by simp[results,Tryz.results91,go_sem, *]) rfl ?_
   have hfin:cItemsO.rep wr [.slice Ae k ce] s.items (ZlG (.slice Ae k ce)++Fi):=HRP.out
   exact⟨_,_,rfl,bl,TStore.mkO hok (zks hfin hlow),hff.mono (by omega)⟩
theorem ZP (vs:Array Value) (s:TStore) (F:List Nat) (w:World) (h:cStore.rep w vs.toList s F) (hn:ZcE s) :
  Calls Tryz.prog 84 #[.agg vs] w (ZaT cStoreO w s):=by
 obtain⟨i0,hi0,hz0,hz1,hz2⟩:=info_parts Zds
 obtain⟨v1,F1,rfl,-,hok,m1⟩:=TStore.outA h
 obtain⟨A,cp,rfl⟩:=Zb m1
 obtain⟨-,hcp,hm⟩:=Zq m1
 have hnl:=hn.1
 have HSM:=zh hn.2
 clear h hn
 obtain⟨n,hxn⟩:∃n,s.items.length=n:=⟨_,rfl⟩
 have HN:=zh hxn
 rw[hxn] at hcp hnl⊢
 clear hxn
 unfold maxLen at hm
 go_enter Tryz.func84,Tryz.ntmps84
 go_wp2
 generalize hW:World.alloc _ _=W
 have hWs:W.heap.size=w.heap.size+3:=by rw[← hW];clear hW;simp
 have hbW:Below w.heap.size w W:=by rw[← hW];exact bl
 have HK:=zh (show W.cell? ⟨w.heap.size,0,none⟩=some (.string s.name)∧W.cell? ⟨w.heap.size,1,none⟩=some (.slice A n cp)∧W.cell? ⟨w.heap.size,2,none⟩=some (.int .i64 s.auto)∧W.cell? ⟨w.heap.size+1,0,none⟩=some (.string ⟨#[]⟩)∧W.cell? ⟨w.heap.size+1,1,none⟩=some (.slice none 0 0)∧W.cell? ⟨w.heap.size+1,2,none⟩=some (.int .i64 0)∧W.cell? ⟨w.heap.size+1+1,0,none⟩=some (.string s.name)∧W.cell? ⟨w.heap.size+1+1,1,none⟩=some (.slice none 0 0)∧W.cell? ⟨w.heap.size+1+1,2,none⟩=some (.int .i64 s.auto) from by refine⟨?_,?_,?_,?_,?_,?_,?_,?_,?_⟩<;>(rw[← hW];clear hW;go_simp))
 have HZ0:W.frozen? ⟨w.heap.size+1,0,none⟩=false:=by rw[← hW];clear hW;go_simp
 have HZ1:W.frozen? ⟨w.heap.size+1,1,none⟩=false:=by rw[← hW];clear hW;go_simp
 have HZ2:W.frozen? ⟨w.heap.size+1,2,none⟩=false:=by rw[← hW];clear hW;go_simp
 have HZ3:W.frozen? ⟨w.heap.size+1+1,1,none⟩=false:=by rw[← hW];clear hW;go_simp
 clear hW
 have hfz:W.frozen? ⟨w.heap.size+1+1,1,none⟩=false:=HZ3
 go_loopw [4] (λi wr=>∃k:Nat,k≤n∧i=.int .i64 k∧BoxRow cItem 162 W wr (w.heap.size+1+1) 1 (s.items.take k)) (λi _=>n-(intOf i).toNat)
 case atStart=>exact⟨0,Nat.zero_le _,rfl,BoxRow.start HK.out.2.2.2.2.2.2.2.1⟩
 case round =>
  obtain⟨k,hk,rfl,vE,Fi,HB⟩:=hrel
  obtain⟨Ae,ce,hve⟩:=HB.own.slice
  subst hve
  have hlk:(s.items.take k).length=k:=by rw[List.length_take,HN.out];omega
  rw[hlk] at HB
  clear hlk
  have hE:=HB.cell
  have hfr:=(HB.fz 1).trans hfz
  have hC0:=HB.oth 0 (by decide)
  have hC2:=HB.oth 2 (by decide)
  have hz9:=HB.only.size
  have hbw:Below w.heap.size w wr:=hbW.trans ((HB.only.bel w.heap.size (by omega) (λy hy=>by simp at hy;omega)).mono (Nat.le_refl _))
  have hbk:=HB.only.block w.heap.size (by omega) (by intro hm9;simp at hm9;omega)
  have b0:wr.cell? ⟨w.heap.size,0,none⟩=some (.string s.name):=(World.cell?_of_block hbk).trans HK.out.1
  have b1:wr.cell? ⟨w.heap.size,1,none⟩=some (.slice A n cp):=(World.cell?_of_block hbk).trans HK.out.2.1
  have hws:w.heap.size<wr.heap.size:=by omega
  have hws2:w.heap.size+1+1<wr.heap.size:=by omega
  have hHB:=zh HB
  by_cases hlt:k<n
  ·have hkx:k<s.items.length:=by rw[HN.out];exact hlt
   obtain⟨g,o,A3,c3',F3,rfl,hgF,hgr,hok3,q0,q1,q2,q3,r3,-⟩:=ZaO (zb m1 hbw) hkx
   have hki:((k:Int)<(n:Int)):=by omega
   have hsm:=HSM.out _ (List.getElem_mem hkx)
   have hwr1:¬wr.heap.size=w.heap.size+1+1:=by omega
   have hwr2:¬wr.heap.size=w.heap.size:=by omega
   have hwr3:¬g=wr.heap.size:=by omega
   have hnlk:k+1≤1048577:=by omega
   clear HB hC0 hC2
   go_wp2_with fail
   have hbV:Below wr.heap.size wr wr:=Below.refl _ _
   have c0:=q0
   have c1:=q1
   have c2:=q2
   have c3:=q3
   have hS:=λw9 (hb:Below wr.heap.size wr w9)=>zn7 hb (zcl hb ((World.cell?_of_block (hbV.block (w.heap.size+1+1) (by omega))).trans hE)) (zcl hb ((World.cell?_of_block (hbV.block w.heap.size (by omega))).trans b1)) (zcl hb c0) (zcl hb c1) (zcl hb c2) (zcl hb c3)
   clear hE
   refine ZaE (S:=(λw9=>Below wr.heap.size wr w9∧w9.cell? ⟨w.heap.size+1+1,1,none⟩=some (.slice Ae k ce)∧w9.cell? ⟨w.heap.size,1,none⟩=some (.slice (some ⟨g,o,none⟩) n cp)∧w9.cell? ⟨g,o+k*4,none⟩=some (.int .i64 s.items[k].key.kind)∧w9.cell? ⟨g,o+k*4+1,none⟩=some (.int .i64 s.items[k].key.n)∧w9.cell? ⟨g,o+k*4+2,none⟩=some (.string s.items[k].key.text)∧w9.cell? ⟨g,o+k*4+3,none⟩=some (.slice A3 s.items[k].rcd.fields.length c3'))) [9,10,11] (by kernel_rfl) (by (try dsimp only);exact hS _ bl) (λhHeld=>?_)
   refine zrdT (i:=0) 12 17 ?_
   refine zrdT (i:=1) 12 18 ?_
   refine zrdT (i:=2) 12 19 ?_
   refine zrdT (i:=3) 12 20 ?_
   refine zrdT (i:=4) 12 21 ?_
   refine zrdT (i:=5) 12 22 ?_
   refine zrdT (i:=6) 12 23 ?_
   try simp only[Act.put,zp0,zp1,zp2]
   refine ZdW 7 (by kernel_rfl) rfl (λK hK=>?_)
   go_simp
   (go_at_call 127;refine(ZbD #[_,_,_,_] s.items[k] F3 _ (by exact TItem.mk_ hok3 (zb r3 (Za hbV bl))) hsm).mono ?_;rintro e w1 ⟨vs1,G1,rfl,hb1,hrep1,hf1⟩;obtain⟨v6,_,rfl,rfl,hok6,n6⟩:=TItem.outA hrep1;obtain⟨B6,d6,rfl⟩:=Zb n6;have hbV1:=zt (w:=wr) hb1;have hbr1:Below wr.heap.size wr w1:=Za hbV hbV1;(try simp at hf1);have hf2:Fresh wr.heap.size G1:=hf1.mono (by (try simp);(try omega)))
   try go_wp2_with fail
   refine hK.out _ _ ?_ (λhHeld=>?_)
   ·(try dsimp only)
    exact hS _ bl
   clear hK K
   refine ZdW 8 (by kernel_rfl) rfl (λK hK=>?_)
   first|(go_at_call 127;refine(ZbD #[_,_,_,_] s.items[k] F3 _ (by exact TItem.mk_ hok3 (zb r3 (Za hbV bl))) hsm).mono ?_;rintro e w1 ⟨vs1,G1,rfl,hb1,hrep1,hf1⟩;obtain⟨v6,_,rfl,rfl,hok6,n6⟩:=TItem.outA hrep1;obtain⟨B6,d6,rfl⟩:=Zb n6;have hbV1:=zt (w:=wr) hb1;have hbr1:Below wr.heap.size wr w1:=Za hbV hbV1;(try simp at hf1);have hf2:Fresh wr.heap.size G1:=hf1.mono (by (try simp);(try omega)))|go_simp
   refine hK.out _ _ ?_ (λhHeld=>?_)
   ·(try dsimp only)
    exact hS _ bl
   clear hK K
   refine ZT 9 (by kernel_rfl) rfl (by kernel_rfl) (λK hK=>?_)
   (refine ZfK (c:=cItem) (ys:=[s.items[k]]) (G:=G1) rfl _ _ _ rfl i0 _ _ Tryz.underlying122 hi0 hz0 hz1 hz2 rfl (by decide) rfl (.slice (some ⟨w1.heap.size,0,none⟩) 1 1) rfl (by omega) hHB.out (Za hbr1 bl) hf2 (λb hb=>by have h9:=Cod.lt _ n6 b hb;(try simp);omega) (Zcf (vs:=#[_,_,_,_]) _ _ (by simp) (TItem.mk_ hok6 n6)) (k+1) (by have h9:=HN.out;simp only[List.length_append,List.length_take,List.length_singleton];omega) (by unfold maxLen;omega) (by omega) ?_;intro A2 c2 w2 HA;rw[Zhq hkx] at HA;have hX:=HA.cell;have hXf:=(HA.fz 1).trans hfz;have HR:=zh HA.row;clear HA)
   refine hK.out _ _ ?_
   clear hK K
   refine ZT 10 (by kernel_rfl) rfl (by kernel_rfl) (λK hK=>?_)
   go_simp
   refine hK.out _ _ ?_
   clear hK K
   refine ZT 11 (by kernel_rfl) rfl (by kernel_rfl) (λK hK=>?_)
   go_simp
   refine hK.out _ _ ?_
   clear hK K
   refine Zfa (by kernel_rfl) ?_ _
   go_wp2_with fail
   go_roundw
   case rel=>exact⟨k+1,by omega,by go_num,HR.out⟩
   case measure=>simp[intOf];omega
  ·obtain rfl:k=n:=by omega
   have c0:wr.cell? ⟨w.heap.size+1+1,0,none⟩=some (.string s.name):=hC0.trans HK.out.2.2.2.2.2.2.1
   have c2:wr.cell? ⟨w.heap.size+1+1,2,none⟩=some (.int .i64 s.auto):=hC2.trans HK.out.2.2.2.2.2.2.2.2
   clear hC0 hC2
   have hb9:=HB.only.block (w.heap.size+1) (by omega) (by simp)
   have d0:wr.cell? ⟨w.heap.size+1,0,none⟩=some (.string ⟨#[]⟩):=(World.cell?_of_block hb9).trans HK.out.2.2.2.1
   have d1:wr.cell? ⟨w.heap.size+1,1,none⟩=some (.slice none 0 0):=(World.cell?_of_block hb9).trans HK.out.2.2.2.2.1
   have d2:wr.cell? ⟨w.heap.size+1,2,none⟩=some (.int .i64 0):=(World.cell?_of_block hb9).trans HK.out.2.2.2.2.2.1
   have f0:wr.frozen? ⟨w.heap.size+1,0,none⟩=false:=(World.frozen?_of_block hb9).trans HZ0
   have f1:wr.frozen? ⟨w.heap.size+1,1,none⟩=false:=(World.frozen?_of_block hb9).trans HZ1
   have f2:wr.frozen? ⟨w.heap.size+1,2,none⟩=false:=(World.frozen?_of_block hb9).trans HZ2
   have hws1:w.heap.size+1<wr.heap.size:=by omega
   have htl:s.items.take k=s.items:=List.take_of_length_le (by rw[HN.out];exact Nat.le_refl _)
   have hown:=HB.own
   rw[htl] at hown
   obtain⟨hrep,hff⟩:=hown.toO (hw2:=by decide) HB.fresh HB.ne
   have hlow:∀b,b∈ZlG (.slice Ae k ce)++Fi→W.heap.size≤b:=hff.1
   have HRP:=zh hrep
   clear HB hown hrep htl hb9 hbk
   go_wp2_with fail
   refine bodyPost_ret (v:=.agg #[.string s.name,.slice Ae k ce,.int .i64 s.auto]) (by simp[results,Tryz.results84,go_sem, *]) rfl ?_
   have hfin:cItemsO.rep wr [.slice Ae k ce] s.items (ZlG (.slice Ae k ce)++Fi):=HRP.out
   exact⟨_,_,rfl,bl,TStore.mkO hok (zks hfin hlow),hff.mono (by omega)⟩
end Go.Proofs.YtghndifnohkokaaGreat
