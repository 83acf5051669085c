/-
  CopyDb of the seat. No conditions but sizes.
-/
import Derived.Test.YtghndifnohkokaaGreatZCopyStore
namespace Go.Proofs.YtghndifnohkokaaGreat
open Go.ChangeShapes Go.WideShapes Go.RowKit
set_option linter.unusedVariables false
set_option linter.unusedSimpArgs false
set_option maxRecDepth 100000
set_option maxHeartbeats 16000000
theorem Fresh.app2 {B C:Nat} {F G:List Nat} (h:Fresh C F) (k:Fresh B G) (hlt:∀b,b∈G→b<C) (hBC:B≤C):Fresh B (F++G):=by
 refine⟨λb hb=>?_,List.nodup_append.2 ⟨h.2,k.2,λa ha b hb e=>?_⟩⟩
 ·rcases List.mem_append.1 hb with hb|hb
  ·exact Nat.le_trans hBC (h.1 b hb)
  ·exact k.1 b hb
 ·have h1:=h.1 a ha;have h2:=hlt b hb;omega
structure Zqa (wq:World) (xb:Nat) (d:TDb) (U:Option Addr) (cu:Nat) (G:List Nat):Prop where
 c0:wq.cell? ⟨xb,0,none⟩=some (.string d.name)
 c1:wq.cell? ⟨xb,1,none⟩=some (.int .i64 d.ver)
 c2:wq.cell? ⟨xb,2,none⟩=some (.slice none 0 0)
 c3:wq.cell? ⟨xb,3,none⟩=some (.slice U d.uniq.length cu)
 z2:wq.frozen? ⟨xb,2,none⟩=false
 r:cIdxS.rep wq [.slice U d.uniq.length cu] d.uniq G
 ne:∀b,b∈G→b≠xb
theorem ZaF (vs:Array Value) (d:TDb) (F:List Nat) (w:World) (h:cDb.rep w vs.toList d F) (hn:Zbl d) :
  Calls Tryz.prog 50 #[.agg vs] w (ZaT cDbO w d):=by
 obtain⟨i0,hi0,hz0,hz1,hz2⟩:=info_parts ZkF
 obtain⟨j0,hj0,jz0,jz1,jz2⟩:=info_parts ZnT
 obtain⟨v2,v3,F2,F3,rfl,-,hok,m2,m3⟩:=TDb.outA h
 obtain⟨A,cp,rfl⟩:=Zb m2
 obtain⟨U,cu,rfl⟩:=Zb m3
 obtain⟨-,hcp,hm⟩:=Zq m2
 have hnl:=hn.1
 have hnu:=hn.2.1
 have HSM:=zh hn.2.2
 clear h hn
 obtain⟨n,hxn⟩:∃n,d.stores.length=n:=⟨_,rfl⟩
 have HN:=zh hxn
 rw[hxn] at hcp hnl⊢
 clear hxn
 unfold maxLen at hm
 go_enter Tryz.func50,Tryz.ntmps50
 go_wp2_with fail
 generalize hV:World.alloc _ _=V
 have hVs:V.heap.size=w.heap.size+2:=by rw[← hV];clear hV;simp
 have hbV:Below w.heap.size w V:=by rw[← hV];exact bl
 have p0:V.cell? ⟨w.heap.size,0,none⟩=some (.string d.name):=by rw[← hV];clear hV;go_simp
 have p1:V.cell? ⟨w.heap.size,1,none⟩=some (.int .i64 d.ver):=by rw[← hV];clear hV;go_simp
 have p2:V.cell? ⟨w.heap.size,2,none⟩=some (.slice A n cp):=by rw[← hV];clear hV;go_simp
 have p3:V.cell? ⟨w.heap.size,3,none⟩=some (.slice U d.uniq.length cu):=by rw[← hV];clear hV;go_simp
 have HR0:=zh (show V.cell? ⟨w.heap.size+1,0,none⟩=some (.string ⟨#[]⟩)∧V.cell? ⟨w.heap.size+1,1,none⟩=some (.int .i64 0)∧V.cell? ⟨w.heap.size+1,2,none⟩=some (.slice none 0 0)∧V.cell? ⟨w.heap.size+1,3,none⟩=some (.slice none 0 0)∧V.frozen? ⟨w.heap.size+1,0,none⟩=false∧V.frozen? ⟨w.heap.size+1,1,none⟩=false∧V.frozen? ⟨w.heap.size+1,2,none⟩=false∧V.frozen? ⟨w.heap.size+1,3,none⟩=false from by refine⟨?_,?_,?_,?_,?_,?_,?_,?_⟩<;>(rw[← hV];clear hV;go_simp))
 clear hV
 have hS:=λw9 (hb:Below V.heap.size V w9)=>zn5 hb (zcl hb p0) (zcl hb p1) (zcl hb p2) (zcl hb p3)
 go_cut [3] from 6 to 14 (λt3 wq=>∃xb U1 cu1 G1,t3=.pointer (some ⟨xb,0,none⟩)∧Zqa wq xb d U1 cu1 G1∧Fresh V.heap.size G1∧V.heap.size≤xb∧xb<wq.heap.size∧Below V.heap.size V wq)
 case first =>
  go_region_held3 (λw9=>Below V.heap.size V w9∧w9.cell? ⟨w.heap.size,0,none⟩=some (.string d.name)∧w9.cell? ⟨w.heap.size,1,none⟩=some (.int .i64 d.ver)∧w9.cell? ⟨w.heap.size,2,none⟩=some (.slice A n cp)∧w9.cell? ⟨w.heap.size,3,none⟩=some (.slice U d.uniq.length cu)) (exact hS _ bl)
   (first
    | (
     refine ZcA (c:=cIdx) (B:=V.heap.size) (xs:=[]) (ys:=d.uniq) (Fi:=[]) (Fy:=[]) _ rfl _ _ _ rfl j0 _ _ Tryz.underlying31 hj0 jz0 jz1 jz2 rfl (by decide) (v:=.slice (some _) 0 0) rfl (Own.empty _) (.slice U d.uniq.length cu) rfl (AppSrc.flat (hw:=by decide) (hw2:=by decide) Zmm (zb m3 (Za hbV bl))) (by unfold maxLen;simp;omega) (by simp;omega) (by (try simp);(try omega)) (by simp[Zac]) ?_
     intro v1 w1 ho hg hat
     replace ho:Own cIdx 133 V.heap.size w1 v1 d.uniq []:=ho
     obtain⟨B1,e1,e9⟩:=ho.slice
     subst e9
     have hb1:=(Below.refl _ _).grown hg (Nat.le_refl _) (by simp[Zac])
     have hV1:=zt (w:=V) hb1
     have hat1:∀g,Zac (.slice B1 d.uniq.length e1)=some g→_:=λg hg=>(hat g hg).resolve_left (by simp[Zac])
     obtain⟨hc1,hf1,hz1⟩:=Zc hb1
     (try simp at hz1)
     have hz1V:=hV1.size
     obtain⟨G1,hr1,hfr1,how1⟩:=ho.fresh (hw:=by decide) (hw2:=by decide)
     have hGlt:∀b,b∈G1→b<w1.heap.size:=λb hb=>(ho.lt b (how1 b hb)).2
     have hGge:∀b,b∈G1→_≤b:=λb hb=>hat1 b (how1 b hb)
     (try simp at hGge)
     replace hr1:cIdxS.rep w1 [.slice B1 d.uniq.length e1] d.uniq G1:=hr1
     clear hat hat1 hg how1 hb1))
  all_goals
   have hnb:∀b,b∈G1→_≤b∧b<w1.heap.size:=λb hb=>⟨hGge b hb,hGlt b hb⟩
   go_wp2_with fail
   go_meet
  all_goals try (case rel=>exact⟨_,B1,e1,G1,rfl,⟨by go_simp,by go_simp,by go_simp,by go_simp,by go_simp,(zks hr1 hnb),λb hb=>by have h9:=hnb b hb;omega⟩,hfr1,by omega,by (try simp);(try omega),bl⟩)
 case rest =>
  obtain⟨xb,U1,cu1,G1,rfl,hDB,hfG,hxV,hxl,hBc⟩:=hcut
  generalize wc=W at *
  have HDB:=zh hDB
  have hGl:=λb hb=>Cod.lt _ hDB.r b hb
  have hbW:Below w.heap.size w W:=Za hbV hBc
  have hWV:=hBc.size
  have k0:=(hS W hBc).2.1
  have k1:=(hS W hBc).2.2.1
  have k2:=(hS W hBc).2.2.2.1
  clear hS hDB
  go_wp2_with fail
  go_loopw [18] (λi wr=>∃k:Nat,k≤n∧i=.int .i64 k∧BoxRow cStore 124 W wr xb 2 (d.stores.take k)) (λi _=>n-(intOf i).toNat)
  case atStart=>exact⟨0,Nat.zero_le _,rfl,BoxRow.start HDB.out.c2⟩
  case round =>
   obtain⟨k,hk,rfl,vE,Fi,HB⟩:=hrel
   obtain⟨Ae,ce,hve⟩:=HB.own.slice
   subst hve
   have hlk:(d.stores.take k).length=k:=by rw[List.length_take,HN.out];omega
   rw[hlk] at HB
   clear hlk
   have hE:=HB.cell
   have hfr:=(HB.fz 2).trans HDB.out.z2
   have hC0:=(HB.oth 0 (by decide)).trans HDB.out.c0
   have hC1:=(HB.oth 1 (by decide)).trans HDB.out.c1
   have hC3:=(HB.oth 3 (by decide)).trans HDB.out.c3
   have hz9:=HB.only.size
   have hbw:Below w.heap.size w wr:=hbW.trans ((HB.only.bel w.heap.size (by omega) (λy hy=>by simp at hy;omega)).mono (Nat.le_refl _))
   have hbk:=HB.only.block w.heap.size (by omega) (by intro hm9;simp at hm9;omega)
   have b0:wr.cell? ⟨w.heap.size,0,none⟩=some (.string d.name):=(World.cell?_of_block hbk).trans k0
   have b2:wr.cell? ⟨w.heap.size,2,none⟩=some (.slice A n cp):=(World.cell?_of_block hbk).trans k2
   have hws:w.heap.size<wr.heap.size:=by omega
   have hws2:xb<wr.heap.size:=by omega
   have hHB:=zh HB
   by_cases hlt:k<n
   ·have hkx:k<d.stores.length:=by rw[HN.out];exact hlt
    obtain⟨g,o,A3,c3',F3',rfl,hgF,hgr,hok3,q0,q1,q2,r3,-⟩:=ZcC (zb m2 hbw) hkx
    have hki:((k:Int)<(n:Int)):=by omega
    have hsm:=HSM.out _ (List.getElem_mem hkx)
    have hwr1:¬wr.heap.size=xb:=by omega
    have hwr2:¬wr.heap.size=w.heap.size:=by omega
    have hwr3:¬g=wr.heap.size:=by omega
    have hwr4:¬xb=w.heap.size:=by omega
    have hnlk:k+1≤1048577:=by omega
    clear HB hC0 hC1 hC3
    go_wp2_with fail
    generalize hY:World.alloc _ _=Y
    have hbY:Below wr.heap.size wr Y:=by rw[← hY];exact bl
    have hYs:Y.heap.size=wr.heap.size+1:=by rw[← hY];clear hY;simp
    have c0:Y.cell? ⟨wr.heap.size,0,none⟩=some (.string d.stores[k].name):=by rw[← hY];clear hY;go_simp
    have c1:Y.cell? ⟨wr.heap.size,1,none⟩=some (.slice A3 d.stores[k].items.length c3'):=by rw[← hY];clear hY;go_simp
    have c2:Y.cell? ⟨wr.heap.size,2,none⟩=some (.int .i64 d.stores[k].auto):=by rw[← hY];clear hY;go_simp
    clear hY
    have hS:=λw9 (hb:Below Y.heap.size Y w9)=>zn5 hb (zcl hb ((World.cell?_of_block (hbY.block xb (by omega))).trans hE)) (zcl hb c0) (zcl hb c1) (zcl hb c2)
    clear hE
    refine ZaE (S:=(λw9=>Below Y.heap.size Y w9∧w9.cell? ⟨xb,2,none⟩=some (.slice Ae k ce)∧w9.cell? ⟨wr.heap.size,0,none⟩=some (.string d.stores[k].name)∧w9.cell? ⟨wr.heap.size,1,none⟩=some (.slice A3 d.stores[k].items.length c3')∧w9.cell? ⟨wr.heap.size,2,none⟩=some (.int .i64 d.stores[k].auto))) [5,6,7] (by kernel_rfl) (by (try dsimp only);exact hS _ bl) (λhHeld=>?_)
    refine zrdT (i:=0) 8 22 ?_
    refine zrdT (i:=1) 8 23 ?_
    refine zrdT (i:=2) 8 24 ?_
    try simp only[Act.put,zp0,zp1,zp2]
    refine ZdW 3 (by kernel_rfl) rfl (λK hK=>?_)
    go_simp
    (go_at_call 91;refine(ZI #[_,_,_] d.stores[k] F3' _ (by exact TStore.mk_ hok3 (zb r3 (Za hbY bl))) hsm).mono ?_;rintro e w1 ⟨vs1,G2,rfl,hb1,hrep1,hf1⟩;obtain⟨G3,hrep2,hf3,hG32⟩:=weak_store.fresh hrep1 hf1;obtain⟨v6,_,rfl,rfl,hok6,n6⟩:=TStore.outA hrep2;obtain⟨B6,d6,rfl⟩:=Zb n6;have hbY1:=zt (w:=Y) hb1;have hbr1:Below wr.heap.size wr w1:=Za hbY hbY1;(try simp at hf3);have hf2:Fresh wr.heap.size G3:=hf3.mono (by (try simp);(try omega)))
    try go_wp2_with fail
    refine hK.out _ _ ?_ (λhHeld=>?_)
    ·(try dsimp only)
     exact hS _ bl
    clear hK K
    refine ZdW 4 (by kernel_rfl) rfl (λK hK=>?_)
    first|(go_at_call 91;refine(ZI #[_,_,_] d.stores[k] F3' _ (by exact TStore.mk_ hok3 (zb r3 (Za hbY bl))) hsm).mono ?_;rintro e w1 ⟨vs1,G2,rfl,hb1,hrep1,hf1⟩;obtain⟨G3,hrep2,hf3,hG32⟩:=weak_store.fresh hrep1 hf1;obtain⟨v6,_,rfl,rfl,hok6,n6⟩:=TStore.outA hrep2;obtain⟨B6,d6,rfl⟩:=Zb n6;have hbY1:=zt (w:=Y) hb1;have hbr1:Below wr.heap.size wr w1:=Za hbY hbY1;(try simp at hf3);have hf2:Fresh wr.heap.size G3:=hf3.mono (by (try simp);(try omega)))|go_simp
    refine hK.out _ _ ?_ (λhHeld=>?_)
    ·(try dsimp only)
     exact hS _ bl
    clear hK K
    refine ZT 5 (by kernel_rfl) rfl (by kernel_rfl) (λK hK=>?_)
    (refine ZfK (c:=cStore) (ys:=[d.stores[k]]) (G:=G3) rfl _ _ _ rfl i0 _ _ Tryz.underlying30 hi0 hz0 hz1 hz2 rfl (by decide) rfl (.slice (some ⟨w1.heap.size,0,none⟩) 1 1) rfl (by omega) hHB.out (Za hbr1 bl) hf2 (λb hb=>by have h9:=Cod.lt _ n6 b hb;(try simp);omega) (Zcf (vs:=#[_,_,_]) _ _ (by simp) (TStore.mk_ hok6 n6)) (k+1) (by have h9:=HN.out;simp only[List.length_append,List.length_take,List.length_singleton];omega) (by unfold maxLen;omega) (by omega) ?_;intro A2 c2 w2 HA;rw[Zhq hkx] at HA;have hX:=HA.cell;have hXf:=(HA.fz 2).trans HDB.out.z2;have HR:=zh HA.row;clear HA)
    refine hK.out _ _ ?_
    clear hK K
    refine ZT 6 (by kernel_rfl) rfl (by kernel_rfl) (λK hK=>?_)
    go_simp
    refine hK.out _ _ ?_
    clear hK K
    refine ZT 7 (by kernel_rfl) rfl (by kernel_rfl) (λK hK=>?_)
    go_simp
    refine hK.out _ _ ?_
    clear hK K
    refine Zfa (by kernel_rfl) ?_ _
    go_wp2_with fail
    go_roundw
    case rel=>exact⟨k+1,by omega,by go_num,HR.out⟩
    case measure=>simp[intOf];omega
   ·obtain rfl:k=n:=by omega
    have hb9:=HB.only.block (w.heap.size+1) (by omega) (by simp;omega)
    have hbV9:=hBc.block (w.heap.size+1) (by omega)
    have d0:wr.cell? ⟨w.heap.size+1,0,none⟩=some (.string ⟨#[]⟩):=(World.cell?_of_block (hb9.trans hbV9)).trans HR0.out.1
    have d1:wr.cell? ⟨w.heap.size+1,1,none⟩=some (.int .i64 0):=(World.cell?_of_block (hb9.trans hbV9)).trans HR0.out.2.1
    have d2:wr.cell? ⟨w.heap.size+1,2,none⟩=some (.slice none 0 0):=(World.cell?_of_block (hb9.trans hbV9)).trans HR0.out.2.2.1
    have d3:wr.cell? ⟨w.heap.size+1,3,none⟩=some (.slice none 0 0):=(World.cell?_of_block (hb9.trans hbV9)).trans HR0.out.2.2.2.1
    have f0:wr.frozen? ⟨w.heap.size+1,0,none⟩=false:=(World.frozen?_of_block (hb9.trans hbV9)).trans HR0.out.2.2.2.2.1
    have f1:wr.frozen? ⟨w.heap.size+1,1,none⟩=false:=(World.frozen?_of_block (hb9.trans hbV9)).trans HR0.out.2.2.2.2.2.1
    have f2:wr.frozen? ⟨w.heap.size+1,2,none⟩=false:=(World.frozen?_of_block (hb9.trans hbV9)).trans HR0.out.2.2.2.2.2.2.1
    have f3:wr.frozen? ⟨w.heap.size+1,3,none⟩=false:=(World.frozen?_of_block (hb9.trans hbV9)).trans HR0.out.2.2.2.2.2.2.2
    have hws1:w.heap.size+1<wr.heap.size:=by omega
    have htl:d.stores.take k=d.stores:=List.take_of_length_le (by rw[HN.out];exact Nat.le_refl _)
    have hown:=HB.own
    rw[htl] at hown
    obtain⟨hrep,hff⟩:=hown.toO (hw2:=by decide) HB.fresh HB.ne
    have hlow:∀b,b∈ZlG (.slice Ae k ce)++Fi→W.heap.size≤b:=hff.1
    have hur:cIdxS.rep wr [.slice U1 d.uniq.length cu1] d.uniq G1:=Cod.keep _ HDB.out.r (λb hb=>HB.only.block b (hGl b hb) (by have h9:=HDB.out.ne b hb;simp;exact h9))
    have hulow:∀b,b∈G1→w.heap.size+2≤b:=λb hb=>by have h9:=hfG.1 b hb;omega
    have HRP:=zh (And.intro hrep hur)
    clear HB hown hrep hur htl hb9 hbk hbV9
    go_wp2_with fail
    refine bodyPost_ret (v:=.agg #[.string d.name,.int .i64 d.ver,.slice Ae k ce,.slice U1 d.uniq.length cu1]) (by simp[results,Tryz.results50,go_sem, *]) rfl ?_
    have hfin:cStoresO.rep wr [.slice Ae k ce] d.stores (ZlG (.slice Ae k ce)++Fi):=HRP.out.1
    have hfu:=HRP.out.2
    exact⟨_,_,rfl,bl,TDb.mkO hok (zks hfin hlow) (zks hfu hulow),Fresh.app2 (hff.mono (Nat.le_refl _)) (hfG.mono (by omega)) hGl (by omega)⟩
theorem Zbd (vs:Array Value) (d:TDb) (F:List Nat) (w:World) (h:cDb.rep w vs.toList d F) (hn:Zbl d) :
  Calls Tryz.prog 45 #[.agg vs] w (ZaT cDbO w d):=by
 obtain⟨i0,hi0,hz0,hz1,hz2⟩:=info_parts ZkF
 obtain⟨j0,hj0,jz0,jz1,jz2⟩:=info_parts ZnT
 obtain⟨v2,v3,F2,F3,rfl,-,hok,m2,m3⟩:=TDb.outA h
 obtain⟨A,cp,rfl⟩:=Zb m2
 obtain⟨U,cu,rfl⟩:=Zb m3
 obtain⟨-,hcp,hm⟩:=Zq m2
 have hnl:=hn.1
 have hnu:=hn.2.1
 have HSM:=zh hn.2.2
 clear h hn
 obtain⟨n,hxn⟩:∃n,d.stores.length=n:=⟨_,rfl⟩
 have HN:=zh hxn
 rw[hxn] at hcp hnl⊢
 clear hxn
 unfold maxLen at hm
 go_enter Tryz.func45,Tryz.ntmps45
 go_wp2_with fail
 generalize hV:World.alloc _ _=V
 have hVs:V.heap.size=w.heap.size+2:=by rw[← hV];clear hV;simp
 have hbV:Below w.heap.size w V:=by rw[← hV];exact bl
 have p0:V.cell? ⟨w.heap.size,0,none⟩=some (.string d.name):=by rw[← hV];clear hV;go_simp
 have p1:V.cell? ⟨w.heap.size,1,none⟩=some (.int .i64 d.ver):=by rw[← hV];clear hV;go_simp
 have p2:V.cell? ⟨w.heap.size,2,none⟩=some (.slice A n cp):=by rw[← hV];clear hV;go_simp
 have p3:V.cell? ⟨w.heap.size,3,none⟩=some (.slice U d.uniq.length cu):=by rw[← hV];clear hV;go_simp
 have HR0:=zh (show V.cell? ⟨w.heap.size+1,0,none⟩=some (.string ⟨#[]⟩)∧V.cell? ⟨w.heap.size+1,1,none⟩=some (.int .i64 0)∧V.cell? ⟨w.heap.size+1,2,none⟩=some (.slice none 0 0)∧V.cell? ⟨w.heap.size+1,3,none⟩=some (.slice none 0 0)∧V.frozen? ⟨w.heap.size+1,0,none⟩=false∧V.frozen? ⟨w.heap.size+1,1,none⟩=false∧V.frozen? ⟨w.heap.size+1,2,none⟩=false∧V.frozen? ⟨w.heap.size+1,3,none⟩=false from by refine⟨?_,?_,?_,?_,?_,?_,?_,?_⟩<;>(rw[← hV];clear hV;go_simp))
 clear hV
 have hS:=λw9 (hb:Below V.heap.size V w9)=>zn5 hb (zcl hb p0) (zcl hb p1) (zcl hb p2) (zcl hb p3)
 go_cut [3] from 5 to 13 (λt3 wq=>∃xb U1 cu1 G1,t3=.pointer (some ⟨xb,0,none⟩)∧Zqa wq xb d U1 cu1 G1∧Fresh V.heap.size G1∧V.heap.size≤xb∧xb<wq.heap.size∧Below V.heap.size V wq)
 case first =>
  go_region_held3 (λw9=>Below V.heap.size V w9∧w9.cell? ⟨w.heap.size,0,none⟩=some (.string d.name)∧w9.cell? ⟨w.heap.size,1,none⟩=some (.int .i64 d.ver)∧w9.cell? ⟨w.heap.size,2,none⟩=some (.slice A n cp)∧w9.cell? ⟨w.heap.size,3,none⟩=some (.slice U d.uniq.length cu)) (exact hS _ bl)
   (first
    | (
     refine ZcA (c:=cIdx) (B:=V.heap.size) (xs:=[]) (ys:=d.uniq) (Fi:=[]) (Fy:=[]) _ rfl _ _ _ rfl j0 _ _ Tryz.underlying31 hj0 jz0 jz1 jz2 rfl (by decide) (v:=.slice (some _) 0 0) rfl (Own.empty _) (.slice U d.uniq.length cu) rfl (AppSrc.flat (hw:=by decide) (hw2:=by decide) Zmm (zb m3 (Za hbV bl))) (by unfold maxLen;simp;omega) (by simp;omega) (by (try simp);(try omega)) (by simp[Zac]) ?_
     intro v1 w1 ho hg hat
     replace ho:Own cIdx 133 V.heap.size w1 v1 d.uniq []:=ho
     obtain⟨B1,e1,e9⟩:=ho.slice
     subst e9
     have hb1:=(Below.refl _ _).grown hg (Nat.le_refl _) (by simp[Zac])
     have hV1:=zt (w:=V) hb1
     have hat1:∀g,Zac (.slice B1 d.uniq.length e1)=some g→_:=λg hg=>(hat g hg).resolve_left (by simp[Zac])
     obtain⟨hc1,hf1,hz1⟩:=Zc hb1
     (try simp at hz1)
     have hz1V:=hV1.size
     obtain⟨G1,hr1,hfr1,how1⟩:=ho.fresh (hw:=by decide) (hw2:=by decide)
     have hGlt:∀b,b∈G1→b<w1.heap.size:=λb hb=>(ho.lt b (how1 b hb)).2
     have hGge:∀b,b∈G1→_≤b:=λb hb=>hat1 b (how1 b hb)
     (try simp at hGge)
     replace hr1:cIdxS.rep w1 [.slice B1 d.uniq.length e1] d.uniq G1:=hr1
     clear hat hat1 hg how1 hb1))
  all_goals
   have hnb:∀b,b∈G1→_≤b∧b<w1.heap.size:=λb hb=>⟨hGge b hb,hGlt b hb⟩
   go_wp2_with fail
   go_meet
  all_goals try (case rel=>exact⟨_,B1,e1,G1,rfl,⟨by go_simp,by go_simp,by go_simp,by go_simp,by go_simp,(zks hr1 hnb),λb hb=>by have h9:=hnb b hb;omega⟩,hfr1,by omega,by (try simp);(try omega),bl⟩)
 case rest =>
  obtain⟨xb,U1,cu1,G1,rfl,hDB,hfG,hxV,hxl,hBc⟩:=hcut
  generalize wc=W at *
  have HDB:=zh hDB
  have hGl:=λb hb=>Cod.lt _ hDB.r b hb
  have hbW:Below w.heap.size w W:=Za hbV hBc
  have hWV:=hBc.size
  have k0:=(hS W hBc).2.1
  have k1:=(hS W hBc).2.2.1
  have k2:=(hS W hBc).2.2.2.1
  clear hS hDB
  go_wp2_with fail
  go_loopw [4] (λi wr=>∃k:Nat,k≤n∧i=.int .i64 k∧BoxRow cStore 124 W wr xb 2 (d.stores.take k)) (λi _=>n-(intOf i).toNat)
  case atStart=>exact⟨0,Nat.zero_le _,rfl,BoxRow.start HDB.out.c2⟩
  case round =>
   obtain⟨k,hk,rfl,vE,Fi,HB⟩:=hrel
   obtain⟨Ae,ce,hve⟩:=HB.own.slice
   subst hve
   have hlk:(d.stores.take k).length=k:=by rw[List.length_take,HN.out];omega
   rw[hlk] at HB
   clear hlk
   have hE:=HB.cell
   have hfr:=(HB.fz 2).trans HDB.out.z2
   have hC0:=(HB.oth 0 (by decide)).trans HDB.out.c0
   have hC1:=(HB.oth 1 (by decide)).trans HDB.out.c1
   have hC3:=(HB.oth 3 (by decide)).trans HDB.out.c3
   have hz9:=HB.only.size
   have hbw:Below w.heap.size w wr:=hbW.trans ((HB.only.bel w.heap.size (by omega) (λy hy=>by simp at hy;omega)).mono (Nat.le_refl _))
   have hbk:=HB.only.block w.heap.size (by omega) (by intro hm9;simp at hm9;omega)
   have b0:wr.cell? ⟨w.heap.size,0,none⟩=some (.string d.name):=(World.cell?_of_block hbk).trans k0
   have b2:wr.cell? ⟨w.heap.size,2,none⟩=some (.slice A n cp):=(World.cell?_of_block hbk).trans k2
   have hws:w.heap.size<wr.heap.size:=by omega
   have hws2:xb<wr.heap.size:=by omega
   have hHB:=zh HB
   by_cases hlt:k<n
   ·have hkx:k<d.stores.length:=by rw[HN.out];exact hlt
    obtain⟨g,o,A3,c3',F3',rfl,hgF,hgr,hok3,q0,q1,q2,r3,-⟩:=ZcC (zb m2 hbw) hkx
    have hki:((k:Int)<(n:Int)):=by omega
    have hsm:=HSM.out _ (List.getElem_mem hkx)
    have hwr1:¬wr.heap.size=xb:=by omega
    have hwr2:¬wr.heap.size=w.heap.size:=by omega
    have hwr3:¬g=wr.heap.size:=by omega
    have hwr4:¬xb=w.heap.size:=by omega
    have hnlk:k+1≤1048577:=by omega
    clear HB hC0 hC1 hC3
    go_wp2_with fail
    have hbY:Below wr.heap.size wr wr:=Below.refl _ _
    have c0:=q0
    have c1:=q1
    have c2:=q2
    have hS:=λw9 (hb:Below wr.heap.size wr w9)=>zn6 hb (zcl hb ((World.cell?_of_block (hbY.block xb (by omega))).trans hE)) (zcl hb ((World.cell?_of_block (hbY.block w.heap.size (by omega))).trans b2)) (zcl hb c0) (zcl hb c1) (zcl hb c2)
    clear hE
    refine ZaE (S:=(λw9=>Below wr.heap.size wr w9∧w9.cell? ⟨xb,2,none⟩=some (.slice Ae k ce)∧w9.cell? ⟨w.heap.size,2,none⟩=some (.slice (some ⟨g,o,none⟩) n cp)∧w9.cell? ⟨g,o+k*3,none⟩=some (.string d.stores[k].name)∧w9.cell? ⟨g,o+k*3+1,none⟩=some (.slice A3 d.stores[k].items.length c3')∧w9.cell? ⟨g,o+k*3+2,none⟩=some (.int .i64 d.stores[k].auto))) [9,10,11] (by kernel_rfl) (by (try dsimp only);exact hS _ bl) (λhHeld=>?_)
    refine zrdT (i:=0) 12 21 ?_
    refine zrdT (i:=1) 12 22 ?_
    refine zrdT (i:=2) 12 23 ?_
    refine zrdT (i:=3) 12 24 ?_
    refine zrdT (i:=4) 12 25 ?_
    refine zrdT (i:=5) 12 26 ?_
    refine zrdT (i:=6) 12 27 ?_
    try simp only[Act.put,zp0,zp1,zp2]
    refine ZdW 7 (by kernel_rfl) rfl (λK hK=>?_)
    go_simp
    (go_at_call 84;refine(ZP #[_,_,_] d.stores[k] F3' _ (by exact TStore.mk_ hok3 (zb r3 (Za hbY bl))) hsm).mono ?_;rintro e w1 ⟨vs1,G2,rfl,hb1,hrep1,hf1⟩;obtain⟨G3,hrep2,hf3,hG32⟩:=weak_store.fresh hrep1 hf1;obtain⟨v6,_,rfl,rfl,hok6,n6⟩:=TStore.outA hrep2;obtain⟨B6,d6,rfl⟩:=Zb n6;have hbY1:=zt (w:=wr) hb1;have hbr1:Below wr.heap.size wr w1:=Za hbY hbY1;(try simp at hf3);have hf2:Fresh wr.heap.size G3:=hf3.mono (by (try simp);(try omega)))
    try go_wp2_with fail
    refine hK.out _ _ ?_ (λhHeld=>?_)
    ·(try dsimp only)
     exact hS _ bl
    clear hK K
    refine ZdW 8 (by kernel_rfl) rfl (λK hK=>?_)
    first|(go_at_call 84;refine(ZP #[_,_,_] d.stores[k] F3' _ (by exact TStore.mk_ hok3 (zb r3 (Za hbY bl))) hsm).mono ?_;rintro e w1 ⟨vs1,G2,rfl,hb1,hrep1,hf1⟩;obtain⟨G3,hrep2,hf3,hG32⟩:=weak_store.fresh hrep1 hf1;obtain⟨v6,_,rfl,rfl,hok6,n6⟩:=TStore.outA hrep2;obtain⟨B6,d6,rfl⟩:=Zb n6;have hbY1:=zt (w:=wr) hb1;have hbr1:Below wr.heap.size wr w1:=Za hbY hbY1;(try simp at hf3);have hf2:Fresh wr.heap.size G3:=hf3.mono (by (try simp);(try omega)))|go_simp
    refine hK.out _ _ ?_ (λhHeld=>?_)
    ·(try dsimp only)
     exact hS _ bl
    clear hK K
    refine ZT 9 (by kernel_rfl) rfl (by kernel_rfl) (λK hK=>?_)
    (refine ZfK (c:=cStore) (ys:=[d.stores[k]]) (G:=G3) rfl _ _ _ rfl i0 _ _ Tryz.underlying30 hi0 hz0 hz1 hz2 rfl (by decide) rfl (.slice (some ⟨w1.heap.size,0,none⟩) 1 1) rfl (by omega) hHB.out (Za hbr1 bl) hf2 (λb hb=>by have h9:=Cod.lt _ n6 b hb;(try simp);omega) (Zcf (vs:=#[_,_,_]) _ _ (by simp) (TStore.mk_ hok6 n6)) (k+1) (by have h9:=HN.out;simp only[List.length_append,List.length_take,List.length_singleton];omega) (by unfold maxLen;omega) (by omega) ?_;intro A2 c2 w2 HA;rw[Zhq hkx] at HA;have hX:=HA.cell;have hXf:=(HA.fz 2).trans HDB.out.z2;have HR:=zh HA.row;clear HA)
    refine hK.out _ _ ?_
    clear hK K
    refine ZT 10 (by kernel_rfl) rfl (by kernel_rfl) (λK hK=>?_)
    go_simp
    refine hK.out _ _ ?_
    clear hK K
    refine ZT 11 (by kernel_rfl) rfl (by kernel_rfl) (λK hK=>?_)
    go_simp
    refine hK.out _ _ ?_
    clear hK K
    refine Zfa (by kernel_rfl) ?_ _
    go_wp2_with fail
    go_roundw
    case rel=>exact⟨k+1,by omega,by go_num,HR.out⟩
    case measure=>simp[intOf];omega
   ·obtain rfl:k=n:=by omega
    have hb9:=HB.only.block (w.heap.size+1) (by omega) (by simp;omega)
    have hbV9:=hBc.block (w.heap.size+1) (by omega)
    have d0:wr.cell? ⟨w.heap.size+1,0,none⟩=some (.string ⟨#[]⟩):=(World.cell?_of_block (hb9.trans hbV9)).trans HR0.out.1
    have d1:wr.cell? ⟨w.heap.size+1,1,none⟩=some (.int .i64 0):=(World.cell?_of_block (hb9.trans hbV9)).trans HR0.out.2.1
    have d2:wr.cell? ⟨w.heap.size+1,2,none⟩=some (.slice none 0 0):=(World.cell?_of_block (hb9.trans hbV9)).trans HR0.out.2.2.1
    have d3:wr.cell? ⟨w.heap.size+1,3,none⟩=some (.slice none 0 0):=(World.cell?_of_block (hb9.trans hbV9)).trans HR0.out.2.2.2.1
    have f0:wr.frozen? ⟨w.heap.size+1,0,none⟩=false:=(World.frozen?_of_block (hb9.trans hbV9)).trans HR0.out.2.2.2.2.1
    have f1:wr.frozen? ⟨w.heap.size+1,1,none⟩=false:=(World.frozen?_of_block (hb9.trans hbV9)).trans HR0.out.2.2.2.2.2.1
    have f2:wr.frozen? ⟨w.heap.size+1,2,none⟩=false:=(World.frozen?_of_block (hb9.trans hbV9)).trans HR0.out.2.2.2.2.2.2.1
    have f3:wr.frozen? ⟨w.heap.size+1,3,none⟩=false:=(World.frozen?_of_block (hb9.trans hbV9)).trans HR0.out.2.2.2.2.2.2.2
    have hws1:w.heap.size+1<wr.heap.size:=by omega
    have htl:d.stores.take k=d.stores:=List.take_of_length_le (by rw[HN.out];exact Nat.le_refl _)
    have hown:=HB.own
    rw[htl] at hown
    obtain⟨hrep,hff⟩:=hown.toO (hw2:=by decide) HB.fresh HB.ne
    have hlow:∀b,b∈ZlG (.slice Ae k ce)++Fi→W.heap.size≤b:=hff.1
    have hur:cIdxS.rep wr [.slice U1 d.uniq.length cu1] d.uniq G1:=Cod.keep _ HDB.out.r (λb hb=>HB.only.block b (hGl b hb) (by have h9:=HDB.out.ne b hb;simp;exact h9))
    have hulow:∀b,b∈G1→w.heap.size+2≤b:=λb hb=>by have h9:=hfG.1 b hb;omega
    have HRP:=zh (And.intro hrep hur)
    clear HB hown hrep hur htl hb9 hbk hbV9
    go_wp2_with fail
    refine bodyPost_ret (v:=.agg #[.string d.name,.int .i64 d.ver,.slice Ae k ce,.slice U1 d.uniq.length cu1]) (by simp[results,Tryz.results45,go_sem, *]) rfl ?_
    have hfin:cStoresO.rep wr [.slice Ae k ce] d.stores (ZlG (.slice Ae k ce)++Fi):=HRP.out.1
    have hfu:=HRP.out.2
    exact⟨_,_,rfl,bl,TDb.mkO hok (zks hfin hlow) (zks hfu hulow),Fresh.app2 (hff.mono (Nat.le_refl _)) (hfG.mono (by omega)) hGl (by omega)⟩
end Go.Proofs.YtghndifnohkokaaGreat
