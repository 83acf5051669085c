import Derived.Test.YtghndifnohkokaaGreatZIndexOn
namespace Go.Proofs.YtghndifnohkokaaGreat
open Go.ChangeShapes Go.WideShapes Go.RowKit
set_option linter.unusedVariables false
set_option linter.unusedSimpArgs false
set_option maxRecDepth 100000
set_option maxHeartbeats 16000000
theorem ZoA {l:List TItem} {f:ByteArray} {k:Nat} (h:k+1<l.length) (h1:k<l.length):ZfQ l f k=(ZX l[k] f==ZX l[k+1] f):=by
 unfold ZfQ;rw[List.getElem?_eq_getElem h,List.getElem?_eq_getElem h1]
theorem ZmL {s:TStore} {f:ByteArray} {l:List TItem} (hl:ZbJ s f=l) {k:Nat} (hk:k+1<l.length) (h:ZfQ l f k=true):Zal s f=true:=by
 unfold Zal
 rw[hl,Zek (k:=k) (by omega) (by simp[h])];rfl
theorem ZoC {s:TStore} {f:ByteArray} {l:List TItem} (hl:ZbJ s f=l) (h:Zbo (λk=>!ZfQ l f k) (l.length-1)=true):Zal s f=false:=by
 unfold Zal
 rw[hl,h];rfl
def Zpp (w:World) (b:Bool) (e:Ending) (w':World):Prop:=∃(a1 b1 a2 b2:Int) (c1 c2:ByteArray),e=.returned (.tuple #[.agg #[.int .i64 a1,.int .i64 b1,.string c1],.agg #[.int .i64 a2,.int .i64 b2,.string c2],.bool b])∧Below w.heap.size w w'
theorem Zfe (v:Value) (s:TStore) (f:ByteArray) (F:List Nat) (w:World) (h:cItemS.rep w [v] s.items F) (hsm0:ZcE s) :
  Calls Tryz.prog 118 #[.agg #[.string s.name,v,.int .i64 s.auto],.string f] w (Zpp w (Zal s f)):=by
 obtain⟨A,cp,rfl⟩:=Zb h;have hll:(ZbJ s f).length≤1048576:=by have h1:=Zdi s.items f s.items.length;have h2:=hsm0.1;unfold ZbJ;omega
 have HUB:=zh (fun (l:List TItem) (hl:ZbJ s f=l) k hk h9=>ZmL (k:=k) hl hk h9)
 have HUO:=zh (fun (l:List TItem) (hl:ZbJ s f=l) h9=>ZoC hl h9)
 go_enter Tryz.func118,Tryz.ntmps118
 go_wp2_with fail;refine(ZhM _ s f F _ (by exact zb h) hsm0).mono ?_
 rintro e w1 ⟨v1,F1,rfl,hb1,hr1,hab⟩;obtain⟨B1,c1,rfl⟩:=Zb hr1;obtain⟨-,hcp1,hm1⟩:=Zq hr1
 unfold maxLen at hm1
 (try simp only[World.size_alloc] at hab)
 have HAB:=zh hab;clear hab;obtain⟨hc_w1,hf_w1,hz_w1⟩:=Zc hb1
 try simp at hz_w1
 obtain⟨ha0_w1,ha1_w1,ha2_w1⟩:=zg3 w.heap.size w1.heap.size;have hb_w1:=zt (w:=w) hb1
 have HZR:=zh (show w1.cell? ⟨w.heap.size+1,0,none⟩=some (.int .i64 0)∧w1.cell? ⟨w.heap.size+1,1,none⟩=some (.int .i64 0)∧w1.cell? ⟨w.heap.size+1,2,none⟩=some (.string ⟨#[]⟩)∧w1.cell? ⟨w.heap.size+2,0,none⟩=some (.int .i64 0)∧w1.cell? ⟨w.heap.size+2,1,none⟩=some (.int .i64 0)∧w1.cell? ⟨w.heap.size+2,2,none⟩=some (.string ⟨#[]⟩)∧w1.frozen? ⟨w.heap.size+1,0,none⟩=false∧w1.frozen? ⟨w.heap.size+1,1,none⟩=false∧w1.frozen? ⟨w.heap.size+1,2,none⟩=false∧w1.frozen? ⟨w.heap.size+2,0,none⟩=false∧w1.frozen? ⟨w.heap.size+2,1,none⟩=false∧w1.frozen? ⟨w.heap.size+2,2,none⟩=false from by refine⟨?_,?_,?_,?_,?_,?_,?_,?_,?_,?_,?_,?_⟩<;>go_simp)
 have hHB:=zh (HUB.out _ rfl)
 have hHO:=zh (HUO.out _ rfl)
 generalize ZbJ s f=l at *
 generalize Zal s f=ub at *
 have hbw1:Below w.heap.size w w1:=hb_w1
 clear hc_w1 hf_w1 hb1 hb_w1 HUB HUO h;obtain⟨m,hxm⟩:∃m,l.length=m:=⟨_,rfl⟩
 have HM:=zh hxm;have hr1':=hr1;rw[hxm] at hr1 hcp1 hll⊢
 clear hxm hr1';go_wp2_with fail;go_loopw [8] (λi wr=>∃k:Nat,k≤m-1∧i=.int .i64 ((k:Int)+1)∧Zbo (λk=>!ZfQ l f k) k=true∧Below w1.heap.size w1 wr) (λi _=>m-(intOf i).toNat)
 case atStart=>exact⟨0,Nat.zero_le _,rfl,ZbE _,Below.refl _ _⟩
 case round =>
  obtain⟨k,hk,rfl,hno,hB⟩:=hrel;have HO:=zh hno;clear hno;have hzr:=hB.size;have hbw:Below w.heap.size w wr:=Za hbw1 hB
  by_cases hlt:k+1<m
  ·have hkx:k<l.length:=by rw[HM.out];omega
   have hkx1:k+1<l.length:=by rw[HM.out];omega
   obtain⟨g,o,A3,cc3,F3,rfl,hgF,hgr,hok3,q0,q1,q2,q3,r3,-⟩:=ZaO (zb hr1 hB) hkx
   obtain⟨g',o',A4,cc4,F4,eA,-,-,hok4,p0,p1,p2,p3,r4,-⟩:=ZaO (zb hr1 hB) hkx1
   injection eA with eA
   injection eA with e8 e9
   subst e8;subst e9
   have hga:w.heap.size+3≤g:=by
    obtain⟨m',rfl⟩:∃m',m=m'+1:=⟨m-1,by omega⟩
    have h9:=HAB.out _ m' _ (by first|rfl|rw[HM.out])
    (try simp at h9);omega
   have hg1:¬g=w.heap.size+1:=by omega
   have hg2':¬g=w.heap.size+2:=by omega
   have hki:(k:Int)+1<(m:Int):=by omega
   have hkm:(k:Int)<(m:Int):=by omega
   have hk0:(0:Int)≤(k:Int)+1:=by omega
   have hwk:IntKind.i64.wrap (k:Int)=(k:Int):=IntWalk.i64_in _ (by omega)
   have HT:=zh (ZoA (f:=f) hkx1 hkx)
   go_wp2_with fail;refine(ZaN _ l[k].rcd.fields f _ _ (by exact zb r3)).mono ?_
   rintro e w2 ⟨rfl,hb2⟩;obtain⟨hc_w2,hf_w2,hz_w2⟩:=Zc hb2
   try simp at hz_w2
   obtain⟨ha0_w2,ha1_w2,ha2_w2⟩:=zg3 w.heap.size w2.heap.size;have hb_w2:=zt (w:=w) hb2
   have hbr2:=zt (w:=wr) hb2
   have p3':=zcl hbr2 p3;have hg2:g<w2.heap.size:=by omega
   go_wp2_with fail;refine(ZaN _ l[k+1].rcd.fields f _ _ (by exact zb (zb r4 hbr2) bl)).mono ?_
   rintro e w3 ⟨rfl,hb3⟩;obtain⟨hc_w3,hf_w3,hz_w3⟩:=Zc hb3
   try simp at hz_w3
   obtain⟨ha0_w3,ha1_w3,ha2_w3⟩:=zg3 w.heap.size w3.heap.size;have hb_w3:=zt (w:=w) hb3
   have hbr3:Below wr.heap.size wr w3:=Za hbr2 (zt hb3)
   have hg3:g<w3.heap.size:=by omega
   have x0:=zcl (p:=⟨g,o+k*4,none⟩) hbr3 q0
   have y0:=zcl (p:=⟨g,o+(k+1)*4,none⟩) hbr3 p0
   have x1:=zcl (p:=⟨g,o+k*4+1,none⟩) hbr3 q1
   have y1:=zcl (p:=⟨g,o+(k+1)*4+1,none⟩) hbr3 p1
   have x2:=zcl (p:=⟨g,o+k*4+2,none⟩) hbr3 q2
   have y2:=zcl (p:=⟨g,o+(k+1)*4+2,none⟩) hbr3 p2
   have hx9:(Zk ⟨l[k].rcd.fields⟩ f).1=ZX l[k] f:=rfl
   have hy9:(Zk ⟨l[k+1].rcd.fields⟩ f).1=ZX l[k+1] f:=rfl
   rw[hx9,hy9]
   have hB3:Below w1.heap.size w1 w3:=Za hB hbr3
   clear hx9 hy9 q0 q1 q2 q3 p0 p1 p2 p3 p3' r3 r4 hc_w2 hf_w2 hb2 hc_w3 hf_w3 hb3
   cases e5:(ZX l[k] f==ZX l[k+1] f)
   ·have HS:=zh (show (!ZfQ l f k)=true by rw[HT.out,e5];rfl)
    go_wp2_with fail;go_roundw
    case rel=>exact⟨k+1,by omega,by go_num,by rw[Zay,HO.out,HS.out];rfl,bl⟩
    case measure=>simp[intOf];omega
   ·have HS:=zh (hHB.out k hkx1 (by rw[HT.out,e5]))
    have hBz:=hB3;have hzz3:w.heap.size+2<w3.heap.size:=by omega
    have z10:=zcl hBz HZR.out.1;have z11:=zcl hBz HZR.out.2.1;have z12:=zcl hBz HZR.out.2.2.1;have z20:=zcl hBz HZR.out.2.2.2.1;have z21:=zcl hBz HZR.out.2.2.2.2.1;have z22:=zcl hBz HZR.out.2.2.2.2.2.1;have fz10:=zcf hBz HZR.out.2.2.2.2.2.2.1;have fz11:=zcf hBz HZR.out.2.2.2.2.2.2.2.1;have fz12:=zcf hBz HZR.out.2.2.2.2.2.2.2.2.1;have fz20:=zcf hBz HZR.out.2.2.2.2.2.2.2.2.2.1;have fz21:=zcf hBz HZR.out.2.2.2.2.2.2.2.2.2.2.1;have fz22:=zcf hBz HZR.out.2.2.2.2.2.2.2.2.2.2.2;go_wp2_with fail;refine wp_region_held_drew (S:=(λw9=>w9.cell? ⟨g,o+k*4,none⟩=some (.int .i64 l[k].key.kind)∧w9.cell? ⟨g,o+k*4+1,none⟩=some (.int .i64 l[k].key.n)∧w9.cell? ⟨g,o+k*4+2,none⟩=some (.string l[k].key.text)∧w9.cell? ⟨g,o+(k+1)*4,none⟩=some (.int .i64 l[k+1].key.kind)∧w9.cell? ⟨g,o+(k+1)*4+1,none⟩=some (.int .i64 l[k+1].key.n)∧w9.cell? ⟨g,o+(k+1)*4+2,none⟩=some (.string l[k+1].key.text))) (by kernel_rfl) (by (try dsimp only);(refine⟨?_,?_,?_,?_,?_,?_⟩<;>go_simp)) (λhHeld=>?_)
    refine zrd (i:=0) 46 ?_;refine zrd (i:=1) 47 ?_;refine zrd (i:=2) 48 ?_;refine zrd (i:=3) 49 ?_;(try simp only[Act.put,zp0,zp1,zp2]);refine zrd (i:=4) 50 ?_;refine zrd (i:=5) 51 ?_;refine zrd (i:=6) 52 ?_;refine zrd (i:=7) 53 ?_;(try simp only[Act.put,zp0,zp1,zp2]);refine zrd (i:=8) 54 ?_;refine zrd (i:=9) 55 ?_;refine zrd (i:=10) 56 ?_;(try simp only[Act.put,zp0,zp1,zp2]);refine zst 11 (λK hK=>?_)
    first|fail|go_simp
    refine hK.out _ _ ?_ (λhHeld=>?_)
    ·(try dsimp only)
     (refine⟨?_,?_,?_,?_,?_,?_⟩<;>go_simp)
    clear hK K;(try simp only[Act.put,zp0,zp1,zp2]);refine zst 12 (λK hK=>?_)
    first|fail|go_simp
    refine hK.out _ _ ?_ (λhHeld=>?_)
    ·(try dsimp only)
     (refine⟨?_,?_,?_,?_,?_,?_⟩<;>go_simp)
    clear hK K;refine zrd (i:=13) 6 ?_;(try simp only[Act.put,zp0,zp1,zp2]);refine wpAnyH_done (by kernel_rfl) ?_ _
    go_wp2_with fail;refine bodyPost_ret (v:=.tuple #[.agg #[.int .i64 l[k].key.kind,.int .i64 l[k].key.n,.string l[k].key.text],.agg #[.int .i64 l[k+1].key.kind,.int .i64 l[k+1].key.n,.string l[k+1].key.text],.bool true]) (by simp[results,Tryz.results118,go_sem, *]) rfl ?_
    rw[HS.out]
    exact⟨_,_,_,_,_,_,rfl,bl⟩
  ·have HS:=zh (hHO.out (by rw[HM.out,show m-1=k by omega];exact HO.out))
   have hki:¬(k:Int)+1<(m:Int):=by omega
   have hBz:=hB;have hzz3:w.heap.size+2<wr.heap.size:=by omega
   have hzz4:w.heap.size+1<wr.heap.size:=by omega
   have z10:=zcl hBz HZR.out.1;have z11:=zcl hBz HZR.out.2.1;have z12:=zcl hBz HZR.out.2.2.1;have z20:=zcl hBz HZR.out.2.2.2.1;have z21:=zcl hBz HZR.out.2.2.2.2.1;have z22:=zcl hBz HZR.out.2.2.2.2.2.1;have fz10:=zcf hBz HZR.out.2.2.2.2.2.2.1;have fz11:=zcf hBz HZR.out.2.2.2.2.2.2.2.1;have fz12:=zcf hBz HZR.out.2.2.2.2.2.2.2.2.1;have fz20:=zcf hBz HZR.out.2.2.2.2.2.2.2.2.2.1;have fz21:=zcf hBz HZR.out.2.2.2.2.2.2.2.2.2.2.1;have fz22:=zcf hBz HZR.out.2.2.2.2.2.2.2.2.2.2.2;go_wp2_with fail;refine bodyPost_ret (v:=.tuple #[.agg #[.int .i64 0,.int .i64 0,.string ⟨#[]⟩],.agg #[.int .i64 0,.int .i64 0,.string ⟨#[]⟩],.bool false]) (by simp[results,Tryz.results118,go_sem, *]) rfl ?_
   rw[HS.out]
   exact⟨_,_,_,_,_,_,rfl,bl⟩
theorem Zfm (v:Value) (s:TStore) (f:ByteArray) (F:List Nat) (w:World) (h:cItemS.rep w [v] s.items F) (hsm0:ZcE s) :
  Calls Tryz.prog 105 #[.agg #[.string s.name,v,.int .i64 s.auto],.string f] w (Zpp w (Zal s f)):=by
 obtain⟨A,cp,rfl⟩:=Zb h;have hll:(ZbJ s f).length≤1048576:=by have h1:=Zdi s.items f s.items.length;have h2:=hsm0.1;unfold ZbJ;omega
 have HUB:=zh (fun (l:List TItem) (hl:ZbJ s f=l) k hk h9=>ZmL (k:=k) hl hk h9)
 have HUO:=zh (fun (l:List TItem) (hl:ZbJ s f=l) h9=>ZoC hl h9)
 go_enter Tryz.func105,Tryz.ntmps105
 go_wp2_with fail;refine(Ziu _ s f F _ (by exact zb h) hsm0).mono ?_
 rintro e w1 ⟨v1,F1,rfl,hb1,hr1,hab⟩;obtain⟨B1,c1,rfl⟩:=Zb hr1;obtain⟨-,hcp1,hm1⟩:=Zq hr1
 unfold maxLen at hm1
 (try simp only[World.size_alloc] at hab)
 have HAB:=zh hab;clear hab;obtain⟨hc_w1,hf_w1,hz_w1⟩:=Zc hb1
 try simp at hz_w1
 obtain⟨ha0_w1,ha1_w1,ha2_w1⟩:=zg3 w.heap.size w1.heap.size;have hb_w1:=zt (w:=w) hb1
 have HZR:=zh (show w1.cell? ⟨w.heap.size+1,0,none⟩=some (.int .i64 0)∧w1.cell? ⟨w.heap.size+1,1,none⟩=some (.int .i64 0)∧w1.cell? ⟨w.heap.size+1,2,none⟩=some (.string ⟨#[]⟩)∧w1.cell? ⟨w.heap.size+2,0,none⟩=some (.int .i64 0)∧w1.cell? ⟨w.heap.size+2,1,none⟩=some (.int .i64 0)∧w1.cell? ⟨w.heap.size+2,2,none⟩=some (.string ⟨#[]⟩)∧w1.frozen? ⟨w.heap.size+1,0,none⟩=false∧w1.frozen? ⟨w.heap.size+1,1,none⟩=false∧w1.frozen? ⟨w.heap.size+1,2,none⟩=false∧w1.frozen? ⟨w.heap.size+2,0,none⟩=false∧w1.frozen? ⟨w.heap.size+2,1,none⟩=false∧w1.frozen? ⟨w.heap.size+2,2,none⟩=false from by refine⟨?_,?_,?_,?_,?_,?_,?_,?_,?_,?_,?_,?_⟩<;>go_simp)
 have hHB:=zh (HUB.out _ rfl)
 have hHO:=zh (HUO.out _ rfl)
 generalize ZbJ s f=l at *
 generalize Zal s f=ub at *
 have hbw1:Below w.heap.size w w1:=hb_w1
 clear hc_w1 hf_w1 hb1 hb_w1 HUB HUO h;obtain⟨m,hxm⟩:∃m,l.length=m:=⟨_,rfl⟩
 have HM:=zh hxm;have hr1':=hr1;rw[hxm] at hr1 hcp1 hll⊢
 clear hxm hr1';go_wp2_with fail;go_loopw [8] (λi wr=>∃k:Nat,k≤m-1∧i=.int .i64 ((k:Int)+1)∧Zbo (λk=>!ZfQ l f k) k=true∧Below w1.heap.size w1 wr) (λi _=>m-(intOf i).toNat)
 case atStart=>exact⟨0,Nat.zero_le _,rfl,ZbE _,Below.refl _ _⟩
 case round =>
  obtain⟨k,hk,rfl,hno,hB⟩:=hrel;have HO:=zh hno;clear hno;have hzr:=hB.size;have hbw:Below w.heap.size w wr:=Za hbw1 hB
  by_cases hlt:k+1<m
  ·have hkx:k<l.length:=by rw[HM.out];omega
   have hkx1:k+1<l.length:=by rw[HM.out];omega
   obtain⟨g,o,A3,cc3,F3,rfl,hgF,hgr,hok3,q0,q1,q2,q3,r3,-⟩:=ZaO (zb hr1 hB) hkx
   obtain⟨g',o',A4,cc4,F4,eA,-,-,hok4,p0,p1,p2,p3,r4,-⟩:=ZaO (zb hr1 hB) hkx1
   injection eA with eA
   injection eA with e8 e9
   subst e8;subst e9
   have hga:w.heap.size+3≤g:=by
    obtain⟨m',rfl⟩:∃m',m=m'+1:=⟨m-1,by omega⟩
    have h9:=HAB.out _ m' _ (by first|rfl|rw[HM.out])
    (try simp at h9);omega
   have hg1:¬g=w.heap.size+1:=by omega
   have hg2':¬g=w.heap.size+2:=by omega
   have hki:(k:Int)+1<(m:Int):=by omega
   have hkm:(k:Int)<(m:Int):=by omega
   have hk0:(0:Int)≤(k:Int)+1:=by omega
   have hwk:IntKind.i64.wrap (k:Int)=(k:Int):=IntWalk.i64_in _ (by omega)
   have HT:=zh (ZoA (f:=f) hkx1 hkx)
   go_wp2_with fail;refine(ZaP _ l[k].rcd.fields f _ _ (by exact zb r3)).mono ?_
   rintro e w2 ⟨rfl,hb2⟩;obtain⟨hc_w2,hf_w2,hz_w2⟩:=Zc hb2
   try simp at hz_w2
   obtain⟨ha0_w2,ha1_w2,ha2_w2⟩:=zg3 w.heap.size w2.heap.size;have hb_w2:=zt (w:=w) hb2
   have hbr2:=zt (w:=wr) hb2
   have p3':=zcl hbr2 p3;have hg2:g<w2.heap.size:=by omega
   go_wp2_with fail;refine(ZaP _ l[k+1].rcd.fields f _ _ (by exact zb (zb r4 hbr2) bl)).mono ?_
   rintro e w3 ⟨rfl,hb3⟩;obtain⟨hc_w3,hf_w3,hz_w3⟩:=Zc hb3
   try simp at hz_w3
   obtain⟨ha0_w3,ha1_w3,ha2_w3⟩:=zg3 w.heap.size w3.heap.size;have hb_w3:=zt (w:=w) hb3
   have hbr3:Below wr.heap.size wr w3:=Za hbr2 (zt hb3)
   have hg3:g<w3.heap.size:=by omega
   have x0:=zcl (p:=⟨g,o+k*4,none⟩) hbr3 q0
   have y0:=zcl (p:=⟨g,o+(k+1)*4,none⟩) hbr3 p0
   have x1:=zcl (p:=⟨g,o+k*4+1,none⟩) hbr3 q1
   have y1:=zcl (p:=⟨g,o+(k+1)*4+1,none⟩) hbr3 p1
   have x2:=zcl (p:=⟨g,o+k*4+2,none⟩) hbr3 q2
   have y2:=zcl (p:=⟨g,o+(k+1)*4+2,none⟩) hbr3 p2
   have hx9:(Zk ⟨l[k].rcd.fields⟩ f).1=ZX l[k] f:=rfl
   have hy9:(Zk ⟨l[k+1].rcd.fields⟩ f).1=ZX l[k+1] f:=rfl
   rw[hx9,hy9]
   have hB3:Below w1.heap.size w1 w3:=Za hB hbr3
   clear hx9 hy9 q0 q1 q2 q3 p0 p1 p2 p3 p3' r3 r4 hc_w2 hf_w2 hb2 hc_w3 hf_w3 hb3
   cases e5:(ZX l[k] f==ZX l[k+1] f)
   ·have HS:=zh (show (!ZfQ l f k)=true by rw[HT.out,e5];rfl)
    go_wp2_with fail;go_roundw
    case rel=>exact⟨k+1,by omega,by go_num,by rw[Zay,HO.out,HS.out];rfl,bl⟩
    case measure=>simp[intOf];omega
   ·have HS:=zh (hHB.out k hkx1 (by rw[HT.out,e5]))
    have hBz:=hB3;have hzz3:w.heap.size+2<w3.heap.size:=by omega
    have z10:=zcl hBz HZR.out.1;have z11:=zcl hBz HZR.out.2.1;have z12:=zcl hBz HZR.out.2.2.1;have z20:=zcl hBz HZR.out.2.2.2.1;have z21:=zcl hBz HZR.out.2.2.2.2.1;have z22:=zcl hBz HZR.out.2.2.2.2.2.1;have fz10:=zcf hBz HZR.out.2.2.2.2.2.2.1;have fz11:=zcf hBz HZR.out.2.2.2.2.2.2.2.1;have fz12:=zcf hBz HZR.out.2.2.2.2.2.2.2.2.1;have fz20:=zcf hBz HZR.out.2.2.2.2.2.2.2.2.2.1;have fz21:=zcf hBz HZR.out.2.2.2.2.2.2.2.2.2.2.1;have fz22:=zcf hBz HZR.out.2.2.2.2.2.2.2.2.2.2.2;go_wp2_with fail;refine wp_region_held_drew (S:=(λw9=>w9.cell? ⟨g,o+k*4,none⟩=some (.int .i64 l[k].key.kind)∧w9.cell? ⟨g,o+k*4+1,none⟩=some (.int .i64 l[k].key.n)∧w9.cell? ⟨g,o+k*4+2,none⟩=some (.string l[k].key.text)∧w9.cell? ⟨g,o+(k+1)*4,none⟩=some (.int .i64 l[k+1].key.kind)∧w9.cell? ⟨g,o+(k+1)*4+1,none⟩=some (.int .i64 l[k+1].key.n)∧w9.cell? ⟨g,o+(k+1)*4+2,none⟩=some (.string l[k+1].key.text))) (by kernel_rfl) (by (try dsimp only);(refine⟨?_,?_,?_,?_,?_,?_⟩<;>go_simp)) (λhHeld=>?_)
    refine zrd (i:=0) 46 ?_;refine zrd (i:=1) 47 ?_;refine zrd (i:=2) 48 ?_;refine zrd (i:=3) 49 ?_;(try simp only[Act.put,zp0,zp1,zp2]);refine zrd (i:=4) 50 ?_;refine zrd (i:=5) 51 ?_;refine zrd (i:=6) 52 ?_;refine zrd (i:=7) 53 ?_;(try simp only[Act.put,zp0,zp1,zp2]);refine zrd (i:=8) 54 ?_;refine zrd (i:=9) 55 ?_;refine zrd (i:=10) 56 ?_;(try simp only[Act.put,zp0,zp1,zp2]);refine zst 11 (λK hK=>?_)
    first|fail|go_simp
    refine hK.out _ _ ?_ (λhHeld=>?_)
    ·(try dsimp only)
     (refine⟨?_,?_,?_,?_,?_,?_⟩<;>go_simp)
    clear hK K;(try simp only[Act.put,zp0,zp1,zp2]);refine zst 12 (λK hK=>?_)
    first|fail|go_simp
    refine hK.out _ _ ?_ (λhHeld=>?_)
    ·(try dsimp only)
     (refine⟨?_,?_,?_,?_,?_,?_⟩<;>go_simp)
    clear hK K;refine zrd (i:=13) 6 ?_;(try simp only[Act.put,zp0,zp1,zp2]);refine wpAnyH_done (by kernel_rfl) ?_ _
    go_wp2_with fail;refine bodyPost_ret (v:=.tuple #[.agg #[.int .i64 l[k].key.kind,.int .i64 l[k].key.n,.string l[k].key.text],.agg #[.int .i64 l[k+1].key.kind,.int .i64 l[k+1].key.n,.string l[k+1].key.text],.bool true]) (by simp[results,Tryz.results105,go_sem, *]) rfl ?_
    rw[HS.out]
    exact⟨_,_,_,_,_,_,rfl,bl⟩
  ·have HS:=zh (hHO.out (by rw[HM.out,show m-1=k by omega];exact HO.out))
   have hki:¬(k:Int)+1<(m:Int):=by omega
   have hBz:=hB;have hzz3:w.heap.size+2<wr.heap.size:=by omega
   have hzz4:w.heap.size+1<wr.heap.size:=by omega
   have z10:=zcl hBz HZR.out.1;have z11:=zcl hBz HZR.out.2.1;have z12:=zcl hBz HZR.out.2.2.1;have z20:=zcl hBz HZR.out.2.2.2.1;have z21:=zcl hBz HZR.out.2.2.2.2.1;have z22:=zcl hBz HZR.out.2.2.2.2.2.1;have fz10:=zcf hBz HZR.out.2.2.2.2.2.2.1;have fz11:=zcf hBz HZR.out.2.2.2.2.2.2.2.1;have fz12:=zcf hBz HZR.out.2.2.2.2.2.2.2.2.1;have fz20:=zcf hBz HZR.out.2.2.2.2.2.2.2.2.2.1;have fz21:=zcf hBz HZR.out.2.2.2.2.2.2.2.2.2.2.1;have fz22:=zcf hBz HZR.out.2.2.2.2.2.2.2.2.2.2.2;go_wp2_with fail;refine bodyPost_ret (v:=.tuple #[.agg #[.int .i64 0,.int .i64 0,.string ⟨#[]⟩],.agg #[.int .i64 0,.int .i64 0,.string ⟨#[]⟩],.bool false]) (by simp[results,Tryz.results105,go_sem, *]) rfl ?_
   rw[HS.out]
   exact⟨_,_,_,_,_,_,rfl,bl⟩
end Go.Proofs.YtghndifnohkokaaGreat
