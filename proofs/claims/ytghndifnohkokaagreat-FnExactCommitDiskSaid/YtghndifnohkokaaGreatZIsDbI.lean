import Derived.Test.YtghndifnohkokaaGreatZUnique
namespace Go.Proofs.YtghndifnohkokaaGreat
open Go.ChangeShapes Go.WideShapes Go.RowKit
set_option linter.unusedVariables false
set_option linter.unusedSimpArgs false
set_option maxRecDepth 100000
set_option maxHeartbeats 16000000
theorem Zgr {ss:List TStore} {k:Nat} (h:k<ss.length):Zbx ss k=(Zs ss[k]&&(k==0||match ss[k-1]? with|some t=>ZcJ t.name ss[k].name|none=>false)):=by
 unfold Zbx;rw[List.getElem?_eq_getElem h]<;>rfl
theorem ZgV {ss:List TStore} (h:0<ss.length):Zbx ss 0=Zs ss[0]:=by rw[Zgr h];simp
theorem ZgU {ss:List TStore} {k:Nat} (h:k+1<ss.length) (h1:k<ss.length):Zbx ss (k+1)=(Zs ss[k+1]&&ZcJ ss[k].name ss[k+1].name):=by
 rw[Zgr h];simp[List.getElem?_eq_getElem h1]
theorem ZjA {ss:List TStore} {k:Nat} (h:k<ss.length) (h1:Zs ss[k]=false):Zbx ss k=false:=by rw[Zgr h,h1];rfl
theorem Zdn {d:TDb} {k:Nat} (h:k<d.stores.length) (h1:Zbx d.stores k=false):Zi d=false:=by
 unfold Zi;rw[Zek h h1];simp
theorem ZbL {d:TDb} {k:Nat} (h:k<d.uniq.length) (h1:Zdm d k=false):Zi d=false:=by
 unfold Zi;rw[Zek h h1];simp
theorem ZiG {d:TDb} {k:Nat} (h:k<d.uniq.length):Zdm d k=(decide (0≤Zap d d.uniq[k].store)&&Zaj d.uniq[k].field&&ZaQ (λy=>Zef y d.uniq[k]) d.uniq k&&(match d.stores[(Zap d d.uniq[k].store).toNat]? with|some s=>!Zal s d.uniq[k].field|none=>false)):=by
 unfold Zdm;rw[List.getElem?_eq_getElem h]<;>rfl
theorem ZmM {d:TDb} {k:Nat} (h:k<d.uniq.length) (h1:Zap d d.uniq[k].store=-1):Zdm d k=false:=by rw[ZiG h,h1];rfl
theorem ZmN {d:TDb} {k:Nat} (h:k<d.uniq.length) (h1:Zaj d.uniq[k].field=false):Zdm d k=false:=by rw[ZiG h,h1];simp
theorem ZmO {d:TDb} {k:Nat} (h:k<d.uniq.length) (h1:ZaQ (λy=>Zef y d.uniq[k]) d.uniq k=false):Zdm d k=false:=by rw[ZiG h,h1];simp
theorem ZmP {d:TDb} {k j:Nat} (h:k<d.uniq.length) (hj:j<d.stores.length) (h1:Zap d d.uniq[k].store=j) (h2:Zal d.stores[j] d.uniq[k].field=true):Zdm d k=false:=by
 rw[ZiG h,h1,show ((j:Int)).toNat=j from rfl,List.getElem?_eq_getElem hj];simp[h2]
theorem ZmQ {d:TDb} {k j:Nat} (h:k<d.uniq.length) (hj:j<d.stores.length) (h1:Zap d d.uniq[k].store=j) (h2:Zaj d.uniq[k].field=true) (h3:ZaQ (λy=>Zef y d.uniq[k]) d.uniq k=true) (h4:Zal d.stores[j] d.uniq[k].field=false):Zdm d k=true:=by
 rw[ZiG h,h1,show ((j:Int)).toNat=j from rfl,List.getElem?_eq_getElem hj,h2,h3];simp[h4]
theorem ZbM (d:TDb) (nm:ByteArray):Zap d nm=-1∨∃j:Nat,j<d.stores.length∧Zap d nm=j:=by
 have h1:-1≤Zap d nm:=ZhJ _ _
 by_cases h:0≤Zap d nm
 ·have h2:=ZjO (λs:TStore=>Zaz s.name nm) d.stores h
  exact .inr ⟨(Zap d nm).toNat,h2,by omega⟩
 ·exact .inl (by omega)
theorem Zcq (v u:Value) (d:TDb) (F G:List Nat) (w:World) (h:cStoreS.rep w [v] d.stores F) (hu:cIdxS.rep w [u] d.uniq G) (hok:d.Ok) (hsm:Zbl d) :
  Calls Tryz.prog 72 #[.agg #[.string d.name,.int .i64 d.ver,v,u]] w (ZL w (.bool (Zi d))):=by
 obtain⟨A,cp,rfl⟩:=Zb h;obtain⟨U,cu,rfl⟩:=Zb hu;obtain⟨-,hcp,hm⟩:=Zq h;obtain⟨-,hcu,hmu⟩:=Zq hu;have HSM:=zh hsm.2.2;have hsl:=hsm.1;have hul:=hsm.2.1;clear hsm;have HE:=zh (show Zi d=(Zaj d.name&&inR d.ver 0 1000&&decide ((d.stores.length:Int)≤4)&&decide ((d.uniq.length:Int)≤4)&&Zbo (Zbx d.stores) d.stores.length&&Zbo (Zdm d) d.uniq.length) from rfl)
 obtain⟨n,hxn⟩:∃n,d.stores.length=n:=⟨_,rfl⟩
 have HN:=zh hxn;obtain⟨m,hxm⟩:∃m,d.uniq.length=m:=⟨_,rfl⟩
 have HMm:=zh hxm;rw[hxn] at hcp hsl h⊢
 rw[hxm] at hcu hul hu⊢
 clear hxn hxm
 unfold maxLen at hm hmu
 go_enter Tryz.func72,Tryz.ntmps72
 cases e1:Zaj d.name
 ·have HBAD:=zh (show Zi d=false by rw[HE.out,e1];rfl)
  go_wp2_with (first|(go_at_call 113;refine(ZK _ _ hok.h0).mono ?_;rw[e1];rintro e w1 ⟨rfl,rfl⟩))
  go_ret
  exact⟨Zd HBAD.out.symm,bl⟩
 cases e2:inR d.ver 0 1000
 ·have HBAD:=zh (show Zi d=false by rw[HE.out,e2];simp)
  go_wp2_with (first|(go_at_call 113;refine(ZK _ _ hok.h0).mono ?_;rw[e1];rintro e w1 ⟨rfl,rfl⟩)|(go_at_call 114;refine(ZV _ _ _ _).mono ?_;rw[e2];rintro e w1 ⟨rfl,rfl⟩))
  go_ret
  exact⟨Zd HBAD.out.symm,bl⟩
 by_cases e3:(n:Int)≤4
 case neg =>
  have HBAD:=zh (show Zi d=false by rw[HE.out,HN.out,decide_eq_false e3];simp)
  have e3':(4:Int)<(n:Int):=by omega
  go_wp2_with (first|(go_at_call 113;refine(ZK _ _ hok.h0).mono ?_;rw[e1];rintro e w1 ⟨rfl,rfl⟩)|(go_at_call 114;refine(ZV _ _ _ _).mono ?_;rw[e2];rintro e w1 ⟨rfl,rfl⟩))
  go_ret
  exact⟨Zd HBAD.out.symm,bl⟩
 by_cases e4:(m:Int)≤4
 case neg =>
  have HBAD:=zh (show Zi d=false by rw[HE.out,HMm.out,decide_eq_false e4];simp)
  have e4':(4:Int)<(m:Int):=by omega
  go_wp2_with (first|(go_at_call 113;refine(ZK _ _ hok.h0).mono ?_;rw[e1];rintro e w1 ⟨rfl,rfl⟩)|(go_at_call 114;refine(ZV _ _ _ _).mono ?_;rw[e2];rintro e w1 ⟨rfl,rfl⟩))
  go_ret
  exact⟨Zd HBAD.out.symm,bl⟩
 go_wp2_with (first|(go_at_call 113;refine(ZK _ _ hok.h0).mono ?_;rw[e1];rintro e w1 ⟨rfl,rfl⟩)|(go_at_call 114;refine(ZV _ _ _ _).mono ?_;rw[e2];rintro e w1 ⟨rfl,rfl⟩))
 generalize hW:World.alloc _ _=W
 have hWs:W.heap.size=w.heap.size+1:=by rw[← hW];clear hW;simp
 have hbW:Below w.heap.size w W:=by rw[← hW];exact bl
 have HK:=zh (show W.cell? ⟨w.heap.size,0,none⟩=some (.string d.name)∧W.cell? ⟨w.heap.size,1,none⟩=some (.int .i64 d.ver)∧W.cell? ⟨w.heap.size,2,none⟩=some (.slice A n cp)∧W.cell? ⟨w.heap.size,3,none⟩=some (.slice U m cu) from by refine⟨?_,?_,?_,?_⟩<;>(rw[← hW];clear hW;go_simp))
 clear hW;go_loopw [36] (λi wr=>∃k:Nat,k≤n∧i=.int .i64 k∧Zbo (Zbx d.stores) k=true∧Below W.heap.size W wr) (λi _=>n-(intOf i).toNat)
 case atStart=>exact⟨0,Nat.zero_le _,rfl,ZbE _,Below.refl _ _⟩
 case round =>
  obtain⟨k,hk,rfl,hno,hB⟩:=hrel;generalize wr=wo at *
  have HO:=zh hno;clear hno;have hws_wo:w.heap.size<wo.heap.size:=by have:=hB.size;omega
  have hbw:Below w.heap.size w wo:=Za hbW hB
  have k0_wo:wo.cell? ⟨w.heap.size,0,none⟩=some (.string d.name):=zcl hB HK.out.1
  have k1_wo:wo.cell? ⟨w.heap.size,1,none⟩=some (.int .i64 d.ver):=zcl hB HK.out.2.1
  have k2_wo:wo.cell? ⟨w.heap.size,2,none⟩=some (.slice A n cp):=zcl hB HK.out.2.2.1
  have k3_wo:wo.cell? ⟨w.heap.size,3,none⟩=some (.slice U m cu):=zcl hB HK.out.2.2.2
  by_cases hlt:k<n
  ·have hkx:k<d.stores.length:=by rw[HN.out];exact hlt
   obtain⟨g,o,A3,cc3,F3,rfl,hgF,hgw,hok3,q0,q1,q2,r3,-⟩:=ZcC (zb h hbw) hkx
   have hgn:¬g=wo.heap.size:=by omega
   have hki:((k:Int)<(n:Int)):=by omega
   cases e1:Zs d.stores[k]
   ·have HBAD:=zh (Zdn hkx (ZjA hkx e1))
    go_wp2_with fail;generalize hV_:World.alloc _ _=Y
    have hbY:Below wo.heap.size wo Y:=by rw[← hV_];exact bl
    have hYs:Y.heap.size=wo.heap.size+1:=by rw[← hV_];clear hV_;simp
    have c0:Y.cell? ⟨wo.heap.size,0,none⟩=some (.string d.stores[k].name):=by rw[← hV_];clear hV_;go_simp
    have c1:Y.cell? ⟨wo.heap.size,1,none⟩=some (.slice A3 d.stores[k].items.length cc3):=by rw[← hV_];clear hV_;go_simp
    have c2:Y.cell? ⟨wo.heap.size,2,none⟩=some (.int .i64 d.stores[k].auto):=by rw[← hV_];clear hV_;go_simp
    clear hV_;have hS:=λw9 (hb:Below Y.heap.size Y w9)=>zn4 hb (zcl hb c0) (zcl hb c1) (zcl hb c2)
    refine wp_region_held_drew (S:=(λw9=>Below Y.heap.size Y w9∧w9.cell? ⟨wo.heap.size,0,none⟩=some (.string d.stores[k].name)∧w9.cell? ⟨wo.heap.size,1,none⟩=some (.slice A3 d.stores[k].items.length cc3)∧w9.cell? ⟨wo.heap.size,2,none⟩=some (.int .i64 d.stores[k].auto))) (by kernel_rfl) (by (try dsimp only);exact hS _ bl) (λhHeld=>?_)
    refine zrd (i:=0) 41 ?_;(try simp only[Act.put,zp0,zp1,zp2]);refine zst 1 (λK hK=>?_)
    go_simp
    (go_at_call 115;refine(Zag _ d.stores[k] F3 _ (by exact zb r3 (Za hbY bl)) hok3.h0).mono ?_;rw[e1];rintro e w1 ⟨rfl,hb1⟩;have hY1:=zt (w:=Y) hb1;have hw1:Below w.heap.size w w1:=Za hbw (Za hbY hY1);have hW1:Below W.heap.size W w1:=Za hB (Za hbY hY1))
    try go_wp2_with fail
    refine hK.out _ _ ?_ (λhHeld=>?_)
    ·(try dsimp only)
     exact hS _ bl
    clear hK K;refine zrd (i:=2) 43 ?_;refine zrd (i:=3) 44 ?_;refine zsk (i:=4) 45 ?_;(try simp only[Act.put,zp0,zp1,zp2]);refine zsk (i:=5) 46 ?_;refine zsk (i:=6) 47 ?_;refine zsk (i:=7) 48 ?_;refine zsk (i:=8) 49 ?_;(try simp only[Act.put,zp0,zp1,zp2]);refine zsk (i:=9) 50 ?_;refine zsk (i:=10) 51 ?_;refine zsk (i:=11) 52 ?_;refine zsk (i:=12) 53 ?_;(try simp only[Act.put,zp0,zp1,zp2]);refine zsk (i:=13) 54 ?_;refine zsk (i:=14) 55 ?_;refine zsk (i:=15) 56 ?_;refine zsk (i:=16) 57 ?_;(try simp only[Act.put,zp0,zp1,zp2]);refine zsk (i:=17) 58 ?_;refine zrd (i:=18) 59 ?_;(try simp only[Act.put,zp0,zp1,zp2]);refine wpAnyH_done (by kernel_rfl) ?_ _
    go_wp2_with fail;go_ret
    exact⟨Zd HBAD.out.symm,bl⟩
   ·cases k with
    | zero =>
     have HZ:=zh (show Zbx d.stores 0=true by rw[ZgV hkx,e1])
     replace hki:(0:Int)<n:=by omega
     simp only[Nat.zero_mul,Nat.add_zero] at q0 q1 q2
     go_wp2_with fail;generalize hV_:World.alloc _ _=Y
     have hbY:Below wo.heap.size wo Y:=by rw[← hV_];exact bl
     have hYs:Y.heap.size=wo.heap.size+1:=by rw[← hV_];clear hV_;simp
     have c0:Y.cell? ⟨wo.heap.size,0,none⟩=some (.string d.stores[0].name):=by rw[← hV_];clear hV_;go_simp
     have c1:Y.cell? ⟨wo.heap.size,1,none⟩=some (.slice A3 d.stores[0].items.length cc3):=by rw[← hV_];clear hV_;go_simp
     have c2:Y.cell? ⟨wo.heap.size,2,none⟩=some (.int .i64 d.stores[0].auto):=by rw[← hV_];clear hV_;go_simp
     clear hV_;have hS:=λw9 (hb:Below Y.heap.size Y w9)=>zn4 hb (zcl hb c0) (zcl hb c1) (zcl hb c2)
     refine wp_region_held_drew (S:=(λw9=>Below Y.heap.size Y w9∧w9.cell? ⟨wo.heap.size,0,none⟩=some (.string d.stores[0].name)∧w9.cell? ⟨wo.heap.size,1,none⟩=some (.slice A3 d.stores[0].items.length cc3)∧w9.cell? ⟨wo.heap.size,2,none⟩=some (.int .i64 d.stores[0].auto))) (by kernel_rfl) (by (try dsimp only);exact hS _ bl) (λhHeld=>?_)
     refine zrd (i:=0) 41 ?_;(try simp only[Act.put,zp0,zp1,zp2]);refine zst 1 (λK hK=>?_)
     go_simp
     (go_at_call 115;refine(Zag _ d.stores[0] F3 _ (by exact zb r3 (Za hbY bl)) hok3.h0).mono ?_;rw[e1];rintro e w1 ⟨rfl,hb1⟩;have hY1:=zt (w:=Y) hb1;have hw1:Below w.heap.size w w1:=Za hbw (Za hbY hY1);have hW1:Below W.heap.size W w1:=Za hB (Za hbY hY1))
     try go_wp2_with fail
     refine hK.out _ _ ?_ (λhHeld=>?_)
     ·(try dsimp only)
      exact hS _ bl
     clear hK K;refine zrd (i:=2) 43 ?_;refine zrd (i:=3) 44 ?_;refine zrd (i:=4) 45 ?_;(try simp only[Act.put,zp0,zp1,zp2]);refine zrd (i:=5) 46 ?_;refine zrd (i:=6) 47 ?_;refine zsk (i:=7) 48 ?_;refine zsk (i:=8) 49 ?_;(try simp only[Act.put,zp0,zp1,zp2]);refine zsk (i:=9) 50 ?_;refine zsk (i:=10) 51 ?_;refine zsk (i:=11) 52 ?_;refine zsk (i:=12) 53 ?_;(try simp only[Act.put,zp0,zp1,zp2]);refine zsk (i:=13) 54 ?_;refine zsk (i:=14) 55 ?_;refine zsk (i:=15) 56 ?_;refine zsk (i:=16) 57 ?_;(try simp only[Act.put,zp0,zp1,zp2]);refine zrd (i:=17) 58 ?_;refine zrd (i:=18) 59 ?_;(try simp only[Act.put,zp0,zp1,zp2]);refine wpAnyH_done (by kernel_rfl) ?_ _
     go_wp2_with fail;go_roundw
     case rel=>exact⟨1,by omega,by go_num,by rw[Zay,HZ.out];rfl,bl⟩
     case measure=>simp[intOf];omega
    | succ j =>
     have hjx:j<d.stores.length:=by omega
     obtain⟨g',o',A4,c4,F4,eA,-,-,-,p0,-,-,-,-⟩:=ZcC (zb h hbw) hjx
     injection eA with eA
     injection eA with e8 e9
     subst e8;subst e9;have HG:=zh (ZgU hkx hjx)
     have hd1:decide ((0:Int)<(j:Int)+1)=true:=decide_eq_true (by omega)
     have hk0:(0:Int)≤(j:Int)+1:=by omega
     have hwj:IntKind.i64.wrap (j:Int)=(j:Int):=IntWalk.i64_in _ (by omega)
     have hjn:((j:Int)<(n:Int)):=by omega
     replace hki:((j:Int)+1<(n:Int)):=by omega
     have htr:=ZgX d.stores[j+1].name d.stores[j].name
     cases hl:ZlR d.stores[j].name d.stores[j+1].name
     ·rw[hl,Bool.not_false] at htr
      have HBAD:=zh (Zdn hkx (show Zbx d.stores (j+1)=false by rw[HG.out,show ZcJ d.stores[j].name d.stores[j+1].name=false from hl];simp))
      go_wp2_with fail;generalize hV_:World.alloc _ _=Y
      have hbY:Below wo.heap.size wo Y:=by rw[← hV_];exact bl
      have hYs:Y.heap.size=wo.heap.size+1:=by rw[← hV_];clear hV_;simp
      have c0:Y.cell? ⟨wo.heap.size,0,none⟩=some (.string d.stores[j+1].name):=by rw[← hV_];clear hV_;go_simp
      have c1:Y.cell? ⟨wo.heap.size,1,none⟩=some (.slice A3 d.stores[j+1].items.length cc3):=by rw[← hV_];clear hV_;go_simp
      have c2:Y.cell? ⟨wo.heap.size,2,none⟩=some (.int .i64 d.stores[j+1].auto):=by rw[← hV_];clear hV_;go_simp
      clear hV_;have hS:=λw9 (hb:Below Y.heap.size Y w9)=>zn6 hb (zcl hb ((World.cell?_of_block (hbY.block w.heap.size (by omega))).trans k2_wo)) (zcl hb c0) (zcl hb c1) (zcl hb c2) (zcl hb ((World.cell?_of_block (hbY.block g (by omega))).trans p0))
      refine wp_region_held_drew (S:=(λw9=>Below Y.heap.size Y w9∧w9.cell? ⟨w.heap.size,2,none⟩=some (.slice (some ⟨g,o,none⟩) n cp)∧w9.cell? ⟨wo.heap.size,0,none⟩=some (.string d.stores[j+1].name)∧w9.cell? ⟨wo.heap.size,1,none⟩=some (.slice A3 d.stores[j+1].items.length cc3)∧w9.cell? ⟨wo.heap.size,2,none⟩=some (.int .i64 d.stores[j+1].auto)∧w9.cell? ⟨g,o+j*3,none⟩=some (.string d.stores[j].name))) (by kernel_rfl) (by (try dsimp only);exact hS _ bl) (λhHeld=>?_)
      refine zrd (i:=0) 41 ?_;(try simp only[Act.put,zp0,zp1,zp2]);refine zst 1 (λK hK=>?_)
      go_simp
      (go_at_call 115;refine(Zag _ d.stores[j+1] F3 _ (by exact zb r3 (Za hbY bl)) hok3.h0).mono ?_;rw[e1];rintro e w1 ⟨rfl,hb1⟩;have hY1:=zt (w:=Y) hb1;have hw1:Below w.heap.size w w1:=Za hbw (Za hbY hY1);have hW1:Below W.heap.size W w1:=Za hB (Za hbY hY1))
      try go_wp2_with fail
      refine hK.out _ _ ?_ (λhHeld=>?_)
      ·(try dsimp only)
       exact hS _ bl
      clear hK K;refine zrd (i:=2) 43 ?_;refine zrd (i:=3) 44 ?_;refine zrd (i:=4) 45 ?_;(try simp only[Act.put,zp0,zp1,zp2]);refine zrd (i:=5) 46 ?_;refine zrd (i:=6) 47 ?_;refine zrd (i:=7) 48 ?_;refine zrd (i:=8) 49 ?_;(try simp only[Act.put,zp0,zp1,zp2]);refine zrd (i:=9) 50 ?_;refine zrd (i:=10) 51 ?_;refine zrd (i:=11) 52 ?_;refine zrd (i:=12) 53 ?_;(try simp only[Act.put,zp0,zp1,zp2]);refine zrd (i:=13) 54 ?_;refine zrd (i:=14) 55 ?_;refine zrd (i:=15) 56 ?_;refine zrd (i:=16) 57 ?_;(try simp only[Act.put,zp0,zp1,zp2]);refine zrd (i:=17) 58 ?_;refine zrd (i:=18) 59 ?_;(try simp only[Act.put,zp0,zp1,zp2]);refine wpAnyH_done (by kernel_rfl) ?_ _
      go_wp2_with fail;go_ret
      exact⟨Zd HBAD.out.symm,bl⟩
     ·rw[hl,Bool.not_true] at htr
      have HZ:=zh (show Zbx d.stores (j+1)=true by rw[HG.out,e1,show ZcJ d.stores[j].name d.stores[j+1].name=true from hl];rfl)
      go_wp2_with fail;generalize hV_:World.alloc _ _=Y
      have hbY:Below wo.heap.size wo Y:=by rw[← hV_];exact bl
      have hYs:Y.heap.size=wo.heap.size+1:=by rw[← hV_];clear hV_;simp
      have c0:Y.cell? ⟨wo.heap.size,0,none⟩=some (.string d.stores[j+1].name):=by rw[← hV_];clear hV_;go_simp
      have c1:Y.cell? ⟨wo.heap.size,1,none⟩=some (.slice A3 d.stores[j+1].items.length cc3):=by rw[← hV_];clear hV_;go_simp
      have c2:Y.cell? ⟨wo.heap.size,2,none⟩=some (.int .i64 d.stores[j+1].auto):=by rw[← hV_];clear hV_;go_simp
      clear hV_;have hS:=λw9 (hb:Below Y.heap.size Y w9)=>zn6 hb (zcl hb ((World.cell?_of_block (hbY.block w.heap.size (by omega))).trans k2_wo)) (zcl hb c0) (zcl hb c1) (zcl hb c2) (zcl hb ((World.cell?_of_block (hbY.block g (by omega))).trans p0))
      refine wp_region_held_drew (S:=(λw9=>Below Y.heap.size Y w9∧w9.cell? ⟨w.heap.size,2,none⟩=some (.slice (some ⟨g,o,none⟩) n cp)∧w9.cell? ⟨wo.heap.size,0,none⟩=some (.string d.stores[j+1].name)∧w9.cell? ⟨wo.heap.size,1,none⟩=some (.slice A3 d.stores[j+1].items.length cc3)∧w9.cell? ⟨wo.heap.size,2,none⟩=some (.int .i64 d.stores[j+1].auto)∧w9.cell? ⟨g,o+j*3,none⟩=some (.string d.stores[j].name))) (by kernel_rfl) (by (try dsimp only);exact hS _ bl) (λhHeld=>?_)
      refine zrd (i:=0) 41 ?_;(try simp only[Act.put,zp0,zp1,zp2]);refine zst 1 (λK hK=>?_)
      go_simp
      (go_at_call 115;refine(Zag _ d.stores[j+1] F3 _ (by exact zb r3 (Za hbY bl)) hok3.h0).mono ?_;rw[e1];rintro e w1 ⟨rfl,hb1⟩;have hY1:=zt (w:=Y) hb1;have hw1:Below w.heap.size w w1:=Za hbw (Za hbY hY1);have hW1:Below W.heap.size W w1:=Za hB (Za hbY hY1))
      try go_wp2_with fail
      refine hK.out _ _ ?_ (λhHeld=>?_)
      ·(try dsimp only)
       exact hS _ bl
      clear hK K;refine zrd (i:=2) 43 ?_;refine zrd (i:=3) 44 ?_;refine zrd (i:=4) 45 ?_;(try simp only[Act.put,zp0,zp1,zp2]);refine zrd (i:=5) 46 ?_;refine zrd (i:=6) 47 ?_;refine zrd (i:=7) 48 ?_;refine zrd (i:=8) 49 ?_;(try simp only[Act.put,zp0,zp1,zp2]);refine zrd (i:=9) 50 ?_;refine zrd (i:=10) 51 ?_;refine zrd (i:=11) 52 ?_;refine zrd (i:=12) 53 ?_;(try simp only[Act.put,zp0,zp1,zp2]);refine zrd (i:=13) 54 ?_;refine zrd (i:=14) 55 ?_;refine zrd (i:=15) 56 ?_;refine zrd (i:=16) 57 ?_;(try simp only[Act.put,zp0,zp1,zp2]);refine zrd (i:=17) 58 ?_;refine zrd (i:=18) 59 ?_;(try simp only[Act.put,zp0,zp1,zp2]);refine wpAnyH_done (by kernel_rfl) ?_ _
      go_wp2_with fail;go_roundw
      case rel=>exact⟨j+2,by omega,by go_num,by rw[Zay,HZ.out,HO.out];rfl,bl⟩
      case measure=>simp[intOf];omega
  ·obtain rfl:n=k:=by omega
   have HST:=zh HO.out;clear HO;go_wp2_with fail;go_loopw [64] (λi wr=>∃k:Nat,k≤m∧i=.int .i64 k∧Zbo (Zdm d) k=true∧Below W.heap.size W wr) (λi _=>m-(intOf i).toNat)
   case atStart=>exact⟨0,Nat.zero_le _,rfl,ZbE _,hB⟩
   case round =>
    clear hB hbw hws_wo k0_wo k1_wo k2_wo k3_wo;obtain⟨k,hk,rfl,hno,hB⟩:=hrel;generalize wr=wo at *
    have HO:=zh hno;clear hno;have hws_wo:w.heap.size<wo.heap.size:=by have:=hB.size;omega
    have hbw:Below w.heap.size w wo:=Za hbW hB
    have k0_wo:wo.cell? ⟨w.heap.size,0,none⟩=some (.string d.name):=zcl hB HK.out.1
    have k1_wo:wo.cell? ⟨w.heap.size,1,none⟩=some (.int .i64 d.ver):=zcl hB HK.out.2.1
    have k2_wo:wo.cell? ⟨w.heap.size,2,none⟩=some (.slice A n cp):=zcl hB HK.out.2.2.1
    have k3_wo:wo.cell? ⟨w.heap.size,3,none⟩=some (.slice U m cu):=zcl hB HK.out.2.2.2
    by_cases hlt:k<m
    ·have hkx:k<d.uniq.length:=by rw[HMm.out];exact hlt
     obtain⟨gu,ou,rfl,hguF,hgw,hoku,q0,q1⟩:=Zky (zb hu hbw) hkx
     have hgn:¬gu=wo.heap.size:=by omega
     have hki:((k:Int)<(m:Int)):=by omega
     have hkm:((k:Int)≤(m:Int)):=by omega
     have hkc:((k:Int)≤(cu:Int)):=by omega
     go_wp2_with fail;refine(ZdE _ _ d d.uniq[k].store F _ (by exact zb h) ⟨some ⟨gu,ou,none⟩,cu,by rw[HMm.out]⟩).mono ?_
     rintro e w2 ⟨he2,hb2⟩;obtain⟨hc_w2,hf_w2,hz_w2⟩:=Zc hb2
     try simp at hz_w2
     have ha0_w2:w.heap.size<w2.heap.size:=by omega
     have ha1_w2:wo.heap.size<w2.heap.size:=by omega
     have hb_w2:=zt (w:=w) hb2
     have hbo2:=zt (w:=wo) hb2
     have x0:w2.cell? ⟨wo.heap.size,0,none⟩=some (.string d.uniq[k].store):=by go_simp
     have x1:w2.cell? ⟨wo.heap.size,1,none⟩=some (.string d.uniq[k].field):=by go_simp
     have p2:=zcl hbo2 k2_wo;have p3:=zcl hbo2 k3_wo;have hww2:w.heap.size<w2.heap.size:=by omega
     have hbw2:Below w.heap.size w w2:=Za hbw hbo2
     have hB2:Below W.heap.size W w2:=Za hB hbo2
     clear hc_w2 hf_w2 hb2 hb_w2
     rcases ZbM d d.uniq[k].store with hfs|⟨j,hj,hfs⟩
     ·rw[hfs] at he2
      subst he2;have HBAD:=zh (ZbL hkx (ZmM hkx hfs))
      go_wp2_with fail;have hS:=λw9 (hb:Below w2.heap.size w2 w9)=>zn4 hb (zcl hb x0) (zcl hb x1) (zcl hb p3)
      refine wp_region_held_drew (S:=(λw9=>Below w2.heap.size w2 w9∧w9.cell? ⟨wo.heap.size,0,none⟩=some (.string d.uniq[k].store)∧w9.cell? ⟨wo.heap.size,1,none⟩=some (.string d.uniq[k].field)∧w9.cell? ⟨w.heap.size,3,none⟩=some (.slice (some ⟨gu,ou,none⟩) m cu))) (by kernel_rfl) (by (try dsimp only);exact hS _ bl) (λhHeld=>?_)
      refine zrd (i:=0) 73 ?_;refine zrd (i:=1) 74 ?_;refine zrd (i:=2) 75 ?_;refine zsk (i:=3) 76 ?_;(try simp only[Act.put,zp0,zp1,zp2]);refine zsk (i:=4) 77 ?_;refine zsk (i:=5) 78 ?_;refine zsk (i:=6) 79 ?_;refine zrd (i:=7) 80 ?_;(try simp only[Act.put,zp0,zp1,zp2]);refine zrd (i:=8) 81 ?_;refine zsk (i:=9) 82 ?_;refine zsk (i:=10) 83 ?_;refine zsk (i:=11) 84 ?_;(try simp only[Act.put,zp0,zp1,zp2]);refine zsk (i:=12) 85 ?_;refine zsk (i:=13) 86 ?_;refine zsk (i:=14) 87 ?_;refine zrd (i:=15) 88 ?_;(try simp only[Act.put,zp0,zp1,zp2]);refine wpAnyH_done (by kernel_rfl) ?_ _
      go_wp2_with fail;go_ret
      exact⟨Zd HBAD.out.symm,bl⟩
     ·rw[hfs] at he2
      subst he2;have hj0:¬(j:Int)<0:=by omega
      have hjn:(j:Int)<(n:Int):=by have h9:=HN.out;omega
      have hj1:(0:Int)≤(j:Int):=by omega
      cases e6:Zaj d.uniq[k].field
      ·have HBAD:=zh (ZbL hkx (ZmN hkx e6))
       go_wp2_with fail;have hS:=λw9 (hb:Below w2.heap.size w2 w9)=>zn4 hb (zcl hb x0) (zcl hb x1) (zcl hb p3)
       refine wp_region_held_drew (S:=(λw9=>Below w2.heap.size w2 w9∧w9.cell? ⟨wo.heap.size,0,none⟩=some (.string d.uniq[k].store)∧w9.cell? ⟨wo.heap.size,1,none⟩=some (.string d.uniq[k].field)∧w9.cell? ⟨w.heap.size,3,none⟩=some (.slice (some ⟨gu,ou,none⟩) m cu))) (by kernel_rfl) (by (try dsimp only);exact hS _ bl) (λhHeld=>?_)
       refine zrd (i:=0) 73 ?_;refine zrd (i:=1) 74 ?_;refine zrd (i:=2) 75 ?_;refine zrd (i:=3) 76 ?_;(try simp only[Act.put,zp0,zp1,zp2]);refine zrd (i:=4) 77 ?_;(try simp only[Act.put,zp0,zp1,zp2]);refine zst 5 (λK hK=>?_)
       go_simp
       (go_at_call 113;refine(ZK _ _ hoku.h1).mono ?_;rw[e6];rintro e w4 ⟨rfl,rfl⟩)
       try go_wp2_with fail
       refine hK.out _ _ ?_ (λhHeld=>?_)
       ·(try dsimp only)
        exact hS _ bl
       clear hK K;refine zrd (i:=6) 79 ?_;refine zrd (i:=7) 80 ?_;refine zrd (i:=8) 81 ?_;(try simp only[Act.put,zp0,zp1,zp2]);refine zsk (i:=9) 82 ?_;refine zsk (i:=10) 83 ?_;refine zsk (i:=11) 84 ?_;refine zsk (i:=12) 85 ?_;(try simp only[Act.put,zp0,zp1,zp2]);refine zsk (i:=13) 86 ?_;refine zsk (i:=14) 87 ?_;refine zrd (i:=15) 88 ?_;(try simp only[Act.put,zp0,zp1,zp2]);refine wpAnyH_done (by kernel_rfl) ?_ _
       go_wp2_with fail;go_ret
       exact⟨Zd HBAD.out.symm,bl⟩
      ·cases e7:ZaQ (λy=>Zef y d.uniq[k]) d.uniq k
       ·have HBAD:=zh (ZbL hkx (ZmO hkx e7))
        go_wp2_with fail;have hS:=λw9 (hb:Below w2.heap.size w2 w9)=>zn4 hb (zcl hb x0) (zcl hb x1) (zcl hb p3)
        refine wp_region_held_drew (S:=(λw9=>Below w2.heap.size w2 w9∧w9.cell? ⟨wo.heap.size,0,none⟩=some (.string d.uniq[k].store)∧w9.cell? ⟨wo.heap.size,1,none⟩=some (.string d.uniq[k].field)∧w9.cell? ⟨w.heap.size,3,none⟩=some (.slice (some ⟨gu,ou,none⟩) m cu))) (by kernel_rfl) (by (try dsimp only);exact hS _ bl) (λhHeld=>?_)
        refine zrd (i:=0) 73 ?_;refine zrd (i:=1) 74 ?_;refine zrd (i:=2) 75 ?_;refine zrd (i:=3) 76 ?_;(try simp only[Act.put,zp0,zp1,zp2]);refine zrd (i:=4) 77 ?_;(try simp only[Act.put,zp0,zp1,zp2]);refine zst 5 (λK hK=>?_)
        go_simp
        (first|(go_at_call 113;refine(ZK _ _ hoku.h1).mono ?_;rw[e6];rintro e w4 ⟨rfl,rfl⟩)|(go_at_call 117;refine(Zcn _ m cu k d.uniq d.uniq[k] G _ (by exact zb hu (Za hbw2 bl)) (by omega)).mono ?_;rw[e7];rintro e w5 ⟨rfl,hb5⟩;have hb25:=zt (w:=w2) hb5;have hB5:Below W.heap.size W w5:=Za hB2 hb25;have hbw5:Below w.heap.size w w5:=Za hbw2 hb25))
        try go_wp2_with fail
        refine hK.out _ _ ?_ (λhHeld=>?_)
        ·(try dsimp only)
         exact hS _ bl
        clear hK K;refine zrd (i:=6) 79 ?_;refine zrd (i:=7) 80 ?_;refine zrd (i:=8) 81 ?_;(try simp only[Act.put,zp0,zp1,zp2]);refine zrd (i:=9) 82 ?_;refine zrd (i:=10) 83 ?_;refine zrd (i:=11) 84 ?_;refine zrd (i:=12) 85 ?_;(try simp only[Act.put,zp0,zp1,zp2]);refine zrd (i:=13) 86 ?_;(try simp only[Act.put,zp0,zp1,zp2]);refine zst 14 (λK hK=>?_)
        go_simp
        (first|(go_at_call 113;refine(ZK _ _ hoku.h1).mono ?_;rw[e6];rintro e w4 ⟨rfl,rfl⟩)|(go_at_call 117;refine(Zcn _ m cu k d.uniq d.uniq[k] G _ (by exact zb hu (Za hbw2 bl)) (by omega)).mono ?_;rw[e7];rintro e w5 ⟨rfl,hb5⟩;have hb25:=zt (w:=w2) hb5;have hB5:Below W.heap.size W w5:=Za hB2 hb25;have hbw5:Below w.heap.size w w5:=Za hbw2 hb25))
        try go_wp2_with fail
        refine hK.out _ _ ?_ (λhHeld=>?_)
        ·(try dsimp only)
         exact hS _ bl
        clear hK K;refine zrd (i:=15) 88 ?_;(try simp only[Act.put,zp0,zp1,zp2]);refine wpAnyH_done (by kernel_rfl) ?_ _
        go_wp2_with fail;go_ret
        exact⟨Zd HBAD.out.symm,bl⟩
       ·go_wp2_with fail;have hS:=λw9 (hb:Below w2.heap.size w2 w9)=>zn4 hb (zcl hb x0) (zcl hb x1) (zcl hb p3)
        refine wp_region_held_drew (S:=(λw9=>Below w2.heap.size w2 w9∧w9.cell? ⟨wo.heap.size,0,none⟩=some (.string d.uniq[k].store)∧w9.cell? ⟨wo.heap.size,1,none⟩=some (.string d.uniq[k].field)∧w9.cell? ⟨w.heap.size,3,none⟩=some (.slice (some ⟨gu,ou,none⟩) m cu))) (by kernel_rfl) (by (try dsimp only);exact hS _ bl) (λhHeld=>?_)
        refine zrd (i:=0) 73 ?_;refine zrd (i:=1) 74 ?_;refine zrd (i:=2) 75 ?_;refine zrd (i:=3) 76 ?_;(try simp only[Act.put,zp0,zp1,zp2]);refine zrd (i:=4) 77 ?_;(try simp only[Act.put,zp0,zp1,zp2]);refine zst 5 (λK hK=>?_)
        go_simp
        (first|(go_at_call 113;refine(ZK _ _ hoku.h1).mono ?_;rw[e6];rintro e w4 ⟨rfl,rfl⟩)|(go_at_call 117;refine(Zcn _ m cu k d.uniq d.uniq[k] G _ (by exact zb hu (Za hbw2 bl)) (by omega)).mono ?_;rw[e7];rintro e w5 ⟨rfl,hb5⟩;have hb25:=zt (w:=w2) hb5;have hB5:Below W.heap.size W w5:=Za hB2 hb25;have hbw5:Below w.heap.size w w5:=Za hbw2 hb25))
        try go_wp2_with fail
        refine hK.out _ _ ?_ (λhHeld=>?_)
        ·(try dsimp only)
         exact hS _ bl
        clear hK K;refine zrd (i:=6) 79 ?_;refine zrd (i:=7) 80 ?_;refine zrd (i:=8) 81 ?_;(try simp only[Act.put,zp0,zp1,zp2]);refine zrd (i:=9) 82 ?_;refine zrd (i:=10) 83 ?_;refine zrd (i:=11) 84 ?_;refine zrd (i:=12) 85 ?_;(try simp only[Act.put,zp0,zp1,zp2]);refine zrd (i:=13) 86 ?_;(try simp only[Act.put,zp0,zp1,zp2]);refine zst 14 (λK hK=>?_)
        go_simp
        (first|(go_at_call 113;refine(ZK _ _ hoku.h1).mono ?_;rw[e6];rintro e w4 ⟨rfl,rfl⟩)|(go_at_call 117;refine(Zcn _ m cu k d.uniq d.uniq[k] G _ (by exact zb hu (Za hbw2 bl)) (by omega)).mono ?_;rw[e7];rintro e w5 ⟨rfl,hb5⟩;have hb25:=zt (w:=w2) hb5;have hB5:Below W.heap.size W w5:=Za hB2 hb25;have hbw5:Below w.heap.size w w5:=Za hbw2 hb25))
        try go_wp2_with fail
        refine hK.out _ _ ?_ (λhHeld=>?_)
        ·(try dsimp only)
         exact hS _ bl
        clear hK K;refine zrd (i:=15) 88 ?_;(try simp only[Act.put,zp0,zp1,zp2]);refine wpAnyH_done (by kernel_rfl) ?_ _
        obtain⟨gs,os,A9,c9,F9,rfl,hgsF,hgs,hoks,s0,s1,s2,r9,-⟩:=ZcC (zb h hbw5) hj
        have x1':=zcl hb25 x1;have p2':=zcl hb25 p2;have hz25:=hb25.size;have hwo5:wo.heap.size<w5.heap.size:=by omega
        have hww5:w.heap.size<w5.heap.size:=by omega
        clear x0 x1 p2 p3 hS;have hsmj:=HSM.out _ (List.getElem_mem hj)
        go_upto_region 15 with (fail)
        have hS:=λw9 (hb:Below w5.heap.size w5 w9)=>zn6 hb (zcl hb p2') (zcl hb x1') (zcl hb s0) (zcl hb s1) (zcl hb s2)
        have hw55:Below w5.heap.size w5 w5:=Below.refl _ _
        go_cut [8,9,10] from 89 to 100 (λt8 t9 t10 wq=>t10=.bool (Zal d.stores[j] d.uniq[k].field)∧Below w5.heap.size w5 wq)
        case first =>
         go_region_held3 (λw9=>Below w5.heap.size w5 w9∧w9.cell? ⟨w.heap.size,2,none⟩=some (.slice (some ⟨gs,os,none⟩) n cp)∧w9.cell? ⟨wo.heap.size,1,none⟩=some (.string d.uniq[k].field)∧w9.cell? ⟨gs,os+j*3,none⟩=some (.string d.stores[j].name)∧w9.cell? ⟨gs,os+j*3+1,none⟩=some (.slice A9 d.stores[j].items.length c9)∧w9.cell? ⟨gs,os+j*3+2,none⟩=some (.int .i64 d.stores[j].auto)) (exact hS _ bl)
          (first|(go_at_call 118;refine(Zfe _ d.stores[j] d.uniq[k].field F9 _ (by exact zb r9) hsmj).mono ?_;rintro e w6 ⟨ka,kb,la,lb,kc,lc,rfl,hb6⟩;have hw6:=zt (w:=w5) hb6;obtain⟨hc6,hf6,hz6⟩:=Zc hb6;(try simp at hz6);(try have g6:=Nat.lt_of_succ_le hz6);(try have g7:=Nat.lt_of_succ_lt (Nat.lt_of_succ_le hz6));clear hb6))
         all_goals
          go_wp2_with fail;go_meet
         all_goals try (case rel=>exact⟨rfl,bl⟩)
        case rest =>
         obtain⟨rfl,hB9⟩:=hcut;generalize wc=w7 at *
         have hB7:Below W.heap.size W w7:=Za hB5 hB9
         have hbw7:Below w.heap.size w w7:=Za hbw5 hB9
         cases e8:Zal d.stores[j] d.uniq[k].field
         ·have HZ:=zh (ZmQ hkx hj hfs e6 e7 e8)
          go_wp2_with fail;go_roundw
          case rel=>exact⟨k+1,by omega,by go_num,by rw[Zay,HZ.out,HO.out];rfl,bl⟩
          case measure=>simp[intOf];omega
         ·have HBAD:=zh (ZbL hkx (ZmP hkx hj hfs e8))
          go_wp2_with fail;go_ret
          exact⟨Zd HBAD.out.symm,bl⟩
    ·obtain rfl:k=m:=by omega
     have HH:=zh (show Zi d=true by rw[HE.out,HN.out,HMm.out,e1,e2,decide_eq_true e3,decide_eq_true e4,HST.out,HO.out];rfl)
     go_wp2_with fail;go_ret
     exact⟨Zd HH.out.symm,bl⟩
end Go.Proofs.YtghndifnohkokaaGreat
