import Derived.Test.YtghndifnohkokaaGreatZIsDbI
namespace Go.Proofs.YtghndifnohkokaaGreat
open Go.ChangeShapes Go.WideShapes Go.RowKit
set_option linter.unusedVariables false
set_option linter.unusedSimpArgs false
set_option maxRecDepth 100000
set_option maxHeartbeats 16000000
theorem ZoY {α:Type} {p:α→Bool} {xs:List α} {q k:Nat} (hq:q<xs.length) (h:q<k) (h1:p xs[q]=true):ZaQ p xs k=false:=by
 unfold ZaQ
 rw[Bool.eq_false_iff]
 intro h9;have h8:=(List.all_eq_true.1 h9) xs[q] (List.mem_iff_getElem.2 ⟨q,by simp;omega,by simp⟩)
 rw[h1] at h8;simp at h8
theorem Zcy (v u:Value) (d:TDb) (F G:List Nat) (w:World) (h:cStoreS.rep w [v] d.stores F) (hu:cIdxS.rep w [u] d.uniq G) (hok:d.Ok) (hsm:Zbl d) :
  Calls Tryz.prog 61 #[.agg #[.string d.name,.int .i64 d.ver,v,u]] w (ZL w (.bool (Zi d))):=by
 obtain⟨A,cp,rfl⟩:=Zb h;obtain⟨U,cu,rfl⟩:=Zb hu;obtain⟨-,hcp,hm⟩:=Zq h;obtain⟨-,hcu,hmu⟩:=Zq hu;have HSM:=zh hsm.2.2;have hsl:=hsm.1;have hul:=hsm.2.1;clear hsm;have HE:=zh (show Zi d=(Zaj d.name&&inR d.ver 0 1000&&decide ((d.stores.length:Int)≤4)&&decide ((d.uniq.length:Int)≤4)&&Zbo (Zbx d.stores) d.stores.length&&Zbo (Zdm d) d.uniq.length) from rfl)
 obtain⟨n,hxn⟩:∃n,d.stores.length=n:=⟨_,rfl⟩
 have HN:=zh hxn;obtain⟨m,hxm⟩:∃m,d.uniq.length=m:=⟨_,rfl⟩
 have HMm:=zh hxm;rw[hxn] at hcp hsl h⊢
 rw[hxm] at hcu hul hu⊢
 clear hxn hxm
 unfold maxLen at hm hmu
 go_enter Tryz.func61,Tryz.ntmps61
 go_wp2_with fail;generalize hW:World.alloc _ _=W
 have hWs:W.heap.size=w.heap.size+1:=by rw[← hW];clear hW;simp
 have hbW:Below w.heap.size w W:=by rw[← hW];exact bl
 have HK:=zh (show W.cell? ⟨w.heap.size,0,none⟩=some (.string d.name)∧W.cell? ⟨w.heap.size,1,none⟩=some (.int .i64 d.ver)∧W.cell? ⟨w.heap.size,2,none⟩=some (.slice A n cp)∧W.cell? ⟨w.heap.size,3,none⟩=some (.slice U m cu) from by refine⟨?_,?_,?_,?_⟩<;>(rw[← hW];clear hW;go_simp))
 clear hW;go_loopw [3] (λi wr=>∃k:Nat,k≤n∧i=.int .i64 k∧Zbo (Zbx d.stores) k=true∧Below W.heap.size W wr) (λi _=>n-(intOf i).toNat)
 case atStart=>exact⟨0,Nat.zero_le _,rfl,ZbE _,Below.refl _ _⟩
 case round =>
  obtain⟨k,hk,rfl,hno,hB⟩:=hrel;generalize wr=wo at *
  have HO:=zh hno;clear hno;have hws_wo:w.heap.size<wo.heap.size:=by have:=hB.size;omega
  have hbw:Below w.heap.size w wo:=Za hbW hB
  have k0_wo:wo.cell? ⟨w.heap.size,0,none⟩=some (.string d.name):=zcl hB HK.out.1
  have k1_wo:wo.cell? ⟨w.heap.size,1,none⟩=some (.int .i64 d.ver):=zcl hB HK.out.2.1
  have k2_wo:wo.cell? ⟨w.heap.size,2,none⟩=some (.slice A n cp):=zcl hB HK.out.2.2.1
  have k3_wo:wo.cell? ⟨w.heap.size,3,none⟩=some (.slice U m cu):=zcl hB HK.out.2.2.2
  by_cases hlt:k<n
  ·have hkx:k<d.stores.length:=by rw[HN.out];exact hlt
   obtain⟨g,o,A3,cc3,F3,rfl,hgF,hgw,hok3,q0,q1,q2,r3,-⟩:=ZcC (zb h hbw) hkx
   have hki:((k:Int)<(n:Int)):=by omega
   cases e1:Zs d.stores[k]
   ·have HBAD:=zh (Zdn hkx (ZjA hkx e1))
    go_wp2_with fail;have hbY:Below wo.heap.size wo wo:=Below.refl _ _
    have hS:=λw9 (hb:Below wo.heap.size wo w9)=>zn5 hb (zcl hb ((World.cell?_of_block (hbY.block w.heap.size (by omega))).trans k2_wo)) (zcl hb q0) (zcl hb q1) (zcl hb q2)
    refine wp_region_held_drew (S:=(λw9=>Below wo.heap.size wo w9∧w9.cell? ⟨w.heap.size,2,none⟩=some (.slice (some ⟨g,o,none⟩) n cp)∧w9.cell? ⟨g,o+k*3,none⟩=some (.string d.stores[k].name)∧w9.cell? ⟨g,o+k*3+1,none⟩=some (.slice A3 d.stores[k].items.length cc3)∧w9.cell? ⟨g,o+k*3+2,none⟩=some (.int .i64 d.stores[k].auto))) (by kernel_rfl) (by (try dsimp only);exact hS _ bl) (λhHeld=>?_)
    refine zrd (i:=0) 17 ?_;refine zrd (i:=1) 18 ?_;refine zrd (i:=2) 19 ?_;refine zrd (i:=3) 20 ?_;(try simp only[Act.put,zp0,zp1,zp2]);refine zrd (i:=4) 21 ?_;(try simp only[Act.put,zp0,zp1,zp2]);refine zst 5 (λK hK=>?_)
    go_simp
    (go_at_call 102;refine(Zbk _ d.stores[k] F3 _ (by exact zb r3 (Za hbY bl)) hok3.h0).mono ?_;rw[e1];rintro e w1 ⟨rfl,hb1⟩;have hY1:=zt (w:=wo) hb1;have hw1:Below w.heap.size w w1:=Za hbw (Za hbY hY1);have hW1:Below W.heap.size W w1:=Za hB (Za hbY hY1))
    try go_wp2_with fail
    refine hK.out _ _ ?_ (λhHeld=>?_)
    ·(try dsimp only)
     exact hS _ bl
    clear hK K;refine zrd (i:=6) 23 ?_;refine zrd (i:=7) 24 ?_;refine zsk (i:=8) 25 ?_;(try simp only[Act.put,zp0,zp1,zp2]);refine zsk (i:=9) 26 ?_;refine zsk (i:=10) 27 ?_;refine zsk (i:=11) 28 ?_;refine zsk (i:=12) 29 ?_;(try simp only[Act.put,zp0,zp1,zp2]);refine zsk (i:=13) 30 ?_;refine zsk (i:=14) 31 ?_;refine zsk (i:=15) 32 ?_;refine zsk (i:=16) 33 ?_;(try simp only[Act.put,zp0,zp1,zp2]);refine zsk (i:=17) 34 ?_;refine zsk (i:=18) 35 ?_;refine zsk (i:=19) 36 ?_;refine zsk (i:=20) 37 ?_;(try simp only[Act.put,zp0,zp1,zp2]);refine zsk (i:=21) 38 ?_;refine zsk (i:=22) 39 ?_;refine zsk (i:=23) 40 ?_;refine zsk (i:=24) 41 ?_;(try simp only[Act.put,zp0,zp1,zp2]);refine zsk (i:=25) 42 ?_;refine zrd (i:=26) 43 ?_;(try simp only[Act.put,zp0,zp1,zp2]);refine wpAnyH_done (by kernel_rfl) ?_ _
    go_wp2_with fail;go_ret
    exact⟨Zd HBAD.out.symm,bl⟩
   ·cases k with
    | zero =>
     have HZ:=zh (show Zbx d.stores 0=true by rw[ZgV hkx,e1])
     replace hki:(0:Int)<n:=by omega
     simp only[Nat.zero_mul,Nat.add_zero] at q0 q1 q2
     go_wp2_with fail;have hbY:Below wo.heap.size wo wo:=Below.refl _ _
     have hS:=λw9 (hb:Below wo.heap.size wo w9)=>zn5 hb (zcl hb ((World.cell?_of_block (hbY.block w.heap.size (by omega))).trans k2_wo)) (zcl hb q0) (zcl hb q1) (zcl hb q2)
     refine wp_region_held_drew (S:=(λw9=>Below wo.heap.size wo w9∧w9.cell? ⟨w.heap.size,2,none⟩=some (.slice (some ⟨g,o,none⟩) n cp)∧w9.cell? ⟨g,o,none⟩=some (.string d.stores[0].name)∧w9.cell? ⟨g,o+1,none⟩=some (.slice A3 d.stores[0].items.length cc3)∧w9.cell? ⟨g,o+2,none⟩=some (.int .i64 d.stores[0].auto))) (by kernel_rfl) (by (try dsimp only);exact hS _ bl) (λhHeld=>?_)
     refine zrd (i:=0) 17 ?_;refine zrd (i:=1) 18 ?_;refine zrd (i:=2) 19 ?_;refine zrd (i:=3) 20 ?_;(try simp only[Act.put,zp0,zp1,zp2]);refine zrd (i:=4) 21 ?_;(try simp only[Act.put,zp0,zp1,zp2]);refine zst 5 (λK hK=>?_)
     go_simp
     (go_at_call 102;refine(Zbk _ d.stores[0] F3 _ (by exact zb r3 (Za hbY bl)) hok3.h0).mono ?_;rw[e1];rintro e w1 ⟨rfl,hb1⟩;have hY1:=zt (w:=wo) hb1;have hw1:Below w.heap.size w w1:=Za hbw (Za hbY hY1);have hW1:Below W.heap.size W w1:=Za hB (Za hbY hY1))
     try go_wp2_with fail
     refine hK.out _ _ ?_ (λhHeld=>?_)
     ·(try dsimp only)
      exact hS _ bl
     clear hK K;refine zrd (i:=6) 23 ?_;refine zrd (i:=7) 24 ?_;refine zrd (i:=8) 25 ?_;(try simp only[Act.put,zp0,zp1,zp2]);refine zrd (i:=9) 26 ?_;refine zrd (i:=10) 27 ?_;refine zsk (i:=11) 28 ?_;refine zsk (i:=12) 29 ?_;(try simp only[Act.put,zp0,zp1,zp2]);refine zsk (i:=13) 30 ?_;refine zsk (i:=14) 31 ?_;refine zsk (i:=15) 32 ?_;refine zsk (i:=16) 33 ?_;(try simp only[Act.put,zp0,zp1,zp2]);refine zsk (i:=17) 34 ?_;refine zsk (i:=18) 35 ?_;refine zsk (i:=19) 36 ?_;refine zsk (i:=20) 37 ?_;(try simp only[Act.put,zp0,zp1,zp2]);refine zsk (i:=21) 38 ?_;refine zsk (i:=22) 39 ?_;refine zsk (i:=23) 40 ?_;refine zsk (i:=24) 41 ?_;(try simp only[Act.put,zp0,zp1,zp2]);refine zrd (i:=25) 42 ?_;refine zrd (i:=26) 43 ?_;(try simp only[Act.put,zp0,zp1,zp2]);refine wpAnyH_done (by kernel_rfl) ?_ _
     go_wp2_with fail;go_roundw
     case rel=>exact⟨1,by omega,by go_num,by rw[Zay,HZ.out];rfl,bl⟩
     case measure=>simp[intOf];omega
    | succ j =>
     have hjx:j<d.stores.length:=by omega
     obtain⟨g',o',A4,c4,F4,eA,-,-,-,p0,-,-,-,-⟩:=ZcC (zb h hbw) hjx
     injection eA with eA
     injection eA with e8 e9
     subst e8;subst e9;have HG:=zh (ZgU hkx hjx)
     have hd1:decide ((0:Int)<(j:Int)+1)=true:=decide_eq_true (by omega)
     have hk0:(0:Int)≤(j:Int)+1:=by omega
     have hwj:IntKind.i64.wrap (j:Int)=(j:Int):=IntWalk.i64_in _ (by omega)
     have hjn:((j:Int)<(n:Int)):=by omega
     replace hki:((j:Int)+1<(n:Int)):=by omega
     cases hl:Op.bytesLess d.stores[j].name.toList d.stores[j+1].name.toList
     ·have HBAD:=zh (Zdn hkx (show Zbx d.stores (j+1)=false by rw[HG.out,show ZcJ d.stores[j].name d.stores[j+1].name=false from hl];simp))
      go_wp2_with fail;have hbY:Below wo.heap.size wo wo:=Below.refl _ _
      have hS:=λw9 (hb:Below wo.heap.size wo w9)=>zn6 hb (zcl hb ((World.cell?_of_block (hbY.block w.heap.size (by omega))).trans k2_wo)) (zcl hb q0) (zcl hb q1) (zcl hb q2) (zcl hb ((World.cell?_of_block (hbY.block g (by omega))).trans p0))
      refine wp_region_held_drew (S:=(λw9=>Below wo.heap.size wo w9∧w9.cell? ⟨w.heap.size,2,none⟩=some (.slice (some ⟨g,o,none⟩) n cp)∧w9.cell? ⟨g,o+(j+1)*3,none⟩=some (.string d.stores[j+1].name)∧w9.cell? ⟨g,o+(j+1)*3+1,none⟩=some (.slice A3 d.stores[j+1].items.length cc3)∧w9.cell? ⟨g,o+(j+1)*3+2,none⟩=some (.int .i64 d.stores[j+1].auto)∧w9.cell? ⟨g,o+j*3,none⟩=some (.string d.stores[j].name))) (by kernel_rfl) (by (try dsimp only);exact hS _ bl) (λhHeld=>?_)
      refine zrd (i:=0) 17 ?_;refine zrd (i:=1) 18 ?_;refine zrd (i:=2) 19 ?_;refine zrd (i:=3) 20 ?_;(try simp only[Act.put,zp0,zp1,zp2]);refine zrd (i:=4) 21 ?_;(try simp only[Act.put,zp0,zp1,zp2]);refine zst 5 (λK hK=>?_)
      go_simp
      (go_at_call 102;refine(Zbk _ d.stores[j+1] F3 _ (by exact zb r3 (Za hbY bl)) hok3.h0).mono ?_;rw[e1];rintro e w1 ⟨rfl,hb1⟩;have hY1:=zt (w:=wo) hb1;have hw1:Below w.heap.size w w1:=Za hbw (Za hbY hY1);have hW1:Below W.heap.size W w1:=Za hB (Za hbY hY1))
      try go_wp2_with fail
      refine hK.out _ _ ?_ (λhHeld=>?_)
      ·(try dsimp only)
       exact hS _ bl
      clear hK K;refine zrd (i:=6) 23 ?_;refine zrd (i:=7) 24 ?_;refine zrd (i:=8) 25 ?_;(try simp only[Act.put,zp0,zp1,zp2]);refine zrd (i:=9) 26 ?_;refine zrd (i:=10) 27 ?_;refine zrd (i:=11) 28 ?_;refine zrd (i:=12) 29 ?_;(try simp only[Act.put,zp0,zp1,zp2]);refine zrd (i:=13) 30 ?_;refine zrd (i:=14) 31 ?_;refine zrd (i:=15) 32 ?_;refine zrd (i:=16) 33 ?_;(try simp only[Act.put,zp0,zp1,zp2]);refine zrd (i:=17) 34 ?_;refine zrd (i:=18) 35 ?_;refine zrd (i:=19) 36 ?_;refine zrd (i:=20) 37 ?_;(try simp only[Act.put,zp0,zp1,zp2]);refine zrd (i:=21) 38 ?_;refine zrd (i:=22) 39 ?_;refine zrd (i:=23) 40 ?_;refine zrd (i:=24) 41 ?_;(try simp only[Act.put,zp0,zp1,zp2]);refine zrd (i:=25) 42 ?_;refine zrd (i:=26) 43 ?_;(try simp only[Act.put,zp0,zp1,zp2]);refine wpAnyH_done (by kernel_rfl) ?_ _
      go_wp2_with fail;go_ret
      exact⟨Zd HBAD.out.symm,bl⟩
     ·have HZ:=zh (show Zbx d.stores (j+1)=true by rw[HG.out,e1,show ZcJ d.stores[j].name d.stores[j+1].name=true from hl];rfl)
      go_wp2_with fail;have hbY:Below wo.heap.size wo wo:=Below.refl _ _
      have hS:=λw9 (hb:Below wo.heap.size wo w9)=>zn6 hb (zcl hb ((World.cell?_of_block (hbY.block w.heap.size (by omega))).trans k2_wo)) (zcl hb q0) (zcl hb q1) (zcl hb q2) (zcl hb ((World.cell?_of_block (hbY.block g (by omega))).trans p0))
      refine wp_region_held_drew (S:=(λw9=>Below wo.heap.size wo w9∧w9.cell? ⟨w.heap.size,2,none⟩=some (.slice (some ⟨g,o,none⟩) n cp)∧w9.cell? ⟨g,o+(j+1)*3,none⟩=some (.string d.stores[j+1].name)∧w9.cell? ⟨g,o+(j+1)*3+1,none⟩=some (.slice A3 d.stores[j+1].items.length cc3)∧w9.cell? ⟨g,o+(j+1)*3+2,none⟩=some (.int .i64 d.stores[j+1].auto)∧w9.cell? ⟨g,o+j*3,none⟩=some (.string d.stores[j].name))) (by kernel_rfl) (by (try dsimp only);exact hS _ bl) (λhHeld=>?_)
      refine zrd (i:=0) 17 ?_;refine zrd (i:=1) 18 ?_;refine zrd (i:=2) 19 ?_;refine zrd (i:=3) 20 ?_;(try simp only[Act.put,zp0,zp1,zp2]);refine zrd (i:=4) 21 ?_;(try simp only[Act.put,zp0,zp1,zp2]);refine zst 5 (λK hK=>?_)
      go_simp
      (go_at_call 102;refine(Zbk _ d.stores[j+1] F3 _ (by exact zb r3 (Za hbY bl)) hok3.h0).mono ?_;rw[e1];rintro e w1 ⟨rfl,hb1⟩;have hY1:=zt (w:=wo) hb1;have hw1:Below w.heap.size w w1:=Za hbw (Za hbY hY1);have hW1:Below W.heap.size W w1:=Za hB (Za hbY hY1))
      try go_wp2_with fail
      refine hK.out _ _ ?_ (λhHeld=>?_)
      ·(try dsimp only)
       exact hS _ bl
      clear hK K;refine zrd (i:=6) 23 ?_;refine zrd (i:=7) 24 ?_;refine zrd (i:=8) 25 ?_;(try simp only[Act.put,zp0,zp1,zp2]);refine zrd (i:=9) 26 ?_;refine zrd (i:=10) 27 ?_;refine zrd (i:=11) 28 ?_;refine zrd (i:=12) 29 ?_;(try simp only[Act.put,zp0,zp1,zp2]);refine zrd (i:=13) 30 ?_;refine zrd (i:=14) 31 ?_;refine zrd (i:=15) 32 ?_;refine zrd (i:=16) 33 ?_;(try simp only[Act.put,zp0,zp1,zp2]);refine zrd (i:=17) 34 ?_;refine zrd (i:=18) 35 ?_;refine zrd (i:=19) 36 ?_;refine zrd (i:=20) 37 ?_;(try simp only[Act.put,zp0,zp1,zp2]);refine zrd (i:=21) 38 ?_;refine zrd (i:=22) 39 ?_;refine zrd (i:=23) 40 ?_;refine zrd (i:=24) 41 ?_;(try simp only[Act.put,zp0,zp1,zp2]);refine zrd (i:=25) 42 ?_;refine zrd (i:=26) 43 ?_;(try simp only[Act.put,zp0,zp1,zp2]);refine wpAnyH_done (by kernel_rfl) ?_ _
      go_wp2_with fail;go_roundw
      case rel=>exact⟨j+2,by omega,by go_num,by rw[Zay,HZ.out,HO.out];rfl,bl⟩
      case measure=>simp[intOf];omega
  ·obtain rfl:n=k:=by omega
   have HST:=zh HO.out;clear HO;go_wp2_with fail;go_loopw [4] (λi wr=>∃k:Nat,k≤m∧i=.int .i64 k∧Zbo (Zdm d) k=true∧Below W.heap.size W wr) (λi _=>m-(intOf i).toNat)
   case atStart=>exact⟨0,Nat.zero_le _,rfl,ZbE _,hB⟩
   case round =>
    clear hB hbw hws_wo k0_wo k1_wo k2_wo k3_wo;obtain⟨k,hk,rfl,hno,hB⟩:=hrel;generalize wr=wo at *
    have HO:=zh hno;clear hno;have hws_wo:w.heap.size<wo.heap.size:=by have:=hB.size;omega
    have hbw:Below w.heap.size w wo:=Za hbW hB
    have k0_wo:wo.cell? ⟨w.heap.size,0,none⟩=some (.string d.name):=zcl hB HK.out.1
    have k1_wo:wo.cell? ⟨w.heap.size,1,none⟩=some (.int .i64 d.ver):=zcl hB HK.out.2.1
    have k2_wo:wo.cell? ⟨w.heap.size,2,none⟩=some (.slice A n cp):=zcl hB HK.out.2.2.1
    have k3_wo:wo.cell? ⟨w.heap.size,3,none⟩=some (.slice U m cu):=zcl hB HK.out.2.2.2
    by_cases hlt:k<m
    ·have hkx:k<d.uniq.length:=by rw[HMm.out];exact hlt
     obtain⟨gu,ou,rfl,hguF,hgw,hoku,q0,q1⟩:=Zky (zb hu hbw) hkx
     have hki:((k:Int)<(m:Int)):=by omega
     have hkm:((k:Int)≤(m:Int)):=by omega
     go_wp2_with fail;have hwo:Below wo.heap.size wo wo:=Below.refl _ _
     have hS:=λw9 (hb:Below wo.heap.size wo w9)=>zn7 hb (zcl hb k0_wo) (zcl hb k1_wo) (zcl hb k2_wo) (zcl hb k3_wo) (zcl hb q0) (zcl hb q1)
     refine wp_region_held_drew (S:=(λw9=>Below wo.heap.size wo w9∧w9.cell? ⟨w.heap.size,0,none⟩=some (.string d.name)∧w9.cell? ⟨w.heap.size,1,none⟩=some (.int .i64 d.ver)∧w9.cell? ⟨w.heap.size,2,none⟩=some (.slice A n cp)∧w9.cell? ⟨w.heap.size,3,none⟩=some (.slice (some ⟨gu,ou,none⟩) m cu)∧w9.cell? ⟨gu,ou+k*2,none⟩=some (.string d.uniq[k].store)∧w9.cell? ⟨gu,ou+k*2+1,none⟩=some (.string d.uniq[k].field))) (by kernel_rfl) (by (try dsimp only);exact hS _ bl) (λhHeld=>?_)
     refine zrd (i:=0) 51 ?_;refine zrd (i:=1) 52 ?_;refine zrd (i:=2) 53 ?_;refine zrd (i:=3) 54 ?_;(try simp only[Act.put,zp0,zp1,zp2]);refine zrd (i:=4) 55 ?_;refine zrd (i:=5) 56 ?_;refine zrd (i:=6) 57 ?_;(try simp only[Act.put,zp0,zp1,zp2]);refine zst 7 (λK hK=>?_)
     go_simp
     (go_at_call 103;refine(ZdL _ _ d d.uniq[k].store F _ (by exact zb h (Za hbw bl)) ⟨some ⟨gu,ou,none⟩,cu,by rw[HMm.out]⟩).mono ?_;rintro e w2 ⟨rfl,hb2⟩;have hbo2:=zt (w:=wo) hb2)
     try go_wp2_with fail
     refine hK.out _ _ ?_ (λhHeld=>?_)
     ·(try dsimp only)
      exact hS _ bl
     clear hK K;refine zrd (i:=8) 5 ?_;(try simp only[Act.put,zp0,zp1,zp2]);refine wpAnyH_done (by kernel_rfl) ?_ _
     have p2:=zcl hbo2 k2_wo;have p3:=zcl hbo2 k3_wo;have x0:=zcl (p:=⟨gu,ou+k*2,none⟩) hbo2 q0
     have x1:=zcl (p:=⟨gu,ou+k*2+1,none⟩) hbo2 q1
     have hzo2:=hbo2.size;have hgw2:gu<w2.heap.size:=by omega
     have hww2:w.heap.size<w2.heap.size:=by omega
     have hbw2:Below w.heap.size w w2:=Za hbw hbo2
     have hB2:Below W.heap.size W w2:=Za hB hbo2
     rcases ZbM d d.uniq[k].store with hfs|⟨j,hj,hfs⟩
     ·rw[hfs]
      have HBAD:=zh (ZbL hkx (ZmM hkx hfs))
      go_wp2_with fail;go_ret
      exact⟨Zd HBAD.out.symm,bl⟩
     ·rw[hfs]
      have hj0:¬(j:Int)<0:=by omega
      have hjn:(j:Int)<(n:Int):=by have h9:=HN.out;omega
      have hj1:(0:Int)≤(j:Int):=by omega
      cases e6:Zaj d.uniq[k].field
      ·have HBAD:=zh (ZbL hkx (ZmN hkx e6))
       go_wp2_with (first|(go_at_call 104;refine(Zaa _ _ hoku.h1).mono ?_;rw[e6];rintro e w4 ⟨rfl,rfl⟩))
       go_ret
       exact⟨Zd HBAD.out.symm,bl⟩
      ·obtain⟨gs,os,A9,c9,F9,rfl,hgsF,hgs,hoks,s0,s1,s2,r9,-⟩:=ZcC (zb h hbw2) hj
       have hsmj:=HSM.out _ (List.getElem_mem hj)
       go_upto_region 12 with (first|(go_at_call 104;refine(Zaa _ _ hoku.h1).mono ?_;rw[e6];rintro e w4 ⟨rfl,rfl⟩))
       clear hS;have hS:=λw9 (hb:Below w2.heap.size w2 w9)=>zn7 hb (zcl hb p2) (zcl hb p3) (zcl hb x1) (zcl hb s0) (zcl hb s1) (zcl hb s2)
       have hw22:Below w2.heap.size w2 w2:=Below.refl _ _
       go_cut [6,7,8] from 71 to 86 (λt6 t7 t8 wq=>t8=.bool (Zal d.stores[j] d.uniq[k].field)∧Below w2.heap.size w2 wq)
       case first =>
        go_region_held3 (λw9=>Below w2.heap.size w2 w9∧w9.cell? ⟨w.heap.size,2,none⟩=some (.slice (some ⟨gs,os,none⟩) n cp)∧w9.cell? ⟨w.heap.size,3,none⟩=some (.slice (some ⟨gu,ou,none⟩) m cu)∧w9.cell? ⟨gu,ou+k*2+1,none⟩=some (.string d.uniq[k].field)∧w9.cell? ⟨gs,os+j*3,none⟩=some (.string d.stores[j].name)∧w9.cell? ⟨gs,os+j*3+1,none⟩=some (.slice A9 d.stores[j].items.length c9)∧w9.cell? ⟨gs,os+j*3+2,none⟩=some (.int .i64 d.stores[j].auto)) (exact hS _ bl)
         (first|(go_at_call 105;refine(Zfm _ d.stores[j] d.uniq[k].field F9 _ (by exact zb r9) hsmj).mono ?_;rintro e w6 ⟨ka,kb,la,lb,kc,lc,rfl,hb6⟩;have hw6:=zt (w:=w2) hb6;obtain⟨hc6,hf6,hz6⟩:=Zc hb6;(try simp at hz6);(try have g6:=Nat.lt_of_succ_le hz6);(try have g7:=Nat.lt_of_succ_lt (Nat.lt_of_succ_le hz6));clear hb6))
        all_goals
         go_wp2_with fail;go_meet
        all_goals try (case rel=>exact⟨rfl,bl⟩)
       case rest =>
        obtain⟨rfl,hB9⟩:=hcut;generalize wc=w7 at *
        have hB7:Below W.heap.size W w7:=Za hB2 hB9
        have hbw7:Below w.heap.size w w7:=Za hbw2 hB9
        have hz7:=hB7.size;clear hS
        cases e8:Zal d.stores[j] d.uniq[k].field
        case true =>
         have HBAD:=zh (ZbL hkx (ZmP hkx hj hfs e8))
         go_wp2_with fail;go_ret
         exact⟨Zd HBAD.out.symm,bl⟩
        case false =>
         go_wp2_with fail;go_loopw [9] (λi wr=>∃q:Nat,q≤k∧i=.int .i64 q∧ZaQ (λy=>Zef y d.uniq[k]) d.uniq q=true∧Below w7.heap.size w7 wr) (λi _=>k-(intOf i).toNat)
         case atStart=>exact⟨0,Nat.zero_le _,rfl,Zbu _ _,Below.refl _ _⟩
         case round =>
          obtain⟨q,hq,rfl,hno2,hBq⟩:=hrel;generalize wr=wj at *
          have HO2:=zh hno2;clear hno2;have hBj:Below W.heap.size W wj:=Za hB7 hBq
          have hbwj:Below w.heap.size w wj:=Za hbw7 hBq
          have k3j:wj.cell? ⟨w.heap.size,3,none⟩=some (.slice (some ⟨gu,ou,none⟩) m cu):=zcl hBj HK.out.2.2.2
          have hwj0:w.heap.size<wj.heap.size:=by have h9:=hBj.size;omega
          by_cases hqk:q<k
          ·have hqx:q<d.uniq.length:=by omega
           obtain⟨g1,o1,eA,-,hgj,-,y0,y1⟩:=Zky (zb hu hbwj) hkx
           injection eA with eA
           injection eA with e8' e9'
           subst e8'
           subst e9'
           obtain⟨g2,o2,eB,-,-,-,z0,z1⟩:=Zky (zb hu hbwj) hqx
           injection eB with eB
           injection eB with e8' e9'
           subst e8'
           subst e9'
           have hqi:(q:Int)<(k:Int):=by omega
           have hqm:(q:Int)<(m:Int):=by omega
           have hng:=λW=>Zin d.uniq[q].store d.uniq[k].store d.uniq[q].field d.uniq[k].field W
           rw[← Zkz] at hng
           have hgu9:=Zmq
           cases he:Zef d.uniq[q] d.uniq[k]
           ·rw[he] at hng
            have HI:=zh he;go_wp2_with fail;go_quiet (fail)
            go_wp2_with fail;go_roundw
            case rel=>exact⟨q+1,by omega,by go_num,Zbt _ d.uniq q hqx HO2.out HI.out,bl⟩
            case measure=>simp[intOf];omega
           ·rw[he] at hng
            have HBAD:=zh (ZbL hkx (ZmO hkx (ZoY hqx hqk he)))
            go_wp2_with fail;go_quiet (fail)
            go_wp2_with fail;go_ret
            exact⟨Zd HBAD.out.symm,bl⟩
          ·obtain rfl:k=q:=by omega
           have HZ:=zh (ZmQ hkx hj hfs e6 HO2.out e8)
           go_wp2_with fail;go_roundw
           case rel=>exact⟨k+1,by omega,by go_num,by rw[Zay,HZ.out,HO.out];rfl,bl⟩
           case measure=>simp[intOf];omega
    ·obtain rfl:m=k:=by omega
     have HH:=zh (show Zi d=(Zaj d.name&&inR d.ver 0 1000&&decide ((n:Int)≤4)&&decide ((m:Int)≤4)) by rw[HE.out,HN.out,HMm.out,HST.out,HO.out];simp only[Bool.and_true])
     cases e1:Zaj d.name
     ·go_wp2_with (first|(go_at_call 104;refine(Zaa _ _ hok.h0).mono ?_;rw[e1];rintro e w1 ⟨rfl,rfl⟩))
      go_ret
      exact⟨Zd (by rw[HH.out,e1];rfl),bl⟩
     cases e2:inR d.ver 0 1000
     ·go_wp2_with (first|(go_at_call 104;refine(Zaa _ _ hok.h0).mono ?_;rw[e1];rintro e w1 ⟨rfl,rfl⟩)|(go_at_call 106;refine(Zbf _ _ _ _).mono ?_;rw[e2];rintro e w1 ⟨rfl,rfl⟩))
      go_ret
      exact⟨Zd (by rw[HH.out,e1,e2];rfl),bl⟩
     by_cases e3:(n:Int)≤4
     case neg =>
      have e3':¬(n:Int)≤4:=e3
      go_wp2_with (first|(go_at_call 104;refine(Zaa _ _ hok.h0).mono ?_;rw[e1];rintro e w1 ⟨rfl,rfl⟩)|(go_at_call 106;refine(Zbf _ _ _ _).mono ?_;rw[e2];rintro e w1 ⟨rfl,rfl⟩))
      go_ret
      exact⟨Zd (by rw[HH.out,e1,e2,decide_eq_false (by omega)];rfl),bl⟩
     by_cases e4:(m:Int)≤4
     case neg =>
      have e4':¬(m:Int)≤4:=e4
      go_wp2_with (first|(go_at_call 104;refine(Zaa _ _ hok.h0).mono ?_;rw[e1];rintro e w1 ⟨rfl,rfl⟩)|(go_at_call 106;refine(Zbf _ _ _ _).mono ?_;rw[e2];rintro e w1 ⟨rfl,rfl⟩))
      go_ret
      exact⟨Zd (by rw[HH.out,e1,e2,decide_eq_true e3,decide_eq_false (by omega)];rfl),bl⟩
     go_wp2_with (first|(go_at_call 104;refine(Zaa _ _ hok.h0).mono ?_;rw[e1];rintro e w1 ⟨rfl,rfl⟩)|(go_at_call 106;refine(Zbf _ _ _ _).mono ?_;rw[e2];rintro e w1 ⟨rfl,rfl⟩))
     go_ret
     exact⟨Zd (by rw[HH.out,e1,e2,decide_eq_true e3,decide_eq_true e4];rfl),bl⟩
end Go.Proofs.YtghndifnohkokaaGreat
