import Derived.Test.YtghndifnohkokaaGreatZCopyStore
import Derived.Test.YtghndifnohkokaaGreatZCmpKeys
import Derived.Test.YtghndifnohkokaaGreatZIsRec
namespace Go.Proofs.YtghndifnohkokaaGreat
open Go.ChangeShapes Go.WideShapes Go.RowKit
set_option linter.unusedVariables false
set_option linter.unusedSimpArgs false
set_option maxRecDepth 100000
set_option maxHeartbeats 16000000
theorem ZhS {xs:List TItem} (h:0<xs.length):Zct xs 0=(ZG xs[0].key&&Ze ⟨xs[0].rcd.fields⟩):=by rw[ZdG h];simp
theorem Zjj {xs:List TItem} {k:Nat} (h:k<xs.length) (h1:ZG xs[k].key=false):Zct xs k=false:=by rw[ZdG h,h1];rfl
theorem Zjk {xs:List TItem} {k:Nat} (h:k<xs.length) (h1:Ze ⟨xs[k].rcd.fields⟩=false):Zct xs k=false:=by rw[ZdG h,show Ze xs[k].rcd=false from h1];simp
theorem ZdN {s:TStore} {k:Nat} (h:k<s.items.length) (h1:Zct s.items k=false):Zs s=false:=by
 unfold Zs
 rw[Zek h h1];rfl
theorem Zag (v:Value) (s:TStore) (F:List Nat) (w:World) (h:cItemS.rep w [v] s.items F) (hs:s.name.size≤maxLen) :
  Calls Tryz.prog 115 #[.agg #[.string s.name,v,.int .i64 s.auto]] w (ZL w (.bool (Zs s))):=by
 obtain⟨A,cp,rfl⟩:=Zb h;obtain⟨-,hcp,hm⟩:=Zq h;have HE:=zh (show Zs s=(Zbo (Zct s.items) s.items.length&&Zaj s.name&&decide ((s.items.length:Int)≤16)&&inR s.auto 0 1000000) from rfl)
 obtain⟨n,hxn⟩:∃n,s.items.length=n:=⟨_,rfl⟩
 have HN:=zh hxn;rw[hxn] at hcp⊢
 clear hxn
 unfold maxLen at hm
 go_enter Tryz.func115,Tryz.ntmps115
 go_wp2;generalize hW:World.alloc _ _=W
 have hWs:W.heap.size=w.heap.size+1:=by rw[← hW];clear hW;simp
 have hbW:Below w.heap.size w W:=by rw[← hW];exact bl
 have HK:=zh (show W.cell? ⟨w.heap.size,0,none⟩=some (.string s.name)∧W.cell? ⟨w.heap.size,1,none⟩=some (.slice A n cp)∧W.cell? ⟨w.heap.size,2,none⟩=some (.int .i64 s.auto) from by refine⟨?_,?_,?_⟩<;>(rw[← hW];clear hW;go_simp))
 clear hW;go_loopw [8] (λi wr=>∃k:Nat,k≤n∧i=.int .i64 k∧Zbo (Zct s.items) k=true∧Below W.heap.size W wr) (λi _=>n-(intOf i).toNat)
 case atStart=>exact⟨0,Nat.zero_le _,rfl,ZbE _,Below.refl _ _⟩
 case round =>
  obtain⟨k,hk,rfl,hno,hB⟩:=hrel;have HO:=zh hno;clear hno;have hws_wr:w.heap.size<wr.heap.size:=by have:=hB.size;omega
  have hbw:Below w.heap.size w wr:=Za hbW hB
  have k0_wr:wr.cell? ⟨w.heap.size,0,none⟩=some (.string s.name):=zcl hB HK.out.1
  have k1_wr:wr.cell? ⟨w.heap.size,1,none⟩=some (.slice A n cp):=zcl hB HK.out.2.1
  have k2_wr:wr.cell? ⟨w.heap.size,2,none⟩=some (.int .i64 s.auto):=zcl hB HK.out.2.2
  by_cases hlt:k<n
  ·have hkx:k<s.items.length:=by rw[HN.out];exact hlt
   obtain⟨g,o,A3,cc3,F3,rfl,hgF,hgw,hok3,q0,q1,q2,q3,r3,-⟩:=ZaO (zb h hbw) hkx
   have hgn:¬g=wr.heap.size:=by omega
   have hki:((k:Int)<(n:Int)):=by omega
   cases e1:ZG s.items[k].key
   ·have HBAD:=zh (ZdN hkx (Zjj hkx e1))
    go_wp2_with fail;generalize hV_:World.alloc _ _=Y
    have hbY:Below wr.heap.size wr Y:=by rw[← hV_];exact bl
    have hYs:Y.heap.size=wr.heap.size+1:=by rw[← hV_];clear hV_;simp
    have c0:Y.cell? ⟨wr.heap.size,0,none⟩=some (.int .i64 s.items[k].key.kind):=by rw[← hV_];clear hV_;go_simp
    have c1:Y.cell? ⟨wr.heap.size,1,none⟩=some (.int .i64 s.items[k].key.n):=by rw[← hV_];clear hV_;go_simp
    have c2:Y.cell? ⟨wr.heap.size,2,none⟩=some (.string s.items[k].key.text):=by rw[← hV_];clear hV_;go_simp
    have c3:Y.cell? ⟨wr.heap.size,3,none⟩=some (.slice A3 s.items[k].rcd.fields.length cc3):=by rw[← hV_];clear hV_;go_simp
    clear hV_;have hS:=λw9 (hb:Below Y.heap.size Y w9)=>zn5 hb (zcl hb c0) (zcl hb c1) (zcl hb c2) (zcl hb c3)
    refine wp_region_held_drew (S:=(λw9=>Below Y.heap.size Y w9∧w9.cell? ⟨wr.heap.size,0,none⟩=some (.int .i64 s.items[k].key.kind)∧w9.cell? ⟨wr.heap.size,1,none⟩=some (.int .i64 s.items[k].key.n)∧w9.cell? ⟨wr.heap.size,2,none⟩=some (.string s.items[k].key.text)∧w9.cell? ⟨wr.heap.size,3,none⟩=some (.slice A3 s.items[k].rcd.fields.length cc3))) (by kernel_rfl) (by (try dsimp only);exact hS _ bl) (λhHeld=>?_)
    refine zrd (i:=0) 13 ?_;refine zrd (i:=1) 14 ?_;(try simp only[Act.put,zp0,zp1,zp2]);refine zst 2 (λK hK=>?_)
    go_simp
    (first|(go_at_call 121;refine(Zr s.items[k].key _ hok3.h2).mono ?_;rw[e1];rintro e w1 ⟨rfl,hb1⟩;have hY1:=zt (w:=Y) hb1;have hw1:Below w.heap.size w w1:=Za hbw (Za hbY hY1);have hW1:Below W.heap.size W w1:=Za hB (Za hbY hY1)))
    try go_wp2_with fail
    refine hK.out _ _ ?_ (λhHeld=>?_)
    ·(try dsimp only)
     exact hS _ bl
    clear hK K;refine zrd (i:=3) 16 ?_;refine zrd (i:=4) 17 ?_;refine zsk (i:=5) 18 ?_;(try simp only[Act.put,zp0,zp1,zp2]);refine zsk (i:=6) 19 ?_;refine zsk (i:=7) 20 ?_;refine zsk (i:=8) 21 ?_;refine zrd (i:=9) 22 ?_;(try simp only[Act.put,zp0,zp1,zp2]);refine zrd (i:=10) 23 ?_;refine zsk (i:=11) 24 ?_;refine zsk (i:=12) 25 ?_;refine zsk (i:=13) 26 ?_;(try simp only[Act.put,zp0,zp1,zp2]);refine zsk (i:=14) 27 ?_;refine zsk (i:=15) 28 ?_;refine zsk (i:=16) 29 ?_;refine zsk (i:=17) 30 ?_;(try simp only[Act.put,zp0,zp1,zp2]);refine zsk (i:=18) 31 ?_;refine zsk (i:=19) 32 ?_;refine zsk (i:=20) 33 ?_;refine zsk (i:=21) 34 ?_;(try simp only[Act.put,zp0,zp1,zp2]);refine zsk (i:=22) 35 ?_;refine zsk (i:=23) 36 ?_;refine zsk (i:=24) 37 ?_;refine zsk (i:=25) 38 ?_;(try simp only[Act.put,zp0,zp1,zp2]);refine zrd (i:=26) 39 ?_;(try simp only[Act.put,zp0,zp1,zp2]);refine wpAnyH_done (by kernel_rfl) ?_ _
    go_wp2_with fail;go_ret
    exact⟨Zd HBAD.out.symm,bl⟩
   ·cases e2:Ze ⟨s.items[k].rcd.fields⟩
    ·have HBAD:=zh (ZdN hkx (Zjk hkx e2))
     go_wp2_with fail;generalize hV_:World.alloc _ _=Y
     have hbY:Below wr.heap.size wr Y:=by rw[← hV_];exact bl
     have hYs:Y.heap.size=wr.heap.size+1:=by rw[← hV_];clear hV_;simp
     have c0:Y.cell? ⟨wr.heap.size,0,none⟩=some (.int .i64 s.items[k].key.kind):=by rw[← hV_];clear hV_;go_simp
     have c1:Y.cell? ⟨wr.heap.size,1,none⟩=some (.int .i64 s.items[k].key.n):=by rw[← hV_];clear hV_;go_simp
     have c2:Y.cell? ⟨wr.heap.size,2,none⟩=some (.string s.items[k].key.text):=by rw[← hV_];clear hV_;go_simp
     have c3:Y.cell? ⟨wr.heap.size,3,none⟩=some (.slice A3 s.items[k].rcd.fields.length cc3):=by rw[← hV_];clear hV_;go_simp
     clear hV_;have hS:=λw9 (hb:Below Y.heap.size Y w9)=>zn5 hb (zcl hb c0) (zcl hb c1) (zcl hb c2) (zcl hb c3)
     refine wp_region_held_drew (S:=(λw9=>Below Y.heap.size Y w9∧w9.cell? ⟨wr.heap.size,0,none⟩=some (.int .i64 s.items[k].key.kind)∧w9.cell? ⟨wr.heap.size,1,none⟩=some (.int .i64 s.items[k].key.n)∧w9.cell? ⟨wr.heap.size,2,none⟩=some (.string s.items[k].key.text)∧w9.cell? ⟨wr.heap.size,3,none⟩=some (.slice A3 s.items[k].rcd.fields.length cc3))) (by kernel_rfl) (by (try dsimp only);exact hS _ bl) (λhHeld=>?_)
     refine zrd (i:=0) 13 ?_;refine zrd (i:=1) 14 ?_;(try simp only[Act.put,zp0,zp1,zp2]);refine zst 2 (λK hK=>?_)
     go_simp
     (first|(go_at_call 121;refine(Zr s.items[k].key _ hok3.h2).mono ?_;rw[e1];rintro e w1 ⟨rfl,hb1⟩;have hY1:=zt (w:=Y) hb1;have hw1:Below w.heap.size w w1:=Za hbw (Za hbY hY1);have hW1:Below W.heap.size W w1:=Za hB (Za hbY hY1))|(go_at_call 122;refine(Zt _ s.items[k].rcd.fields F3 _ (by exact zb r3 (Za hbY bl))).mono ?_;rw[e2];rintro e w2 ⟨rfl,hb2⟩;have hY2:=zt (w:=Y) hb2;have hw2:Below w.heap.size w w2:=Za hbw (Za hbY hY2);have hW2:Below W.heap.size W w2:=Za hB (Za hbY hY2)))
     try go_wp2_with fail
     refine hK.out _ _ ?_ (λhHeld=>?_)
     ·(try dsimp only)
      exact hS _ bl
     clear hK K;refine zrd (i:=3) 16 ?_;refine zrd (i:=4) 17 ?_;refine zrd (i:=5) 18 ?_;(try simp only[Act.put,zp0,zp1,zp2]);refine zrd (i:=6) 19 ?_;(try simp only[Act.put,zp0,zp1,zp2]);refine zst 7 (λK hK=>?_)
     go_simp
     (first|(go_at_call 121;refine(Zr s.items[k].key _ hok3.h2).mono ?_;rw[e1];rintro e w1 ⟨rfl,hb1⟩;have hY1:=zt (w:=Y) hb1;have hw1:Below w.heap.size w w1:=Za hbw (Za hbY hY1);have hW1:Below W.heap.size W w1:=Za hB (Za hbY hY1))|(go_at_call 122;refine(Zt _ s.items[k].rcd.fields F3 _ (by exact zb r3 (Za hbY bl))).mono ?_;rw[e2];rintro e w2 ⟨rfl,hb2⟩;have hY2:=zt (w:=Y) hb2;have hw2:Below w.heap.size w w2:=Za hbw (Za hbY hY2);have hW2:Below W.heap.size W w2:=Za hB (Za hbY hY2)))
     try go_wp2_with fail
     refine hK.out _ _ ?_ (λhHeld=>?_)
     ·(try dsimp only)
      exact hS _ bl
     clear hK K;refine zrd (i:=8) 21 ?_;refine zrd (i:=9) 22 ?_;refine zrd (i:=10) 23 ?_;(try simp only[Act.put,zp0,zp1,zp2]);refine zsk (i:=11) 24 ?_;refine zsk (i:=12) 25 ?_;refine zsk (i:=13) 26 ?_;refine zsk (i:=14) 27 ?_;(try simp only[Act.put,zp0,zp1,zp2]);refine zsk (i:=15) 28 ?_;refine zsk (i:=16) 29 ?_;refine zsk (i:=17) 30 ?_;refine zsk (i:=18) 31 ?_;(try simp only[Act.put,zp0,zp1,zp2]);refine zsk (i:=19) 32 ?_;refine zsk (i:=20) 33 ?_;refine zsk (i:=21) 34 ?_;refine zsk (i:=22) 35 ?_;(try simp only[Act.put,zp0,zp1,zp2]);refine zsk (i:=23) 36 ?_;refine zsk (i:=24) 37 ?_;refine zsk (i:=25) 38 ?_;refine zrd (i:=26) 39 ?_;(try simp only[Act.put,zp0,zp1,zp2]);refine wpAnyH_done (by kernel_rfl) ?_ _
     go_wp2_with fail;go_ret
     exact⟨Zd HBAD.out.symm,bl⟩
    ·cases k with
     | zero =>
      have HZ:=zh (show Zct s.items 0=true by rw[ZhS hkx,e1,e2];rfl)
      replace hki:(0:Int)<n:=by omega
      simp only[Nat.zero_mul,Nat.add_zero] at q0 q1 q2 q3
      go_wp2_with fail;generalize hV_:World.alloc _ _=Y
      have hbY:Below wr.heap.size wr Y:=by rw[← hV_];exact bl
      have hYs:Y.heap.size=wr.heap.size+1:=by rw[← hV_];clear hV_;simp
      have c0:Y.cell? ⟨wr.heap.size,0,none⟩=some (.int .i64 s.items[0].key.kind):=by rw[← hV_];clear hV_;go_simp
      have c1:Y.cell? ⟨wr.heap.size,1,none⟩=some (.int .i64 s.items[0].key.n):=by rw[← hV_];clear hV_;go_simp
      have c2:Y.cell? ⟨wr.heap.size,2,none⟩=some (.string s.items[0].key.text):=by rw[← hV_];clear hV_;go_simp
      have c3:Y.cell? ⟨wr.heap.size,3,none⟩=some (.slice A3 s.items[0].rcd.fields.length cc3):=by rw[← hV_];clear hV_;go_simp
      clear hV_;have hS:=λw9 (hb:Below Y.heap.size Y w9)=>zn5 hb (zcl hb c0) (zcl hb c1) (zcl hb c2) (zcl hb c3)
      refine wp_region_held_drew (S:=(λw9=>Below Y.heap.size Y w9∧w9.cell? ⟨wr.heap.size,0,none⟩=some (.int .i64 s.items[0].key.kind)∧w9.cell? ⟨wr.heap.size,1,none⟩=some (.int .i64 s.items[0].key.n)∧w9.cell? ⟨wr.heap.size,2,none⟩=some (.string s.items[0].key.text)∧w9.cell? ⟨wr.heap.size,3,none⟩=some (.slice A3 s.items[0].rcd.fields.length cc3))) (by kernel_rfl) (by (try dsimp only);exact hS _ bl) (λhHeld=>?_)
      refine zrd (i:=0) 13 ?_;refine zrd (i:=1) 14 ?_;(try simp only[Act.put,zp0,zp1,zp2]);refine zst 2 (λK hK=>?_)
      go_simp
      (first|(go_at_call 121;refine(Zr s.items[0].key _ hok3.h2).mono ?_;rw[e1];rintro e w1 ⟨rfl,hb1⟩;have hY1:=zt (w:=Y) hb1;have hw1:Below w.heap.size w w1:=Za hbw (Za hbY hY1);have hW1:Below W.heap.size W w1:=Za hB (Za hbY hY1))|(go_at_call 122;refine(Zt _ s.items[0].rcd.fields F3 _ (by exact zb r3 (Za hbY bl))).mono ?_;rw[e2];rintro e w2 ⟨rfl,hb2⟩;have hY2:=zt (w:=Y) hb2;have hw2:Below w.heap.size w w2:=Za hbw (Za hbY hY2);have hW2:Below W.heap.size W w2:=Za hB (Za hbY hY2)))
      try go_wp2_with fail
      refine hK.out _ _ ?_ (λhHeld=>?_)
      ·(try dsimp only)
       exact hS _ bl
      clear hK K;refine zrd (i:=3) 16 ?_;refine zrd (i:=4) 17 ?_;refine zrd (i:=5) 18 ?_;(try simp only[Act.put,zp0,zp1,zp2]);refine zrd (i:=6) 19 ?_;(try simp only[Act.put,zp0,zp1,zp2]);refine zst 7 (λK hK=>?_)
      go_simp
      (first|(go_at_call 121;refine(Zr s.items[0].key _ hok3.h2).mono ?_;rw[e1];rintro e w1 ⟨rfl,hb1⟩;have hY1:=zt (w:=Y) hb1;have hw1:Below w.heap.size w w1:=Za hbw (Za hbY hY1);have hW1:Below W.heap.size W w1:=Za hB (Za hbY hY1))|(go_at_call 122;refine(Zt _ s.items[0].rcd.fields F3 _ (by exact zb r3 (Za hbY bl))).mono ?_;rw[e2];rintro e w2 ⟨rfl,hb2⟩;have hY2:=zt (w:=Y) hb2;have hw2:Below w.heap.size w w2:=Za hbw (Za hbY hY2);have hW2:Below W.heap.size W w2:=Za hB (Za hbY hY2)))
      try go_wp2_with fail
      refine hK.out _ _ ?_ (λhHeld=>?_)
      ·(try dsimp only)
       exact hS _ bl
      clear hK K;refine zrd (i:=8) 21 ?_;refine zrd (i:=9) 22 ?_;refine zrd (i:=10) 23 ?_;(try simp only[Act.put,zp0,zp1,zp2]);refine zrd (i:=11) 24 ?_;refine zrd (i:=12) 25 ?_;refine zrd (i:=13) 26 ?_;refine zsk (i:=14) 27 ?_;(try simp only[Act.put,zp0,zp1,zp2]);refine zsk (i:=15) 28 ?_;refine zsk (i:=16) 29 ?_;refine zsk (i:=17) 30 ?_;refine zsk (i:=18) 31 ?_;(try simp only[Act.put,zp0,zp1,zp2]);refine zsk (i:=19) 32 ?_;refine zsk (i:=20) 33 ?_;refine zsk (i:=21) 34 ?_;refine zsk (i:=22) 35 ?_;(try simp only[Act.put,zp0,zp1,zp2]);refine zsk (i:=23) 36 ?_;refine zsk (i:=24) 37 ?_;refine zrd (i:=25) 38 ?_;refine zrd (i:=26) 39 ?_;(try simp only[Act.put,zp0,zp1,zp2]);refine wpAnyH_done (by kernel_rfl) ?_ _
      go_wp2_with fail;go_roundw
      case rel=>exact⟨1,by omega,by go_num,by rw[Zay,HZ.out];rfl,bl⟩
      case measure=>simp[intOf];omega
     | succ j =>
      have hjx:j<s.items.length:=by omega
      obtain⟨g',o',A4,c4,F4,eA,-,-,hokj,p0,p1,p2,-,-,-⟩:=ZaO (zb h hbw) hjx
      injection eA with eA
      injection eA with e8 e9
      subst e8;subst e9;have HG:=zh (ZdS hkx hjx)
      have hd1:decide ((0:Int)<(j:Int)+1)=true:=decide_eq_true (by omega)
      have hk0:(0:Int)≤(j:Int)+1:=by omega
      have hwj:IntKind.i64.wrap (j:Int)=(j:Int):=IntWalk.i64_in _ (by omega)
      have hjn:((j:Int)<(n:Int)):=by omega
      replace hki:((j:Int)+1<(n:Int)):=by omega
      by_cases hc:Zf s.items[j].key s.items[j+1].key<0
      ·have hd2:decide (0≤Zf s.items[j].key s.items[j+1].key)=false:=decide_eq_false (by omega)
       have HZ:=zh (show Zct s.items (j+1)=true by rw[HG.out,e1,show Ze s.items[j+1].rcd=true from e2];simp[hc])
       go_wp2_with fail;generalize hV_:World.alloc _ _=Y
       have hbY:Below wr.heap.size wr Y:=by rw[← hV_];exact bl
       have hYs:Y.heap.size=wr.heap.size+1:=by rw[← hV_];clear hV_;simp
       have c0:Y.cell? ⟨wr.heap.size,0,none⟩=some (.int .i64 s.items[j+1].key.kind):=by rw[← hV_];clear hV_;go_simp
       have c1:Y.cell? ⟨wr.heap.size,1,none⟩=some (.int .i64 s.items[j+1].key.n):=by rw[← hV_];clear hV_;go_simp
       have c2:Y.cell? ⟨wr.heap.size,2,none⟩=some (.string s.items[j+1].key.text):=by rw[← hV_];clear hV_;go_simp
       have c3:Y.cell? ⟨wr.heap.size,3,none⟩=some (.slice A3 s.items[j+1].rcd.fields.length cc3):=by rw[← hV_];clear hV_;go_simp
       clear hV_;have hS:=λw9 (hb:Below Y.heap.size Y w9)=>zn9 hb (zcl hb ((World.cell?_of_block (hbY.block w.heap.size (by omega))).trans k1_wr)) (zcl hb c0) (zcl hb c1) (zcl hb c2) (zcl hb c3) (zcl hb ((World.cell?_of_block (hbY.block g (by omega))).trans p0)) (zcl hb ((World.cell?_of_block (hbY.block g (by omega))).trans p1)) (zcl hb ((World.cell?_of_block (hbY.block g (by omega))).trans p2))
       refine wp_region_held_drew (S:=(λw9=>Below Y.heap.size Y w9∧w9.cell? ⟨w.heap.size,1,none⟩=some (.slice (some ⟨g,o,none⟩) n cp)∧w9.cell? ⟨wr.heap.size,0,none⟩=some (.int .i64 s.items[j+1].key.kind)∧w9.cell? ⟨wr.heap.size,1,none⟩=some (.int .i64 s.items[j+1].key.n)∧w9.cell? ⟨wr.heap.size,2,none⟩=some (.string s.items[j+1].key.text)∧w9.cell? ⟨wr.heap.size,3,none⟩=some (.slice A3 s.items[j+1].rcd.fields.length cc3)∧w9.cell? ⟨g,o+j*4,none⟩=some (.int .i64 s.items[j].key.kind)∧w9.cell? ⟨g,o+j*4+1,none⟩=some (.int .i64 s.items[j].key.n)∧w9.cell? ⟨g,o+j*4+2,none⟩=some (.string s.items[j].key.text))) (by kernel_rfl) (by (try dsimp only);exact hS _ bl) (λhHeld=>?_)
       refine zrd (i:=0) 13 ?_;refine zrd (i:=1) 14 ?_;(try simp only[Act.put,zp0,zp1,zp2]);refine zst 2 (λK hK=>?_)
       go_simp
       (first|(go_at_call 121;refine(Zr s.items[j+1].key _ hok3.h2).mono ?_;rw[e1];rintro e w1 ⟨rfl,hb1⟩;have hY1:=zt (w:=Y) hb1;have hw1:Below w.heap.size w w1:=Za hbw (Za hbY hY1);have hW1:Below W.heap.size W w1:=Za hB (Za hbY hY1))|(go_at_call 122;refine(Zt _ s.items[j+1].rcd.fields F3 _ (by exact zb r3 (Za hbY bl))).mono ?_;rw[e2];rintro e w2 ⟨rfl,hb2⟩;have hY2:=zt (w:=Y) hb2;have hw2:Below w.heap.size w w2:=Za hbw (Za hbY hY2);have hW2:Below W.heap.size W w2:=Za hB (Za hbY hY2))|(go_at_call 148;refine(Zz s.items[j].key s.items[j+1].key _ hokj.h2 hok3.h2).mono ?_;rintro e w3 ⟨rfl,hb3⟩;have hY3:=zt (w:=Y) hb3;have hw3:Below w.heap.size w w3:=Za hbw (Za hbY hY3);have hW3:Below W.heap.size W w3:=Za hB (Za hbY hY3)))
       try go_wp2_with fail
       refine hK.out _ _ ?_ (λhHeld=>?_)
       ·(try dsimp only)
        exact hS _ bl
       clear hK K;refine zrd (i:=3) 16 ?_;refine zrd (i:=4) 17 ?_;refine zrd (i:=5) 18 ?_;(try simp only[Act.put,zp0,zp1,zp2]);refine zrd (i:=6) 19 ?_;(try simp only[Act.put,zp0,zp1,zp2]);refine zst 7 (λK hK=>?_)
       go_simp
       (first|(go_at_call 121;refine(Zr s.items[j+1].key _ hok3.h2).mono ?_;rw[e1];rintro e w1 ⟨rfl,hb1⟩;have hY1:=zt (w:=Y) hb1;have hw1:Below w.heap.size w w1:=Za hbw (Za hbY hY1);have hW1:Below W.heap.size W w1:=Za hB (Za hbY hY1))|(go_at_call 122;refine(Zt _ s.items[j+1].rcd.fields F3 _ (by exact zb r3 (Za hbY bl))).mono ?_;rw[e2];rintro e w2 ⟨rfl,hb2⟩;have hY2:=zt (w:=Y) hb2;have hw2:Below w.heap.size w w2:=Za hbw (Za hbY hY2);have hW2:Below W.heap.size W w2:=Za hB (Za hbY hY2))|(go_at_call 148;refine(Zz s.items[j].key s.items[j+1].key _ hokj.h2 hok3.h2).mono ?_;rintro e w3 ⟨rfl,hb3⟩;have hY3:=zt (w:=Y) hb3;have hw3:Below w.heap.size w w3:=Za hbw (Za hbY hY3);have hW3:Below W.heap.size W w3:=Za hB (Za hbY hY3)))
       try go_wp2_with fail
       refine hK.out _ _ ?_ (λhHeld=>?_)
       ·(try dsimp only)
        exact hS _ bl
       clear hK K;refine zrd (i:=8) 21 ?_;refine zrd (i:=9) 22 ?_;refine zrd (i:=10) 23 ?_;(try simp only[Act.put,zp0,zp1,zp2]);refine zrd (i:=11) 24 ?_;refine zrd (i:=12) 25 ?_;refine zrd (i:=13) 26 ?_;refine zrd (i:=14) 27 ?_;(try simp only[Act.put,zp0,zp1,zp2]);refine zrd (i:=15) 28 ?_;refine zrd (i:=16) 29 ?_;refine zrd (i:=17) 30 ?_;refine zrd (i:=18) 31 ?_;(try simp only[Act.put,zp0,zp1,zp2]);refine zrd (i:=19) 32 ?_;refine zrd (i:=20) 33 ?_;refine zrd (i:=21) 34 ?_;refine zrd (i:=22) 35 ?_;(try simp only[Act.put,zp0,zp1,zp2]);refine zst 23 (λK hK=>?_)
       go_simp
       (first|(go_at_call 121;refine(Zr s.items[j+1].key _ hok3.h2).mono ?_;rw[e1];rintro e w1 ⟨rfl,hb1⟩;have hY1:=zt (w:=Y) hb1;have hw1:Below w.heap.size w w1:=Za hbw (Za hbY hY1);have hW1:Below W.heap.size W w1:=Za hB (Za hbY hY1))|(go_at_call 122;refine(Zt _ s.items[j+1].rcd.fields F3 _ (by exact zb r3 (Za hbY bl))).mono ?_;rw[e2];rintro e w2 ⟨rfl,hb2⟩;have hY2:=zt (w:=Y) hb2;have hw2:Below w.heap.size w w2:=Za hbw (Za hbY hY2);have hW2:Below W.heap.size W w2:=Za hB (Za hbY hY2))|(go_at_call 148;refine(Zz s.items[j].key s.items[j+1].key _ hokj.h2 hok3.h2).mono ?_;rintro e w3 ⟨rfl,hb3⟩;have hY3:=zt (w:=Y) hb3;have hw3:Below w.heap.size w w3:=Za hbw (Za hbY hY3);have hW3:Below W.heap.size W w3:=Za hB (Za hbY hY3)))
       try go_wp2_with fail
       refine hK.out _ _ ?_ (λhHeld=>?_)
       ·(try dsimp only)
        exact hS _ bl
       clear hK K;refine zrd (i:=24) 37 ?_;refine zrd (i:=25) 38 ?_;refine zrd (i:=26) 39 ?_;(try simp only[Act.put,zp0,zp1,zp2]);refine wpAnyH_done (by kernel_rfl) ?_ _
       go_wp2_with fail;go_roundw
       case rel=>exact⟨j+2,by omega,by go_num,by rw[Zay,HZ.out,HO.out];rfl,bl⟩
       case measure=>simp[intOf];omega
      ·have hd2:decide (0≤Zf s.items[j].key s.items[j+1].key)=true:=decide_eq_true (by omega)
       have HBAD:=zh (ZdN hkx (show Zct s.items (j+1)=false by rw[HG.out];simp[hc]))
       go_wp2_with fail;generalize hV_:World.alloc _ _=Y
       have hbY:Below wr.heap.size wr Y:=by rw[← hV_];exact bl
       have hYs:Y.heap.size=wr.heap.size+1:=by rw[← hV_];clear hV_;simp
       have c0:Y.cell? ⟨wr.heap.size,0,none⟩=some (.int .i64 s.items[j+1].key.kind):=by rw[← hV_];clear hV_;go_simp
       have c1:Y.cell? ⟨wr.heap.size,1,none⟩=some (.int .i64 s.items[j+1].key.n):=by rw[← hV_];clear hV_;go_simp
       have c2:Y.cell? ⟨wr.heap.size,2,none⟩=some (.string s.items[j+1].key.text):=by rw[← hV_];clear hV_;go_simp
       have c3:Y.cell? ⟨wr.heap.size,3,none⟩=some (.slice A3 s.items[j+1].rcd.fields.length cc3):=by rw[← hV_];clear hV_;go_simp
       clear hV_;have hS:=λw9 (hb:Below Y.heap.size Y w9)=>zn9 hb (zcl hb ((World.cell?_of_block (hbY.block w.heap.size (by omega))).trans k1_wr)) (zcl hb c0) (zcl hb c1) (zcl hb c2) (zcl hb c3) (zcl hb ((World.cell?_of_block (hbY.block g (by omega))).trans p0)) (zcl hb ((World.cell?_of_block (hbY.block g (by omega))).trans p1)) (zcl hb ((World.cell?_of_block (hbY.block g (by omega))).trans p2))
       refine wp_region_held_drew (S:=(λw9=>Below Y.heap.size Y w9∧w9.cell? ⟨w.heap.size,1,none⟩=some (.slice (some ⟨g,o,none⟩) n cp)∧w9.cell? ⟨wr.heap.size,0,none⟩=some (.int .i64 s.items[j+1].key.kind)∧w9.cell? ⟨wr.heap.size,1,none⟩=some (.int .i64 s.items[j+1].key.n)∧w9.cell? ⟨wr.heap.size,2,none⟩=some (.string s.items[j+1].key.text)∧w9.cell? ⟨wr.heap.size,3,none⟩=some (.slice A3 s.items[j+1].rcd.fields.length cc3)∧w9.cell? ⟨g,o+j*4,none⟩=some (.int .i64 s.items[j].key.kind)∧w9.cell? ⟨g,o+j*4+1,none⟩=some (.int .i64 s.items[j].key.n)∧w9.cell? ⟨g,o+j*4+2,none⟩=some (.string s.items[j].key.text))) (by kernel_rfl) (by (try dsimp only);exact hS _ bl) (λhHeld=>?_)
       refine zrd (i:=0) 13 ?_;refine zrd (i:=1) 14 ?_;(try simp only[Act.put,zp0,zp1,zp2]);refine zst 2 (λK hK=>?_)
       go_simp
       (first|(go_at_call 121;refine(Zr s.items[j+1].key _ hok3.h2).mono ?_;rw[e1];rintro e w1 ⟨rfl,hb1⟩;have hY1:=zt (w:=Y) hb1;have hw1:Below w.heap.size w w1:=Za hbw (Za hbY hY1);have hW1:Below W.heap.size W w1:=Za hB (Za hbY hY1))|(go_at_call 122;refine(Zt _ s.items[j+1].rcd.fields F3 _ (by exact zb r3 (Za hbY bl))).mono ?_;rw[e2];rintro e w2 ⟨rfl,hb2⟩;have hY2:=zt (w:=Y) hb2;have hw2:Below w.heap.size w w2:=Za hbw (Za hbY hY2);have hW2:Below W.heap.size W w2:=Za hB (Za hbY hY2))|(go_at_call 148;refine(Zz s.items[j].key s.items[j+1].key _ hokj.h2 hok3.h2).mono ?_;rintro e w3 ⟨rfl,hb3⟩;have hY3:=zt (w:=Y) hb3;have hw3:Below w.heap.size w w3:=Za hbw (Za hbY hY3);have hW3:Below W.heap.size W w3:=Za hB (Za hbY hY3)))
       try go_wp2_with fail
       refine hK.out _ _ ?_ (λhHeld=>?_)
       ·(try dsimp only)
        exact hS _ bl
       clear hK K;refine zrd (i:=3) 16 ?_;refine zrd (i:=4) 17 ?_;refine zrd (i:=5) 18 ?_;(try simp only[Act.put,zp0,zp1,zp2]);refine zrd (i:=6) 19 ?_;(try simp only[Act.put,zp0,zp1,zp2]);refine zst 7 (λK hK=>?_)
       go_simp
       (first|(go_at_call 121;refine(Zr s.items[j+1].key _ hok3.h2).mono ?_;rw[e1];rintro e w1 ⟨rfl,hb1⟩;have hY1:=zt (w:=Y) hb1;have hw1:Below w.heap.size w w1:=Za hbw (Za hbY hY1);have hW1:Below W.heap.size W w1:=Za hB (Za hbY hY1))|(go_at_call 122;refine(Zt _ s.items[j+1].rcd.fields F3 _ (by exact zb r3 (Za hbY bl))).mono ?_;rw[e2];rintro e w2 ⟨rfl,hb2⟩;have hY2:=zt (w:=Y) hb2;have hw2:Below w.heap.size w w2:=Za hbw (Za hbY hY2);have hW2:Below W.heap.size W w2:=Za hB (Za hbY hY2))|(go_at_call 148;refine(Zz s.items[j].key s.items[j+1].key _ hokj.h2 hok3.h2).mono ?_;rintro e w3 ⟨rfl,hb3⟩;have hY3:=zt (w:=Y) hb3;have hw3:Below w.heap.size w w3:=Za hbw (Za hbY hY3);have hW3:Below W.heap.size W w3:=Za hB (Za hbY hY3)))
       try go_wp2_with fail
       refine hK.out _ _ ?_ (λhHeld=>?_)
       ·(try dsimp only)
        exact hS _ bl
       clear hK K;refine zrd (i:=8) 21 ?_;refine zrd (i:=9) 22 ?_;refine zrd (i:=10) 23 ?_;(try simp only[Act.put,zp0,zp1,zp2]);refine zrd (i:=11) 24 ?_;refine zrd (i:=12) 25 ?_;refine zrd (i:=13) 26 ?_;refine zrd (i:=14) 27 ?_;(try simp only[Act.put,zp0,zp1,zp2]);refine zrd (i:=15) 28 ?_;refine zrd (i:=16) 29 ?_;refine zrd (i:=17) 30 ?_;refine zrd (i:=18) 31 ?_;(try simp only[Act.put,zp0,zp1,zp2]);refine zrd (i:=19) 32 ?_;refine zrd (i:=20) 33 ?_;refine zrd (i:=21) 34 ?_;refine zrd (i:=22) 35 ?_;(try simp only[Act.put,zp0,zp1,zp2]);refine zst 23 (λK hK=>?_)
       go_simp
       (first|(go_at_call 121;refine(Zr s.items[j+1].key _ hok3.h2).mono ?_;rw[e1];rintro e w1 ⟨rfl,hb1⟩;have hY1:=zt (w:=Y) hb1;have hw1:Below w.heap.size w w1:=Za hbw (Za hbY hY1);have hW1:Below W.heap.size W w1:=Za hB (Za hbY hY1))|(go_at_call 122;refine(Zt _ s.items[j+1].rcd.fields F3 _ (by exact zb r3 (Za hbY bl))).mono ?_;rw[e2];rintro e w2 ⟨rfl,hb2⟩;have hY2:=zt (w:=Y) hb2;have hw2:Below w.heap.size w w2:=Za hbw (Za hbY hY2);have hW2:Below W.heap.size W w2:=Za hB (Za hbY hY2))|(go_at_call 148;refine(Zz s.items[j].key s.items[j+1].key _ hokj.h2 hok3.h2).mono ?_;rintro e w3 ⟨rfl,hb3⟩;have hY3:=zt (w:=Y) hb3;have hw3:Below w.heap.size w w3:=Za hbw (Za hbY hY3);have hW3:Below W.heap.size W w3:=Za hB (Za hbY hY3)))
       try go_wp2_with fail
       refine hK.out _ _ ?_ (λhHeld=>?_)
       ·(try dsimp only)
        exact hS _ bl
       clear hK K;refine zrd (i:=24) 37 ?_;refine zrd (i:=25) 38 ?_;refine zrd (i:=26) 39 ?_;(try simp only[Act.put,zp0,zp1,zp2]);refine wpAnyH_done (by kernel_rfl) ?_ _
       go_wp2_with fail;go_ret
       exact⟨Zd HBAD.out.symm,bl⟩
  ·obtain rfl:k=n:=by omega
   have HH:=zh (show Zs s=(Zaj s.name&&decide ((k:Int)≤16)&&inR s.auto 0 1000000) by rw[HE.out,HN.out,HO.out,Bool.true_and])
   clear h
   cases e1:Zaj s.name
   ·go_wp2_with (first|(go_at_call 113;refine(ZK _ _ hs).mono ?_;rw[e1];rintro e w1 ⟨rfl,rfl⟩))
    go_ret
    exact⟨Zd (by rw[HH.out,e1];rfl),bl⟩
   ·by_cases e2:(k:Int)≤16
    ·go_wp2_with (first|(go_at_call 113;refine(ZK _ _ hs).mono ?_;rw[e1];rintro e w1 ⟨rfl,rfl⟩)|(go_at_call 114;refine(ZV _ _ _ _).mono ?_;rintro e w1 ⟨rfl,rfl⟩))
     go_ret
     exact⟨Zd (by rw[HH.out,e1,decide_eq_true e2];rfl),bl⟩
    ·go_wp2_with (first|(go_at_call 113;refine(ZK _ _ hs).mono ?_;rw[e1];rintro e w1 ⟨rfl,rfl⟩))
     go_ret
     exact⟨Zd (by rw[HH.out,e1,decide_eq_false (by omega)];rfl),bl⟩
theorem Zbk (v:Value) (s:TStore) (F:List Nat) (w:World) (h:cItemS.rep w [v] s.items F) (hs:s.name.size≤maxLen) :
  Calls Tryz.prog 102 #[.agg #[.string s.name,v,.int .i64 s.auto]] w (ZL w (.bool (Zs s))):=by
 obtain⟨A,cp,rfl⟩:=Zb h;obtain⟨-,hcp,hm⟩:=Zq h;have HE:=zh (show Zs s=(Zbo (Zct s.items) s.items.length&&Zaj s.name&&decide ((s.items.length:Int)≤16)&&inR s.auto 0 1000000) from rfl)
 obtain⟨n,hxn⟩:∃n,s.items.length=n:=⟨_,rfl⟩
 have HN:=zh hxn;rw[hxn] at hcp⊢
 clear hxn
 unfold maxLen at hm
 go_enter Tryz.func102,Tryz.ntmps102
 go_wp2;generalize hW:World.alloc _ _=W
 have hWs:W.heap.size=w.heap.size+1:=by rw[← hW];clear hW;simp
 have hbW:Below w.heap.size w W:=by rw[← hW];exact bl
 have HK:=zh (show W.cell? ⟨w.heap.size,0,none⟩=some (.string s.name)∧W.cell? ⟨w.heap.size,1,none⟩=some (.slice A n cp)∧W.cell? ⟨w.heap.size,2,none⟩=some (.int .i64 s.auto) from by refine⟨?_,?_,?_⟩<;>(rw[← hW];clear hW;go_simp))
 clear hW;go_loopw [3] (λi wr=>∃k:Nat,k≤n∧i=.int .i64 k∧Zbo (Zct s.items) k=true∧Below W.heap.size W wr) (λi _=>n-(intOf i).toNat)
 case atStart=>exact⟨0,Nat.zero_le _,rfl,ZbE _,Below.refl _ _⟩
 case round =>
  obtain⟨k,hk,rfl,hno,hB⟩:=hrel;have HO:=zh hno;clear hno;have hws_wr:w.heap.size<wr.heap.size:=by have:=hB.size;omega
  have hbw:Below w.heap.size w wr:=Za hbW hB
  have k0_wr:wr.cell? ⟨w.heap.size,0,none⟩=some (.string s.name):=zcl hB HK.out.1
  have k1_wr:wr.cell? ⟨w.heap.size,1,none⟩=some (.slice A n cp):=zcl hB HK.out.2.1
  have k2_wr:wr.cell? ⟨w.heap.size,2,none⟩=some (.int .i64 s.auto):=zcl hB HK.out.2.2
  by_cases hlt:k<n
  ·have hkx:k<s.items.length:=by rw[HN.out];exact hlt
   obtain⟨g,o,A3,cc3,F3,rfl,hgF,hgw,hok3,q0,q1,q2,q3,r3,-⟩:=ZaO (zb h hbw) hkx
   have hgn:¬g=wr.heap.size:=by omega
   have hki:((k:Int)<(n:Int)):=by omega
   cases e1:ZG s.items[k].key
   ·have HBAD:=zh (ZdN hkx (Zjj hkx e1))
    go_wp2_with fail;have hbY:Below wr.heap.size wr wr:=Below.refl _ _
    have hS:=λw9 (hb:Below wr.heap.size wr w9)=>zn6 hb (zcl hb ((World.cell?_of_block (hbY.block w.heap.size (by omega))).trans k1_wr)) (zcl hb q0) (zcl hb q1) (zcl hb q2) (zcl hb q3)
    refine wp_region_held_drew (S:=(λw9=>Below wr.heap.size wr w9∧w9.cell? ⟨w.heap.size,1,none⟩=some (.slice (some ⟨g,o,none⟩) n cp)∧w9.cell? ⟨g,o+k*4,none⟩=some (.int .i64 s.items[k].key.kind)∧w9.cell? ⟨g,o+k*4+1,none⟩=some (.int .i64 s.items[k].key.n)∧w9.cell? ⟨g,o+k*4+2,none⟩=some (.string s.items[k].key.text)∧w9.cell? ⟨g,o+k*4+3,none⟩=some (.slice A3 s.items[k].rcd.fields.length cc3))) (by kernel_rfl) (by (try dsimp only);exact hS _ bl) (λhHeld=>?_)
    refine zrd (i:=0) 11 ?_;refine zrd (i:=1) 12 ?_;refine zrd (i:=2) 13 ?_;refine zrd (i:=3) 14 ?_;(try simp only[Act.put,zp0,zp1,zp2]);refine zrd (i:=4) 15 ?_;refine zrd (i:=5) 16 ?_;(try simp only[Act.put,zp0,zp1,zp2]);refine zst 6 (λK hK=>?_)
    go_simp
    (first|(go_at_call 108;refine(Zm s.items[k].key _ hok3.h2).mono ?_;rw[e1];rintro e w1 ⟨rfl,hb1⟩;have hY1:=zt (w:=wr) hb1;have hw1:Below w.heap.size w w1:=Za hbw (Za hbY hY1);have hW1:Below W.heap.size W w1:=Za hB (Za hbY hY1)))
    try go_wp2_with fail
    refine hK.out _ _ ?_ (λhHeld=>?_)
    ·(try dsimp only)
     exact hS _ bl
    clear hK K;refine zrd (i:=7) 18 ?_;refine zrd (i:=8) 19 ?_;refine zsk (i:=9) 20 ?_;(try simp only[Act.put,zp0,zp1,zp2]);refine zsk (i:=10) 21 ?_;refine zsk (i:=11) 22 ?_;refine zsk (i:=12) 23 ?_;refine zsk (i:=13) 24 ?_;(try simp only[Act.put,zp0,zp1,zp2]);refine zsk (i:=14) 25 ?_;refine zsk (i:=15) 26 ?_;refine zsk (i:=16) 27 ?_;refine zrd (i:=17) 28 ?_;(try simp only[Act.put,zp0,zp1,zp2]);refine zrd (i:=18) 29 ?_;refine zsk (i:=19) 30 ?_;refine zsk (i:=20) 31 ?_;refine zsk (i:=21) 32 ?_;(try simp only[Act.put,zp0,zp1,zp2]);refine zsk (i:=22) 33 ?_;refine zsk (i:=23) 34 ?_;refine zsk (i:=24) 35 ?_;refine zsk (i:=25) 36 ?_;(try simp only[Act.put,zp0,zp1,zp2]);refine zsk (i:=26) 37 ?_;refine zsk (i:=27) 38 ?_;refine zsk (i:=28) 39 ?_;refine zsk (i:=29) 40 ?_;(try simp only[Act.put,zp0,zp1,zp2]);refine zsk (i:=30) 41 ?_;refine zsk (i:=31) 42 ?_;refine zsk (i:=32) 43 ?_;refine zsk (i:=33) 44 ?_;(try simp only[Act.put,zp0,zp1,zp2]);refine zsk (i:=34) 45 ?_;refine zsk (i:=35) 46 ?_;refine zsk (i:=36) 47 ?_;refine zsk (i:=37) 48 ?_;(try simp only[Act.put,zp0,zp1,zp2]);refine zrd (i:=38) 49 ?_;(try simp only[Act.put,zp0,zp1,zp2]);refine wpAnyH_done (by kernel_rfl) ?_ _
    go_wp2_with fail;go_ret
    exact⟨Zd HBAD.out.symm,bl⟩
   ·cases e2:Ze ⟨s.items[k].rcd.fields⟩
    ·have HBAD:=zh (ZdN hkx (Zjk hkx e2))
     go_wp2_with fail;have hbY:Below wr.heap.size wr wr:=Below.refl _ _
     have hS:=λw9 (hb:Below wr.heap.size wr w9)=>zn6 hb (zcl hb ((World.cell?_of_block (hbY.block w.heap.size (by omega))).trans k1_wr)) (zcl hb q0) (zcl hb q1) (zcl hb q2) (zcl hb q3)
     refine wp_region_held_drew (S:=(λw9=>Below wr.heap.size wr w9∧w9.cell? ⟨w.heap.size,1,none⟩=some (.slice (some ⟨g,o,none⟩) n cp)∧w9.cell? ⟨g,o+k*4,none⟩=some (.int .i64 s.items[k].key.kind)∧w9.cell? ⟨g,o+k*4+1,none⟩=some (.int .i64 s.items[k].key.n)∧w9.cell? ⟨g,o+k*4+2,none⟩=some (.string s.items[k].key.text)∧w9.cell? ⟨g,o+k*4+3,none⟩=some (.slice A3 s.items[k].rcd.fields.length cc3))) (by kernel_rfl) (by (try dsimp only);exact hS _ bl) (λhHeld=>?_)
     refine zrd (i:=0) 11 ?_;refine zrd (i:=1) 12 ?_;refine zrd (i:=2) 13 ?_;refine zrd (i:=3) 14 ?_;(try simp only[Act.put,zp0,zp1,zp2]);refine zrd (i:=4) 15 ?_;refine zrd (i:=5) 16 ?_;(try simp only[Act.put,zp0,zp1,zp2]);refine zst 6 (λK hK=>?_)
     go_simp
     (first|(go_at_call 108;refine(Zm s.items[k].key _ hok3.h2).mono ?_;rw[e1];rintro e w1 ⟨rfl,hb1⟩;have hY1:=zt (w:=wr) hb1;have hw1:Below w.heap.size w w1:=Za hbw (Za hbY hY1);have hW1:Below W.heap.size W w1:=Za hB (Za hbY hY1))|(go_at_call 109;refine(Zo _ s.items[k].rcd.fields F3 _ (by exact zb r3 (Za hbY bl))).mono ?_;rw[e2];rintro e w2 ⟨rfl,hb2⟩;have hY2:=zt (w:=wr) hb2;have hw2:Below w.heap.size w w2:=Za hbw (Za hbY hY2);have hW2:Below W.heap.size W w2:=Za hB (Za hbY hY2)))
     try go_wp2_with fail
     refine hK.out _ _ ?_ (λhHeld=>?_)
     ·(try dsimp only)
      exact hS _ bl
     clear hK K;refine zrd (i:=7) 18 ?_;refine zrd (i:=8) 19 ?_;refine zrd (i:=9) 20 ?_;(try simp only[Act.put,zp0,zp1,zp2]);refine zrd (i:=10) 21 ?_;refine zrd (i:=11) 22 ?_;refine zrd (i:=12) 23 ?_;refine zrd (i:=13) 24 ?_;(try simp only[Act.put,zp0,zp1,zp2]);refine zrd (i:=14) 25 ?_;(try simp only[Act.put,zp0,zp1,zp2]);refine zst 15 (λK hK=>?_)
     go_simp
     (first|(go_at_call 108;refine(Zm s.items[k].key _ hok3.h2).mono ?_;rw[e1];rintro e w1 ⟨rfl,hb1⟩;have hY1:=zt (w:=wr) hb1;have hw1:Below w.heap.size w w1:=Za hbw (Za hbY hY1);have hW1:Below W.heap.size W w1:=Za hB (Za hbY hY1))|(go_at_call 109;refine(Zo _ s.items[k].rcd.fields F3 _ (by exact zb r3 (Za hbY bl))).mono ?_;rw[e2];rintro e w2 ⟨rfl,hb2⟩;have hY2:=zt (w:=wr) hb2;have hw2:Below w.heap.size w w2:=Za hbw (Za hbY hY2);have hW2:Below W.heap.size W w2:=Za hB (Za hbY hY2)))
     try go_wp2_with fail
     refine hK.out _ _ ?_ (λhHeld=>?_)
     ·(try dsimp only)
      exact hS _ bl
     clear hK K;refine zrd (i:=16) 27 ?_;refine zrd (i:=17) 28 ?_;refine zrd (i:=18) 29 ?_;(try simp only[Act.put,zp0,zp1,zp2]);refine zsk (i:=19) 30 ?_;refine zsk (i:=20) 31 ?_;refine zsk (i:=21) 32 ?_;refine zsk (i:=22) 33 ?_;(try simp only[Act.put,zp0,zp1,zp2]);refine zsk (i:=23) 34 ?_;refine zsk (i:=24) 35 ?_;refine zsk (i:=25) 36 ?_;refine zsk (i:=26) 37 ?_;(try simp only[Act.put,zp0,zp1,zp2]);refine zsk (i:=27) 38 ?_;refine zsk (i:=28) 39 ?_;refine zsk (i:=29) 40 ?_;refine zsk (i:=30) 41 ?_;(try simp only[Act.put,zp0,zp1,zp2]);refine zsk (i:=31) 42 ?_;refine zsk (i:=32) 43 ?_;refine zsk (i:=33) 44 ?_;refine zsk (i:=34) 45 ?_;(try simp only[Act.put,zp0,zp1,zp2]);refine zsk (i:=35) 46 ?_;refine zsk (i:=36) 47 ?_;refine zsk (i:=37) 48 ?_;refine zrd (i:=38) 49 ?_;(try simp only[Act.put,zp0,zp1,zp2]);refine wpAnyH_done (by kernel_rfl) ?_ _
     go_wp2_with fail;go_ret
     exact⟨Zd HBAD.out.symm,bl⟩
    ·cases k with
     | zero =>
      have HZ:=zh (show Zct s.items 0=true by rw[ZhS hkx,e1,e2];rfl)
      replace hki:(0:Int)<n:=by omega
      simp only[Nat.zero_mul,Nat.add_zero] at q0 q1 q2 q3
      go_wp2_with fail;have hbY:Below wr.heap.size wr wr:=Below.refl _ _
      have hS:=λw9 (hb:Below wr.heap.size wr w9)=>zn6 hb (zcl hb ((World.cell?_of_block (hbY.block w.heap.size (by omega))).trans k1_wr)) (zcl hb q0) (zcl hb q1) (zcl hb q2) (zcl hb q3)
      refine wp_region_held_drew (S:=(λw9=>Below wr.heap.size wr w9∧w9.cell? ⟨w.heap.size,1,none⟩=some (.slice (some ⟨g,o,none⟩) n cp)∧w9.cell? ⟨g,o,none⟩=some (.int .i64 s.items[0].key.kind)∧w9.cell? ⟨g,o+1,none⟩=some (.int .i64 s.items[0].key.n)∧w9.cell? ⟨g,o+2,none⟩=some (.string s.items[0].key.text)∧w9.cell? ⟨g,o+3,none⟩=some (.slice A3 s.items[0].rcd.fields.length cc3))) (by kernel_rfl) (by (try dsimp only);exact hS _ bl) (λhHeld=>?_)
      refine zrd (i:=0) 11 ?_;refine zrd (i:=1) 12 ?_;refine zrd (i:=2) 13 ?_;refine zrd (i:=3) 14 ?_;(try simp only[Act.put,zp0,zp1,zp2]);refine zrd (i:=4) 15 ?_;refine zrd (i:=5) 16 ?_;(try simp only[Act.put,zp0,zp1,zp2]);refine zst 6 (λK hK=>?_)
      go_simp
      (first|(go_at_call 108;refine(Zm s.items[0].key _ hok3.h2).mono ?_;rw[e1];rintro e w1 ⟨rfl,hb1⟩;have hY1:=zt (w:=wr) hb1;have hw1:Below w.heap.size w w1:=Za hbw (Za hbY hY1);have hW1:Below W.heap.size W w1:=Za hB (Za hbY hY1))|(go_at_call 109;refine(Zo _ s.items[0].rcd.fields F3 _ (by exact zb r3 (Za hbY bl))).mono ?_;rw[e2];rintro e w2 ⟨rfl,hb2⟩;have hY2:=zt (w:=wr) hb2;have hw2:Below w.heap.size w w2:=Za hbw (Za hbY hY2);have hW2:Below W.heap.size W w2:=Za hB (Za hbY hY2)))
      try go_wp2_with fail
      refine hK.out _ _ ?_ (λhHeld=>?_)
      ·(try dsimp only)
       exact hS _ bl
      clear hK K;refine zrd (i:=7) 18 ?_;refine zrd (i:=8) 19 ?_;refine zrd (i:=9) 20 ?_;(try simp only[Act.put,zp0,zp1,zp2]);refine zrd (i:=10) 21 ?_;refine zrd (i:=11) 22 ?_;refine zrd (i:=12) 23 ?_;refine zrd (i:=13) 24 ?_;(try simp only[Act.put,zp0,zp1,zp2]);refine zrd (i:=14) 25 ?_;(try simp only[Act.put,zp0,zp1,zp2]);refine zst 15 (λK hK=>?_)
      go_simp
      (first|(go_at_call 108;refine(Zm s.items[0].key _ hok3.h2).mono ?_;rw[e1];rintro e w1 ⟨rfl,hb1⟩;have hY1:=zt (w:=wr) hb1;have hw1:Below w.heap.size w w1:=Za hbw (Za hbY hY1);have hW1:Below W.heap.size W w1:=Za hB (Za hbY hY1))|(go_at_call 109;refine(Zo _ s.items[0].rcd.fields F3 _ (by exact zb r3 (Za hbY bl))).mono ?_;rw[e2];rintro e w2 ⟨rfl,hb2⟩;have hY2:=zt (w:=wr) hb2;have hw2:Below w.heap.size w w2:=Za hbw (Za hbY hY2);have hW2:Below W.heap.size W w2:=Za hB (Za hbY hY2)))
      try go_wp2_with fail
      refine hK.out _ _ ?_ (λhHeld=>?_)
      ·(try dsimp only)
       exact hS _ bl
      clear hK K;refine zrd (i:=16) 27 ?_;refine zrd (i:=17) 28 ?_;refine zrd (i:=18) 29 ?_;(try simp only[Act.put,zp0,zp1,zp2]);refine zrd (i:=19) 30 ?_;refine zrd (i:=20) 31 ?_;refine zrd (i:=21) 32 ?_;refine zsk (i:=22) 33 ?_;(try simp only[Act.put,zp0,zp1,zp2]);refine zsk (i:=23) 34 ?_;refine zsk (i:=24) 35 ?_;refine zsk (i:=25) 36 ?_;refine zsk (i:=26) 37 ?_;(try simp only[Act.put,zp0,zp1,zp2]);refine zsk (i:=27) 38 ?_;refine zsk (i:=28) 39 ?_;refine zsk (i:=29) 40 ?_;refine zsk (i:=30) 41 ?_;(try simp only[Act.put,zp0,zp1,zp2]);refine zsk (i:=31) 42 ?_;refine zsk (i:=32) 43 ?_;refine zsk (i:=33) 44 ?_;refine zsk (i:=34) 45 ?_;(try simp only[Act.put,zp0,zp1,zp2]);refine zsk (i:=35) 46 ?_;refine zsk (i:=36) 47 ?_;refine zrd (i:=37) 48 ?_;refine zrd (i:=38) 49 ?_;(try simp only[Act.put,zp0,zp1,zp2]);refine wpAnyH_done (by kernel_rfl) ?_ _
      go_wp2_with fail;go_roundw
      case rel=>exact⟨1,by omega,by go_num,by rw[Zay,HZ.out];rfl,bl⟩
      case measure=>simp[intOf];omega
     | succ j =>
      have hjx:j<s.items.length:=by omega
      obtain⟨g',o',A4,c4,F4,eA,-,-,hokj,p0,p1,p2,-,-,-⟩:=ZaO (zb h hbw) hjx
      injection eA with eA
      injection eA with e8 e9
      subst e8;subst e9;have HG:=zh (ZdS hkx hjx)
      have hd1:decide ((0:Int)<(j:Int)+1)=true:=decide_eq_true (by omega)
      have hk0:(0:Int)≤(j:Int)+1:=by omega
      have hwj:IntKind.i64.wrap (j:Int)=(j:Int):=IntWalk.i64_in _ (by omega)
      have hjn:((j:Int)<(n:Int)):=by omega
      replace hki:((j:Int)+1<(n:Int)):=by omega
      by_cases hc:Zf s.items[j].key s.items[j+1].key<0
      ·have hd2:decide (0≤Zf s.items[j].key s.items[j+1].key)=false:=decide_eq_false (by omega)
       have HZ:=zh (show Zct s.items (j+1)=true by rw[HG.out,e1,show Ze s.items[j+1].rcd=true from e2];simp[hc])
       go_wp2_with fail;have hbY:Below wr.heap.size wr wr:=Below.refl _ _
       have hS:=λw9 (hb:Below wr.heap.size wr w9)=>zn9 hb (zcl hb ((World.cell?_of_block (hbY.block w.heap.size (by omega))).trans k1_wr)) (zcl hb q0) (zcl hb q1) (zcl hb q2) (zcl hb q3) (zcl hb ((World.cell?_of_block (hbY.block g (by omega))).trans p0)) (zcl hb ((World.cell?_of_block (hbY.block g (by omega))).trans p1)) (zcl hb ((World.cell?_of_block (hbY.block g (by omega))).trans p2))
       refine wp_region_held_drew (S:=(λw9=>Below wr.heap.size wr w9∧w9.cell? ⟨w.heap.size,1,none⟩=some (.slice (some ⟨g,o,none⟩) n cp)∧w9.cell? ⟨g,o+(j+1)*4,none⟩=some (.int .i64 s.items[j+1].key.kind)∧w9.cell? ⟨g,o+(j+1)*4+1,none⟩=some (.int .i64 s.items[j+1].key.n)∧w9.cell? ⟨g,o+(j+1)*4+2,none⟩=some (.string s.items[j+1].key.text)∧w9.cell? ⟨g,o+(j+1)*4+3,none⟩=some (.slice A3 s.items[j+1].rcd.fields.length cc3)∧w9.cell? ⟨g,o+j*4,none⟩=some (.int .i64 s.items[j].key.kind)∧w9.cell? ⟨g,o+j*4+1,none⟩=some (.int .i64 s.items[j].key.n)∧w9.cell? ⟨g,o+j*4+2,none⟩=some (.string s.items[j].key.text))) (by kernel_rfl) (by (try dsimp only);exact hS _ bl) (λhHeld=>?_)
       refine zrd (i:=0) 11 ?_;refine zrd (i:=1) 12 ?_;refine zrd (i:=2) 13 ?_;refine zrd (i:=3) 14 ?_;(try simp only[Act.put,zp0,zp1,zp2]);refine zrd (i:=4) 15 ?_;refine zrd (i:=5) 16 ?_;(try simp only[Act.put,zp0,zp1,zp2]);refine zst 6 (λK hK=>?_)
       go_simp
       (first|(go_at_call 108;refine(Zm s.items[j+1].key _ hok3.h2).mono ?_;rw[e1];rintro e w1 ⟨rfl,hb1⟩;have hY1:=zt (w:=wr) hb1;have hw1:Below w.heap.size w w1:=Za hbw (Za hbY hY1);have hW1:Below W.heap.size W w1:=Za hB (Za hbY hY1))|(go_at_call 109;refine(Zo _ s.items[j+1].rcd.fields F3 _ (by exact zb r3 (Za hbY bl))).mono ?_;rw[e2];rintro e w2 ⟨rfl,hb2⟩;have hY2:=zt (w:=wr) hb2;have hw2:Below w.heap.size w w2:=Za hbw (Za hbY hY2);have hW2:Below W.heap.size W w2:=Za hB (Za hbY hY2))|(go_at_call 136;refine(ZA s.items[j].key s.items[j+1].key _ hokj.h2 hok3.h2).mono ?_;rintro e w3 ⟨rfl,hb3⟩;have hY3:=zt (w:=wr) hb3;have hw3:Below w.heap.size w w3:=Za hbw (Za hbY hY3);have hW3:Below W.heap.size W w3:=Za hB (Za hbY hY3)))
       try go_wp2_with fail
       refine hK.out _ _ ?_ (λhHeld=>?_)
       ·(try dsimp only)
        exact hS _ bl
       clear hK K;refine zrd (i:=7) 18 ?_;refine zrd (i:=8) 19 ?_;refine zrd (i:=9) 20 ?_;(try simp only[Act.put,zp0,zp1,zp2]);refine zrd (i:=10) 21 ?_;refine zrd (i:=11) 22 ?_;refine zrd (i:=12) 23 ?_;refine zrd (i:=13) 24 ?_;(try simp only[Act.put,zp0,zp1,zp2]);refine zrd (i:=14) 25 ?_;(try simp only[Act.put,zp0,zp1,zp2]);refine zst 15 (λK hK=>?_)
       go_simp
       (first|(go_at_call 108;refine(Zm s.items[j+1].key _ hok3.h2).mono ?_;rw[e1];rintro e w1 ⟨rfl,hb1⟩;have hY1:=zt (w:=wr) hb1;have hw1:Below w.heap.size w w1:=Za hbw (Za hbY hY1);have hW1:Below W.heap.size W w1:=Za hB (Za hbY hY1))|(go_at_call 109;refine(Zo _ s.items[j+1].rcd.fields F3 _ (by exact zb r3 (Za hbY bl))).mono ?_;rw[e2];rintro e w2 ⟨rfl,hb2⟩;have hY2:=zt (w:=wr) hb2;have hw2:Below w.heap.size w w2:=Za hbw (Za hbY hY2);have hW2:Below W.heap.size W w2:=Za hB (Za hbY hY2))|(go_at_call 136;refine(ZA s.items[j].key s.items[j+1].key _ hokj.h2 hok3.h2).mono ?_;rintro e w3 ⟨rfl,hb3⟩;have hY3:=zt (w:=wr) hb3;have hw3:Below w.heap.size w w3:=Za hbw (Za hbY hY3);have hW3:Below W.heap.size W w3:=Za hB (Za hbY hY3)))
       try go_wp2_with fail
       refine hK.out _ _ ?_ (λhHeld=>?_)
       ·(try dsimp only)
        exact hS _ bl
       clear hK K;refine zrd (i:=16) 27 ?_;refine zrd (i:=17) 28 ?_;refine zrd (i:=18) 29 ?_;(try simp only[Act.put,zp0,zp1,zp2]);refine zrd (i:=19) 30 ?_;refine zrd (i:=20) 31 ?_;refine zrd (i:=21) 32 ?_;refine zrd (i:=22) 33 ?_;(try simp only[Act.put,zp0,zp1,zp2]);refine zrd (i:=23) 34 ?_;refine zrd (i:=24) 35 ?_;refine zrd (i:=25) 36 ?_;refine zrd (i:=26) 37 ?_;(try simp only[Act.put,zp0,zp1,zp2]);refine zrd (i:=27) 38 ?_;refine zrd (i:=28) 39 ?_;refine zrd (i:=29) 40 ?_;refine zrd (i:=30) 41 ?_;(try simp only[Act.put,zp0,zp1,zp2]);refine zrd (i:=31) 42 ?_;refine zrd (i:=32) 43 ?_;refine zrd (i:=33) 44 ?_;refine zrd (i:=34) 45 ?_;(try simp only[Act.put,zp0,zp1,zp2]);refine zst 35 (λK hK=>?_)
       go_simp
       (first|(go_at_call 108;refine(Zm s.items[j+1].key _ hok3.h2).mono ?_;rw[e1];rintro e w1 ⟨rfl,hb1⟩;have hY1:=zt (w:=wr) hb1;have hw1:Below w.heap.size w w1:=Za hbw (Za hbY hY1);have hW1:Below W.heap.size W w1:=Za hB (Za hbY hY1))|(go_at_call 109;refine(Zo _ s.items[j+1].rcd.fields F3 _ (by exact zb r3 (Za hbY bl))).mono ?_;rw[e2];rintro e w2 ⟨rfl,hb2⟩;have hY2:=zt (w:=wr) hb2;have hw2:Below w.heap.size w w2:=Za hbw (Za hbY hY2);have hW2:Below W.heap.size W w2:=Za hB (Za hbY hY2))|(go_at_call 136;refine(ZA s.items[j].key s.items[j+1].key _ hokj.h2 hok3.h2).mono ?_;rintro e w3 ⟨rfl,hb3⟩;have hY3:=zt (w:=wr) hb3;have hw3:Below w.heap.size w w3:=Za hbw (Za hbY hY3);have hW3:Below W.heap.size W w3:=Za hB (Za hbY hY3)))
       try go_wp2_with fail
       refine hK.out _ _ ?_ (λhHeld=>?_)
       ·(try dsimp only)
        exact hS _ bl
       clear hK K;refine zrd (i:=36) 47 ?_;refine zrd (i:=37) 48 ?_;refine zrd (i:=38) 49 ?_;(try simp only[Act.put,zp0,zp1,zp2]);refine wpAnyH_done (by kernel_rfl) ?_ _
       go_wp2_with fail;go_roundw
       case rel=>exact⟨j+2,by omega,by go_num,by rw[Zay,HZ.out,HO.out];rfl,bl⟩
       case measure=>simp[intOf];omega
      ·have hd2:decide (0≤Zf s.items[j].key s.items[j+1].key)=true:=decide_eq_true (by omega)
       have HBAD:=zh (ZdN hkx (show Zct s.items (j+1)=false by rw[HG.out];simp[hc]))
       go_wp2_with fail;have hbY:Below wr.heap.size wr wr:=Below.refl _ _
       have hS:=λw9 (hb:Below wr.heap.size wr w9)=>zn9 hb (zcl hb ((World.cell?_of_block (hbY.block w.heap.size (by omega))).trans k1_wr)) (zcl hb q0) (zcl hb q1) (zcl hb q2) (zcl hb q3) (zcl hb ((World.cell?_of_block (hbY.block g (by omega))).trans p0)) (zcl hb ((World.cell?_of_block (hbY.block g (by omega))).trans p1)) (zcl hb ((World.cell?_of_block (hbY.block g (by omega))).trans p2))
       refine wp_region_held_drew (S:=(λw9=>Below wr.heap.size wr w9∧w9.cell? ⟨w.heap.size,1,none⟩=some (.slice (some ⟨g,o,none⟩) n cp)∧w9.cell? ⟨g,o+(j+1)*4,none⟩=some (.int .i64 s.items[j+1].key.kind)∧w9.cell? ⟨g,o+(j+1)*4+1,none⟩=some (.int .i64 s.items[j+1].key.n)∧w9.cell? ⟨g,o+(j+1)*4+2,none⟩=some (.string s.items[j+1].key.text)∧w9.cell? ⟨g,o+(j+1)*4+3,none⟩=some (.slice A3 s.items[j+1].rcd.fields.length cc3)∧w9.cell? ⟨g,o+j*4,none⟩=some (.int .i64 s.items[j].key.kind)∧w9.cell? ⟨g,o+j*4+1,none⟩=some (.int .i64 s.items[j].key.n)∧w9.cell? ⟨g,o+j*4+2,none⟩=some (.string s.items[j].key.text))) (by kernel_rfl) (by (try dsimp only);exact hS _ bl) (λhHeld=>?_)
       refine zrd (i:=0) 11 ?_;refine zrd (i:=1) 12 ?_;refine zrd (i:=2) 13 ?_;refine zrd (i:=3) 14 ?_;(try simp only[Act.put,zp0,zp1,zp2]);refine zrd (i:=4) 15 ?_;refine zrd (i:=5) 16 ?_;(try simp only[Act.put,zp0,zp1,zp2]);refine zst 6 (λK hK=>?_)
       go_simp
       (first|(go_at_call 108;refine(Zm s.items[j+1].key _ hok3.h2).mono ?_;rw[e1];rintro e w1 ⟨rfl,hb1⟩;have hY1:=zt (w:=wr) hb1;have hw1:Below w.heap.size w w1:=Za hbw (Za hbY hY1);have hW1:Below W.heap.size W w1:=Za hB (Za hbY hY1))|(go_at_call 109;refine(Zo _ s.items[j+1].rcd.fields F3 _ (by exact zb r3 (Za hbY bl))).mono ?_;rw[e2];rintro e w2 ⟨rfl,hb2⟩;have hY2:=zt (w:=wr) hb2;have hw2:Below w.heap.size w w2:=Za hbw (Za hbY hY2);have hW2:Below W.heap.size W w2:=Za hB (Za hbY hY2))|(go_at_call 136;refine(ZA s.items[j].key s.items[j+1].key _ hokj.h2 hok3.h2).mono ?_;rintro e w3 ⟨rfl,hb3⟩;have hY3:=zt (w:=wr) hb3;have hw3:Below w.heap.size w w3:=Za hbw (Za hbY hY3);have hW3:Below W.heap.size W w3:=Za hB (Za hbY hY3)))
       try go_wp2_with fail
       refine hK.out _ _ ?_ (λhHeld=>?_)
       ·(try dsimp only)
        exact hS _ bl
       clear hK K;refine zrd (i:=7) 18 ?_;refine zrd (i:=8) 19 ?_;refine zrd (i:=9) 20 ?_;(try simp only[Act.put,zp0,zp1,zp2]);refine zrd (i:=10) 21 ?_;refine zrd (i:=11) 22 ?_;refine zrd (i:=12) 23 ?_;refine zrd (i:=13) 24 ?_;(try simp only[Act.put,zp0,zp1,zp2]);refine zrd (i:=14) 25 ?_;(try simp only[Act.put,zp0,zp1,zp2]);refine zst 15 (λK hK=>?_)
       go_simp
       (first|(go_at_call 108;refine(Zm s.items[j+1].key _ hok3.h2).mono ?_;rw[e1];rintro e w1 ⟨rfl,hb1⟩;have hY1:=zt (w:=wr) hb1;have hw1:Below w.heap.size w w1:=Za hbw (Za hbY hY1);have hW1:Below W.heap.size W w1:=Za hB (Za hbY hY1))|(go_at_call 109;refine(Zo _ s.items[j+1].rcd.fields F3 _ (by exact zb r3 (Za hbY bl))).mono ?_;rw[e2];rintro e w2 ⟨rfl,hb2⟩;have hY2:=zt (w:=wr) hb2;have hw2:Below w.heap.size w w2:=Za hbw (Za hbY hY2);have hW2:Below W.heap.size W w2:=Za hB (Za hbY hY2))|(go_at_call 136;refine(ZA s.items[j].key s.items[j+1].key _ hokj.h2 hok3.h2).mono ?_;rintro e w3 ⟨rfl,hb3⟩;have hY3:=zt (w:=wr) hb3;have hw3:Below w.heap.size w w3:=Za hbw (Za hbY hY3);have hW3:Below W.heap.size W w3:=Za hB (Za hbY hY3)))
       try go_wp2_with fail
       refine hK.out _ _ ?_ (λhHeld=>?_)
       ·(try dsimp only)
        exact hS _ bl
       clear hK K;refine zrd (i:=16) 27 ?_;refine zrd (i:=17) 28 ?_;refine zrd (i:=18) 29 ?_;(try simp only[Act.put,zp0,zp1,zp2]);refine zrd (i:=19) 30 ?_;refine zrd (i:=20) 31 ?_;refine zrd (i:=21) 32 ?_;refine zrd (i:=22) 33 ?_;(try simp only[Act.put,zp0,zp1,zp2]);refine zrd (i:=23) 34 ?_;refine zrd (i:=24) 35 ?_;refine zrd (i:=25) 36 ?_;refine zrd (i:=26) 37 ?_;(try simp only[Act.put,zp0,zp1,zp2]);refine zrd (i:=27) 38 ?_;refine zrd (i:=28) 39 ?_;refine zrd (i:=29) 40 ?_;refine zrd (i:=30) 41 ?_;(try simp only[Act.put,zp0,zp1,zp2]);refine zrd (i:=31) 42 ?_;refine zrd (i:=32) 43 ?_;refine zrd (i:=33) 44 ?_;refine zrd (i:=34) 45 ?_;(try simp only[Act.put,zp0,zp1,zp2]);refine zst 35 (λK hK=>?_)
       go_simp
       (first|(go_at_call 108;refine(Zm s.items[j+1].key _ hok3.h2).mono ?_;rw[e1];rintro e w1 ⟨rfl,hb1⟩;have hY1:=zt (w:=wr) hb1;have hw1:Below w.heap.size w w1:=Za hbw (Za hbY hY1);have hW1:Below W.heap.size W w1:=Za hB (Za hbY hY1))|(go_at_call 109;refine(Zo _ s.items[j+1].rcd.fields F3 _ (by exact zb r3 (Za hbY bl))).mono ?_;rw[e2];rintro e w2 ⟨rfl,hb2⟩;have hY2:=zt (w:=wr) hb2;have hw2:Below w.heap.size w w2:=Za hbw (Za hbY hY2);have hW2:Below W.heap.size W w2:=Za hB (Za hbY hY2))|(go_at_call 136;refine(ZA s.items[j].key s.items[j+1].key _ hokj.h2 hok3.h2).mono ?_;rintro e w3 ⟨rfl,hb3⟩;have hY3:=zt (w:=wr) hb3;have hw3:Below w.heap.size w w3:=Za hbw (Za hbY hY3);have hW3:Below W.heap.size W w3:=Za hB (Za hbY hY3)))
       try go_wp2_with fail
       refine hK.out _ _ ?_ (λhHeld=>?_)
       ·(try dsimp only)
        exact hS _ bl
       clear hK K;refine zrd (i:=36) 47 ?_;refine zrd (i:=37) 48 ?_;refine zrd (i:=38) 49 ?_;(try simp only[Act.put,zp0,zp1,zp2]);refine wpAnyH_done (by kernel_rfl) ?_ _
       go_wp2_with fail;go_ret
       exact⟨Zd HBAD.out.symm,bl⟩
  ·obtain rfl:k=n:=by omega
   have HH:=zh (show Zs s=(Zaj s.name&&decide ((k:Int)≤16)&&inR s.auto 0 1000000) by rw[HE.out,HN.out,HO.out,Bool.true_and])
   clear h
   cases e1:Zaj s.name
   ·go_wp2_with (first|(go_at_call 104;refine(Zaa _ _ hs).mono ?_;rw[e1];rintro e w1 ⟨rfl,rfl⟩))
    go_ret
    exact⟨Zd (by rw[HH.out,e1];rfl),bl⟩
   ·by_cases e2:(k:Int)≤16
    ·go_wp2_with (first|(go_at_call 104;refine(Zaa _ _ hs).mono ?_;rw[e1];rintro e w1 ⟨rfl,rfl⟩)|(go_at_call 106;refine(Zbf _ _ _ _).mono ?_;rintro e w1 ⟨rfl,rfl⟩))
     go_ret
     exact⟨Zd (by rw[HH.out,e1,decide_eq_true e2];rfl),bl⟩
    ·go_wp2_with (first|(go_at_call 104;refine(Zaa _ _ hs).mono ?_;rw[e1];rintro e w1 ⟨rfl,rfl⟩))
     go_ret
     exact⟨Zd (by rw[HH.out,e1,decide_eq_false (by omega)];rfl),bl⟩
end Go.Proofs.YtghndifnohkokaaGreat
