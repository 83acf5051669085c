import Derived.Test.YtghndifnohkokaaGreatZGivesW
import Derived.Test.YtghndifnohkokaaGreatZIsStore
namespace Go.Proofs.YtghndifnohkokaaGreat
open Go.ChangeShapes Go.WideShapes Go.RowKit
set_option linter.unusedVariables false
set_option linter.unusedSimpArgs false
set_option maxRecDepth 100000
set_option maxHeartbeats 16000000
theorem ZmB {s:TStore} {k:TKey} {r:TRec} (h:(Zs s&&ZG k)=false):Zca s k r=(s,false):=by unfold Zca;rw[h];rfl
theorem Zig {s:TStore} {k:TKey} {r:TRec} (h:(Zs s&&ZG k)=true) {b:Bool} (hb:Zs (ZbP s k r)=b):Zca s k r=bif b then (ZbP s k r,true) else (s,false):=by unfold Zca;rw[h,hb];rfl
theorem Znj {s:TStore} {k:TKey} {r:TRec} {j:Nat} (hf:ZF s k=j) (hj:j<s.items.length):ZbP s k r=⟨s.name,s.items.set j ⟨s.items[j].key,r⟩,s.auto⟩:=by
 unfold ZbP;rw[hf,if_pos (by omega),show ((j:Int)).toNat=j from rfl,Zom hj]
theorem Znk {s:TStore} {k:TKey} {r:TRec} (hf:ZF s k=-1):ZbP s k r=⟨s.name,s.items.take (ZaW k s.items)++⟨k,r⟩::s.items.drop (ZaW k s.items),ZcU s k⟩:=by
 unfold ZbP;rw[hf,if_neg (by omega)];rfl
structure ZnA (wq:World) (xb L:Nat) (nm:ByteArray) (xs:List TItem) (au:Int) (B:Option Addr) (l c:Nat) (G:List Nat):Prop where
 c0:wq.cell? ⟨xb,0,none⟩=some (.string nm)
 c1:wq.cell? ⟨xb,1,none⟩=some (.slice B l c)
 c2:wq.cell? ⟨xb,2,none⟩=some (.int .i64 au)
 r:cItemS.rep wq [.slice B l c] xs G
 lo:Lo L G
 nd:G.Nodup
 ok:TStore.Ok ⟨nm,xs,au⟩
theorem ZoK {s:TStore} {k:TKey} (h:(k.kind==1)=false):ZcU s k=s.auto:=by unfold ZcU;rw[h];rfl
theorem ZlX {s:TStore} {k:TKey} (h:¬(s.auto<k.n∧k.n≤1000000)):ZcU s k=s.auto:=by
 unfold ZcU
 cases hc:k.kind==1&&inR k.n (s.auto+1) 1000000 with
 | false=>rfl
 | true=>rw[Bool.and_eq_true] at hc;have:=ZbZ hc.2;omega
theorem ZoL {s:TStore} {k:TKey} (h:(k.kind==1)=true) (h1:s.auto<k.n) (h2:k.n≤1000000):ZcU s k=k.n:=by
 unfold ZcU;rw[h,Zjh (by omega) (by omega)];rfl
theorem Zcr (v vr:Value) (s:TStore) (k:TKey) (r:TRec) (F FR:List Nat) (w:World) (h:cItemS.rep w [v] s.items F) (hr:cFieldS.rep w [vr] r.fields FR) (hok:s.Ok) (hkk:k.Ok) (hsm:ZcE s) (hrl:r.fields.length≤1000000) :
  Calls Tryz.prog 155 #[.agg #[.string s.name,v,.int .i64 s.auto],.agg #[.int .i64 k.kind,.int .i64 k.n,.string k.text],.agg #[vr]] w (GivesR2 cStore w (ZO s k r).1 (.bool (ZO s k r).2)):=by
 rw[← ZgM]
 obtain⟨i0,hi0,hz0,hz1,hz2⟩:=info_parts Zds;obtain⟨A,cp,rfl⟩:=Zb h;obtain⟨R,cr,rfl⟩:=Zb hr;obtain⟨-,hcp,hm⟩:=Zq h
 unfold maxLen at hm
 go_enter Tryz.func155,Tryz.ntmps155
 go_wp2_with fail;refine(Zag _ s F _ (by exact zb h) hok.h0).mono ?_
 cases e1:Zs s
 ·have HOFF:=zh (ZmB (s:=s) (k:=k) (r:=r) (by rw[e1];rfl))
  rintro e w1 ⟨rfl,hb1⟩;obtain⟨hc_w1,hf_w1,hz_w1⟩:=Zc hb1
  try simp at hz_w1
  obtain⟨ha0_w1,ha1_w1,ha2_w1,ha3_w1⟩:=zg4 w.heap.size w1.heap.size;have hb_w1:=zt (w:=w) hb1
  go_wp2_with fail;refine(ZI #[_,_,_] s F _ (by exact TStore.mk_ hok (zb h)) hsm).mono ?_
  intro e w2 hcr;obtain⟨B2,c2,G2,rfl,hb2,-,hr2,hl2⟩:=ZgT hcr;clear hcr;obtain⟨hc_w2,hf_w2,hz_w2⟩:=Zc hb2
  try simp at hz_w2
  obtain⟨ha0_w2,ha1_w2,ha2_w2,ha3_w2⟩:=zg4 w.heap.size w2.heap.size;have hb_w2:=zt (w:=w) hb2
  have HP:=zh (And.intro hr2 hl2)
  have hlow2:∀b,b∈G2→w.heap.size+4≤b:=λb hb=>by have h9:=hl2.1 b hb;(try simp at h9);omega
  go_wp2_with fail;refine bodyPost_ret (v:=.tuple #[.agg #[.string s.name,.slice B2 s.items.length c2,.int .i64 s.auto],.bool false]) (by simp[results,Tryz.results155,go_sem, *]) rfl ?_
  rw[HOFF.out]
  have hfin:cItemS.rep w2 [.slice B2 s.items.length c2] s.items G2:=HP.out.1
  exact⟨_,G2,rfl,bl,TStore.mk_ hok (zks hfin hlow2),⟨Lo.mono hlow2 (by omega),HP.out.2.2⟩⟩
 ·rintro e w1 ⟨rfl,hb1⟩;obtain⟨hc_w1,hf_w1,hz_w1⟩:=Zc hb1
  try simp at hz_w1
  obtain⟨ha0_w1,ha1_w1,ha2_w1,ha3_w1⟩:=zg4 w.heap.size w1.heap.size;have hb_w1:=zt (w:=w) hb1
  go_wp2_with fail;refine(Zr k _ hkk.h2).mono ?_
  cases e2:ZG k
  ·have HOFF:=zh (ZmB (s:=s) (k:=k) (r:=r) (by rw[e1,e2];rfl))
   rintro e w2 ⟨rfl,hb2⟩;obtain⟨hc_w2,hf_w2,hz_w2⟩:=Zc hb2
   try simp at hz_w2
   obtain⟨ha0_w2,ha1_w2,ha2_w2,ha3_w2⟩:=zg4 w.heap.size w2.heap.size;have hb_w2:=zt (w:=w) hb2
   go_wp2_with fail;refine(ZI #[_,_,_] s F _ (by exact TStore.mk_ hok (zb h)) hsm).mono ?_
   intro e w3 hcr;obtain⟨B3,c3,G3,rfl,hb3,-,hr3,hl3⟩:=ZgT hcr;clear hcr;obtain⟨hc_w3,hf_w3,hz_w3⟩:=Zc hb3
   try simp at hz_w3
   obtain⟨ha0_w3,ha1_w3,ha2_w3,ha3_w3⟩:=zg4 w.heap.size w3.heap.size;have hb_w3:=zt (w:=w) hb3
   have HP:=zh (And.intro hr3 hl3)
   have hlow3:∀b,b∈G3→w.heap.size+4≤b:=λb hb=>by have h9:=hl3.1 b hb;(try simp at h9);omega
   go_wp2_with fail;refine bodyPost_ret (v:=.tuple #[.agg #[.string s.name,.slice B3 s.items.length c3,.int .i64 s.auto],.bool false]) (by simp[results,Tryz.results155,go_sem, *]) rfl ?_
   rw[HOFF.out]
   have hfin:cItemS.rep w3 [.slice B3 s.items.length c3] s.items G3:=HP.out.1
   exact⟨_,G3,rfl,bl,TStore.mk_ hok (zks hfin hlow3),⟨Lo.mono hlow3 (by omega),HP.out.2.2⟩⟩
  ·have HON:=zh (show (Zs s&&ZG k)=true by rw[e1,e2];rfl)
   rintro e w3 ⟨rfl,hb3⟩;obtain⟨hc_w3,hf_w3,hz_w3⟩:=Zc hb3
   try simp at hz_w3
   obtain⟨ha0_w3,ha1_w3,ha2_w3,ha3_w3⟩:=zg4 w.heap.size w3.heap.size;have hb_w3:=zt (w:=w) hb3
   have hnl:=hsm.1;go_wp2_with fail;refine(ZI #[_,_,_] s F _ (by exact TStore.mk_ hok (zb h)) hsm).mono ?_
   intro e w4 hcr;obtain⟨B4,c4,Fi4,rfl,hb4,-,ho4,hf4,hne4⟩:=Zox hcr;clear hcr;obtain⟨hc_w4,hf_w4,hz_w4⟩:=Zc hb4
   try simp at hz_w4
   obtain⟨ha0_w4,ha1_w4,ha2_w4,ha3_w4⟩:=zg4 w.heap.size w4.heap.size;have hb_w4:=zt (w:=w) hb4
   have hnx4:=λg (hg:Zac (.slice B4 s.items.length c4)=some g)=>ho4.lt g hg
   have HO4:=zh (And.intro ho4 (And.intro hf4 (And.intro hne4 hnx4)))
   clear ho4 hf4 hne4 hnx4;go_wp2_with fail;refine(ZcT _ s k F _ (by exact zb h)).mono ?_
   rintro e w5 ⟨he5,hb5⟩;obtain⟨hc_w5,hf_w5,hz_w5⟩:=Zc hb5
   try simp at hz_w5
   obtain⟨ha0_w5,ha1_w5,ha2_w5,ha3_w5⟩:=zg4 w.heap.size w5.heap.size;have ha4_w5:w4.heap.size<w5.heap.size:=by omega
   have hb_w5:=zt (w:=w) hb5
   have hb45:=zt (w:=w4) hb5
   have a0:w5.cell? ⟨w.heap.size,0,none⟩=some (.string s.name):=by go_simp
   have a1:w5.cell? ⟨w.heap.size,1,none⟩=some (.slice A s.items.length cp):=by go_simp
   have a2:w5.cell? ⟨w.heap.size,2,none⟩=some (.int .i64 s.auto):=by go_simp
   have b0:w5.cell? ⟨w.heap.size+1,0,none⟩=some (.int .i64 k.kind):=by go_simp
   have b1:w5.cell? ⟨w.heap.size+1,1,none⟩=some (.int .i64 k.n):=by go_simp
   have b2:w5.cell? ⟨w.heap.size+1,2,none⟩=some (.string k.text):=by go_simp
   have cr0:w5.cell? ⟨w.heap.size+2,0,none⟩=some (.slice R r.fields.length cr):=by go_simp
   have x0:w5.cell? ⟨w4.heap.size,0,none⟩=some (.string s.name):=by go_simp
   have x1:w5.cell? ⟨w4.heap.size,1,none⟩=some (.slice B4 s.items.length c4):=by go_simp
   have x2:w5.cell? ⟨w4.heap.size,2,none⟩=some (.int .i64 s.auto):=by go_simp
   have HD:=zh (show w5.cell? ⟨w.heap.size+3,0,none⟩=some (.string ⟨#[]⟩)∧w5.cell? ⟨w.heap.size+3,1,none⟩=some (.slice none 0 0)∧w5.cell? ⟨w.heap.size+3,2,none⟩=some (.int .i64 0)∧w5.frozen? ⟨w.heap.size+3,0,none⟩=false∧w5.frozen? ⟨w.heap.size+3,1,none⟩=false∧w5.frozen? ⟨w.heap.size+3,2,none⟩=false from by refine⟨?_,?_,?_,?_,?_,?_⟩<;>go_simp)
   have HA5:=zh (And.intro a0 (And.intro a1 a2))
   have fx1:w5.frozen? ⟨w4.heap.size,1,none⟩=false:=by go_simp
   have fx2:w5.frozen? ⟨w4.heap.size,2,none⟩=false:=by go_simp
   have hbw5:Below w.heap.size w w5:=hb_w5
   have hzz4:w.heap.size+3<w4.heap.size:=ha3_w4
   have hzz5:w4.heap.size<w5.heap.size:=ha4_w5
   have HX:=zh (show Own cItem 162 (w.heap.size+4) w5 (.slice B4 s.items.length c4) s.items Fi4∧Fresh (w.heap.size+4) Fi4∧(∀g,Zac (.slice B4 s.items.length c4)=some g→g∉Fi4∧g<w4.heap.size)∧(∀b,b∈Fi4→b<w4.heap.size) from ⟨(HO4.out.1.bel hb45).mono (by (try simp);(try omega)),HO4.out.2.1.mono (by (try simp);(try omega)),λg hg=>⟨HO4.out.2.2.1 g hg,(HO4.out.2.2.2 g hg).2⟩,HO4.out.1.inner_lt⟩)
   clear hc_w1 hf_w1 hb1 hc_w3 hf_w3 hb3 hb_w1 hb_w3 hz_w1 hz_w3 ha0_w1 ha1_w1 ha2_w1 ha3_w1 ha0_w3 ha1_w3 ha2_w3 ha3_w3;clear hc_w4 hf_w4 hb4 hz_w4 ha0_w4 ha1_w4 ha2_w4 ha3_w4 hb_w4 hc_w5 hf_w5 hb5 hz_w5 ha0_w5 ha1_w5 ha2_w5 ha3_w5 ha4_w5 hb_w5 hb45 HO4
   rcases ZbF s k with hfn|⟨j,hj,hfn⟩
   ·rw[hfn] at he5
    subst he5;have HP:=zh (Znk (r:=r) hfn)
    obtain⟨n,hxn⟩:∃n,s.items.length=n:=⟨_,rfl⟩
    have HN:=zh hxn;rw[hxn] at h a1 x1 HX hcp hnl
    clear hxn;obtain⟨FR7,hr7,hw7,-⟩:=HX.out.1.rep (hw:=by decide) (hw2:=by decide)
    replace hr7:cItemS.rep w5 [.slice B4 n c4] s.items FR7:=hr7
    have HR7:=zh hr7;clear hr7 hw7
    go_upto_region 7 with (fail)
    go_cut [10] from 10 to 10 (λv wq=>v=.int .i64 0∧w5=wq)
    case first =>
     go_wp2_with fail;go_meet
     case rel=>exact⟨rfl,rfl⟩
    obtain⟨rfl,rfl⟩:=hcut
    apply_assumption
    refine wp_seq_k (λK hK=>?_)
    go_cut [10] from 35 to 52 (λv wq=>v=.int .i64 (ZaW k s.items)∧Below w5.heap.size w5 wq)
    case first =>
     go_wp2_with fail;go_loopw [10] (λi wr=>∃m:Nat,m≤n∧i=.int .i64 m∧ZdA k s.items m=true∧Below w5.heap.size w5 wr) (λi _=>n-(intOf i).toNat)
     case atStart=>exact⟨0,Nat.zero_le _,rfl,Zhv _ _,Below.refl _ _⟩
     case round =>
      obtain⟨m,hm9,rfl,hah,hB⟩:=hrel;have HA:=zh hah;clear hah;have hzr:=hB.size;have y1:wr.cell? ⟨w4.heap.size,1,none⟩=some (.slice B4 n c4):=zcl hB x1
      have z0:wr.cell? ⟨w.heap.size+1,0,none⟩=some (.int .i64 k.kind):=zcl hB b0
      have z1:wr.cell? ⟨w.heap.size+1,1,none⟩=some (.int .i64 k.n):=zcl hB b1
      have z2:wr.cell? ⟨w.heap.size+1,2,none⟩=some (.string k.text):=zcl hB b2
      clear a0 a1 a2 b0 b1 b2 cr0 x0 x1 x2 fx1 fx2
      by_cases hlt:m<n
      ·have hmx:m<s.items.length:=by rw[HN.out];exact hlt
       obtain⟨g,o,A3,e3,F3,rfl,hgF,hgr,hok3,q0,q1,q2,q3,r3,-⟩:=ZaO (zb HR7.out hB) hmx
       have hmi:(m:Int)<(n:Int):=by omega
       by_cases hc:Zf s.items[m].key k<0
       ·have hd2:decide (Zf s.items[m].key k<0)=true:=decide_eq_true hc
        have HS:=zh (Zhu hmx HA.out hc)
        go_wp2_with fail;have hS:=λw9 (hb:Below wr.heap.size wr w9)=>zn8 hb (zcl hb y1) (zcl hb z0) (zcl hb z1) (zcl hb z2) (zcl hb q0) (zcl hb q1) (zcl hb q2)
        refine wp_region_held_drew (S:=(λw9=>Below wr.heap.size wr w9∧w9.cell? ⟨w4.heap.size,1,none⟩=some (.slice (some ⟨g,o,none⟩) n c4)∧w9.cell? ⟨w.heap.size+1,0,none⟩=some (.int .i64 k.kind)∧w9.cell? ⟨w.heap.size+1,1,none⟩=some (.int .i64 k.n)∧w9.cell? ⟨w.heap.size+1,2,none⟩=some (.string k.text)∧w9.cell? ⟨g,o+m*4,none⟩=some (.int .i64 s.items[m].key.kind)∧w9.cell? ⟨g,o+m*4+1,none⟩=some (.int .i64 s.items[m].key.n)∧w9.cell? ⟨g,o+m*4+2,none⟩=some (.string s.items[m].key.text))) (by kernel_rfl) (by (try dsimp only);exact hS _ bl) (λhHeld=>?_)
        refine zrd (i:=0) 35 ?_;refine zrd (i:=1) 36 ?_;refine zrd (i:=2) 37 ?_;refine zrd (i:=3) 38 ?_;(try simp only[Act.put,zp0,zp1,zp2]);refine zrd (i:=4) 39 ?_;refine zrd (i:=5) 40 ?_;refine zrd (i:=6) 41 ?_;refine zrd (i:=7) 42 ?_;(try simp only[Act.put,zp0,zp1,zp2]);refine zrd (i:=8) 43 ?_;refine zrd (i:=9) 44 ?_;refine zrd (i:=10) 45 ?_;refine zrd (i:=11) 46 ?_;(try simp only[Act.put,zp0,zp1,zp2]);refine zrd (i:=12) 47 ?_;(try simp only[Act.put,zp0,zp1,zp2]);refine zst 13 (λK hK=>?_)
        go_simp
        (go_at_call 148;refine(Zz s.items[m].key k _ hok3.h2 hkk.h2).mono ?_;rintro e w6 ⟨rfl,hb6⟩;have hr6:=zt (w:=wr) hb6;have hw6:Below w5.heap.size w5 w6:=Za hB hr6)
        try go_wp2_with fail
        refine hK.out _ _ ?_ (λhHeld=>?_)
        ·(try dsimp only)
         exact hS _ bl
        clear hK K;refine zrd (i:=14) 49 ?_;refine zrd (i:=15) 50 ?_;(try simp only[Act.put,zp0,zp1,zp2]);refine wpAnyH_done (by kernel_rfl) ?_ _
        go_wp2_with fail;go_roundw
        case rel=>exact⟨m+1,by omega,by go_num,HS.out,bl⟩
        case measure=>simp[intOf];omega
       ·have hd2:decide (Zf s.items[m].key k<0)=false:=decide_eq_false hc
        have HS:=zh (ZfS hmx HA.out hc)
        go_wp2_with fail;have hS:=λw9 (hb:Below wr.heap.size wr w9)=>zn8 hb (zcl hb y1) (zcl hb z0) (zcl hb z1) (zcl hb z2) (zcl hb q0) (zcl hb q1) (zcl hb q2)
        refine wp_region_held_drew (S:=(λw9=>Below wr.heap.size wr w9∧w9.cell? ⟨w4.heap.size,1,none⟩=some (.slice (some ⟨g,o,none⟩) n c4)∧w9.cell? ⟨w.heap.size+1,0,none⟩=some (.int .i64 k.kind)∧w9.cell? ⟨w.heap.size+1,1,none⟩=some (.int .i64 k.n)∧w9.cell? ⟨w.heap.size+1,2,none⟩=some (.string k.text)∧w9.cell? ⟨g,o+m*4,none⟩=some (.int .i64 s.items[m].key.kind)∧w9.cell? ⟨g,o+m*4+1,none⟩=some (.int .i64 s.items[m].key.n)∧w9.cell? ⟨g,o+m*4+2,none⟩=some (.string s.items[m].key.text))) (by kernel_rfl) (by (try dsimp only);exact hS _ bl) (λhHeld=>?_)
        refine zrd (i:=0) 35 ?_;refine zrd (i:=1) 36 ?_;refine zrd (i:=2) 37 ?_;refine zrd (i:=3) 38 ?_;(try simp only[Act.put,zp0,zp1,zp2]);refine zrd (i:=4) 39 ?_;refine zrd (i:=5) 40 ?_;refine zrd (i:=6) 41 ?_;refine zrd (i:=7) 42 ?_;(try simp only[Act.put,zp0,zp1,zp2]);refine zrd (i:=8) 43 ?_;refine zrd (i:=9) 44 ?_;refine zrd (i:=10) 45 ?_;refine zrd (i:=11) 46 ?_;(try simp only[Act.put,zp0,zp1,zp2]);refine zrd (i:=12) 47 ?_;(try simp only[Act.put,zp0,zp1,zp2]);refine zst 13 (λK hK=>?_)
        go_simp
        (go_at_call 148;refine(Zz s.items[m].key k _ hok3.h2 hkk.h2).mono ?_;rintro e w6 ⟨rfl,hb6⟩;have hr6:=zt (w:=wr) hb6;have hw6:Below w5.heap.size w5 w6:=Za hB hr6)
        try go_wp2_with fail
        refine hK.out _ _ ?_ (λhHeld=>?_)
        ·(try dsimp only)
         exact hS _ bl
        clear hK K;refine zrd (i:=14) 49 ?_;refine zrd (i:=15) 50 ?_;(try simp only[Act.put,zp0,zp1,zp2]);refine wpAnyH_done (by kernel_rfl) ?_ _
        go_wp2_with fail;go_meet
        case rel=>exact⟨by rw[HS.out],bl⟩
      ·obtain rfl:m=n:=by omega
       have HS:=zh (Zhy (by rw[HN.out];exact HA.out))
       go_wp2_with fail;have hS:=λw9 (hb:Below wr.heap.size wr w9)=>zn2 hb (zcl hb y1)
       refine wp_region_held_drew (S:=(λw9=>Below wr.heap.size wr w9∧w9.cell? ⟨w4.heap.size,1,none⟩=some (.slice B4 m c4))) (by kernel_rfl) (by (try dsimp only);exact hS _ bl) (λhHeld=>?_)
       refine zrd (i:=0) 35 ?_;refine zrd (i:=1) 36 ?_;refine zrd (i:=2) 37 ?_;refine zrd (i:=3) 38 ?_;(try simp only[Act.put,zp0,zp1,zp2]);refine zrd (i:=4) 39 ?_;refine zrd (i:=5) 40 ?_;refine zsk (i:=6) 41 ?_;refine zsk (i:=7) 42 ?_;(try simp only[Act.put,zp0,zp1,zp2]);refine zsk (i:=8) 43 ?_;refine zsk (i:=9) 44 ?_;refine zsk (i:=10) 45 ?_;refine zsk (i:=11) 46 ?_;(try simp only[Act.put,zp0,zp1,zp2]);refine zsk (i:=12) 47 ?_;refine zsk (i:=13) 48 ?_;refine zsk (i:=14) 49 ?_;refine zrd (i:=15) 50 ?_;(try simp only[Act.put,zp0,zp1,zp2]);refine wpAnyH_done (by kernel_rfl) ?_ _
       go_wp2_with fail;go_meet
       case rel=>exact⟨by rw[HS.out,HN.out],bl⟩
    case rest =>
     obtain⟨rfl,hBc⟩:=hcut;generalize wc=w7 at *
     have hz7:=hBc.size;obtain⟨hc7,hf7,-⟩:=Zc hBc;have hB7:Below w.heap.size w w7:=Za hbw5 hBc
     have hzq0:w.heap.size<w5.heap.size:=by omega
     have hzq1:w.heap.size+1<w5.heap.size:=by omega
     have hzq2:w.heap.size+2<w5.heap.size:=by omega
     have hzx7:w4.heap.size<w7.heap.size:=by omega
     have hzy6:w.heap.size+2<w7.heap.size:=by omega
     have hzy5:w.heap.size+1<w7.heap.size:=by omega
     have p0:=(hc7 _ 0 hzq1).trans b0
     have p1:=(hc7 _ 1 hzq1).trans b1
     have p2:=(hc7 _ 2 hzq1).trans b2
     have p3:=(hc7 _ 0 hzq2).trans cr0
     have y0:=(hc7 _ 0 hzz5).trans x0
     have y1:=(hc7 _ 1 hzz5).trans x1
     have y2:=(hc7 _ 2 hzz5).trans x2
     have gx1:=(hf7 _ 1 hzz5).trans fx1
     have gx2:=(hf7 _ 2 hzz5).trans fx2
     have HX7:=zh (HX.out.1.bel hBc)
     have hmn:ZaW k s.items≤n:=by have h9:=Zhl k s.items;rw[HN.out] at h9;exact h9
     clear a0 a1 a2 b0 b1 b2 cr0 x0 x1 x2 fx1 fx2 hc7 hf7;obtain⟨m,hxm⟩:∃m,ZaW k s.items=m:=⟨_,rfl⟩
     rw[hxm] at hmn HP⊢
     go_wp2_with fail;have hS:=λw9 (hb:Below w7.heap.size w7 w9)=>zn5 (zcl hb y1) (zcl hb p0) (zcl hb p1) (zcl hb p2) (zcl hb p3)
     refine ZaE (S:=(λw9=>w9.cell? ⟨w4.heap.size,1,none⟩=some (.slice B4 n c4)∧w9.cell? ⟨w.heap.size+1,0,none⟩=some (.int .i64 k.kind)∧w9.cell? ⟨w.heap.size+1,1,none⟩=some (.int .i64 k.n)∧w9.cell? ⟨w.heap.size+1,2,none⟩=some (.string k.text)∧w9.cell? ⟨w.heap.size+2,0,none⟩=some (.slice R r.fields.length cr))) [10] (by kernel_rfl) (by (try dsimp only);(first|exact hSI|exact hS _ bl)) (λhHeld=>?_)
     refine zrdT (i:=0) 11 53 ?_;refine zrdT (i:=1) 11 54 ?_;refine zrdT (i:=2) 11 55 ?_;refine zrdT (i:=3) 11 56 ?_;(try simp only[Act.put,zp0,zp1,zp2]);refine zrdT (i:=4) 11 57 ?_;(try simp only[Act.put,zp0,zp1,zp2]);refine ZdW 5 (by kernel_rfl) rfl (λK hK=>?_)
     go_simp
     (first|(go_at_call 166;refine(ZY _ r.fields FR _ (by exact zb hr (Za hB7 bl)) (by omega)).mono ?_;rintro e w9 ⟨v9,rfl,hb9,ho9⟩;obtain⟨B9,c9,e9⟩:=ho9.slice;subst e9;have hb79:=zt (w:=w7) hb9;have hz9:=hb79.size;obtain⟨FN,hrN,hfN,-⟩:=ho9.fresh (hw:=by decide) (hw2:=by decide);have hfN7:∀b,b∈FN→w7.heap.size≤b∧b<w9.heap.size:=(λb hb=>⟨by have h9:=hfN.1 b hb;(try simp at h9);omega,Cod.lt _ hrN b hb⟩);have HND:=zh hfN.2;replace hrN:cFieldS.rep w9 [.slice B9 r.fields.length c9] r.fields FN:=hrN;have HRN:=zh hrN;clear hrN hfN ho9)|(go_at_call 175;refine(ZcO _ n c4 m s.items ⟨k,r⟩ #[.int .i64 k.kind,.int .i64 k.n,.string k.text,.slice B9 r.fields.length c9] Fi4 FN w9.heap.size (w.heap.size+4) _ (HX7.out.bel (by exact Za hb79 bl)) (λg hg=>⟨(HX.out.2.2.1 g hg).1,λhm=>by have h8:=(hfN7 g hm).1;have h7:=(HX.out.2.2.1 g hg).2;omega,by have h7:=(HX.out.2.2.1 g hg).2;omega⟩) HN.out hmn (by omega) (by exact Blk.new _ _ _) (by exact zb (TItem.mk_ (x:=⟨k,r⟩) ⟨hkk.h0,hkk.h1,hkk.h2⟩ HRN.out) bl) (by (try simp);(try omega))).mono ?_;rintro e w10 ⟨A10,c10,F1,F2,rfl,hFF,ho10,hg10,hat10⟩;rw[HN.out] at ho10 hat10⊢;have hz10:=hg10.size;(try simp at hz10);have hbl:=(λb (hb:b<w7.heap.size) (hg:∀g,Zac (.slice B4 n c4)=some g→b≠g)=>((hg10.block b (by (try simp);(try omega)) (λe9=>hg b e9.symm rfl)).trans (Below.block (show Below w7.heap.size w7 (w9.alloc _) from Za hb79 bl) b hb):w10.heap[b]?=w7.heap[b]?));have hbx:=hbl w4.heap.size hzx7 (λg hg=>by have h7:=(HX.out.2.2.1 g hg).2;omega);have hbk:=hbl (w.heap.size+1) hzy5 (λg hg=>by have h7:=(HX.out.1.lt g hg).1;omega);have hbr:=hbl (w.heap.size+2) hzy6 (λg hg=>by have h7:=(HX.out.1.lt g hg).1;omega);have hSI:=And.intro ((World.cell?_of_block (a:=⟨w4.heap.size,1,none⟩) hbx).trans y1) (And.intro ((World.cell?_of_block (a:=⟨w.heap.size+1,0,none⟩) hbk).trans p0) (And.intro ((World.cell?_of_block (a:=⟨w.heap.size+1,1,none⟩) hbk).trans p1) (And.intro ((World.cell?_of_block (a:=⟨w.heap.size+1,2,none⟩) hbk).trans p2) ((World.cell?_of_block (a:=⟨w.heap.size+2,0,none⟩) hbr).trans p3))));have hxf:=(World.frozen?_of_block (a:=⟨w4.heap.size,1,none⟩) hbx).trans gx1;have hxw10:w4.heap.size<w10.heap.size:=(by omega)))
     try go_wp2_with fail
     refine hK.out _ _ ?_ (λhHeld=>?_)
     ·(try dsimp only)
      (first|exact hSI|exact hS _ bl)
     clear hK K;refine zrdT (i:=6) 11 59 ?_;refine ZdW 7 (by kernel_rfl) rfl (λK hK=>?_)
     first|(first|(go_at_call 166;refine(ZY _ r.fields FR _ (by exact zb hr (Za hB7 bl)) (by omega)).mono ?_;rintro e w9 ⟨v9,rfl,hb9,ho9⟩;obtain⟨B9,c9,e9⟩:=ho9.slice;subst e9;have hb79:=zt (w:=w7) hb9;have hz9:=hb79.size;obtain⟨FN,hrN,hfN,-⟩:=ho9.fresh (hw:=by decide) (hw2:=by decide);have hfN7:∀b,b∈FN→w7.heap.size≤b∧b<w9.heap.size:=(λb hb=>⟨by have h9:=hfN.1 b hb;(try simp at h9);omega,Cod.lt _ hrN b hb⟩);have HND:=zh hfN.2;replace hrN:cFieldS.rep w9 [.slice B9 r.fields.length c9] r.fields FN:=hrN;have HRN:=zh hrN;clear hrN hfN ho9)|(go_at_call 175;refine(ZcO _ n c4 m s.items ⟨k,r⟩ #[.int .i64 k.kind,.int .i64 k.n,.string k.text,.slice B9 r.fields.length c9] Fi4 FN w9.heap.size (w.heap.size+4) _ (HX7.out.bel (by exact Za hb79 bl)) (λg hg=>⟨(HX.out.2.2.1 g hg).1,λhm=>by have h8:=(hfN7 g hm).1;have h7:=(HX.out.2.2.1 g hg).2;omega,by have h7:=(HX.out.2.2.1 g hg).2;omega⟩) HN.out hmn (by omega) (by exact Blk.new _ _ _) (by exact zb (TItem.mk_ (x:=⟨k,r⟩) ⟨hkk.h0,hkk.h1,hkk.h2⟩ HRN.out) bl) (by (try simp);(try omega))).mono ?_;rintro e w10 ⟨A10,c10,F1,F2,rfl,hFF,ho10,hg10,hat10⟩;rw[HN.out] at ho10 hat10⊢;have hz10:=hg10.size;(try simp at hz10);have hbl:=(λb (hb:b<w7.heap.size) (hg:∀g,Zac (.slice B4 n c4)=some g→b≠g)=>((hg10.block b (by (try simp);(try omega)) (λe9=>hg b e9.symm rfl)).trans (Below.block (show Below w7.heap.size w7 (w9.alloc _) from Za hb79 bl) b hb):w10.heap[b]?=w7.heap[b]?));have hbx:=hbl w4.heap.size hzx7 (λg hg=>by have h7:=(HX.out.2.2.1 g hg).2;omega);have hbk:=hbl (w.heap.size+1) hzy5 (λg hg=>by have h7:=(HX.out.1.lt g hg).1;omega);have hbr:=hbl (w.heap.size+2) hzy6 (λg hg=>by have h7:=(HX.out.1.lt g hg).1;omega);have hSI:=And.intro ((World.cell?_of_block (a:=⟨w4.heap.size,1,none⟩) hbx).trans y1) (And.intro ((World.cell?_of_block (a:=⟨w.heap.size+1,0,none⟩) hbk).trans p0) (And.intro ((World.cell?_of_block (a:=⟨w.heap.size+1,1,none⟩) hbk).trans p1) (And.intro ((World.cell?_of_block (a:=⟨w.heap.size+1,2,none⟩) hbk).trans p2) ((World.cell?_of_block (a:=⟨w.heap.size+2,0,none⟩) hbr).trans p3))));have hxf:=(World.frozen?_of_block (a:=⟨w4.heap.size,1,none⟩) hbx).trans gx1;have hxw10:w4.heap.size<w10.heap.size:=(by omega)))|go_simp
     refine hK.out _ _ ?_ (λhHeld=>?_)
     ·(try dsimp only)
      (first|exact hSI|exact hS _ bl)
     clear hK K;refine ZdW 8 (by kernel_rfl) rfl (λK hK=>?_)
     go_simp
     (first|(go_at_call 166;refine(ZY _ r.fields FR _ (by exact zb hr (Za hB7 bl)) (by omega)).mono ?_;rintro e w9 ⟨v9,rfl,hb9,ho9⟩;obtain⟨B9,c9,e9⟩:=ho9.slice;subst e9;have hb79:=zt (w:=w7) hb9;have hz9:=hb79.size;obtain⟨FN,hrN,hfN,-⟩:=ho9.fresh (hw:=by decide) (hw2:=by decide);have hfN7:∀b,b∈FN→w7.heap.size≤b∧b<w9.heap.size:=(λb hb=>⟨by have h9:=hfN.1 b hb;(try simp at h9);omega,Cod.lt _ hrN b hb⟩);have HND:=zh hfN.2;replace hrN:cFieldS.rep w9 [.slice B9 r.fields.length c9] r.fields FN:=hrN;have HRN:=zh hrN;clear hrN hfN ho9)|(go_at_call 175;refine(ZcO _ n c4 m s.items ⟨k,r⟩ #[.int .i64 k.kind,.int .i64 k.n,.string k.text,.slice B9 r.fields.length c9] Fi4 FN w9.heap.size (w.heap.size+4) _ (HX7.out.bel (by exact Za hb79 bl)) (λg hg=>⟨(HX.out.2.2.1 g hg).1,λhm=>by have h8:=(hfN7 g hm).1;have h7:=(HX.out.2.2.1 g hg).2;omega,by have h7:=(HX.out.2.2.1 g hg).2;omega⟩) HN.out hmn (by omega) (by exact Blk.new _ _ _) (by exact zb (TItem.mk_ (x:=⟨k,r⟩) ⟨hkk.h0,hkk.h1,hkk.h2⟩ HRN.out) bl) (by (try simp);(try omega))).mono ?_;rintro e w10 ⟨A10,c10,F1,F2,rfl,hFF,ho10,hg10,hat10⟩;rw[HN.out] at ho10 hat10⊢;have hz10:=hg10.size;(try simp at hz10);have hbl:=(λb (hb:b<w7.heap.size) (hg:∀g,Zac (.slice B4 n c4)=some g→b≠g)=>((hg10.block b (by (try simp);(try omega)) (λe9=>hg b e9.symm rfl)).trans (Below.block (show Below w7.heap.size w7 (w9.alloc _) from Za hb79 bl) b hb):w10.heap[b]?=w7.heap[b]?));have hbx:=hbl w4.heap.size hzx7 (λg hg=>by have h7:=(HX.out.2.2.1 g hg).2;omega);have hbk:=hbl (w.heap.size+1) hzy5 (λg hg=>by have h7:=(HX.out.1.lt g hg).1;omega);have hbr:=hbl (w.heap.size+2) hzy6 (λg hg=>by have h7:=(HX.out.1.lt g hg).1;omega);have hSI:=And.intro ((World.cell?_of_block (a:=⟨w4.heap.size,1,none⟩) hbx).trans y1) (And.intro ((World.cell?_of_block (a:=⟨w.heap.size+1,0,none⟩) hbk).trans p0) (And.intro ((World.cell?_of_block (a:=⟨w.heap.size+1,1,none⟩) hbk).trans p1) (And.intro ((World.cell?_of_block (a:=⟨w.heap.size+1,2,none⟩) hbk).trans p2) ((World.cell?_of_block (a:=⟨w.heap.size+2,0,none⟩) hbr).trans p3))));have hxf:=(World.frozen?_of_block (a:=⟨w4.heap.size,1,none⟩) hbx).trans gx1;have hxw10:w4.heap.size<w10.heap.size:=(by omega)))
     try go_wp2_with fail
     refine hK.out _ _ ?_ (λhHeld=>?_)
     ·(try dsimp only)
      (first|exact hSI|exact hS _ bl)
     clear hK K;refine zrdT (i:=9) 11 62 ?_;refine ZT 10 (by kernel_rfl) rfl (by kernel_rfl) (λK hK=>?_)
     go_simp
     refine hK.out _ _ ?_
     clear hK K;refine Zfa (by kernel_rfl) ?_ _
     have hFi10:∀b,b∈F1++(FN++F2)→w.heap.size+4≤b∧b≠w4.heap.size:=λb hb=>by
      rcases List.mem_append.1 hb with h9|h9
      ·have h8:b∈Fi4:=by rw[hFF];simp[h9]
       have h7:=HX.out.2.1.1 b h8;have h6:=HX.out.2.2.2 b h8
       omega
      ·rcases List.mem_append.1 h9 with h8|h8
       ·have h7:=hfN7 b h8;omega
       ·have h8:b∈Fi4:=by rw[hFF];simp[h8]
        have h7:=HX.out.2.1.1 b h8;have h6:=HX.out.2.2.2 b h8
        omega
     have hat10':∀g,Zac (.slice A10 (n+1) c10)=some g→w.heap.size+4≤g∧g≠w4.heap.size:=λg hg=>by
      rcases hat10 g hg with h9|h9
      ·have h8:=(HX.out.1.lt g h9).1
       have h7:=(HX.out.2.2.1 g h9).2
       omega
      ·(try simp at h9);omega
     obtain⟨FR9,hr9,hw9,hn9⟩:=ho10.rep (hw:=by decide) (hw2:=by decide)
     have hFNw:∀b,b∈FN→w7.heap.size≤b:=λb hb=>(hfN7 b hb).1
     have hnd9:FR9.Nodup:=hn9 (λg hg hm=>by
      rcases hat10 g hg with h9|h9
      ·have h8:=HX.out.2.2.1 g h9
       rcases List.mem_append.1 hm with h7|h7
       ·exact h8.1 (by rw[hFF];simp[h7])
       ·rcases List.mem_append.1 h7 with h6|h6
        ·have h5:=hFNw g h6;omega
        ·exact h8.1 (by rw[hFF];simp[h6])
      ·(try simp at h9)
       rcases List.mem_append.1 hm with h7|h7
       ·have h5:=HX.out.2.2.2 g (by rw[hFF];simp[h7]);omega
       ·rcases List.mem_append.1 h7 with h6|h6
        ·have h5:=(hfN7 g h6).2;omega
        ·have h5:=HX.out.2.2.2 g (by rw[hFF];simp[h6]);omega) (Zog (L:=w7.heap.size) (by have h9:=HX.out.2.1.2;rw[hFF] at h9;exact h9) (λb hb=>by have h9:=HX.out.2.2.2 b (by rw[hFF];exact hb);omega) HND.out hFNw)
     have hlow9:∀b,b∈FR9→w.heap.size+4≤b∧b≠w4.heap.size:=λb hb=>(hw9 b hb).elim (λh9=>hat10' b h9) (λh9=>hFi10 b h9)
     replace hr9:cItemS.rep w10 [.slice A10 (n+1) c10] (s.items.take m++⟨k,r⟩::s.items.drop m) FR9:=hr9
     have hlen9:(s.items.take m++(⟨k,r⟩:TItem)::s.items.drop m).length=n+1:=by
      have h9:=HN.out;simp only[List.length_append,List.length_take,List.length_cons,List.length_drop];omega
     have hB10:Below (w.heap.size+4) w5 w10:=by
      have h1:Below (w.heap.size+4) w5 w9:=(Za hBc hb79).mono (by omega)
      have h2:=h1.trans ((ZM (Below.refl _ w9) (.cells #[.int .i64 k.kind,.int .i64 k.n,.string k.text,.slice B9 r.fields.length c9] 162)).mono (by omega))
      exact h2.grown hg10 (by (try simp);(try omega)) (λg hg=>(HX.out.1.lt g hg).1)
     have Y0:=(World.cell?_of_block (a:=⟨w4.heap.size,0,none⟩) hbx).trans y0
     have Y2:=(World.cell?_of_block (a:=⟨w4.heap.size,2,none⟩) hbx).trans y2
     have K0:=hSI.2.1;have K1:=hSI.2.2.1;have GX2:=(World.frozen?_of_block (a:=⟨w4.heap.size,2,none⟩) hbx).trans gx2
     have H9:=zh (And.intro hr9 (And.intro hlow9 (And.intro hlen9 hnd9)))
     have HB10:=zh hB10;have hn2:¬w4.heap.size=w.heap.size+1:=by omega
     have hkz:w.heap.size+1<w10.heap.size:=by omega
     clear hr9 hw9 ho10 hg10 hat10 hat10' hFi10 hlow9 hlen9 hbl hbx hbk hbr hSI p0 p1 p2 p3 y0 y1 y2 gx1 gx2 hB10
     cases e5:(k.kind==1)
     ·have HA9:=zh (ZoK (s:=s) e5)
      go_wp2_with fail;have hfin:=H9.out.1;have hlow:=H9.out.2.1;have HPO:=zh (show ZbP s k r=⟨s.name,s.items.take m++⟨k,r⟩::s.items.drop m,s.auto⟩ by rw[HP.out,HA9.out])
      have HQ:=zh (show ZnA (w10.setCell ⟨w4.heap.size,1,none⟩ (.slice A10 (n+1) c10)) w4.heap.size (w.heap.size+4) s.name (s.items.take m++⟨k,r⟩::s.items.drop m) s.auto A10 (n+1) c10 FR9∧w4.heap.size<((w10.setCell ⟨w4.heap.size,1,none⟩ (.slice A10 (n+1) c10))).heap.size∧Below (w.heap.size+4) w5 (w10.setCell ⟨w4.heap.size,1,none⟩ (.slice A10 (n+1) c10)) from by
       refine⟨⟨by go_simp,by go_simp,by go_simp,(zks hfin hlow),λb hb=>(hlow b hb).1,H9.out.2.2.2,⟨hok.h0,by first|exact hok.h2|exact hkk.h1⟩⟩,by (try simp);(try omega),?_⟩
       have h9:=HB10.out
       repeat (first|with_reducible exact h9|(with_reducible refine ZcN (by first|omega|(show _≤_;simp;omega)|(show _≤_;omega)) ?_ _)))
      clear hfin hlow HP H9 HB10 HA9 Y0 Y2 K0 K1 hxf GX2;rw[← HN.out] at h
      have HPI:=zh (show ∀b:Bool,Zs ⟨s.name,s.items.take m++⟨k,r⟩::s.items.drop m,s.auto⟩=b→Zca s k r=bif b then (⟨s.name,s.items.take m++⟨k,r⟩::s.items.drop m,s.auto⟩,true) else (s,false) from λb hb=>by rw[← HPO.out] at hb⊢;exact Zig HON.out hb)
      generalize s.items.take m++⟨k,r⟩::s.items.drop m=its at *
      clear HON HPO;generalize (w10.setCell ⟨w4.heap.size,1,none⟩ (.slice A10 (n+1) c10))=w20 at *
      have hbw20:Below w.heap.size w w20:=hbw5.trans (HQ.out.2.2.mono (by omega))
      have hblq:=λb (hb:b<w.heap.size+4)=>HQ.out.2.2.block b hb
      have a0:=(World.cell?_of_block (a:=⟨w.heap.size,0,none⟩) (hblq w.heap.size (by omega))).trans HA5.out.1
      have a1:=(World.cell?_of_block (a:=⟨w.heap.size,1,none⟩) (hblq w.heap.size (by omega))).trans HA5.out.2.1
      have a2:=(World.cell?_of_block (a:=⟨w.heap.size,2,none⟩) (hblq w.heap.size (by omega))).trans HA5.out.2.2
      have d0:=(World.cell?_of_block (a:=⟨w.heap.size+3,0,none⟩) (hblq (w.heap.size+3) (by omega))).trans HD.out.1
      have d1:=(World.cell?_of_block (a:=⟨w.heap.size+3,1,none⟩) (hblq (w.heap.size+3) (by omega))).trans HD.out.2.1
      have d2:=(World.cell?_of_block (a:=⟨w.heap.size+3,2,none⟩) (hblq (w.heap.size+3) (by omega))).trans HD.out.2.2.1
      have fd0:=(World.frozen?_of_block (a:=⟨w.heap.size+3,0,none⟩) (hblq (w.heap.size+3) (by omega))).trans HD.out.2.2.2.1
      have fd1:=(World.frozen?_of_block (a:=⟨w.heap.size+3,1,none⟩) (hblq (w.heap.size+3) (by omega))).trans HD.out.2.2.2.2.1
      have fd2:=(World.frozen?_of_block (a:=⟨w.heap.size+3,2,none⟩) (hblq (w.heap.size+3) (by omega))).trans HD.out.2.2.2.2.2
      have q0:=HQ.out.1.c0;have q1:=HQ.out.1.c1;have q2:=HQ.out.1.c2;have hzq:=HQ.out.2.1;have hz20:w.heap.size+3<w20.heap.size:=by omega
      have hz21:w.heap.size<w20.heap.size:=by omega
      clear hblq;go_wp2_with fail;refine(Zag _ ⟨s.name,its,s.auto⟩ FR9 _ (by exact HQ.out.1.r) HQ.out.1.ok.h0).mono ?_
      cases e7:Zs ⟨s.name,its,s.auto⟩
      ·have HOFF:=zh (HPI.out false e7)
       rintro e w21 ⟨rfl,hb21⟩;obtain⟨hc_w21,hf_w21,hz_w21⟩:=Zc hb21
       try simp at hz_w21
       obtain⟨ha0_w21,ha1_w21,ha2_w21,ha3_w21⟩:=zg4 w.heap.size w21.heap.size;have ha4_w21:w4.heap.size<w21.heap.size:=by omega
       have hb_w21:=zt (w:=w) hb21
       go_wp2_with fail;refine(ZI #[_,_,_] s F _ (by exact TStore.mk_ hok (zb h)) hsm).mono ?_
       intro e w22 hcr;obtain⟨B22,c22,G22,rfl,hb22,-,hr22,hl22⟩:=ZgT hcr;clear hcr;obtain⟨hc_w22,hf_w22,hz_w22⟩:=Zc hb22
       try simp at hz_w22
       obtain⟨ha0_w22,ha1_w22,ha2_w22,ha3_w22⟩:=zg4 w.heap.size w22.heap.size;have hb_w22:=zt (w:=w) hb22
       have HP:=zh (And.intro hr22 hl22)
       have hlow22:∀b,b∈G22→w.heap.size+4≤b:=λb hb=>by have h9:=hl22.1 b hb;(try simp at h9);omega
       go_wp2_with fail;refine bodyPost_ret (v:=.tuple #[.agg #[.string s.name,.slice B22 s.items.length c22,.int .i64 s.auto],.bool false]) (by simp[results,Tryz.results155,go_sem, *]) rfl ?_
       rw[HOFF.out]
       have hfin:cItemS.rep w22 [.slice B22 s.items.length c22] s.items G22:=HP.out.1
       exact⟨_,G22,rfl,bl,TStore.mk_ hok (zks hfin hlow22),⟨Lo.mono hlow22 (by omega),HP.out.2.2⟩⟩
      ·have HOFF:=zh (HPI.out true e7)
       rintro e w21 ⟨rfl,hb21⟩;obtain⟨hc_w21,hf_w21,hz_w21⟩:=Zc hb21
       try simp at hz_w21
       obtain⟨ha0_w21,ha1_w21,ha2_w21,ha3_w21⟩:=zg4 w.heap.size w21.heap.size;have ha4_w21:w4.heap.size<w21.heap.size:=by omega
       have hb_w21:=zt (w:=w) hb21
       go_wp2_with fail;refine bodyPost_ret (v:=.tuple #[.agg #[.string s.name,.slice A10 (n+1) c10,.int .i64 s.auto],.bool true]) (by simp[results,Tryz.results155,go_sem, *]) rfl ?_
       rw[HOFF.out]
       have hfin:cItemS.rep w21 [.slice A10 (n+1) c10] its FR9:=zb HQ.out.1.r hb21
       have hlow:∀b,b∈FR9→w.heap.size+4≤b:=HQ.out.1.lo
       exact⟨_,FR9,rfl,bl,TStore.mk_ HQ.out.1.ok (zks hfin hlow),⟨Lo.mono HQ.out.1.lo (by omega),HQ.out.1.nd⟩⟩
     ·by_cases c1:s.auto<k.n
      ·by_cases c2:k.n≤1000000
       ·have HA9:=zh (ZoL e5 c1 c2)
        go_wp2_with fail;have hfin:=H9.out.1;have hlow:=H9.out.2.1;have HPO:=zh (show ZbP s k r=⟨s.name,s.items.take m++⟨k,r⟩::s.items.drop m,k.n⟩ by rw[HP.out,HA9.out])
        have HQ:=zh (show ZnA ((w10.setCell ⟨w4.heap.size,1,none⟩ (.slice A10 (n+1) c10)).setCell ⟨w4.heap.size,2,none⟩ (.int .i64 k.n)) w4.heap.size (w.heap.size+4) s.name (s.items.take m++⟨k,r⟩::s.items.drop m) k.n A10 (n+1) c10 FR9∧w4.heap.size<(((w10.setCell ⟨w4.heap.size,1,none⟩ (.slice A10 (n+1) c10)).setCell ⟨w4.heap.size,2,none⟩ (.int .i64 k.n))).heap.size∧Below (w.heap.size+4) w5 ((w10.setCell ⟨w4.heap.size,1,none⟩ (.slice A10 (n+1) c10)).setCell ⟨w4.heap.size,2,none⟩ (.int .i64 k.n)) from by
         refine⟨⟨by go_simp,by go_simp,by go_simp,(zks hfin hlow),λb hb=>(hlow b hb).1,H9.out.2.2.2,⟨hok.h0,by first|exact hok.h2|exact hkk.h1⟩⟩,by (try simp);(try omega),?_⟩
         have h9:=HB10.out
         repeat (first|with_reducible exact h9|(with_reducible refine ZcN (by first|omega|(show _≤_;simp;omega)|(show _≤_;omega)) ?_ _)))
        clear hfin hlow HP H9 HB10 HA9 Y0 Y2 K0 K1 hxf GX2;rw[← HN.out] at h
        have HPI:=zh (show ∀b:Bool,Zs ⟨s.name,s.items.take m++⟨k,r⟩::s.items.drop m,k.n⟩=b→Zca s k r=bif b then (⟨s.name,s.items.take m++⟨k,r⟩::s.items.drop m,k.n⟩,true) else (s,false) from λb hb=>by rw[← HPO.out] at hb⊢;exact Zig HON.out hb)
        generalize s.items.take m++⟨k,r⟩::s.items.drop m=its at *
        clear HON HPO;generalize ((w10.setCell ⟨w4.heap.size,1,none⟩ (.slice A10 (n+1) c10)).setCell ⟨w4.heap.size,2,none⟩ (.int .i64 k.n))=w20 at *
        have hbw20:Below w.heap.size w w20:=hbw5.trans (HQ.out.2.2.mono (by omega))
        have hblq:=λb (hb:b<w.heap.size+4)=>HQ.out.2.2.block b hb
        have a0:=(World.cell?_of_block (a:=⟨w.heap.size,0,none⟩) (hblq w.heap.size (by omega))).trans HA5.out.1
        have a1:=(World.cell?_of_block (a:=⟨w.heap.size,1,none⟩) (hblq w.heap.size (by omega))).trans HA5.out.2.1
        have a2:=(World.cell?_of_block (a:=⟨w.heap.size,2,none⟩) (hblq w.heap.size (by omega))).trans HA5.out.2.2
        have d0:=(World.cell?_of_block (a:=⟨w.heap.size+3,0,none⟩) (hblq (w.heap.size+3) (by omega))).trans HD.out.1
        have d1:=(World.cell?_of_block (a:=⟨w.heap.size+3,1,none⟩) (hblq (w.heap.size+3) (by omega))).trans HD.out.2.1
        have d2:=(World.cell?_of_block (a:=⟨w.heap.size+3,2,none⟩) (hblq (w.heap.size+3) (by omega))).trans HD.out.2.2.1
        have fd0:=(World.frozen?_of_block (a:=⟨w.heap.size+3,0,none⟩) (hblq (w.heap.size+3) (by omega))).trans HD.out.2.2.2.1
        have fd1:=(World.frozen?_of_block (a:=⟨w.heap.size+3,1,none⟩) (hblq (w.heap.size+3) (by omega))).trans HD.out.2.2.2.2.1
        have fd2:=(World.frozen?_of_block (a:=⟨w.heap.size+3,2,none⟩) (hblq (w.heap.size+3) (by omega))).trans HD.out.2.2.2.2.2
        have q0:=HQ.out.1.c0;have q1:=HQ.out.1.c1;have q2:=HQ.out.1.c2;have hzq:=HQ.out.2.1;have hz20:w.heap.size+3<w20.heap.size:=by omega
        have hz21:w.heap.size<w20.heap.size:=by omega
        clear hblq;go_wp2_with fail;refine(Zag _ ⟨s.name,its,k.n⟩ FR9 _ (by exact HQ.out.1.r) HQ.out.1.ok.h0).mono ?_
        cases e7:Zs ⟨s.name,its,k.n⟩
        ·have HOFF:=zh (HPI.out false e7)
         rintro e w21 ⟨rfl,hb21⟩;obtain⟨hc_w21,hf_w21,hz_w21⟩:=Zc hb21
         try simp at hz_w21
         obtain⟨ha0_w21,ha1_w21,ha2_w21,ha3_w21⟩:=zg4 w.heap.size w21.heap.size;have ha4_w21:w4.heap.size<w21.heap.size:=by omega
         have hb_w21:=zt (w:=w) hb21
         go_wp2_with fail;refine(ZI #[_,_,_] s F _ (by exact TStore.mk_ hok (zb h)) hsm).mono ?_
         intro e w22 hcr;obtain⟨B22,c22,G22,rfl,hb22,-,hr22,hl22⟩:=ZgT hcr;clear hcr;obtain⟨hc_w22,hf_w22,hz_w22⟩:=Zc hb22
         try simp at hz_w22
         obtain⟨ha0_w22,ha1_w22,ha2_w22,ha3_w22⟩:=zg4 w.heap.size w22.heap.size;have hb_w22:=zt (w:=w) hb22
         have HP:=zh (And.intro hr22 hl22)
         have hlow22:∀b,b∈G22→w.heap.size+4≤b:=λb hb=>by have h9:=hl22.1 b hb;(try simp at h9);omega
         go_wp2_with fail;refine bodyPost_ret (v:=.tuple #[.agg #[.string s.name,.slice B22 s.items.length c22,.int .i64 s.auto],.bool false]) (by simp[results,Tryz.results155,go_sem, *]) rfl ?_
         rw[HOFF.out]
         have hfin:cItemS.rep w22 [.slice B22 s.items.length c22] s.items G22:=HP.out.1
         exact⟨_,G22,rfl,bl,TStore.mk_ hok (zks hfin hlow22),⟨Lo.mono hlow22 (by omega),HP.out.2.2⟩⟩
        ·have HOFF:=zh (HPI.out true e7)
         rintro e w21 ⟨rfl,hb21⟩;obtain⟨hc_w21,hf_w21,hz_w21⟩:=Zc hb21
         try simp at hz_w21
         obtain⟨ha0_w21,ha1_w21,ha2_w21,ha3_w21⟩:=zg4 w.heap.size w21.heap.size;have ha4_w21:w4.heap.size<w21.heap.size:=by omega
         have hb_w21:=zt (w:=w) hb21
         go_wp2_with fail;refine bodyPost_ret (v:=.tuple #[.agg #[.string s.name,.slice A10 (n+1) c10,.int .i64 k.n],.bool true]) (by simp[results,Tryz.results155,go_sem, *]) rfl ?_
         rw[HOFF.out]
         have hfin:cItemS.rep w21 [.slice A10 (n+1) c10] its FR9:=zb HQ.out.1.r hb21
         have hlow:∀b,b∈FR9→w.heap.size+4≤b:=HQ.out.1.lo
         exact⟨_,FR9,rfl,bl,TStore.mk_ HQ.out.1.ok (zks hfin hlow),⟨Lo.mono HQ.out.1.lo (by omega),HQ.out.1.nd⟩⟩
       ·have HA9:=zh (ZlX (s:=s) (k:=k) (λh9=>c2 h9.2))
        go_wp2_with fail;have hfin:=H9.out.1;have hlow:=H9.out.2.1;have HPO:=zh (show ZbP s k r=⟨s.name,s.items.take m++⟨k,r⟩::s.items.drop m,s.auto⟩ by rw[HP.out,HA9.out])
        have HQ:=zh (show ZnA (w10.setCell ⟨w4.heap.size,1,none⟩ (.slice A10 (n+1) c10)) w4.heap.size (w.heap.size+4) s.name (s.items.take m++⟨k,r⟩::s.items.drop m) s.auto A10 (n+1) c10 FR9∧w4.heap.size<((w10.setCell ⟨w4.heap.size,1,none⟩ (.slice A10 (n+1) c10))).heap.size∧Below (w.heap.size+4) w5 (w10.setCell ⟨w4.heap.size,1,none⟩ (.slice A10 (n+1) c10)) from by
         refine⟨⟨by go_simp,by go_simp,by go_simp,(zks hfin hlow),λb hb=>(hlow b hb).1,H9.out.2.2.2,⟨hok.h0,by first|exact hok.h2|exact hkk.h1⟩⟩,by (try simp);(try omega),?_⟩
         have h9:=HB10.out
         repeat (first|with_reducible exact h9|(with_reducible refine ZcN (by first|omega|(show _≤_;simp;omega)|(show _≤_;omega)) ?_ _)))
        clear hfin hlow HP H9 HB10 HA9 Y0 Y2 K0 K1 hxf GX2;rw[← HN.out] at h
        have HPI:=zh (show ∀b:Bool,Zs ⟨s.name,s.items.take m++⟨k,r⟩::s.items.drop m,s.auto⟩=b→Zca s k r=bif b then (⟨s.name,s.items.take m++⟨k,r⟩::s.items.drop m,s.auto⟩,true) else (s,false) from λb hb=>by rw[← HPO.out] at hb⊢;exact Zig HON.out hb)
        generalize s.items.take m++⟨k,r⟩::s.items.drop m=its at *
        clear HON HPO;generalize (w10.setCell ⟨w4.heap.size,1,none⟩ (.slice A10 (n+1) c10))=w20 at *
        have hbw20:Below w.heap.size w w20:=hbw5.trans (HQ.out.2.2.mono (by omega))
        have hblq:=λb (hb:b<w.heap.size+4)=>HQ.out.2.2.block b hb
        have a0:=(World.cell?_of_block (a:=⟨w.heap.size,0,none⟩) (hblq w.heap.size (by omega))).trans HA5.out.1
        have a1:=(World.cell?_of_block (a:=⟨w.heap.size,1,none⟩) (hblq w.heap.size (by omega))).trans HA5.out.2.1
        have a2:=(World.cell?_of_block (a:=⟨w.heap.size,2,none⟩) (hblq w.heap.size (by omega))).trans HA5.out.2.2
        have d0:=(World.cell?_of_block (a:=⟨w.heap.size+3,0,none⟩) (hblq (w.heap.size+3) (by omega))).trans HD.out.1
        have d1:=(World.cell?_of_block (a:=⟨w.heap.size+3,1,none⟩) (hblq (w.heap.size+3) (by omega))).trans HD.out.2.1
        have d2:=(World.cell?_of_block (a:=⟨w.heap.size+3,2,none⟩) (hblq (w.heap.size+3) (by omega))).trans HD.out.2.2.1
        have fd0:=(World.frozen?_of_block (a:=⟨w.heap.size+3,0,none⟩) (hblq (w.heap.size+3) (by omega))).trans HD.out.2.2.2.1
        have fd1:=(World.frozen?_of_block (a:=⟨w.heap.size+3,1,none⟩) (hblq (w.heap.size+3) (by omega))).trans HD.out.2.2.2.2.1
        have fd2:=(World.frozen?_of_block (a:=⟨w.heap.size+3,2,none⟩) (hblq (w.heap.size+3) (by omega))).trans HD.out.2.2.2.2.2
        have q0:=HQ.out.1.c0;have q1:=HQ.out.1.c1;have q2:=HQ.out.1.c2;have hzq:=HQ.out.2.1;have hz20:w.heap.size+3<w20.heap.size:=by omega
        have hz21:w.heap.size<w20.heap.size:=by omega
        clear hblq;go_wp2_with fail;refine(Zag _ ⟨s.name,its,s.auto⟩ FR9 _ (by exact HQ.out.1.r) HQ.out.1.ok.h0).mono ?_
        cases e7:Zs ⟨s.name,its,s.auto⟩
        ·have HOFF:=zh (HPI.out false e7)
         rintro e w21 ⟨rfl,hb21⟩;obtain⟨hc_w21,hf_w21,hz_w21⟩:=Zc hb21
         try simp at hz_w21
         obtain⟨ha0_w21,ha1_w21,ha2_w21,ha3_w21⟩:=zg4 w.heap.size w21.heap.size;have ha4_w21:w4.heap.size<w21.heap.size:=by omega
         have hb_w21:=zt (w:=w) hb21
         go_wp2_with fail;refine(ZI #[_,_,_] s F _ (by exact TStore.mk_ hok (zb h)) hsm).mono ?_
         intro e w22 hcr;obtain⟨B22,c22,G22,rfl,hb22,-,hr22,hl22⟩:=ZgT hcr;clear hcr;obtain⟨hc_w22,hf_w22,hz_w22⟩:=Zc hb22
         try simp at hz_w22
         obtain⟨ha0_w22,ha1_w22,ha2_w22,ha3_w22⟩:=zg4 w.heap.size w22.heap.size;have hb_w22:=zt (w:=w) hb22
         have HP:=zh (And.intro hr22 hl22)
         have hlow22:∀b,b∈G22→w.heap.size+4≤b:=λb hb=>by have h9:=hl22.1 b hb;(try simp at h9);omega
         go_wp2_with fail;refine bodyPost_ret (v:=.tuple #[.agg #[.string s.name,.slice B22 s.items.length c22,.int .i64 s.auto],.bool false]) (by simp[results,Tryz.results155,go_sem, *]) rfl ?_
         rw[HOFF.out]
         have hfin:cItemS.rep w22 [.slice B22 s.items.length c22] s.items G22:=HP.out.1
         exact⟨_,G22,rfl,bl,TStore.mk_ hok (zks hfin hlow22),⟨Lo.mono hlow22 (by omega),HP.out.2.2⟩⟩
        ·have HOFF:=zh (HPI.out true e7)
         rintro e w21 ⟨rfl,hb21⟩;obtain⟨hc_w21,hf_w21,hz_w21⟩:=Zc hb21
         try simp at hz_w21
         obtain⟨ha0_w21,ha1_w21,ha2_w21,ha3_w21⟩:=zg4 w.heap.size w21.heap.size;have ha4_w21:w4.heap.size<w21.heap.size:=by omega
         have hb_w21:=zt (w:=w) hb21
         go_wp2_with fail;refine bodyPost_ret (v:=.tuple #[.agg #[.string s.name,.slice A10 (n+1) c10,.int .i64 s.auto],.bool true]) (by simp[results,Tryz.results155,go_sem, *]) rfl ?_
         rw[HOFF.out]
         have hfin:cItemS.rep w21 [.slice A10 (n+1) c10] its FR9:=zb HQ.out.1.r hb21
         have hlow:∀b,b∈FR9→w.heap.size+4≤b:=HQ.out.1.lo
         exact⟨_,FR9,rfl,bl,TStore.mk_ HQ.out.1.ok (zks hfin hlow),⟨Lo.mono HQ.out.1.lo (by omega),HQ.out.1.nd⟩⟩
      ·have HA9:=zh (ZlX (s:=s) (k:=k) (λh9=>c1 h9.1))
       go_wp2_with fail;have hfin:=H9.out.1;have hlow:=H9.out.2.1;have HPO:=zh (show ZbP s k r=⟨s.name,s.items.take m++⟨k,r⟩::s.items.drop m,s.auto⟩ by rw[HP.out,HA9.out])
       have HQ:=zh (show ZnA (w10.setCell ⟨w4.heap.size,1,none⟩ (.slice A10 (n+1) c10)) w4.heap.size (w.heap.size+4) s.name (s.items.take m++⟨k,r⟩::s.items.drop m) s.auto A10 (n+1) c10 FR9∧w4.heap.size<((w10.setCell ⟨w4.heap.size,1,none⟩ (.slice A10 (n+1) c10))).heap.size∧Below (w.heap.size+4) w5 (w10.setCell ⟨w4.heap.size,1,none⟩ (.slice A10 (n+1) c10)) from by
        refine⟨⟨by go_simp,by go_simp,by go_simp,(zks hfin hlow),λb hb=>(hlow b hb).1,H9.out.2.2.2,⟨hok.h0,by first|exact hok.h2|exact hkk.h1⟩⟩,by (try simp);(try omega),?_⟩
        have h9:=HB10.out
        repeat (first|with_reducible exact h9|(with_reducible refine ZcN (by first|omega|(show _≤_;simp;omega)|(show _≤_;omega)) ?_ _)))
       clear hfin hlow HP H9 HB10 HA9 Y0 Y2 K0 K1 hxf GX2;rw[← HN.out] at h
       have HPI:=zh (show ∀b:Bool,Zs ⟨s.name,s.items.take m++⟨k,r⟩::s.items.drop m,s.auto⟩=b→Zca s k r=bif b then (⟨s.name,s.items.take m++⟨k,r⟩::s.items.drop m,s.auto⟩,true) else (s,false) from λb hb=>by rw[← HPO.out] at hb⊢;exact Zig HON.out hb)
       generalize s.items.take m++⟨k,r⟩::s.items.drop m=its at *
       clear HON HPO;generalize (w10.setCell ⟨w4.heap.size,1,none⟩ (.slice A10 (n+1) c10))=w20 at *
       have hbw20:Below w.heap.size w w20:=hbw5.trans (HQ.out.2.2.mono (by omega))
       have hblq:=λb (hb:b<w.heap.size+4)=>HQ.out.2.2.block b hb
       have a0:=(World.cell?_of_block (a:=⟨w.heap.size,0,none⟩) (hblq w.heap.size (by omega))).trans HA5.out.1
       have a1:=(World.cell?_of_block (a:=⟨w.heap.size,1,none⟩) (hblq w.heap.size (by omega))).trans HA5.out.2.1
       have a2:=(World.cell?_of_block (a:=⟨w.heap.size,2,none⟩) (hblq w.heap.size (by omega))).trans HA5.out.2.2
       have d0:=(World.cell?_of_block (a:=⟨w.heap.size+3,0,none⟩) (hblq (w.heap.size+3) (by omega))).trans HD.out.1
       have d1:=(World.cell?_of_block (a:=⟨w.heap.size+3,1,none⟩) (hblq (w.heap.size+3) (by omega))).trans HD.out.2.1
       have d2:=(World.cell?_of_block (a:=⟨w.heap.size+3,2,none⟩) (hblq (w.heap.size+3) (by omega))).trans HD.out.2.2.1
       have fd0:=(World.frozen?_of_block (a:=⟨w.heap.size+3,0,none⟩) (hblq (w.heap.size+3) (by omega))).trans HD.out.2.2.2.1
       have fd1:=(World.frozen?_of_block (a:=⟨w.heap.size+3,1,none⟩) (hblq (w.heap.size+3) (by omega))).trans HD.out.2.2.2.2.1
       have fd2:=(World.frozen?_of_block (a:=⟨w.heap.size+3,2,none⟩) (hblq (w.heap.size+3) (by omega))).trans HD.out.2.2.2.2.2
       have q0:=HQ.out.1.c0;have q1:=HQ.out.1.c1;have q2:=HQ.out.1.c2;have hzq:=HQ.out.2.1;have hz20:w.heap.size+3<w20.heap.size:=by omega
       have hz21:w.heap.size<w20.heap.size:=by omega
       clear hblq;go_wp2_with fail;refine(Zag _ ⟨s.name,its,s.auto⟩ FR9 _ (by exact HQ.out.1.r) HQ.out.1.ok.h0).mono ?_
       cases e7:Zs ⟨s.name,its,s.auto⟩
       ·have HOFF:=zh (HPI.out false e7)
        rintro e w21 ⟨rfl,hb21⟩;obtain⟨hc_w21,hf_w21,hz_w21⟩:=Zc hb21
        try simp at hz_w21
        obtain⟨ha0_w21,ha1_w21,ha2_w21,ha3_w21⟩:=zg4 w.heap.size w21.heap.size;have ha4_w21:w4.heap.size<w21.heap.size:=by omega
        have hb_w21:=zt (w:=w) hb21
        go_wp2_with fail;refine(ZI #[_,_,_] s F _ (by exact TStore.mk_ hok (zb h)) hsm).mono ?_
        intro e w22 hcr;obtain⟨B22,c22,G22,rfl,hb22,-,hr22,hl22⟩:=ZgT hcr;clear hcr;obtain⟨hc_w22,hf_w22,hz_w22⟩:=Zc hb22
        try simp at hz_w22
        obtain⟨ha0_w22,ha1_w22,ha2_w22,ha3_w22⟩:=zg4 w.heap.size w22.heap.size;have hb_w22:=zt (w:=w) hb22
        have HP:=zh (And.intro hr22 hl22)
        have hlow22:∀b,b∈G22→w.heap.size+4≤b:=λb hb=>by have h9:=hl22.1 b hb;(try simp at h9);omega
        go_wp2_with fail;refine bodyPost_ret (v:=.tuple #[.agg #[.string s.name,.slice B22 s.items.length c22,.int .i64 s.auto],.bool false]) (by simp[results,Tryz.results155,go_sem, *]) rfl ?_
        rw[HOFF.out]
        have hfin:cItemS.rep w22 [.slice B22 s.items.length c22] s.items G22:=HP.out.1
        exact⟨_,G22,rfl,bl,TStore.mk_ hok (zks hfin hlow22),⟨Lo.mono hlow22 (by omega),HP.out.2.2⟩⟩
       ·have HOFF:=zh (HPI.out true e7)
        rintro e w21 ⟨rfl,hb21⟩;obtain⟨hc_w21,hf_w21,hz_w21⟩:=Zc hb21
        try simp at hz_w21
        obtain⟨ha0_w21,ha1_w21,ha2_w21,ha3_w21⟩:=zg4 w.heap.size w21.heap.size;have ha4_w21:w4.heap.size<w21.heap.size:=by omega
        have hb_w21:=zt (w:=w) hb21
        go_wp2_with fail;refine bodyPost_ret (v:=.tuple #[.agg #[.string s.name,.slice A10 (n+1) c10,.int .i64 s.auto],.bool true]) (by simp[results,Tryz.results155,go_sem, *]) rfl ?_
        rw[HOFF.out]
        have hfin:cItemS.rep w21 [.slice A10 (n+1) c10] its FR9:=zb HQ.out.1.r hb21
        have hlow:∀b,b∈FR9→w.heap.size+4≤b:=HQ.out.1.lo
        exact⟨_,FR9,rfl,bl,TStore.mk_ HQ.out.1.ok (zks hfin hlow),⟨Lo.mono HQ.out.1.lo (by omega),HQ.out.1.nd⟩⟩
   ·rw[hfn] at he5
    subst he5;have HP:=zh (Znj (r:=r) hfn hj)
    obtain⟨g,F1,Fm,F2,ws,rfl,-,hnc,hBg,hgw,hgo,hFi,hrj,hcj,hfj,-⟩:=HX.out.1.put1 (by decide) hj 3 (by decide) (.slice none 0 0)
    have hgx:=HX.out.2.2.1 g hgo;obtain⟨v3,F3,rfl,rfl,hokj,hr3⟩:=TItem.out hrj;obtain⟨A3,e3,rfl⟩:=Zb hr3;have g3:w5.cell? ⟨g,j*4+3,none⟩=some (.slice A3 s.items[j].rcd.fields.length e3):=hcj 3 (by decide)
    have gf3:=hfj (j*4+3)
    have hji:(j:Int)<(s.items.length:Int):=by omega
    have hj0:(0:Int)≤(j:Int):=by omega
    have hgx2:g<w4.heap.size:=hgx.2
    have hgx4:¬g=w4.heap.size:=by omega
    clear hcj hfj hrj hr3;go_wp2_with fail;have hS:=λw9 (hb:Below w5.heap.size w5 w9)=>zn3 hb (zcl hb x1) (zcl hb cr0)
    refine ZaE (S:=(λw9=>Below w5.heap.size w5 w9∧w9.cell? ⟨w4.heap.size,1,none⟩=some (.slice (some ⟨g,0,none⟩) s.items.length c4)∧w9.cell? ⟨w.heap.size+2,0,none⟩=some (.slice R r.fields.length cr))) [7] (by kernel_rfl) (by (try dsimp only);exact hS _ bl) (λhHeld=>?_)
    refine zrdT (i:=0) 8 28 ?_;refine zrdT (i:=1) 8 29 ?_;refine zrdT (i:=2) 8 30 ?_;refine zrdT (i:=3) 8 31 ?_;(try simp only[Act.put,zp0,zp1,zp2]);refine ZdW 4 (by kernel_rfl) rfl (λK hK=>?_)
    go_simp
    (go_at_call 166;refine(ZY _ r.fields FR _ (by exact zb hr (Za hbw5 bl)) (by omega)).mono ?_;rintro e w6 ⟨v6,rfl,hb6,ho6⟩;obtain⟨B6,c6,e9⟩:=ho6.slice;subst e9;have hb56:=zt (w:=w5) hb6;have hs6:=hb56.size;have gg3:=zcl (p:=⟨g,j*4+3,none⟩) hb56 g3;have ggf3:=zcf (p:=⟨g,j*4+3,none⟩) hb56 gf3;have hgw6:g<w6.heap.size:=(by omega))
    try go_wp2_with fail
    refine hK.out _ _ ?_ (λhHeld=>?_)
    ·(try dsimp only)
     exact hS _ bl
    clear hK K;refine zrdT (i:=5) 8 33 ?_;refine zrdT (i:=6) 8 34 ?_;refine ZT 7 (by kernel_rfl) rfl (by kernel_rfl) (λK hK=>?_)
    go_simp
    refine hK.out _ _ ?_
    clear hK K;refine Zfa (by kernel_rfl) ?_ _
    obtain⟨FN,hrN,hfN,-⟩:=ho6.fresh (hw:=by decide) (hw2:=by decide)
    have hfN5:∀b,b∈FN→w5.heap.size≤b:=λb hb=>by have h9:=hfN.1 b hb;(try simp at h9);omega
    have hgN:g∉FN:=λhm=>by have h9:=hfN5 g hm;omega
    obtain⟨g',F1',Fm',F2',ws',hA',-,-,-,-,hgo',hFi',hrj',-,-,hput⟩:=(HX.out.1.bel hb56).put1 (by decide) hj 3 (by decide) (.slice B6 r.fields.length c6)
    obtain rfl:g=g':=Option.some.inj (hgo.symm.trans hgo')
    obtain⟨v3',F3',rfl,rfl,hokj',-⟩:=TItem.out hrj'
    have hown:Own cItem 162 (w.heap.size+4) (w6.setCell ⟨g,j*4+3,none⟩ (.slice B6 r.fields.length c6)) (.slice (some ⟨g,0,none⟩) s.items.length c4) (s.items.set j ⟨s.items[j].key,r⟩) (F1'++(FN++F2')) :=
     hput ⟨s.items[j].key,r⟩ FN (HX.out.2.2.1 g hgo).1 (TItem.mk_ (x:=⟨s.items[j].key,r⟩) ⟨hokj'.h0,hokj'.h1,hokj'.h2⟩ (Cod.setA (p:=⟨g,_,none⟩) hrN hgN _))
    have hHW:Below (w.heap.size+4) w5 (w6.setCell ⟨g,j*4+3,none⟩ (.slice B6 r.fields.length c6)):=ZcN (by exact hBg) (hb56.mono (by omega)) _
    obtain⟨hc6,hf6,-⟩:=Zc hb56;have x0':(w6.setCell ⟨g,j*4+3,none⟩ (.slice B6 r.fields.length c6)).cell? ⟨w4.heap.size,0,none⟩=some (.string s.name):=by go_simp
    have x1':(w6.setCell ⟨g,j*4+3,none⟩ (.slice B6 r.fields.length c6)).cell? ⟨w4.heap.size,1,none⟩=some (.slice (some ⟨g,0,none⟩) s.items.length c4):=by go_simp
    have x2':(w6.setCell ⟨g,j*4+3,none⟩ (.slice B6 r.fields.length c6)).cell? ⟨w4.heap.size,2,none⟩=some (.int .i64 s.auto):=by go_simp
    obtain⟨FR9,hr9,hw9,hn9⟩:=hown.rep (hw:=by decide) (hw2:=by decide)
    have hnd9:FR9.Nodup:=hn9 (λg9 hg9 hm=>by
     obtain rfl:g=g9:=Option.some.inj (hgo.symm.trans hg9)
     have h8:=HX.out.2.2.1 g hgo
     rcases List.mem_append.1 hm with h7|h7
     ·exact h8.1 (by rw[hFi'];simp[h7])
     ·rcases List.mem_append.1 h7 with h6|h6
      ·exact hgN h6
      ·exact h8.1 (by rw[hFi'];simp[h6])) (Zjp (L:=w5.heap.size) (by have h9:=HX.out.2.1.2;rw[hFi'] at h9;exact h9) (λb hb=>by have h9:=HX.out.2.2.2 b (by rw[hFi'];exact hb);omega) hfN.2 hfN5)
    have hlow9:∀b,b∈FR9→w.heap.size+4≤b:=λb hb=>(hw9 b hb).elim (λh9=>(hown.lt b h9).1) (λh9=>by
     rcases List.mem_append.1 h9 with h9|h9
     ·exact HX.out.2.1.1 b (by rw[hFi'];simp[h9])
     ·rcases List.mem_append.1 h9 with h9|h9
      ·have h8:=hfN5 b h9;omega
      ·exact HX.out.2.1.1 b (by rw[hFi'];simp[h9]))
    have HPO:=zh HP.out;have HQ:=zh (show ZnA (w6.setCell ⟨g,j*4+3,none⟩ (.slice B6 r.fields.length c6)) w4.heap.size (w.heap.size+4) s.name (s.items.set j ⟨s.items[j].key,r⟩) s.auto (some ⟨g,0,none⟩) s.items.length c4 FR9∧w4.heap.size<(w6.setCell ⟨g,j*4+3,none⟩ (.slice B6 r.fields.length c6)).heap.size∧Below (w.heap.size+4) w5 (w6.setCell ⟨g,j*4+3,none⟩ (.slice B6 r.fields.length c6)) from ⟨⟨x0',x1',x2',hr9,hlow9,hnd9,⟨hok.h0,hok.h2⟩⟩,by (try simp);(try omega),hHW⟩)
    clear hr9 hw9 hown ho6 hrN hfN x0' x1' x2' hput hc6 hf6 HP hHW gg3 ggf3 a0 a1 a2 b0 b1 b2 cr0 x0 x1 x2 fx1 fx2 g3 gf3;have HPI:=zh (show ∀b:Bool,Zs ⟨s.name,s.items.set j ⟨s.items[j].key,r⟩,s.auto⟩=b→Zca s k r=bif b then (⟨s.name,s.items.set j ⟨s.items[j].key,r⟩,s.auto⟩,true) else (s,false) from λb hb=>by rw[← HPO.out] at hb⊢;exact Zig HON.out hb)
    generalize s.items.set j ⟨s.items[j].key,r⟩=its at *
    clear HON HPO;generalize w6.setCell ⟨g,j*4+3,none⟩ (.slice B6 r.fields.length c6)=w20 at *
    have hbw20:Below w.heap.size w w20:=hbw5.trans (HQ.out.2.2.mono (by omega))
    have hblq:=λb (hb:b<w.heap.size+4)=>HQ.out.2.2.block b hb
    have a0:=(World.cell?_of_block (a:=⟨w.heap.size,0,none⟩) (hblq w.heap.size (by omega))).trans HA5.out.1
    have a1:=(World.cell?_of_block (a:=⟨w.heap.size,1,none⟩) (hblq w.heap.size (by omega))).trans HA5.out.2.1
    have a2:=(World.cell?_of_block (a:=⟨w.heap.size,2,none⟩) (hblq w.heap.size (by omega))).trans HA5.out.2.2
    have d0:=(World.cell?_of_block (a:=⟨w.heap.size+3,0,none⟩) (hblq (w.heap.size+3) (by omega))).trans HD.out.1
    have d1:=(World.cell?_of_block (a:=⟨w.heap.size+3,1,none⟩) (hblq (w.heap.size+3) (by omega))).trans HD.out.2.1
    have d2:=(World.cell?_of_block (a:=⟨w.heap.size+3,2,none⟩) (hblq (w.heap.size+3) (by omega))).trans HD.out.2.2.1
    have fd0:=(World.frozen?_of_block (a:=⟨w.heap.size+3,0,none⟩) (hblq (w.heap.size+3) (by omega))).trans HD.out.2.2.2.1
    have fd1:=(World.frozen?_of_block (a:=⟨w.heap.size+3,1,none⟩) (hblq (w.heap.size+3) (by omega))).trans HD.out.2.2.2.2.1
    have fd2:=(World.frozen?_of_block (a:=⟨w.heap.size+3,2,none⟩) (hblq (w.heap.size+3) (by omega))).trans HD.out.2.2.2.2.2
    have q0:=HQ.out.1.c0;have q1:=HQ.out.1.c1;have q2:=HQ.out.1.c2;have hzq:=HQ.out.2.1;have hz20:w.heap.size+3<w20.heap.size:=by omega
    have hz21:w.heap.size<w20.heap.size:=by omega
    clear hblq;go_wp2_with fail;refine(Zag _ ⟨s.name,its,s.auto⟩ FR9 _ (by exact HQ.out.1.r) HQ.out.1.ok.h0).mono ?_
    cases e7:Zs ⟨s.name,its,s.auto⟩
    ·have HOFF:=zh (HPI.out false e7)
     rintro e w21 ⟨rfl,hb21⟩;obtain⟨hc_w21,hf_w21,hz_w21⟩:=Zc hb21
     try simp at hz_w21
     obtain⟨ha0_w21,ha1_w21,ha2_w21,ha3_w21⟩:=zg4 w.heap.size w21.heap.size;have ha4_w21:w4.heap.size<w21.heap.size:=by omega
     have hb_w21:=zt (w:=w) hb21
     go_wp2_with fail;refine(ZI #[_,_,_] s F _ (by exact TStore.mk_ hok (zb h)) hsm).mono ?_
     intro e w22 hcr;obtain⟨B22,c22,G22,rfl,hb22,-,hr22,hl22⟩:=ZgT hcr;clear hcr;obtain⟨hc_w22,hf_w22,hz_w22⟩:=Zc hb22
     try simp at hz_w22
     obtain⟨ha0_w22,ha1_w22,ha2_w22,ha3_w22⟩:=zg4 w.heap.size w22.heap.size;have hb_w22:=zt (w:=w) hb22
     have HP:=zh (And.intro hr22 hl22)
     have hlow22:∀b,b∈G22→w.heap.size+4≤b:=λb hb=>by have h9:=hl22.1 b hb;(try simp at h9);omega
     go_wp2_with fail;refine bodyPost_ret (v:=.tuple #[.agg #[.string s.name,.slice B22 s.items.length c22,.int .i64 s.auto],.bool false]) (by simp[results,Tryz.results155,go_sem, *]) rfl ?_
     rw[HOFF.out]
     have hfin:cItemS.rep w22 [.slice B22 s.items.length c22] s.items G22:=HP.out.1
     exact⟨_,G22,rfl,bl,TStore.mk_ hok (zks hfin hlow22),⟨Lo.mono hlow22 (by omega),HP.out.2.2⟩⟩
    ·have HOFF:=zh (HPI.out true e7)
     rintro e w21 ⟨rfl,hb21⟩;obtain⟨hc_w21,hf_w21,hz_w21⟩:=Zc hb21
     try simp at hz_w21
     obtain⟨ha0_w21,ha1_w21,ha2_w21,ha3_w21⟩:=zg4 w.heap.size w21.heap.size;have ha4_w21:w4.heap.size<w21.heap.size:=by omega
     have hb_w21:=zt (w:=w) hb21
     go_wp2_with fail;refine bodyPost_ret (v:=.tuple #[.agg #[.string s.name,.slice (some ⟨g,0,none⟩) (s.items.length) c4,.int .i64 s.auto],.bool true]) (by simp[results,Tryz.results155,go_sem, *]) rfl ?_
     rw[HOFF.out]
     have hfin:cItemS.rep w21 [.slice (some ⟨g,0,none⟩) (s.items.length) c4] its FR9:=zb HQ.out.1.r hb21
     have hlow:∀b,b∈FR9→w.heap.size+4≤b:=HQ.out.1.lo
     exact⟨_,FR9,rfl,bl,TStore.mk_ HQ.out.1.ok (zks hfin hlow),⟨Lo.mono HQ.out.1.lo (by omega),HQ.out.1.nd⟩⟩
end Go.Proofs.YtghndifnohkokaaGreat
