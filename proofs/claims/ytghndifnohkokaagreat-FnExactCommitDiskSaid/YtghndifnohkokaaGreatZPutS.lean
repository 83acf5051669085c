import Derived.Test.YtghndifnohkokaaGreatZGivesW
import Derived.Test.YtghndifnohkokaaGreatZIsStore
namespace Go.Proofs.YtghndifnohkokaaGreat
open Go.ChangeShapes Go.WideShapes Go.RowKit
set_option linter.unusedVariables false
set_option linter.unusedSimpArgs false
set_option maxRecDepth 100000
set_option maxHeartbeats 16000000
theorem ZlI {s:TStore} {k:TKey} {r:TRec} (h:(Zs s&&ZG k&&Ze r)=false):ZO s k r=(s,false):=by unfold ZO;rw[h];rfl
theorem ZpU {s:TStore} {k:TKey} {r:TRec} {j:Nat} (h:(Zs s&&ZG k&&Ze r)=true) (hf:ZF s k=j) (hj:j<s.items.length):ZO s k r=(⟨s.name,s.items.set j ⟨s.items[j].key,r⟩,s.auto⟩,true):=by
 unfold ZO;rw[h,hf,cond_true,if_pos (by omega),show ((j:Int)).toNat=j from rfl,Zom hj]
theorem Zpf {s:TStore} {k:TKey} {r:TRec} (h:(Zs s&&ZG k&&Ze r)=true) (hf:ZF s k=-1) (hl:16≤s.items.length):ZO s k r=(s,false):=by
 unfold ZO;rw[h,hf,cond_true,if_neg (by omega),if_pos hl]
theorem ZpV {s:TStore} {k:TKey} {r:TRec} (h:(Zs s&&ZG k&&Ze r)=true) (hf:ZF s k=-1) (hl:¬16≤s.items.length):ZO s k r=(Zfg s k r,true):=by
 unfold ZO;rw[h,hf,cond_true,if_neg (by omega),if_neg hl]
theorem Zcz (v vr:Value) (s:TStore) (k:TKey) (r:TRec) (F FR:List Nat) (w:World) (h:cItemS.rep w [v] s.items F) (hr:cFieldS.rep w [vr] r.fields FR) (hok:s.Ok) (hkk:k.Ok) (hsm:ZcE s) (hrl:r.fields.length≤1000000) :
  Calls Tryz.prog 139 #[.agg #[.string s.name,v,.int .i64 s.auto],.agg #[.int .i64 k.kind,.int .i64 k.n,.string k.text],.agg #[vr]] w (Zlr cStore w (ZO s k r).1 (.bool (ZO s k r).2)):=by
 obtain⟨i0,hi0,hz0,hz1,hz2⟩:=info_parts Zds;obtain⟨A,cp,rfl⟩:=Zb h;obtain⟨R,cr,rfl⟩:=Zb hr;obtain⟨-,hcp,hm⟩:=Zq h
 unfold maxLen at hm
 go_enter Tryz.func139,Tryz.ntmps139
 go_wp2_with fail;refine(Zbk _ s F _ (by exact zb h) hok.h0).mono ?_
 cases e1:Zs s
 ·have HOFF:=zh (ZlI (s:=s) (k:=k) (r:=r) (by rw[e1];rfl))
  rintro e w1 ⟨rfl,hb1⟩;obtain⟨hc_w1,hf_w1,hz_w1⟩:=Zc hb1
  try simp at hz_w1
  obtain⟨ha0_w1,ha1_w1,ha2_w1,ha3_w1⟩:=zg4 w.heap.size w1.heap.size;have hb_w1:=zt (w:=w) hb1
  go_wp2_with fail;refine(ZP #[_,_,_] s F _ (by exact TStore.mk_ hok (zb h)) hsm).mono ?_
  intro e w2 hcr;obtain⟨B2,c2,G2,rfl,hb2,-,hr2,hl2⟩:=ZgW hcr;clear hcr;obtain⟨hc_w2,hf_w2,hz_w2⟩:=Zc hb2
  try simp at hz_w2
  obtain⟨ha0_w2,ha1_w2,ha2_w2,ha3_w2⟩:=zg4 w.heap.size w2.heap.size;have hb_w2:=zt (w:=w) hb2
  have HP:=zh (And.intro hr2 hl2)
  have hlow2:∀b,b∈G2→w.heap.size+4≤b:=λb hb=>by have h9:=hl2 b hb;(try simp at h9);omega
  go_wp2_with fail;refine bodyPost_ret (v:=.tuple #[.agg #[.string s.name,.slice B2 s.items.length c2,.int .i64 s.auto],.bool false]) (by simp[results,Tryz.results139,go_sem, *]) rfl ?_
  rw[HOFF.out]
  have hfin:cItemS.rep w2 [.slice B2 s.items.length c2] s.items G2:=HP.out.1
  exact⟨_,G2,rfl,bl,TStore.mk_ hok (zks hfin hlow2),HP.out.2.mono (by (try simp);(try omega))⟩
 ·rintro e w1 ⟨rfl,hb1⟩;obtain⟨hc_w1,hf_w1,hz_w1⟩:=Zc hb1
  try simp at hz_w1
  obtain⟨ha0_w1,ha1_w1,ha2_w1,ha3_w1⟩:=zg4 w.heap.size w1.heap.size;have hb_w1:=zt (w:=w) hb1
  go_wp2_with fail;refine(Zm k _ hkk.h2).mono ?_
  cases e2:ZG k
  ·have HOFF:=zh (ZlI (s:=s) (k:=k) (r:=r) (by rw[e1,e2];rfl))
   rintro e w2 ⟨rfl,hb2⟩;obtain⟨hc_w2,hf_w2,hz_w2⟩:=Zc hb2
   try simp at hz_w2
   obtain⟨ha0_w2,ha1_w2,ha2_w2,ha3_w2⟩:=zg4 w.heap.size w2.heap.size;have hb_w2:=zt (w:=w) hb2
   go_wp2_with fail;refine(ZP #[_,_,_] s F _ (by exact TStore.mk_ hok (zb h)) hsm).mono ?_
   intro e w3 hcr;obtain⟨B3,c3,G3,rfl,hb3,-,hr3,hl3⟩:=ZgW hcr;clear hcr;obtain⟨hc_w3,hf_w3,hz_w3⟩:=Zc hb3
   try simp at hz_w3
   obtain⟨ha0_w3,ha1_w3,ha2_w3,ha3_w3⟩:=zg4 w.heap.size w3.heap.size;have hb_w3:=zt (w:=w) hb3
   have HP:=zh (And.intro hr3 hl3)
   have hlow3:∀b,b∈G3→w.heap.size+4≤b:=λb hb=>by have h9:=hl3 b hb;(try simp at h9);omega
   go_wp2_with fail;refine bodyPost_ret (v:=.tuple #[.agg #[.string s.name,.slice B3 s.items.length c3,.int .i64 s.auto],.bool false]) (by simp[results,Tryz.results139,go_sem, *]) rfl ?_
   rw[HOFF.out]
   have hfin:cItemS.rep w3 [.slice B3 s.items.length c3] s.items G3:=HP.out.1
   exact⟨_,G3,rfl,bl,TStore.mk_ hok (zks hfin hlow3),HP.out.2.mono (by (try simp);(try omega))⟩
  ·rintro e w2 ⟨rfl,hb2⟩;obtain⟨hc_w2,hf_w2,hz_w2⟩:=Zc hb2
   try simp at hz_w2
   obtain⟨ha0_w2,ha1_w2,ha2_w2,ha3_w2⟩:=zg4 w.heap.size w2.heap.size;have hb_w2:=zt (w:=w) hb2
   go_wp2_with fail;refine(Zo _ r.fields FR _ (by exact zb hr)).mono ?_
   cases e3:Ze ⟨r.fields⟩
   ·have HOFF:=zh (ZlI (s:=s) (k:=k) (r:=r) (by rw[e1,e2,show Ze r=false from e3];rfl))
    rintro e w3 ⟨rfl,hb3⟩;obtain⟨hc_w3,hf_w3,hz_w3⟩:=Zc hb3
    try simp at hz_w3
    obtain⟨ha0_w3,ha1_w3,ha2_w3,ha3_w3⟩:=zg4 w.heap.size w3.heap.size;have hb_w3:=zt (w:=w) hb3
    go_wp2_with fail;refine(ZP #[_,_,_] s F _ (by exact TStore.mk_ hok (zb h)) hsm).mono ?_
    intro e w4 hcr;obtain⟨B4,c4,G4,rfl,hb4,-,hr4,hl4⟩:=ZgW hcr;clear hcr;obtain⟨hc_w4,hf_w4,hz_w4⟩:=Zc hb4
    try simp at hz_w4
    obtain⟨ha0_w4,ha1_w4,ha2_w4,ha3_w4⟩:=zg4 w.heap.size w4.heap.size;have hb_w4:=zt (w:=w) hb4
    have HP:=zh (And.intro hr4 hl4)
    have hlow4:∀b,b∈G4→w.heap.size+4≤b:=λb hb=>by have h9:=hl4 b hb;(try simp at h9);omega
    go_wp2_with fail;refine bodyPost_ret (v:=.tuple #[.agg #[.string s.name,.slice B4 s.items.length c4,.int .i64 s.auto],.bool false]) (by simp[results,Tryz.results139,go_sem, *]) rfl ?_
    rw[HOFF.out]
    have hfin:cItemS.rep w4 [.slice B4 s.items.length c4] s.items G4:=HP.out.1
    exact⟨_,G4,rfl,bl,TStore.mk_ hok (zks hfin hlow4),HP.out.2.mono (by (try simp);(try omega))⟩
   ·have HON:=zh (show (Zs s&&ZG k&&Ze r)=true by rw[e1,e2,show Ze r=true from e3];rfl)
    rintro e w3 ⟨rfl,hb3⟩;obtain⟨hc_w3,hf_w3,hz_w3⟩:=Zc hb3
    try simp at hz_w3
    obtain⟨ha0_w3,ha1_w3,ha2_w3,ha3_w3⟩:=zg4 w.heap.size w3.heap.size;have hb_w3:=zt (w:=w) hb3
    have hbw3:=hb_w3;have a0:w3.cell? ⟨w.heap.size,0,none⟩=some (.string s.name):=by go_simp
    have a1:w3.cell? ⟨w.heap.size,1,none⟩=some (.slice A s.items.length cp):=by go_simp
    have a2:w3.cell? ⟨w.heap.size,2,none⟩=some (.int .i64 s.auto):=by go_simp
    have b0:w3.cell? ⟨w.heap.size+1,0,none⟩=some (.int .i64 k.kind):=by go_simp
    have b1:w3.cell? ⟨w.heap.size+1,1,none⟩=some (.int .i64 k.n):=by go_simp
    have b2:w3.cell? ⟨w.heap.size+1,2,none⟩=some (.string k.text):=by go_simp
    have cr0:w3.cell? ⟨w.heap.size+2,0,none⟩=some (.slice R r.fields.length cr):=by go_simp
    have d0:w3.cell? ⟨w.heap.size+3,0,none⟩=some (.string ⟨#[]⟩):=by go_simp
    have d1:w3.cell? ⟨w.heap.size+3,1,none⟩=some (.slice none 0 0):=by go_simp
    have d2:w3.cell? ⟨w.heap.size+3,2,none⟩=some (.int .i64 0):=by go_simp
    have fd0:w3.frozen? ⟨w.heap.size+3,0,none⟩=false:=by go_simp
    have fd1:w3.frozen? ⟨w.heap.size+3,1,none⟩=false:=by go_simp
    have fd2:w3.frozen? ⟨w.heap.size+3,2,none⟩=false:=by go_simp
    clear hc_w1 hf_w1 hb1 hc_w2 hf_w2 hb2 hc_w3 hf_w3 hb3 hb_w1 hb_w2 hz_w1 hz_w2 hz_w3 ha0_w1 ha1_w1 ha2_w1 ha3_w1 ha0_w2 ha1_w2 ha2_w2 ha3_w2;have hz3:w.heap.size+3<w3.heap.size:=ha3_w3
    clear hb_w3;have hz33:=hz3;go_wp2_with fail;refine(ZP #[_,_,_] s F _ (by exact TStore.mk_ hok (zb h)) hsm).mono ?_
    intro e w4 hcr;obtain⟨B4,c4,Fi4,rfl,hb4,-,ho4,hf4,hne4⟩:=Zox hcr;clear hcr;obtain⟨hc_w4,hf_w4,hz_w4⟩:=Zc hb4
    try simp at hz_w4
    obtain⟨ha0_w4,ha1_w4,ha2_w4,ha3_w4⟩:=zg4 w.heap.size w4.heap.size;have hb_w4:=zt (w:=w) hb4
    have hnx4:=λg (hg:Zac (.slice B4 s.items.length c4)=some g)=>ho4.lt g hg
    have HO4:=zh (And.intro ho4 (And.intro hf4 (And.intro hne4 hnx4)))
    clear ho4 hf4 hne4 hnx4;go_wp2_with fail;refine(Zcc _ s k F _ (by exact zb h)).mono ?_
    rintro e w5 ⟨he5,hb5⟩;obtain⟨hc_w5,hf_w5,hz_w5⟩:=Zc hb5
    try simp at hz_w5
    obtain⟨ha0_w5,ha1_w5,ha2_w5,ha3_w5⟩:=zg4 w.heap.size w5.heap.size;have ha4_w5:w4.heap.size<w5.heap.size:=by omega
    have hb_w5:=zt (w:=w) hb5
    have hb45:=zt (w:=w4) hb5
    have a0:w5.cell? ⟨w.heap.size,0,none⟩=some (.string s.name):=by go_simp
    have a1:w5.cell? ⟨w.heap.size,1,none⟩=some (.slice A s.items.length cp):=by go_simp
    have a2:w5.cell? ⟨w.heap.size,2,none⟩=some (.int .i64 s.auto):=by go_simp
    have b0:w5.cell? ⟨w.heap.size+1,0,none⟩=some (.int .i64 k.kind):=by go_simp
    have b1:w5.cell? ⟨w.heap.size+1,1,none⟩=some (.int .i64 k.n):=by go_simp
    have b2:w5.cell? ⟨w.heap.size+1,2,none⟩=some (.string k.text):=by go_simp
    have cr0:w5.cell? ⟨w.heap.size+2,0,none⟩=some (.slice R r.fields.length cr):=by go_simp
    have d0:w5.cell? ⟨w.heap.size+3,0,none⟩=some (.string ⟨#[]⟩):=by go_simp
    have d1:w5.cell? ⟨w.heap.size+3,1,none⟩=some (.slice none 0 0):=by go_simp
    have d2:w5.cell? ⟨w.heap.size+3,2,none⟩=some (.int .i64 0):=by go_simp
    have x0:w5.cell? ⟨w4.heap.size,0,none⟩=some (.string s.name):=by go_simp
    have x1:w5.cell? ⟨w4.heap.size,1,none⟩=some (.slice B4 s.items.length c4):=by go_simp
    have x2:w5.cell? ⟨w4.heap.size,2,none⟩=some (.int .i64 s.auto):=by go_simp
    have fd0:w5.frozen? ⟨w.heap.size+3,0,none⟩=false:=by go_simp
    have fd1:w5.frozen? ⟨w.heap.size+3,1,none⟩=false:=by go_simp
    have fd2:w5.frozen? ⟨w.heap.size+3,2,none⟩=false:=by go_simp
    have fx1:w5.frozen? ⟨w4.heap.size,1,none⟩=false:=by go_simp
    have fx2:w5.frozen? ⟨w4.heap.size,2,none⟩=false:=by go_simp
    have hbw5:Below w.heap.size w w5:=hb_w5
    have hzz4:w.heap.size+3<w4.heap.size:=ha3_w4
    have hzz5:w4.heap.size<w5.heap.size:=ha4_w5
    have HX:=zh (show Own cItem 162 (w.heap.size+4) w5 (.slice B4 s.items.length c4) s.items Fi4∧Fresh (w.heap.size+4) Fi4∧(∀g,Zac (.slice B4 s.items.length c4)=some g→g∉Fi4∧g<w4.heap.size)∧(∀b,b∈Fi4→b<w4.heap.size) from ⟨(HO4.out.1.bel hb45).mono (by (try simp);(try omega)),HO4.out.2.1.mono (by (try simp);(try omega)),λg hg=>⟨HO4.out.2.2.1 g hg,(HO4.out.2.2.2 g hg).2⟩,HO4.out.1.inner_lt⟩)
    clear hc_w4 hf_w4 hb4 hz_w4 ha0_w4 ha1_w4 ha2_w4 ha3_w4 hb_w4 hc_w5 hf_w5 hb5 hz_w5 ha0_w5 ha1_w5 ha2_w5 ha3_w5 ha4_w5 hb_w5 hb45 HO4 hbw3 hz3 ha0_w3 ha1_w3 ha2_w3 ha3_w3
    rcases ZbF s k with hfn|⟨j,hj,hfn⟩
    ·rw[hfn] at he5
     subst he5
     by_cases h16:16≤s.items.length
     ·have HP:=zh (Zpf HON.out hfn h16)
      have hi16:(16:Int)≤(s.items.length:Int):=by omega
      obtain⟨FR9,hr9,hw9,-⟩:=HX.out.1.rep (hw:=by decide) (hw2:=by decide)
      have hlow9:∀b,b∈FR9→w.heap.size+4≤b:=λb hb=>(hw9 b hb).elim (λh9=>(HX.out.1.lt b h9).1) (λh9=>HX.out.2.1.1 b h9)
      have H9:=zh hr9;clear hr9 hw9;go_wp2_with fail;refine bodyPost_ret (v:=.tuple #[.agg #[.string s.name,.slice B4 s.items.length c4,.int .i64 s.auto],.bool false]) (by simp[results,Tryz.results139,go_sem, *]) rfl ?_
      rw[HP.out]
      have hfin:cItemS.rep w5 [.slice B4 s.items.length c4] s.items FR9:=H9.out
      exact⟨_,FR9,rfl,bl,TStore.mk_ hok (zks hfin hlow9),Lo.mono hlow9 (by omega)⟩
     ·have HP:=zh (ZpV HON.out hfn h16)
      have hl16:s.items.length<16:=by omega
      have hi16:(s.items.length:Int)<16:=by omega
      obtain⟨n,hxn⟩:∃n,s.items.length=n:=⟨_,rfl⟩
      have HN:=zh hxn;clear HON hfn;rw[hxn] at h a1 x1 HX hcp hl16 hi16
      clear hxn;have HB:=zh (show Below w.heap.size w w5 from hbw5)
      go_upto_region 10 with (fail)
      go_cut [10] from 10 to 10 (λv wq=>v=.int .i64 0∧w5=wq)
      case first =>
       go_wp2_with fail;go_meet
       case rel=>exact⟨rfl,rfl⟩
      obtain⟨rfl,rfl⟩:=hcut
      apply_assumption
      refine wp_seq_k (λK hK=>?_)
      go_cut [10] from 47 to 64 (λv wq=>v=.int .i64 (ZaW k s.items)∧Below w5.heap.size w5 wq)
      case first =>
       go_wp2_with fail;go_loopw [10] (λi wr=>∃m:Nat,m≤n∧i=.int .i64 m∧ZdA k s.items m=true∧Below w5.heap.size w5 wr) (λi _=>n-(intOf i).toNat)
       case atStart=>exact⟨0,Nat.zero_le _,rfl,Zhv _ _,Below.refl _ _⟩
       case round =>
        obtain⟨m,hm9,rfl,hah,hB⟩:=hrel;have HA:=zh hah;clear hah;have hzr:=hB.size;have hbwr:Below w.heap.size w wr:=Za hbw5 hB
        have y1:wr.cell? ⟨w.heap.size,1,none⟩=some (.slice A n cp):=zcl hB a1
        have z0:wr.cell? ⟨w.heap.size+1,0,none⟩=some (.int .i64 k.kind):=zcl hB b0
        have z1:wr.cell? ⟨w.heap.size+1,1,none⟩=some (.int .i64 k.n):=zcl hB b1
        have z2:wr.cell? ⟨w.heap.size+1,2,none⟩=some (.string k.text):=zcl hB b2
        clear a0 a1 a2 b0 b1 b2 cr0 d0 d1 d2 x0 x1 x2 fd0 fd1 fd2 fx1 fx2;have hwr:Below wr.heap.size wr wr:=Below.refl _ _
        by_cases hlt:m<n
        ·have hmx:m<s.items.length:=by rw[HN.out];exact hlt
         obtain⟨g,o,A3,e3,F3,rfl,hgF,hgr,hok3,q0,q1,q2,q3,r3,-⟩:=ZaO (zb h hbwr) hmx
         have hmi:(m:Int)<(n:Int):=by omega
         by_cases hc:Zf s.items[m].key k<0
         ·have hd2:decide (Zf s.items[m].key k<0)=true:=decide_eq_true hc
          have HS:=zh (Zhu hmx HA.out hc)
          go_wp2_with fail;have hS:=λw9 (hb:Below wr.heap.size wr w9)=>zn8 hb (zcl hb y1) (zcl hb z0) (zcl hb z1) (zcl hb z2) (zcl hb q0) (zcl hb q1) (zcl hb q2)
          refine wp_region_held_drew (S:=(λw9=>Below wr.heap.size wr w9∧w9.cell? ⟨w.heap.size,1,none⟩=some (.slice (some ⟨g,o,none⟩) n cp)∧w9.cell? ⟨w.heap.size+1,0,none⟩=some (.int .i64 k.kind)∧w9.cell? ⟨w.heap.size+1,1,none⟩=some (.int .i64 k.n)∧w9.cell? ⟨w.heap.size+1,2,none⟩=some (.string k.text)∧w9.cell? ⟨g,o+m*4,none⟩=some (.int .i64 s.items[m].key.kind)∧w9.cell? ⟨g,o+m*4+1,none⟩=some (.int .i64 s.items[m].key.n)∧w9.cell? ⟨g,o+m*4+2,none⟩=some (.string s.items[m].key.text))) (by kernel_rfl) (by (try dsimp only);exact hS _ bl) (λhHeld=>?_)
          refine zrd (i:=0) 47 ?_;refine zrd (i:=1) 48 ?_;refine zrd (i:=2) 49 ?_;refine zrd (i:=3) 50 ?_;(try simp only[Act.put,zp0,zp1,zp2]);refine zrd (i:=4) 51 ?_;refine zrd (i:=5) 52 ?_;refine zrd (i:=6) 53 ?_;refine zrd (i:=7) 54 ?_;(try simp only[Act.put,zp0,zp1,zp2]);refine zrd (i:=8) 55 ?_;refine zrd (i:=9) 56 ?_;refine zrd (i:=10) 57 ?_;refine zrd (i:=11) 58 ?_;(try simp only[Act.put,zp0,zp1,zp2]);refine zrd (i:=12) 59 ?_;(try simp only[Act.put,zp0,zp1,zp2]);refine zst 13 (λK hK=>?_)
          go_simp
          (go_at_call 136;refine(ZA s.items[m].key k _ hok3.h2 hkk.h2).mono ?_;rintro e w6 ⟨rfl,hb6⟩;have hr6:=zt (w:=wr) hb6;have hw6:Below w5.heap.size w5 w6:=Za hB hr6)
          try go_wp2_with fail
          refine hK.out _ _ ?_ (λhHeld=>?_)
          ·(try dsimp only)
           exact hS _ bl
          clear hK K;refine zrd (i:=14) 61 ?_;refine zrd (i:=15) 62 ?_;(try simp only[Act.put,zp0,zp1,zp2]);refine wpAnyH_done (by kernel_rfl) ?_ _
          go_wp2_with fail;go_roundw
          case rel=>exact⟨m+1,by omega,by go_num,HS.out,bl⟩
          case measure=>simp[intOf];omega
         ·have hd2:decide (Zf s.items[m].key k<0)=false:=decide_eq_false hc
          have HS:=zh (ZfS hmx HA.out hc)
          go_wp2_with fail;have hS:=λw9 (hb:Below wr.heap.size wr w9)=>zn8 hb (zcl hb y1) (zcl hb z0) (zcl hb z1) (zcl hb z2) (zcl hb q0) (zcl hb q1) (zcl hb q2)
          refine wp_region_held_drew (S:=(λw9=>Below wr.heap.size wr w9∧w9.cell? ⟨w.heap.size,1,none⟩=some (.slice (some ⟨g,o,none⟩) n cp)∧w9.cell? ⟨w.heap.size+1,0,none⟩=some (.int .i64 k.kind)∧w9.cell? ⟨w.heap.size+1,1,none⟩=some (.int .i64 k.n)∧w9.cell? ⟨w.heap.size+1,2,none⟩=some (.string k.text)∧w9.cell? ⟨g,o+m*4,none⟩=some (.int .i64 s.items[m].key.kind)∧w9.cell? ⟨g,o+m*4+1,none⟩=some (.int .i64 s.items[m].key.n)∧w9.cell? ⟨g,o+m*4+2,none⟩=some (.string s.items[m].key.text))) (by kernel_rfl) (by (try dsimp only);exact hS _ bl) (λhHeld=>?_)
          refine zrd (i:=0) 47 ?_;refine zrd (i:=1) 48 ?_;refine zrd (i:=2) 49 ?_;refine zrd (i:=3) 50 ?_;(try simp only[Act.put,zp0,zp1,zp2]);refine zrd (i:=4) 51 ?_;refine zrd (i:=5) 52 ?_;refine zrd (i:=6) 53 ?_;refine zrd (i:=7) 54 ?_;(try simp only[Act.put,zp0,zp1,zp2]);refine zrd (i:=8) 55 ?_;refine zrd (i:=9) 56 ?_;refine zrd (i:=10) 57 ?_;refine zrd (i:=11) 58 ?_;(try simp only[Act.put,zp0,zp1,zp2]);refine zrd (i:=12) 59 ?_;(try simp only[Act.put,zp0,zp1,zp2]);refine zst 13 (λK hK=>?_)
          go_simp
          (go_at_call 136;refine(ZA s.items[m].key k _ hok3.h2 hkk.h2).mono ?_;rintro e w6 ⟨rfl,hb6⟩;have hr6:=zt (w:=wr) hb6;have hw6:Below w5.heap.size w5 w6:=Za hB hr6)
          try go_wp2_with fail
          refine hK.out _ _ ?_ (λhHeld=>?_)
          ·(try dsimp only)
           exact hS _ bl
          clear hK K;refine zrd (i:=14) 61 ?_;refine zrd (i:=15) 62 ?_;(try simp only[Act.put,zp0,zp1,zp2]);refine wpAnyH_done (by kernel_rfl) ?_ _
          go_wp2_with fail;go_meet
          case rel=>exact⟨by rw[HS.out],bl⟩
        ·obtain rfl:m=n:=by omega
         have HS:=zh (Zhy (by rw[HN.out];exact HA.out))
         go_wp2_with fail;have hS:=λw9 (hb:Below wr.heap.size wr w9)=>zn2 hb (zcl hb y1)
         refine wp_region_held_drew (S:=(λw9=>Below wr.heap.size wr w9∧w9.cell? ⟨w.heap.size,1,none⟩=some (.slice A m cp))) (by kernel_rfl) (by (try dsimp only);exact hS _ bl) (λhHeld=>?_)
         refine zrd (i:=0) 47 ?_;refine zrd (i:=1) 48 ?_;refine zrd (i:=2) 49 ?_;refine zrd (i:=3) 50 ?_;(try simp only[Act.put,zp0,zp1,zp2]);refine zrd (i:=4) 51 ?_;refine zrd (i:=5) 52 ?_;refine zsk (i:=6) 53 ?_;refine zsk (i:=7) 54 ?_;(try simp only[Act.put,zp0,zp1,zp2]);refine zsk (i:=8) 55 ?_;refine zsk (i:=9) 56 ?_;refine zsk (i:=10) 57 ?_;refine zsk (i:=11) 58 ?_;(try simp only[Act.put,zp0,zp1,zp2]);refine zsk (i:=12) 59 ?_;refine zsk (i:=13) 60 ?_;refine zsk (i:=14) 61 ?_;refine zrd (i:=15) 62 ?_;(try simp only[Act.put,zp0,zp1,zp2]);refine wpAnyH_done (by kernel_rfl) ?_ _
         go_wp2_with fail;go_meet
         case rel=>exact⟨by rw[HS.out,HN.out],bl⟩
      case rest =>
       obtain⟨rfl,hBc⟩:=hcut;generalize wc=w7 at *
       have hz7:=hBc.size;obtain⟨hc7,hf7,-⟩:=Zc hBc;have hB7:Below w.heap.size w w7:=Za hbw5 hBc
       have hzq:w.heap.size+3<w5.heap.size:=by omega
       have hzq0:w.heap.size<w5.heap.size:=by omega
       have hzx7:w4.heap.size<w7.heap.size:=by omega
       have hzy7:w.heap.size+3<w7.heap.size:=by omega
       have hzy6:w.heap.size+2<w7.heap.size:=by omega
       have hzy5:w.heap.size+1<w7.heap.size:=by omega
       have hzy4:w.heap.size<w7.heap.size:=by omega
       have hzq1:w.heap.size+1<w5.heap.size:=by omega
       have hzq2:w.heap.size+2<w5.heap.size:=by omega
       have p0:=(hc7 _ 0 hzq1).trans b0
       have p1:=(hc7 _ 1 hzq1).trans b1
       have p2:=(hc7 _ 2 hzq1).trans b2
       have p3:=(hc7 _ 0 hzq2).trans cr0
       have pa2:=(hc7 _ 2 hzq0).trans a2
       have y0:=(hc7 _ 0 hzz5).trans x0
       have y1:=(hc7 _ 1 hzz5).trans x1
       have y2:=(hc7 _ 2 hzz5).trans x2
       have e0:=(hc7 _ 0 hzq).trans d0
       have e1':=(hc7 _ 1 hzq).trans d1
       have e2':=(hc7 _ 2 hzq).trans d2
       have ff0:=(hf7 _ 0 hzq).trans fd0
       have ff1:=(hf7 _ 1 hzq).trans fd1
       have ff2:=(hf7 _ 2 hzq).trans fd2
       have gx1:=(hf7 _ 1 hzz5).trans fx1
       have gx2:=(hf7 _ 2 hzz5).trans fx2
       have hown7:=HX.out.1.bel hBc;have hmn:ZaW k s.items≤n:=by have h9:=Zhl k s.items;rw[HN.out] at h9;exact h9
       obtain⟨FR7,hr7,hw7,-⟩:=hown7.rep (hw:=by decide) (hw2:=by decide)
       have hFR7:∀b,b∈FR7→w.heap.size+4≤b∧b<w4.heap.size:=λb hb=>(hw7 b hb).elim (λh9=>⟨(HX.out.1.lt b h9).1,(HX.out.2.2.1 b h9).2⟩) (λh9=>⟨HX.out.2.1.1 b h9,HX.out.2.2.2 b h9⟩)
       clear a0 a1 a2 b0 b1 b2 cr0 d0 d1 d2 x0 x1 x2 fd0 fd1 fd2 fx1 fx2 hc7 hf7;have HFULL:=zh (show Zfg s k r=⟨s.name,s.items.take (ZaW k s.items)++⟨k,r⟩::s.items.drop (ZaW k s.items),ZcU s k⟩ from rfl)
       have hltT:(s.items.take (ZaW k s.items)).length=ZaW k s.items:=by rw[List.length_take];have h9:=HN.out;omega
       have hltD:(s.items.drop (ZaW k s.items)).length=n-ZaW k s.items:=by rw[List.length_drop,HN.out]
       obtain⟨GT,hT,hTs⟩:=Zkl hr7 (ZaW k s.items) hmn
       obtain⟨FyT,hsT,hsTs⟩:=AppSrc.of_rep _ hT;obtain⟨GD,hD,hDs,-⟩:=Zgx hr7 (ZaW k s.items) hmn
       obtain⟨FyD,hsD,hsDs⟩:=AppSrc.of_rep _ hD;have hFT:∀b,b∈FyT→w.heap.size+4≤b∧b<w4.heap.size:=λb hb=>hFR7 b (hTs b (hsTs b hb))
       have hFD:∀b,b∈FyD→w.heap.size+4≤b∧b<w4.heap.size:=λb hb=>hFR7 b (hDs b (hsDs b hb))
       have HSRC:=zh (And.intro hsT hsD)
       have HLEN:=zh (And.intro hltT hltD)
       obtain⟨m,hxm⟩:∃m,ZaW k s.items=m:=⟨_,rfl⟩
       rw[hxm] at HSRC HLEN hmn HFULL⊢
       clear hown7 hr7 hw7 hT hD hTs hDs hsT hsD hsTs hsDs hltT hltD hFR7 HB;have hmi:(m:Int)≤(n:Int):=by omega
       have hc4m:n≤c4∧c4≤maxLen:=by
        rcases HX.out.1.form with ⟨h9,-,A',hv'⟩|⟨g,cap,cur,us,hv',hB',hh,hnc,hcm,-⟩
        ·simp only[Value.slice.injEq] at hv';unfold maxLen;have:=HN.out;rw[h9] at this;simp at this;omega
        ·simp only[Value.slice.injEq] at hv';have:=HN.out;omega
       have hc4x:=hc4m.2
       unfold maxLen at hc4x
       have hc41:=hc4m.1;have hmc:(m:Int)≤(c4:Int):=by omega
       go_wp2_with (at_builtin;refine Ziy ?_)
       refine goB ?_
       refine Zl (c:=cItem) (B:=w7.heap.size) (xs:=[]) (ys:=s.items.take m) (Fi:=[]) (Fy:=FyT) _ rfl _ _ _ rfl i0 _ _ Tryz.underlying122 hi0 hz0 hz1 hz2 rfl (by decide) (v:=.slice (some _) 0 0) rfl (Own.empty _) _ rfl (AppSrc.bel HSRC.out.1 bl) (by unfold maxLen;rw[HLEN.out.1];simp;omega) (by rw[HLEN.out.1];simp;omega) (by (try simp);(try omega)) (by simp[Zac]) ?_
       intro v8 w8 ho8 hg8 hat8;replace ho8:Own cItem 162 w7.heap.size w8 v8 (s.items.take m) FyT:=ho8
       obtain⟨B8,c8,e8⟩:=ho8.slice;rw[HLEN.out.1] at e8
       subst e8;have hb78:Below w7.heap.size w7 w8:=(show Below w7.heap.size w7 (w7.alloc _) from bl).grown hg8 (by (try simp);(try omega)) (by simp[Zac])
       have hz8:=hg8.size;(try simp at hz8)
       have hlt8:=λg hg=>ho8.lt g hg
       have HO8:=zh (And.intro ho8 hlt8)
       clear ho8 hg8 hat8 hlt8;have hB8:Below w.heap.size w w8:=Za hB7 hb78
       obtain⟨hc8,hf8,-⟩:=Zc hb78;have p0':=(hc8 _ 0 hzy5).trans p0
       have p1':=(hc8 _ 1 hzy5).trans p1
       have p2':=(hc8 _ 2 hzy5).trans p2
       have p3':=(hc8 _ 0 hzy6).trans p3
       clear p3;go_wp2_with fail;have hS:=λw9 (hb:Below w8.heap.size w8 w9)=>zn5 hb (zcl hb p0') (zcl hb p1') (zcl hb p2') (zcl hb p3')
       refine ZaE (S:=(λw9=>Below w8.heap.size w8 w9∧w9.cell? ⟨w.heap.size+1,0,none⟩=some (.int .i64 k.kind)∧w9.cell? ⟨w.heap.size+1,1,none⟩=some (.int .i64 k.n)∧w9.cell? ⟨w.heap.size+1,2,none⟩=some (.string k.text)∧w9.cell? ⟨w.heap.size+2,0,none⟩=some (.slice R r.fields.length cr))) [6,7] (by kernel_rfl) (by (try dsimp only);exact hS _ bl) (λhHeld=>?_)
       refine zrdT (i:=0) 8 71 ?_;refine zrdT (i:=1) 8 72 ?_;refine zrdT (i:=2) 8 73 ?_;(try simp only[Act.put,zp0,zp1,zp2]);refine ZdW 3 (by kernel_rfl) rfl (λK hK=>?_)
       go_simp
       (go_at_call 163;refine(Zai _ r.fields FR _ (by exact zb hr (Za hB8 bl)) (by omega)).mono ?_;rintro e w9 ⟨v9,rfl,hb9,ho9⟩;obtain⟨B9,c9,e9⟩:=ho9.slice;subst e9;have hb89:=zt (w:=w8) hb9;have hz9:=hb89.size;obtain⟨FN,hrN,hfN,-⟩:=ho9.fresh (hw:=by decide) (hw2:=by decide);have hfN8:∀b,b∈FN→w8.heap.size≤b∧b<w9.heap.size:=(λb hb=>⟨by have h9:=hfN.1 b hb;(try simp at h9);omega,Cod.lt _ hrN b hb⟩);replace hrN:cFieldS.rep w9 [.slice B9 r.fields.length c9] r.fields FN:=hrN;have HRN:=zh hrN;clear hrN hfN ho9)
       try go_wp2_with fail
       refine hK.out _ _ ?_ (λhHeld=>?_)
       ·(try dsimp only)
        exact hS _ bl
       clear hK K;refine zrdT (i:=4) 8 75 ?_;refine ZdW 5 (by kernel_rfl) rfl (λK hK=>?_)
       first|(go_at_call 163;refine(Zai _ r.fields FR _ (by exact zb hr (Za hB8 bl)) (by omega)).mono ?_;rintro e w9 ⟨v9,rfl,hb9,ho9⟩;obtain⟨B9,c9,e9⟩:=ho9.slice;subst e9;have hb89:=zt (w:=w8) hb9;have hz9:=hb89.size;obtain⟨FN,hrN,hfN,-⟩:=ho9.fresh (hw:=by decide) (hw2:=by decide);have hfN8:∀b,b∈FN→w8.heap.size≤b∧b<w9.heap.size:=(λb hb=>⟨by have h9:=hfN.1 b hb;(try simp at h9);omega,Cod.lt _ hrN b hb⟩);replace hrN:cFieldS.rep w9 [.slice B9 r.fields.length c9] r.fields FN:=hrN;have HRN:=zh hrN;clear hrN hfN ho9)|go_simp
       refine hK.out _ _ ?_ (λhHeld=>?_)
       ·(try dsimp only)
        exact hS _ bl
       clear hK K;refine ZT 6 (by kernel_rfl) rfl (by kernel_rfl) (λK hK=>?_)
       (refine ZcA (c:=cItem) (B:=w7.heap.size) (xs:=s.items.take m) (ys:=[⟨k,r⟩]) (Fi:=FyT) (Fy:=FN) _ rfl _ _ _ rfl i0 _ _ Tryz.underlying122 hi0 hz0 hz1 hz2 rfl (by decide) rfl (HO8.out.1.bel (Za hb89 bl)) (.slice (some ⟨w9.heap.size,0,none⟩) 1 1) rfl (AppSrc.bel (Zcf (w:=w9) (vs:=#[.int .i64 k.kind,.int .i64 k.n,.string k.text,.slice B9 r.fields.length c9]) 162 _ rfl (TItem.mk_ (x:=⟨k,r⟩) ⟨hkk.h0,hkk.h1,hkk.h2⟩ HRN.out)) bl) (by rw[HLEN.out.1];unfold maxLen;simp;omega) (by rw[HLEN.out.1];simp;omega) (by (try simp);(try omega)) (λg hg=>⟨λhm=>by have h9:=(HO8.out.2 g hg).1;have h8:=(hFT g hm).2;omega,λhm=>by have h9:=(HO8.out.2 g hg).2;have h8:=(hfN8 g hm).1;omega⟩) ?_;intro v10 w10 ho10 hg10 hat10;obtain⟨B10,c10,e10⟩:=ho10.slice;rw[List.length_append,List.length_singleton,HLEN.out.1] at e10;subst e10)
       refine hK.out _ _ ?_
       clear hK K;refine ZT 7 (by kernel_rfl) rfl (by kernel_rfl) (λK hK=>?_)
       go_simp
       refine hK.out _ _ ?_
       clear hK K;refine Zfa (by kernel_rfl) ?_ _
       replace ho10:Own cItem 162 w7.heap.size w10 (.slice B10 (m+1) c10) (s.items.take m++[⟨k,r⟩]) (FyT++FN):=ho10
       have hb8x:Below w8.heap.size w8 (w9.alloc (.cells #[.int .i64 k.kind,.int .i64 k.n,.string k.text,.slice B9 r.fields.length c9] 162)):=Za hb89 bl
       have hb710:Below w7.heap.size w7 w10:=(Za hb78 hb8x).grown hg10 (by (try simp);(try omega)) (λg hg=>(HO8.out.2 g hg).1)
       have hat10':∀g,Zac (.slice B10 (m+1) c10)=some g→w7.heap.size≤g∧g∉FN:=λg hg=>by
        rcases hat10 g hg with h9|h9
        ·have h8:=HO8.out.2 g h9;exact⟨h8.1,λhm=>by have h7:=(hfN8 g hm).1;omega⟩
        ·(try simp at h9)
         exact⟨by omega,λhm=>by have h7:=(hfN8 g hm).2;omega⟩
       have hz10:=hg10.size;(try simp at hz10)
       have hlt10:∀g,Zac (.slice B10 (m+1) c10)=some g→g<w10.heap.size:=λg hg=>(ho10.lt g hg).2
       have HO10:=zh (And.intro ho10 (And.intro hat10' hlt10))
       clear ho10 hg10 hat10 hat10' hlt10 hc8 hf8 hb8x;have hB10:Below w.heap.size w w10:=Za hB7 hb710
       obtain⟨hc10,hf10,-⟩:=Zc hb710;have y1':=(hc10 _ 1 hzx7).trans y1
       have hz710:=hb710.size;have hl16':(s.items.take m++[(⟨k,r⟩:TItem)]).length=m+1:=by rw[List.length_append,HLEN.out.1];rfl
       have HL16:=zh hl16';clear hl16'
       by_cases hcm:c4=m
       all_goals
        go_wp2_with (at_builtin;refine Ziy ?_)
        refine goB ?_
        refine Zl (c:=cItem) (B:=w7.heap.size) (xs:=s.items.take m++[(⟨k,r⟩:TItem)]) (ys:=s.items.drop m) (Fi:=FyT++FN) (Fy:=FyD) _ rfl _ _ _ rfl i0 _ _ Tryz.underlying122 hi0 hz0 hz1 hz2 rfl (by decide) rfl HO10.out.1 _ rfl (by have h9:=AppSrc.bel HSRC.out.2 hb710;(simp only[hcm,if_true,if_false,↓reduceIte] at h9);first|exact h9|((simp only[Nat.sub_self] at h9);exact h9)) (by rw[HL16.out,HLEN.out.2];unfold maxLen;omega) (by rw[HL16.out,HLEN.out.2];omega) (by omega) (λg hg=>⟨λhm=>by
         have h8:=HO10.out.2.1 g hg
         rcases List.mem_append.1 hm with h9|h9
         ·have h7:=(hFT g h9).2;omega
         ·exact h8.2 h9,λhm=>by have h9:=(HO10.out.2.1 g hg).1;have h8:=(hFD g hm).2;omega⟩) ?_
        intro v11 w11 ho11 hg11 hat11;have hl17:((s.items.take m++[(⟨k,r⟩:TItem)])++s.items.drop m).length=n+1:=by rw[List.length_append,HL16.out,HLEN.out.2];omega
        obtain⟨B11,c11,e11⟩:=ho11.slice;rw[hl17] at e11
        subst e11;have hb711:Below w7.heap.size w7 w11:=hb710.grown hg11 (by omega) (λg hg=>(HO10.out.2.1 g hg).1)
        have hz11:=hb711.size;have hat11':∀g,Zac (.slice B11 (n+1) c11)=some g→w7.heap.size≤g:=λg hg=>(hat11 g hg).elim (λh9=>(HO10.out.2.1 g h9).1) (λh9=>by omega)
        have hFi11:∀b,b∈(FyT++FN)++FyD→w.heap.size+4≤b∧b≠w4.heap.size:=λb hb=>by
         rcases List.mem_append.1 hb with h9|h9
         ·rcases List.mem_append.1 h9 with h8|h8
          ·have h7:=hFT b h8;omega
          ·have h7:=hfN8 b h8;omega
         ·have h7:=hFD b h9;omega
        rw[List.append_assoc,List.singleton_append] at ho11
        obtain⟨FR9,hr9,hw9,-⟩:=ho11.rep (hw:=by decide) (hw2:=by decide)
        have hlow9:∀b,b∈FR9→w.heap.size+4≤b∧b≠w4.heap.size:=λb hb=>(hw9 b hb).elim (λh9=>by have h8:=hat11' b h9;omega) (λh9=>hFi11 b h9)
        replace hr9:cItemS.rep w11 [.slice B11 (n+1) c11] (s.items.take m++⟨k,r⟩::s.items.drop m) FR9:=hr9
        have H9:=zh hr9;clear ho11 hg11 hat11 hat11' hFi11 hr9 hw9 hc10 hf10;have hB11:Below w.heap.size w w11:=Za hB7 hb711
        obtain⟨hc11,hf11,-⟩:=Zc hb711;have P0:=(hc11 _ 0 hzy5).trans p0
        have P1:=(hc11 _ 1 hzy5).trans p1
        have PA:=(hc11 _ 2 hzy4).trans pa2
        have Y0:=(hc11 _ 0 hzx7).trans y0
        have Y1:=(hc11 _ 1 hzx7).trans y1
        have Y2:=(hc11 _ 2 hzx7).trans y2
        have E0:=(hc11 _ 0 hzy7).trans e0
        have E1:=(hc11 _ 1 hzy7).trans e1'
        have E2:=(hc11 _ 2 hzy7).trans e2'
        have FF0:=(hf11 _ 0 hzy7).trans ff0
        have FF1:=(hf11 _ 1 hzy7).trans ff1
        have FF2:=(hf11 _ 2 hzy7).trans ff2
        have GX1:=(hf11 _ 1 hzx7).trans gx1
        have GX2:=(hf11 _ 2 hzx7).trans gx2
        clear p0 p1 p2 p0' p1' p2' p3' pa2 y0 y1 y2 y1' e0 e1' e2' ff0 ff1 ff2 gx1 gx2 hc11 hf11;have hx11:w4.heap.size<w11.heap.size:=by omega
        have hx12:w.heap.size+3<w11.heap.size:=by omega
        have hx13:w.heap.size+1<w11.heap.size:=by omega
        have hx14:w.heap.size<w11.heap.size:=by omega
        have hn1:¬w4.heap.size=w.heap.size+3:=by omega
        have hn2:¬w4.heap.size=w.heap.size+1:=by omega
        have hn3:¬w4.heap.size=w.heap.size:=by omega
        have hau:=((ZbW s).1 e1).2.2.2
        have hwa:IntKind.i64.wrap (s.auto+1)=s.auto+1:=IntWalk.i64_in _ (by omega)
        have HAU:=zh (show ZcU s k=bif k.kind==1&&inR k.n (s.auto+1) 1000000 then k.n else s.auto from rfl)
        have hinr:=λW:World=>Zbf k.n (s.auto+1) 1000000 W
        cases e5:(k.kind==1)
        ·have HA9:=zh (show ZcU s k=s.auto by rw[HAU.out,e5];rfl)
         go_wp2_with fail;refine bodyPost_ret (v:=.tuple #[.agg #[.string s.name,.slice B11 (n+1) c11,.int .i64 s.auto],.bool true]) (by simp[results,Tryz.results139,go_sem, *]) rfl ?_
         rw[HP.out,HFULL.out,HA9.out]
         have hfin:cItemS.rep w11 [.slice B11 (n+1) c11] (s.items.take m++⟨k,r⟩::s.items.drop m) FR9:=H9.out
         exact⟨_,FR9,rfl,bl,TStore.mk_ (x:=⟨s.name,s.items.take m++⟨k,r⟩::s.items.drop m,s.auto⟩) ⟨hok.h0,by first|exact hok.h2|exact hkk.h1⟩ (zks hfin hlow9),λb hb=>by have h9:=(hlow9 b hb).1;omega⟩
        ·cases e6:inR k.n (s.auto+1) 1000000
         ·rw[e6] at hinr
          have HA9:=zh (show ZcU s k=s.auto by rw[HAU.out,e5,e6];rfl)
          go_wp2_with (first|(go_at_call 106;refine(hinr _).mono ?_;rintro e w1 ⟨rfl,rfl⟩))
          refine bodyPost_ret (v:=.tuple #[.agg #[.string s.name,.slice B11 (n+1) c11,.int .i64 s.auto],.bool true]) (by simp[results,Tryz.results139,go_sem, *]) rfl ?_
          rw[HP.out,HFULL.out,HA9.out]
          have hfin:cItemS.rep w11 [.slice B11 (n+1) c11] (s.items.take m++⟨k,r⟩::s.items.drop m) FR9:=H9.out
          exact⟨_,FR9,rfl,bl,TStore.mk_ (x:=⟨s.name,s.items.take m++⟨k,r⟩::s.items.drop m,s.auto⟩) ⟨hok.h0,by first|exact hok.h2|exact hkk.h1⟩ (zks hfin hlow9),λb hb=>by have h9:=(hlow9 b hb).1;omega⟩
         ·rw[e6] at hinr
          have HA9:=zh (show ZcU s k=k.n by rw[HAU.out,e5,e6];rfl)
          go_wp2_with (first|(go_at_call 106;refine(hinr _).mono ?_;rintro e w1 ⟨rfl,rfl⟩))
          refine bodyPost_ret (v:=.tuple #[.agg #[.string s.name,.slice B11 (n+1) c11,.int .i64 k.n],.bool true]) (by simp[results,Tryz.results139,go_sem, *]) rfl ?_
          rw[HP.out,HFULL.out,HA9.out]
          have hfin:cItemS.rep w11 [.slice B11 (n+1) c11] (s.items.take m++⟨k,r⟩::s.items.drop m) FR9:=H9.out
          exact⟨_,FR9,rfl,bl,TStore.mk_ (x:=⟨s.name,s.items.take m++⟨k,r⟩::s.items.drop m,k.n⟩) ⟨hok.h0,by first|exact hok.h2|exact hkk.h1⟩ (zks hfin hlow9),λb hb=>by have h9:=(hlow9 b hb).1;omega⟩
    ·rw[hfn] at he5
     subst he5;have HP:=zh (ZpU HON.out hfn hj)
     obtain⟨g,F1,Fm,F2,ws,rfl,-,hnc,hBg,hgw,hgo,hFi,hrj,hcj,hfj,-⟩:=HX.out.1.put1 (by decide) hj 3 (by decide) (.slice none 0 0)
     have hgx:=HX.out.2.2.1 g hgo;obtain⟨v3,F3,rfl,rfl,hokj,hr3⟩:=TItem.out hrj;obtain⟨A3,e3,rfl⟩:=Zb hr3;have g3:w5.cell? ⟨g,j*4+3,none⟩=some (.slice A3 s.items[j].rcd.fields.length e3):=hcj 3 (by decide)
     have gf3:=hfj (j*4+3)
     have hji:(j:Int)<(s.items.length:Int):=by omega
     have hgx2:g<w4.heap.size:=hgx.2
     have hgx4:¬g=w4.heap.size:=by omega
     clear hcj hfj hrj hr3;go_wp2_with fail;have hbY:Below w5.heap.size w5 w5:=Below.refl _ _
     have hS:=λw9 (hb:Below w5.heap.size w5 w9)=>zn3 hb (zcl hb x1) (zcl hb cr0)
     refine ZaE (S:=(λw9=>Below w5.heap.size w5 w9∧w9.cell? ⟨w4.heap.size,1,none⟩=some (.slice (some ⟨g,0,none⟩) s.items.length c4)∧w9.cell? ⟨w.heap.size+2,0,none⟩=some (.slice R r.fields.length cr))) [7] (by kernel_rfl) (by (try dsimp only);exact hS _ bl) (λhHeld=>?_)
     refine zrdT (i:=0) 8 34 ?_;refine zrdT (i:=1) 8 35 ?_;refine zrdT (i:=2) 8 36 ?_;refine zrdT (i:=3) 8 37 ?_;(try simp only[Act.put,zp0,zp1,zp2]);refine ZdW 4 (by kernel_rfl) rfl (λK hK=>?_)
     go_simp
     (go_at_call 163;refine(Zai _ r.fields FR _ (by exact zb hr (Za hbw5 bl)) (by omega)).mono ?_;rintro e w6 ⟨v6,rfl,hb6,ho6⟩;obtain⟨B6,c6,e9⟩:=ho6.slice;subst e9;have hb56:=zt (w:=w5) hb6;have hs6:=hb56.size;have gg3:=zcl (p:=⟨g,j*4+3,none⟩) hb56 g3;have ggf3:=zcf (p:=⟨g,j*4+3,none⟩) hb56 gf3;have hgw6:g<w6.heap.size:=(by omega))
     try go_wp2_with fail
     refine hK.out _ _ ?_ (λhHeld=>?_)
     ·(try dsimp only)
      exact hS _ bl
     clear hK K;refine zrdT (i:=5) 8 39 ?_;refine zrdT (i:=6) 8 40 ?_;refine ZT 7 (by kernel_rfl) rfl (by kernel_rfl) (λK hK=>?_)
     go_simp
     refine hK.out _ _ ?_
     clear hK K;refine Zfa (by kernel_rfl) ?_ _
     obtain⟨FN,hrN,hfN,-⟩:=ho6.fresh (hw:=by decide) (hw2:=by decide)
     have hfN5:∀b,b∈FN→w5.heap.size≤b:=λb hb=>by have h9:=hfN.1 b hb;(try simp at h9);omega
     have hgN:g∉FN:=λhm=>by have h9:=hfN5 g hm;omega
     obtain⟨g',F1',Fm',F2',ws',hA',-,-,-,-,hgo',hFi',hrj',-,-,hput⟩:=(HX.out.1.bel hb56).put1 (by decide) hj 3 (by decide) (.slice B6 r.fields.length c6)
     obtain rfl:g=g':=Option.some.inj (hgo.symm.trans hgo')
     obtain⟨v3',F3',rfl,rfl,hokj',-⟩:=TItem.out hrj'
     have hown:Own cItem 162 (w.heap.size+4) (w6.setCell ⟨g,j*4+3,none⟩ (.slice B6 r.fields.length c6)) (.slice (some ⟨g,0,none⟩) s.items.length c4) (s.items.set j ⟨s.items[j].key,r⟩) (F1'++(FN++F2')) :=
      hput ⟨s.items[j].key,r⟩ FN (HX.out.2.2.1 g hgo).1 (TItem.mk_ (x:=⟨s.items[j].key,r⟩) ⟨hokj'.h0,hokj'.h1,hokj'.h2⟩ (Cod.setA (p:=⟨g,_,none⟩) hrN hgN _))
     have hzw6:w5.heap.size≤w6.heap.size:=hs6
     have hHW:Below w.heap.size w (w6.setCell ⟨g,j*4+3,none⟩ (.slice B6 r.fields.length c6)):=ZeZ (Za hbw5 hb56) (by (try simp);(try omega)) _
     obtain⟨hc6,hf6,-⟩:=Zc hb56;have x0':(w6.setCell ⟨g,j*4+3,none⟩ (.slice B6 r.fields.length c6)).cell? ⟨w4.heap.size,0,none⟩=some (.string s.name):=by go_simp
     have x1':(w6.setCell ⟨g,j*4+3,none⟩ (.slice B6 r.fields.length c6)).cell? ⟨w4.heap.size,1,none⟩=some (.slice (some ⟨g,0,none⟩) s.items.length c4):=by go_simp
     have x2':(w6.setCell ⟨g,j*4+3,none⟩ (.slice B6 r.fields.length c6)).cell? ⟨w4.heap.size,2,none⟩=some (.int .i64 s.auto):=by go_simp
     have hgw3:¬g=w.heap.size+3:=by omega
     have hzz3:w.heap.size+3<w5.heap.size:=by omega
     have d0':(w6.setCell ⟨g,j*4+3,none⟩ (.slice B6 r.fields.length c6)).cell? ⟨w.heap.size+3,0,none⟩=some (.string ⟨#[]⟩):=by go_simp
     have d1':(w6.setCell ⟨g,j*4+3,none⟩ (.slice B6 r.fields.length c6)).cell? ⟨w.heap.size+3,1,none⟩=some (.slice none 0 0):=by go_simp
     have d2':(w6.setCell ⟨g,j*4+3,none⟩ (.slice B6 r.fields.length c6)).cell? ⟨w.heap.size+3,2,none⟩=some (.int .i64 0):=by go_simp
     have fd0':(w6.setCell ⟨g,j*4+3,none⟩ (.slice B6 r.fields.length c6)).frozen? ⟨w.heap.size+3,0,none⟩=false:=by go_simp
     have fd1':(w6.setCell ⟨g,j*4+3,none⟩ (.slice B6 r.fields.length c6)).frozen? ⟨w.heap.size+3,1,none⟩=false:=by go_simp
     have fd2':(w6.setCell ⟨g,j*4+3,none⟩ (.slice B6 r.fields.length c6)).frozen? ⟨w.heap.size+3,2,none⟩=false:=by go_simp
     have hzw:w4.heap.size<(w6.setCell ⟨g,j*4+3,none⟩ (.slice B6 r.fields.length c6)).heap.size:=by (try simp);omega
     clear hc6 hf6 gg3 ggf3 hput;generalize w6.setCell ⟨g,j*4+3,none⟩ (.slice B6 r.fields.length c6)=w7 at *
     obtain⟨FR9,hr9,hw9,-⟩:=hown.rep (hw:=by decide) (hw2:=by decide)
     have hlow9:∀b,b∈FR9→w.heap.size+4≤b:=λb hb=>(hw9 b hb).elim (λh9=>(hown.lt b h9).1) (λh9=>by
      rcases List.mem_append.1 h9 with h9|h9
      ·exact HX.out.2.1.1 b (by rw[hFi'];simp[h9])
      ·rcases List.mem_append.1 h9 with h9|h9
       ·have h8:=hfN5 b h9;omega
       ·exact HX.out.2.1.1 b (by rw[hFi'];simp[h9]))
     have H9:=zh hr9;clear hr9 hw9 hown ho6 hrN hfN;have hzw2:w.heap.size+3<w7.heap.size:=by omega
     go_wp2_with fail;refine bodyPost_ret (v:=.tuple #[.agg #[.string s.name,.slice (some ⟨g,0,none⟩) s.items.length c4,.int .i64 s.auto],.bool true]) (by simp[results,Tryz.results139,go_sem, *]) rfl ?_
     rw[HP.out]
     have hfin:cItemS.rep w7 [.slice (some ⟨g,0,none⟩) s.items.length c4] (s.items.set j ⟨s.items[j].key,r⟩) FR9:=H9.out
     exact⟨_,FR9,rfl,bl,TStore.mk_ (x:=⟨s.name,s.items.set j ⟨s.items[j].key,r⟩,s.auto⟩) ⟨hok.h0,hok.h2⟩ (zks hfin hlow9),Lo.mono hlow9 (by omega)⟩
end Go.Proofs.YtghndifnohkokaaGreat
