import Derived.Test.YtghndifnohkokaaGreatZEncOpsP
namespace Go.Proofs.YtghndifnohkokaaGreat
open Go.ChangeShapes Go.WideShapes Go.RowKit
set_option linter.unusedVariables false
set_option linter.unusedSimpArgs false
set_option maxRecDepth 100000
set_option maxHeartbeats 16000000
theorem ZdK (vl:Value) (l:List TOp) (FL:List Nat) (w:World) (hl:cOpS.rep w [vl] l FL) (hln:l.length≤1048576) :
  Calls Tryz.prog 33 #[vl] w (Zeh cU 5 w (Zn l)):=by
 obtain⟨LA,lc,rfl⟩:=Zb hl;obtain⟨-,hlc,hm⟩:=Zq hl
 unfold maxLen at hm
 obtain⟨n,hxn⟩:∃n,l.length=n:=⟨_,rfl⟩
 have HN:=zh hxn;rw[hxn] at hlc hl hln⊢
 clear hxn;go_enter Tryz.func33,Tryz.ntmps33
 go_wp2_with fail;refine(ZS _ [] n _ _ (by exact ZbQ _ _) (by simp)).mono ?_
 rw[Zhk [] (by omega),List.nil_append]
 rintro e w2 ⟨v2,rfl,hb2,ho2⟩;have hB2:=zt (w:=w) hb2
 have HO2:=zh (ho2.mono (show w.heap.size≤_ by (try simp);(try omega)))
 clear ho2 hb2;have hul:=Zax 5 n (by omega)
 have hup:=ZfR n;generalize hxu:ZJ n=xu at *
 have HXU:=zh hxu;clear hxu;go_wp2_with fail;go_loopw [3,4] (λout i wr=>∃k:Nat,k≤n∧i=.int .i64 k∧(∀j (hj:j<l.length),j<k→ZdR l[j]=true)∧Own cU 5 w.heap.size wr out (xu++ZiI l k) []∧Below w.heap.size w wr) (λ_ i _=>n-(intOf i).toNat)
 case atStart=>exact⟨0,Nat.zero_le _,rfl,λj hj h=>by omega,by rw[Zic,List.append_nil];exact HO2.out,hB2⟩
 case round =>
  obtain⟨k,hk,rfl,hall,hown,hbw⟩:=hrel;have HA:=zh hall;obtain⟨Ak,dk,e9⟩:=hown.slice;subst e9;have hol:=Zho (l:=l) (k:=k) (by rw[HN.out];omega) hall
  have hfl:(xu++ZiI l k).length≤210000010:=by rw[List.length_append];omega
  obtain⟨FK,hrK,-,-⟩:=hown.fresh (hw:=by decide) (hw2:=by decide)
  have HK:=zh (And.intro hown hrK)
  have hzw:=hbw.size;clear hall hB2 hol
  by_cases hlt:k<n
  ·have hkx:k<l.length:=by rw[HN.out];exact hlt
   have hsucc:=Zib hkx;have hki:((k:Int)<(n:Int)):=by omega
   have hk0:(0:Int)≤(k:Int):=by omega
   obtain⟨g,o,A3,c3,F3,rfl,hgF,hgr,hok3,p0,p1,p2,p3,p4,p5,p6,r3,-⟩:=Zoi (zb hl hbw) hkx
   have HR3:=zh r3;generalize hx:xu++ZiI l k=x at *
   have HX:=zh (show xu++ZiI l (k+1)=x++ZbK l[k] by rw[hsucc,← hx,List.append_assoc])
   clear hown hrK hsucc hx r3;go_wp2_with fail;refine(ZgS _ l[k] F3 _ (by exact zb HR3.out) hok3).mono ?_
   cases e1:ZdR l[k]
   ·have HE:=zh (ZnL (Zpr hkx e1))
    rintro e w1 ⟨rfl,hb1⟩;have hB1:Below w.heap.size w w1:=Za hbw (zt hb1)
    go_wp2_with fail;go_ret
    exact⟨_,rfl,bl,by rw[HE.out];exact Own.empty _⟩
   ·rintro e w1 ⟨rfl,hb1⟩;have HOP:=zh e1;have hbr1:=zt (w:=wr) hb1
    have hz11:=hbr1.size;have hpl:=ZfB e1;have hkl:=ZcX l[k].key
    have hrl:=ZbY l[k].rcd
    have hst:(Zp l[k].store).length≤8:=hpl.2.1
    have hfd:(Zp l[k].field).length≤8:=hpl.2.2
    have hstm:l[k].store.size≤maxLen:=Nat.le_trans hst (by decide)
    have hfdm:l[k].field.size≤maxLen:=Nat.le_trans hfd (by decide)
    have hu6:=Zax 5 l[k].kind.toNat (by omega)
    have hs14:=ZbG (Zp l[k].store) (by omega)
    have hk25:=ZbG (ZE l[k].key) (by omega)
    have hr91:=ZbG (Zx l[k].rcd) (by omega)
    have hx1:(x++ZJ l[k].kind.toNat).length≤210000030:=by rw[List.length_append];omega
    have hx2:(x++ZJ l[k].kind.toNat++ZB (Zp l[k].store)).length≤210000060:=by rw[List.length_append];omega
    have hx3:(x++ZJ l[k].kind.toNat++ZB (Zp l[k].store)++ZB (ZE l[k].key)).length≤210000090:=by rw[List.length_append];omega
    have hx4:(x++ZJ l[k].kind.toNat++ZB (Zp l[k].store)++ZB (ZE l[k].key)++ZB (Zx l[k].rcd)).length≤210000290:=by rw[List.length_append];omega
    have HX5:=zh (show x++ZJ l[k].kind.toNat++ZB (Zp l[k].store)++ZB (ZE l[k].key)++ZB (Zx l[k].rcd)++ZB (Zp l[k].field)=x++ZbK l[k] by unfold ZbK;simp only[List.append_assoc])
    generalize hz1:x++ZJ l[k].kind.toNat=y1 at *
    generalize hz2:y1++ZB (Zp l[k].store)=y2 at *
    generalize hz3:y2++ZB (ZE l[k].key)=y3 at *
    generalize hz4:y3++ZB (Zx l[k].rcd)=y4 at *
    have HZ1:=zh hz1;have HZ2:=zh hz2;have HZ3:=zh hz3;have HZ4:=zh hz4;have hgk:=hpl.1;clear hz1 hz2 hz3 hz4 hb1 hpl
    go_upto_region 7 with (fail)
    have h11:Below w1.heap.size w1 w1:=Below.refl _ _
    have hS:=λw9 (hb:Below w1.heap.size w1 w9)=>zn8 hb (zcl hb (zcl hbr1 p0)) (zcl hb (zcl hbr1 p1)) (zcl hb (zcl hbr1 p2)) (zcl hb (zcl hbr1 p3)) (zcl hb (zcl hbr1 p4)) (zcl hb (zcl hbr1 p5)) (zcl hb (zcl hbr1 p6))
    go_cut [3] from 22 to 34 (λt3 wq=>Own cU 5 w.heap.size wq t3 y2 []∧Below w1.heap.size w1 wq)
    case first =>
     refine wp_region_held_drew (S:=(λw9=>Below w1.heap.size w1 w9∧w9.cell? ⟨g,o+k*7,none⟩=some (.int .i64 l[k].kind)∧w9.cell? ⟨g,o+k*7+1,none⟩=some (.string l[k].store)∧w9.cell? ⟨g,o+k*7+2,none⟩=some (.int .i64 l[k].key.kind)∧w9.cell? ⟨g,o+k*7+3,none⟩=some (.int .i64 l[k].key.n)∧w9.cell? ⟨g,o+k*7+4,none⟩=some (.string l[k].key.text)∧w9.cell? ⟨g,o+k*7+5,none⟩=some (.slice A3 l[k].rcd.fields.length c3)∧w9.cell? ⟨g,o+k*7+6,none⟩=some (.string l[k].field))) (by kernel_rfl) (by (try dsimp only);exact hS _ bl) (λhHeld=>?_)
     all_goals (refine zrd (i:=0) 22 ?_;refine zrd (i:=1) 23 ?_;refine zrd (i:=2) 24 ?_;refine zrd (i:=3) 25 ?_;refine zrd (i:=4) 26 ?_;refine zrd (i:=5) 27 ?_;(try simp only[Act.put,zp0,zp1,zp2]);refine zrd (i:=7) 29 ?_;refine zrd (i:=8) 30 ?_;refine zrd (i:=9) 31 ?_;refine zrd (i:=10) 32 ?_;refine zrd (i:=11) 33 ?_;(try simp only[Act.put,zp0,zp1,zp2]))
     all_goals (refine wpAnyH_ready (rs:=[6,12]) (by kernel_rfl) (by simp) ?_;refine(AllReadyH.cons rfl (λK hK=>?_) (AllReadyH.cons rfl (λK hK=>?_) AllReadyH.nil)))
     all_goals ((first|(refine ZcB (s:=l[k].store) rfl _ rfl (by rfl) hstm ?_;intro v5 w5 F5 hb5 hr5;have hB5:=zt (w:=w1) hb5;have HR5:=zh (show cUS.rep w5 [v5] _ F5 from hr5);clear hr5)|(go_simp;(first|(go_at_call 63;refine(ZS _ x l[k].kind FK _ (by exact zb HK.out.2 (Za hbr1 bl)) (by omega)).mono ?_;rw[ZcM _ ⟨by omega,by omega⟩,HZ1.out];rintro e w6 ⟨v6,rfl,hb6,ho6⟩;have hB6:=zt (w:=w1) hb6;obtain⟨F6,hr6,-,-⟩:=ho6.fresh (hw:=by decide) (hw2:=by decide);have HR6:=zh (show cUS.rep w6 [v6] _ F6 from hr6);clear ho6 hr6)|(go_at_call 65;refine(Zah _ _ y1 (Zp l[k].store) F6 F5 _ (by exact(by repeat (first|with_reducible exact HR6.out|with_reducible refine zb ?_ hb5|with_reducible refine zb ?_ hb6|with_reducible refine Cod.allocA ?_ _|with_reducible refine Cod.drewA ?_|with_reducible refine Cod.drewNA ?_ _))) (by omega) (by exact(by repeat (first|with_reducible exact HR5.out|with_reducible refine zb ?_ hb5|with_reducible refine zb ?_ hb6|with_reducible refine Cod.allocA ?_ _|with_reducible refine Cod.drewA ?_|with_reducible refine Cod.drewNA ?_ _))) (by omega)).mono ?_;rw[HZ2.out];rintro e w7 ⟨v7,rfl,hb7,ho7⟩;have hB7:=zt (w:=w1) hb7;have HO7:=zh ho7;clear ho7));(try go_wp2_with fail)));refine hK.out _ _ (by (try dsimp only);exact hS _ bl) (λhHeld=>?_);clear hK K;(try simp only[Act.put,zp0,zp1,zp2]))
     refine wpAnyH_ready (rs:=[12]) (by kernel_rfl) (by simp) ?_;refine(AllReadyH.cons rfl (λK hK=>?_) AllReadyH.nil);rotate_left 1
     refine wpAnyH_ready (rs:=[6]) (by kernel_rfl) (by simp) ?_;refine(AllReadyH.cons rfl (λK hK=>?_) AllReadyH.nil);rotate_left 1
     all_goals ((first|(refine ZcB (s:=l[k].store) rfl _ rfl (by rfl) hstm ?_;intro v5 w5 F5 hb5 hr5;have hB5:=zt (w:=w1) hb5;have HR5:=zh (show cUS.rep w5 [v5] _ F5 from hr5);clear hr5)|(go_simp;(first|(go_at_call 63;refine(ZS _ x l[k].kind FK _ (by exact zb HK.out.2 (Za hbr1 bl)) (by omega)).mono ?_;rw[ZcM _ ⟨by omega,by omega⟩,HZ1.out];rintro e w6 ⟨v6,rfl,hb6,ho6⟩;have hB6:=zt (w:=w1) hb6;obtain⟨F6,hr6,-,-⟩:=ho6.fresh (hw:=by decide) (hw2:=by decide);have HR6:=zh (show cUS.rep w6 [v6] _ F6 from hr6);clear ho6 hr6)|(go_at_call 65;refine(Zah _ _ y1 (Zp l[k].store) F6 F5 _ (by exact(by repeat (first|with_reducible exact HR6.out|with_reducible refine zb ?_ hb5|with_reducible refine zb ?_ hb6|with_reducible refine Cod.allocA ?_ _|with_reducible refine Cod.drewA ?_|with_reducible refine Cod.drewNA ?_ _))) (by omega) (by exact(by repeat (first|with_reducible exact HR5.out|with_reducible refine zb ?_ hb5|with_reducible refine zb ?_ hb6|with_reducible refine Cod.allocA ?_ _|with_reducible refine Cod.drewA ?_|with_reducible refine Cod.drewNA ?_ _))) (by omega)).mono ?_;rw[HZ2.out];rintro e w7 ⟨v7,rfl,hb7,ho7⟩;have hB7:=zt (w:=w1) hb7;have HO7:=zh ho7;clear ho7));(try go_wp2_with fail)));refine hK.out _ _ (by (try dsimp only);exact hS _ bl) (λhHeld=>?_);clear hK K;(try simp only[Act.put,zp0,zp1,zp2]))
     all_goals (refine wpAnyH_ready (rs:=[13]) (by kernel_rfl) (by simp) ?_;refine(AllReadyH.cons rfl (λK hK=>?_) AllReadyH.nil))
     all_goals ((first|(go_simp;(first|(go_at_call 63;refine(ZS _ x l[k].kind FK _ (by exact zb HK.out.2 (Za hbr1 bl)) (by omega)).mono ?_;rw[ZcM _ ⟨by omega,by omega⟩,HZ1.out];rintro e w6 ⟨v6,rfl,hb6,ho6⟩;have hB6:=zt (w:=w1) hb6;obtain⟨F6,hr6,-,-⟩:=ho6.fresh (hw:=by decide) (hw2:=by decide);have HR6:=zh (show cUS.rep w6 [v6] _ F6 from hr6);clear ho6 hr6)|(go_at_call 65;refine(Zah _ _ y1 (Zp l[k].store) F6 F5 _ (by exact(by repeat (first|with_reducible exact HR6.out|with_reducible refine zb ?_ hb5|with_reducible refine zb ?_ hb6|with_reducible refine Cod.allocA ?_ _|with_reducible refine Cod.drewA ?_|with_reducible refine Cod.drewNA ?_ _))) (by omega) (by exact(by repeat (first|with_reducible exact HR5.out|with_reducible refine zb ?_ hb5|with_reducible refine zb ?_ hb6|with_reducible refine Cod.allocA ?_ _|with_reducible refine Cod.drewA ?_|with_reducible refine Cod.drewNA ?_ _))) (by omega)).mono ?_;rw[HZ2.out];rintro e w7 ⟨v7,rfl,hb7,ho7⟩;have hB7:=zt (w:=w1) hb7;have HO7:=zh ho7;clear ho7));(try go_wp2_with fail)));refine hK.out _ _ (by (try dsimp only);exact hS _ bl) (λhHeld=>?_);clear hK K;(try simp only[Act.put,zp0,zp1,zp2]))
     all_goals (refine zrd (i:=14) 3 ?_;(try simp only[Act.put,zp0,zp1,zp2]))
     all_goals (refine wpAnyH_done (by kernel_rfl) ?_ _;go_wp2_with fail;go_meet;case rel=>(have h9:=HO7.out;have h6:=hB6.size;have h5:=hB5.size;have h4:=hbr1.size;exact⟨(h9.mono (by (try simp);(try omega))).bel bl,bl⟩))
    case rest =>
     obtain⟨ho2,hB2⟩:=hcut;generalize wc=w2 at *
     have hbr2:Below wr.heap.size wr w2:=Za hbr1 hB2
     obtain⟨A2,d2,e9⟩:=ho2.slice;subst e9;obtain⟨FK2,hrK2,-,-⟩:=ho2.fresh (hw:=by decide) (hw2:=by decide)
     have HK2:=zh hrK2;have h22:Below w2.heap.size w2 w2:=Below.refl _ _
     have hz2:=hbr2.size;clear ho2 hrK2 hS
     go_upto_region 8 with (fail)
     have hS:=λw9 (hb:Below w2.heap.size w2 w9)=>zn8 hb (zcl hb (zcl hbr2 p0)) (zcl hb (zcl hbr2 p1)) (zcl hb (zcl hbr2 p2)) (zcl hb (zcl hbr2 p3)) (zcl hb (zcl hbr2 p4)) (zcl hb (zcl hbr2 p5)) (zcl hb (zcl hbr2 p6))
     go_cut [3] from 36 to 50 (λt3 wq=>Own cU 5 w.heap.size wq t3 y4 []∧Below w2.heap.size w2 wq)
     case first =>
      go_region_held3 (λw9=>Below w2.heap.size w2 w9∧w9.cell? ⟨g,o+k*7,none⟩=some (.int .i64 l[k].kind)∧w9.cell? ⟨g,o+k*7+1,none⟩=some (.string l[k].store)∧w9.cell? ⟨g,o+k*7+2,none⟩=some (.int .i64 l[k].key.kind)∧w9.cell? ⟨g,o+k*7+3,none⟩=some (.int .i64 l[k].key.n)∧w9.cell? ⟨g,o+k*7+4,none⟩=some (.string l[k].key.text)∧w9.cell? ⟨g,o+k*7+5,none⟩=some (.slice A3 l[k].rcd.fields.length c3)∧w9.cell? ⟨g,o+k*7+6,none⟩=some (.string l[k].field)) (exact hS _ bl)
       (first|(go_at_call 66;refine(Zgp l[k].key _ hok3.h4).mono ?_;rintro e w5 ⟨v5,rfl,hb5,ho5⟩;have hB5:=zt (w:=w2) hb5;obtain⟨F5,hr5,-,-⟩:=ho5.fresh (hw:=by decide) (hw2:=by decide);have HR5:=zh (show cUS.rep w5 [v5] _ F5 from hr5);clear ho5 hr5)|(go_at_call 67;refine(ZeK _ l[k].rcd.fields F3 _ (by exact zb HR3.out (Za hbr2 bl))).mono ?_;rintro e w8 ⟨v8,rfl,hb8,ho8⟩;have hB8:=zt (w:=w2) hb8;obtain⟨F8,hr8,-,-⟩:=ho8.fresh (hw:=by decide) (hw2:=by decide);have HR8:=zh (show cUS.rep w8 [v8] _ F8 from hr8);clear ho8 hr8)|(go_at_call 65;refine(Zah _ _ y2 (ZE l[k].key) FK2 F5 _ (by exact zb HK2.out) (by omega) (by exact(by repeat (first|with_reducible exact HR5.out|with_reducible refine zb ?_ hb5|with_reducible refine zb ?_ hb6|with_reducible refine zb ?_ hb8|with_reducible refine Cod.allocA ?_ _|with_reducible refine Cod.drewA ?_|with_reducible refine Cod.drewNA ?_ _))) (by omega)).mono ?_;rw[HZ3.out];rintro e w6 ⟨v6,rfl,hb6,ho6⟩;have hB6:=zt (w:=w2) hb6;obtain⟨F6,hr6,-,-⟩:=ho6.fresh (hw:=by decide) (hw2:=by decide);have HR6:=zh (show cUS.rep w6 [v6] _ F6 from hr6);clear ho6 hr6)|(go_at_call 65;refine(Zah _ _ y3 (Zx l[k].rcd) F6 F8 _ (by exact(by repeat (first|with_reducible exact HR6.out|with_reducible refine zb ?_ hb5|with_reducible refine zb ?_ hb6|with_reducible refine zb ?_ hb8|with_reducible refine Cod.allocA ?_ _|with_reducible refine Cod.drewA ?_|with_reducible refine Cod.drewNA ?_ _))) (by omega) (by exact(by repeat (first|with_reducible exact HR8.out|with_reducible refine zb ?_ hb5|with_reducible refine zb ?_ hb6|with_reducible refine zb ?_ hb8|with_reducible refine Cod.allocA ?_ _|with_reducible refine Cod.drewA ?_|with_reducible refine Cod.drewNA ?_ _))) (by omega)).mono ?_;rw[HZ4.out];rintro e w7 ⟨v7,rfl,hb7,ho7⟩;have hB7:=zt (w:=w2) hb7;have HO7:=zh ho7;clear ho7))
      all_goals
       go_wp2_with fail;go_meet
      all_goals try (case rel=>(have h9:=HO7.out;have h6:=hB6.size;have h8:=hB8.size;have h4:=hbr2.size;exact⟨(h9.mono (by (try simp);(try omega))).bel bl,bl⟩))
     case rest =>
      obtain⟨ho4,hB4⟩:=hcut;generalize wc=w4 at *
      have hbr4:Below wr.heap.size wr w4:=Za hbr2 hB4
      obtain⟨A4,d4,e9⟩:=ho4.slice;subst e9;obtain⟨FK4,hrK4,-,-⟩:=ho4.fresh (hw:=by decide) (hw2:=by decide)
      have HK4:=zh hrK4;have h44:Below w4.heap.size w4 w4:=Below.refl _ _
      have hz4:=hbr4.size;clear ho4 hrK4 hS;have pwp0:=zcl (p:=⟨g,o+k*7,none⟩) hbr4 p0
      have pwp1:=zcl (p:=⟨g,o+k*7+1,none⟩) hbr4 p1
      have pwp2:=zcl (p:=⟨g,o+k*7+2,none⟩) hbr4 p2
      have pwp3:=zcl (p:=⟨g,o+k*7+3,none⟩) hbr4 p3
      have pwp4:=zcl (p:=⟨g,o+k*7+4,none⟩) hbr4 p4
      have pwp5:=zcl (p:=⟨g,o+k*7+5,none⟩) hbr4 p5
      have pwp6:=zcl (p:=⟨g,o+k*7+6,none⟩) hbr4 p6
      obtain⟨v5,w5,F5,hcv,hb5,hr5⟩:=Zfo w4 l[k].field hfdm
      obtain⟨A5,c5,e9⟩:=Zb hr5;subst e9;have HR5:=zh hr5;have hz5:=hb5.size;clear hr5;go_wp2_with fail;refine(Zah _ _ y4 (Zp l[k].field) FK4 F5 _ (by exact zb HK4.out hb5) (by omega) (by exact HR5.out) (by omega)).mono ?_
      rw[HX5.out]
      rintro e w7 ⟨v7,rfl,hb7,ho7⟩;have hB7:Below w4.heap.size w4 w7:=Za hb5 hb7
      have hbr7:Below wr.heap.size wr w7:=Za hbr4 hB7
      have HO7:=zh (ho7.mono (show w.heap.size≤_ by omega))
      clear ho7;go_wp2_with fail;go_roundw
      case rel=>exact⟨k+1,by omega,by go_num,λj hj h=>by
       by_cases hjk:j<k
       ·exact HA.out j hj hjk
       ·obtain rfl:j=k:=by omega
        exact HOP.out,by rw[HX.out];exact HO7.out.bel bl,Za hbw (Za hbr7 bl)⟩
      case measure=>simp[intOf];omega
  ·obtain rfl:k=n:=by omega
   have hall:=Zps HN.out HA.out
   by_cases h6:(k:Int)≤6
   ·have h6':¬(6:Int)<(k:Int):=by omega
    have HE:=zh (show Zn l=xu++ZiI l k by rw[ZnO hall (by rw[HN.out];exact h6),HN.out,HXU.out])
    clear hall;have hlx:(xu++ZiI l k).length=xu.length+(ZiI l k).length:=List.length_append
    have HKO:=zh (show Own cU 5 w.heap.size wr (.slice Ak (xu.length+(ZiI l k).length) dk) (xu++ZiI l k) [] by rw[← hlx];exact HK.out.1)
    go_wp2_with fail;go_ret
    exact⟨_,rfl,bl,by rw[HE.out];exact HKO.out⟩
   ·have h6':(6:Int)<(k:Int):=by omega
    have HE:=zh (show Zn l=[] from ZnM (by rw[HN.out];exact h6))
    clear hall;go_wp2_with fail;go_ret
    exact⟨_,rfl,bl,by rw[HE.out];exact Own.empty _⟩
end Go.Proofs.YtghndifnohkokaaGreat
