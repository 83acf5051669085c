import Derived.Test.YtghndifnohkokaaGreatZReadB
import Derived.Test.YtghndifnohkokaaGreatZIsRec
namespace Go.Proofs.YtghndifnohkokaaGreat
open Go.ChangeShapes Go.WideShapes Go.RowKit
set_option linter.unusedVariables false
set_option linter.unusedSimpArgs false
set_option maxRecDepth 100000
set_option maxHeartbeats 16000000
def ZbI (fs:List TField) (k:Nat):List UInt8:=((fs.take k).map ZcH).flatten
theorem ZgG (fs:List TField):ZbI fs 0=[]:=rfl
theorem ZgF {fs:List TField} {k:Nat} (h:k<fs.length):ZbI fs (k+1)=ZbI fs k++(ZB (Zp fs[k].name)++ZJ fs[k].n.toNat):=by
 unfold ZbI
 rw[List.take_succ_eq_append_getElem h,List.map_append,List.flatten_append]
 simp only[ZcH,List.map_cons,List.map_nil,List.flatten_cons,List.flatten_nil,List.append_nil]
theorem ZdP {fs:List TField} (h:Ze ⟨fs⟩=true) (k:Nat):(ZbI fs k).length≤84∧fs.length≤6:=by
 obtain⟨h1,-,h3⟩:=(Zbm ⟨fs⟩).1 h
 have h2:=ZfV (fs.take k) λf hf=>h1 f (List.mem_of_mem_take hf)
 have h4:(fs.take k).length≤6:=by rw[List.length_take];simp only at h3;omega
 unfold ZbI
 simp only at h3
 omega
theorem ZkW {fs:List TField} (h:Ze ⟨fs⟩=true) {k:Nat} (hk:k<fs.length):fs[k].name.size≤8∧0≤fs[k].n∧fs[k].n≤1000000000:=by
 obtain⟨h1,-,h3⟩:=(Zbm ⟨fs⟩).1 h
 have h2:=h1 _ (List.getElem_mem hk)
 exact⟨(Zbr h2.1).2,ZbZ h2.2⟩
theorem Zjf {fs:List TField} (h:Ze ⟨fs⟩=false):Zx ⟨fs⟩=[]:=by unfold Zx;rw[h];rfl
theorem Zkp {fs:List TField} (h:Ze ⟨fs⟩=true):Zx ⟨fs⟩=ZJ fs.length++ZbI fs fs.length:=by
 unfold Zx ZbI
 rw[h,List.take_length];rfl
theorem Zhk (b:List UInt8) {n:Nat} (h:n≤1000000000000):Zlq b (n:Int)=b++ZJ n:=by
 unfold Zlq
 rw[Zjh (by omega) (by omega)];simp
theorem ZcM (b:List UInt8) {n:Int} (h:0≤n∧n≤1000000000000):Zlq b n=b++ZJ n.toNat:=by
 unfold Zlq
 rw[Zjh (by omega) (by omega)];simp
theorem ZcV (v:Value) (fs:List TField) (F:List Nat) (w:World) (h:cFieldS.rep w [v] fs F) :
  Calls Tryz.prog 77 #[.agg #[v]] w (Zeh cU 5 w (Zx ⟨fs⟩)):=by
 obtain⟨A,cp,rfl⟩:=Zb h;obtain⟨-,hcp,hm⟩:=Zq h
 unfold maxLen at hm
 go_enter Tryz.func77,Tryz.ntmps77
 go_wp2_with fail;refine(Zt _ fs _ _ (by exact zb h)).mono ?_
 cases e1:Ze ⟨fs⟩
 ·rintro e w1 ⟨rfl,hb1⟩;have hB1:=zt (w:=w) hb1
  have HE:=zh (Zjf e1)
  clear hb1;go_wp2_with fail;go_ret
  exact⟨_,rfl,bl,by rw[HE.out];exact Own.empty _⟩
 ·rintro e w1 ⟨rfl,hb1⟩;obtain⟨hc_w1,hf_w1,hz_w1⟩:=Zc hb1
  try simp at hz_w1
  have ha0_w1:w.heap.size<w1.heap.size:=by omega
  have hb_w1:=zt (w:=w) hb1
  have hln:=(ZdP e1 0).2
  have hlen:=λk=>(ZdP e1 k).1
  have HE:=zh (Zkp e1)
  have HLEN:=zh hlen;have HRF:=zh (λk (hk:k<fs.length)=>ZkW e1 hk)
  clear hlen;have a0:w1.cell? ⟨w.heap.size,0,none⟩=some (.slice A fs.length cp):=by go_simp
  clear hc_w1 hf_w1 hb1;obtain⟨n,hxn⟩:∃n,fs.length=n:=⟨_,rfl⟩
  have HN:=zh hxn;rw[hxn] at h a0 hcp hln
  clear hxn;go_wp2_with fail;refine(ZR _ [] n _ _ (by exact ZbQ _ _) (by simp)).mono ?_
  rw[Zhk [] (by omega),List.nil_append]
  rintro e w2 ⟨v2,rfl,hb2,ho2⟩;obtain⟨B2,d2,e9⟩:=ho2.slice;subst e9;have hB2:=zt (w:=w) hb2
  have ho2':=ho2.mono (show w.heap.size≤_ by (try simp);(try omega))
  have b0:w2.cell? ⟨w.heap.size,0,none⟩=some (.slice A n cp):=zcl hb2 (by first|exact a0|go_simp)
  have hz2:w.heap.size<w2.heap.size:=by have h9:=hb2.size;(try simp at h9);omega
  have HO2:=zh ho2';clear ho2 ho2' hb2;generalize hL2:(ZJ n).length=l2 at *
  have hl2:l2≤6:=by rw[← hL2];exact Zax 5 _ (by omega)
  have HL2:=zh hL2;clear hL2;go_wp2_with fail;go_loopw [17,3] (λi out wr=>∃k:Nat,k≤n∧i=.int .i64 k∧Own cU 5 w.heap.size wr out (ZJ n++ZbI fs k) []∧wr.cell? ⟨w.heap.size,0,none⟩=some (.slice A n cp)∧Below w.heap.size w wr∧w.heap.size<wr.heap.size) (λi out _=>n-(intOf i).toNat)
  case atStart=>exact⟨0,Nat.zero_le _,rfl,by rw[ZgG,List.append_nil];exact HO2.out,b0,hB2,hz2⟩
  case round =>
   obtain⟨k,hk,rfl,hown,k0,hbw,hzr⟩:=hrel;clear b0 hB2 hz2;obtain⟨Ak,dk,e9⟩:=hown.slice;subst e9;have hfl:(ZJ n++ZbI fs k).length≤90:=by rw[List.length_append,HL2.out];have:=HLEN.out k;omega
   obtain⟨FK,hrK,-,-⟩:=hown.fresh (hw:=by decide) (hw2:=by decide)
   have HK:=zh (And.intro hown hrK)
   by_cases hlt:k<n
   ·have hkx:k<fs.length:=by rw[HN.out];exact hlt
    have hsucc:=ZgF hkx;obtain⟨g,o,rfl,hgF,hgw,-,q0,q1⟩:=ZbS (zb h hbw) hkx
    obtain⟨hs8,hn0,hn9⟩:=HRF.out k hkx;have hki:((k:Int)<(n:Int)):=by omega
    have hgn:¬g=wr.heap.size:=by omega
    generalize hx:ZJ n++ZbI fs k=x at *
    have HX:=zh (show ZJ n++ZbI fs (k+1)=x++ZB (Zp fs[k].name)++ZJ fs[k].n.toNat by rw[hsucc,← hx];simp only[List.append_assoc])
    clear hown hrK hsucc hx;generalize hnm:fs[k].name=nm at *
    generalize hnu:fs[k].n=nu at *
    have hb8:(Zp nm).length≤8:=hs8
    have hp8:(ZB (Zp nm)).length≤20:=by unfold ZB;rw[List.length_append];have:=Zax 5 (Zp nm).length (by omega);omega
    go_wp2_with fail;generalize hV:World.alloc _ _=V
    have hbV:Below wr.heap.size wr V:=by rw[← hV];exact bl
    have hVs:V.heap.size=wr.heap.size+1:=by rw[← hV];clear hV;simp
    have c0:V.cell? ⟨wr.heap.size,0,none⟩=some (.string nm):=by rw[← hV];clear hV;go_simp
    have c1:V.cell? ⟨wr.heap.size,1,none⟩=some (.int .i64 nu):=by rw[← hV];clear hV;go_simp
    clear hV;have hS:=λw9 (hb:Below V.heap.size V w9)=>zn3 hb (zcl hb c0) (zcl hb c1)
    refine wp_region_held_drew (S:=(λw9=>Below V.heap.size V w9∧w9.cell? ⟨wr.heap.size,0,none⟩=some (.string nm)∧w9.cell? ⟨wr.heap.size,1,none⟩=some (.int .i64 nu))) (by kernel_rfl) (by (try dsimp only);exact hS _ bl) (λhHeld=>?_)
    refine zrd (i:=0) 21 ?_;refine zrd (i:=1) 22 ?_;refine zrd (i:=2) 23 ?_;refine zrd (i:=5) 26 ?_;(try simp only[Act.put,zp0,zp1,zp2]);refine zrd (i:=6) 27 ?_;(try simp only[Act.put,zp0,zp1,zp2]);refine zst 3 (λK hK=>?_)
    first|(first|(refine ZcB rfl _ rfl rfl (by unfold maxLen;omega) ?_;intro v5 w5 F5 hb5 hr5;have hbV5:=zt (w:=V) hb5;have hbr5:Below wr.heap.size wr w5:=Za hbV hbV5)|(go_at_call 78;refine(ZaU _ _ x (Zp nm) FK F5 _ (by exact zb HK.out.2 hbr5) (by omega) (by exact hr5) (by omega)).mono ?_;rintro e w6 ⟨v6,rfl,hb6,ho6⟩;have hbV6:Below V.heap.size V w6:=Za hbV5 hb6;obtain⟨F6,hr6,-,-⟩:=ho6.fresh (hw:=by decide) (hw2:=by decide);have HR6:=zh hr6;clear hr6)|(go_at_call 75;refine(ZR _ (x++ZB (Zp nm)) nu F6 _ (by exact HR6.out) (by rw[List.length_append];omega)).mono ?_;rw[ZcM _ ⟨hn0,by omega⟩];rintro e w7 ⟨v7,rfl,hb7,ho7⟩;have hbV7:Below V.heap.size V w7:=Za hbV6 hb7))|go_simp
    refine hK.out _ _ ?_ (λhHeld=>?_)
    ·(try dsimp only)
     exact hS _ bl
    clear hK K;(try simp only[Act.put,zp0,zp1,zp2]);refine zst 4 (λK hK=>?_)
    go_simp
    (first|(refine ZcB rfl _ rfl rfl (by unfold maxLen;omega) ?_;intro v5 w5 F5 hb5 hr5;have hbV5:=zt (w:=V) hb5;have hbr5:Below wr.heap.size wr w5:=Za hbV hbV5)|(go_at_call 78;refine(ZaU _ _ x (Zp nm) FK F5 _ (by exact zb HK.out.2 hbr5) (by omega) (by exact hr5) (by omega)).mono ?_;rintro e w6 ⟨v6,rfl,hb6,ho6⟩;have hbV6:Below V.heap.size V w6:=Za hbV5 hb6;obtain⟨F6,hr6,-,-⟩:=ho6.fresh (hw:=by decide) (hw2:=by decide);have HR6:=zh hr6;clear hr6)|(go_at_call 75;refine(ZR _ (x++ZB (Zp nm)) nu F6 _ (by exact HR6.out) (by rw[List.length_append];omega)).mono ?_;rw[ZcM _ ⟨hn0,by omega⟩];rintro e w7 ⟨v7,rfl,hb7,ho7⟩;have hbV7:Below V.heap.size V w7:=Za hbV6 hb7))
    try go_wp2_with fail
    refine hK.out _ _ ?_ (λhHeld=>?_)
    ·(try dsimp only)
     exact hS _ bl
    clear hK K;(try simp only[Act.put,zp0,zp1,zp2]);refine zst 7 (λK hK=>?_)
    go_simp
    (first|(refine ZcB rfl _ rfl rfl (by unfold maxLen;omega) ?_;intro v5 w5 F5 hb5 hr5;have hbV5:=zt (w:=V) hb5;have hbr5:Below wr.heap.size wr w5:=Za hbV hbV5)|(go_at_call 78;refine(ZaU _ _ x (Zp nm) FK F5 _ (by exact zb HK.out.2 hbr5) (by omega) (by exact hr5) (by omega)).mono ?_;rintro e w6 ⟨v6,rfl,hb6,ho6⟩;have hbV6:Below V.heap.size V w6:=Za hbV5 hb6;obtain⟨F6,hr6,-,-⟩:=ho6.fresh (hw:=by decide) (hw2:=by decide);have HR6:=zh hr6;clear hr6)|(go_at_call 75;refine(ZR _ (x++ZB (Zp nm)) nu F6 _ (by exact HR6.out) (by rw[List.length_append];omega)).mono ?_;rw[ZcM _ ⟨hn0,by omega⟩];rintro e w7 ⟨v7,rfl,hb7,ho7⟩;have hbV7:Below V.heap.size V w7:=Za hbV6 hb7))
    try go_wp2_with fail
    refine hK.out _ _ ?_ (λhHeld=>?_)
    ·(try dsimp only)
     exact hS _ bl
    clear hK K;refine zrd (i:=8) 3 ?_;(try simp only[Act.put,zp0,zp1,zp2]);refine wpAnyH_done (by kernel_rfl) ?_ _
    have hbr7:Below wr.heap.size wr w7:=Za hbV hbV7
    have hlo7:=ho7.mono (show w.heap.size≤_ by have h9:=hbV6.size;omega)
    have HO7:=zh hlo7;have k7:w7.cell? ⟨w.heap.size,0,none⟩=some (.slice _ n cp):=zcl hbr7 k0
    have hz7:w.heap.size<w7.heap.size:=by have h9:=hbr7.size;omega
    clear ho7 hlo7;go_wp2_with fail;go_roundw
    case rel=>exact⟨k+1,by omega,by go_num,by rw[HX.out];exact HO7.out,k7,Za hbw hbr7,hz7⟩
    case measure=>simp[intOf];omega
   ·obtain rfl:k=n:=by omega
    have hEE:ZJ k++ZbI fs k=Zx ⟨fs⟩:=by rw[HE.out,HN.out]
    have HEE:=zh hEE;clear hEE hown hrK;go_wp2_with fail;go_ret
    exact⟨_,rfl,bl,by rw[← HEE.out];exact HK.out.1⟩
theorem ZeK (v:Value) (fs:List TField) (F:List Nat) (w:World) (h:cFieldS.rep w [v] fs F) :
  Calls Tryz.prog 67 #[.agg #[v]] w (Zeh cU 5 w (Zx ⟨fs⟩)):=by
 obtain⟨A,cp,rfl⟩:=Zb h;obtain⟨-,hcp,hm⟩:=Zq h
 unfold maxLen at hm
 go_enter Tryz.func67,Tryz.ntmps67
 go_wp2_with fail;refine(Zo _ fs _ _ (by exact zb h)).mono ?_
 cases e1:Ze ⟨fs⟩
 ·rintro e w1 ⟨rfl,hb1⟩;have hB1:=zt (w:=w) hb1
  have HE:=zh (Zjf e1)
  clear hb1;go_wp2_with fail;go_ret
  exact⟨_,rfl,bl,by rw[HE.out];exact Own.empty _⟩
 ·rintro e w1 ⟨rfl,hb1⟩;obtain⟨hc_w1,hf_w1,hz_w1⟩:=Zc hb1
  try simp at hz_w1
  have ha0_w1:w.heap.size<w1.heap.size:=by omega
  have hb_w1:=zt (w:=w) hb1
  have hln:=(ZdP e1 0).2
  have hlen:=λk=>(ZdP e1 k).1
  have HE:=zh (Zkp e1)
  have HLEN:=zh hlen;have HRF:=zh (λk (hk:k<fs.length)=>ZkW e1 hk)
  clear hlen;have a0:w1.cell? ⟨w.heap.size,0,none⟩=some (.slice A fs.length cp):=by go_simp
  clear hc_w1 hf_w1 hb1;obtain⟨n,hxn⟩:∃n,fs.length=n:=⟨_,rfl⟩
  have HN:=zh hxn;rw[hxn] at h a0 hcp hln
  clear hxn;go_wp2_with fail;refine(ZS _ [] n _ _ (by exact ZbQ _ _) (by simp)).mono ?_
  rw[Zhk [] (by omega),List.nil_append]
  rintro e w2 ⟨v2,rfl,hb2,ho2⟩;obtain⟨B2,d2,e9⟩:=ho2.slice;subst e9;have hB2:=zt (w:=w) hb2
  have ho2':=ho2.mono (show w.heap.size≤_ by (try simp);(try omega))
  have b0:w2.cell? ⟨w.heap.size,0,none⟩=some (.slice A n cp):=zcl hb2 (by first|exact a0|go_simp)
  have hz2:w.heap.size<w2.heap.size:=by have h9:=hb2.size;(try simp at h9);omega
  have HO2:=zh ho2';clear ho2 ho2' hb2;generalize hL2:(ZJ n).length=l2 at *
  have hl2:l2≤6:=by rw[← hL2];exact Zax 5 _ (by omega)
  have HL2:=zh hL2;clear hL2;go_wp2_with fail;go_loopw [4,3] (λi out wr=>∃k:Nat,k≤n∧i=.int .i64 k∧Own cU 5 w.heap.size wr out (ZJ n++ZbI fs k) []∧wr.cell? ⟨w.heap.size,0,none⟩=some (.slice A n cp)∧Below w.heap.size w wr∧w.heap.size<wr.heap.size) (λi out _=>n-(intOf i).toNat)
  case atStart=>exact⟨0,Nat.zero_le _,rfl,by rw[ZgG,List.append_nil];exact HO2.out,b0,hB2,hz2⟩
  case round =>
   obtain⟨k,hk,rfl,hown,k0,hbw,hzr⟩:=hrel;clear b0 hB2 hz2;obtain⟨Ak,dk,e9⟩:=hown.slice;subst e9;have hfl:(ZJ n++ZbI fs k).length≤90:=by rw[List.length_append,HL2.out];have:=HLEN.out k;omega
   obtain⟨FK,hrK,-,-⟩:=hown.fresh (hw:=by decide) (hw2:=by decide)
   have HK:=zh (And.intro hown hrK)
   by_cases hlt:k<n
   ·have hkx:k<fs.length:=by rw[HN.out];exact hlt
    have hsucc:=ZgF hkx;obtain⟨g,o,rfl,hgF,hgw,-,q0,q1⟩:=ZbS (zb h hbw) hkx
    obtain⟨hs8,hn0,hn9⟩:=HRF.out k hkx;have hki:((k:Int)<(n:Int)):=by omega
    have hgn:¬g=wr.heap.size:=by omega
    generalize hx:ZJ n++ZbI fs k=x at *
    have HX:=zh (show ZJ n++ZbI fs (k+1)=x++ZB (Zp fs[k].name)++ZJ fs[k].n.toNat by rw[hsucc,← hx];simp only[List.append_assoc])
    clear hown hrK hsucc hx;generalize hnm:fs[k].name=nm at *
    generalize hnu:fs[k].n=nu at *
    have hb8:(Zp nm).length≤8:=hs8
    have hp8:(ZB (Zp nm)).length≤20:=by unfold ZB;rw[List.length_append];have:=Zax 5 (Zp nm).length (by omega);omega
    go_wp2_with fail;obtain⟨V,rfl⟩:∃V:World,V=wr:=⟨_,rfl⟩
    have hbV:Below V.heap.size V V:=Below.refl _ _
    have hS:=λw9 (hb:Below V.heap.size V w9)=>zn4 hb (zcl hb k0) (zcl hb q0) (zcl hb q1)
    refine wp_region_held_drew (S:=(λw9=>Below V.heap.size V w9∧w9.cell? ⟨w.heap.size,0,none⟩=some (.slice (some ⟨g,o,none⟩) n cp)∧w9.cell? ⟨g,o+k*2,none⟩=some (.string nm)∧w9.cell? ⟨g,o+k*2+1,none⟩=some (.int .i64 nu))) (by kernel_rfl) (by (try dsimp only);exact hS _ bl) (λhHeld=>?_)
    refine zrd (i:=0) 21 ?_;refine zrd (i:=1) 22 ?_;refine zrd (i:=2) 23 ?_;refine zrd (i:=3) 24 ?_;(try simp only[Act.put,zp0,zp1,zp2]);refine zrd (i:=4) 25 ?_;refine zrd (i:=5) 26 ?_;refine zrd (i:=6) 27 ?_;refine zrd (i:=9) 30 ?_;(try simp only[Act.put,zp0,zp1,zp2]);refine zrd (i:=10) 31 ?_;refine zrd (i:=11) 32 ?_;refine zrd (i:=12) 33 ?_;refine zrd (i:=13) 34 ?_;(try simp only[Act.put,zp0,zp1,zp2]);refine zrd (i:=14) 35 ?_;(try simp only[Act.put,zp0,zp1,zp2]);refine zst 7 (λK hK=>?_)
    first|(first|(refine ZcB rfl _ rfl rfl (by unfold maxLen;omega) ?_;intro v5 w5 F5 hb5 hr5;have hbV5:=zt (w:=V) hb5;have hbr5:Below V.heap.size V w5:=Za hbV hbV5)|(go_at_call 65;refine(Zah _ _ x (Zp nm) FK F5 _ (by exact zb HK.out.2 hbr5) (by omega) (by exact hr5) (by omega)).mono ?_;rintro e w6 ⟨v6,rfl,hb6,ho6⟩;have hbV6:Below V.heap.size V w6:=Za hbV5 hb6;obtain⟨F6,hr6,-,-⟩:=ho6.fresh (hw:=by decide) (hw2:=by decide);have HR6:=zh hr6;clear hr6)|(go_at_call 63;refine(ZS _ (x++ZB (Zp nm)) nu F6 _ (by exact HR6.out) (by rw[List.length_append];omega)).mono ?_;rw[ZcM _ ⟨hn0,by omega⟩];rintro e w7 ⟨v7,rfl,hb7,ho7⟩;have hbV7:Below V.heap.size V w7:=Za hbV6 hb7))|go_simp
    refine hK.out _ _ ?_ (λhHeld=>?_)
    ·(try dsimp only)
     exact hS _ bl
    clear hK K;(try simp only[Act.put,zp0,zp1,zp2]);refine zst 8 (λK hK=>?_)
    go_simp
    (first|(refine ZcB rfl _ rfl rfl (by unfold maxLen;omega) ?_;intro v5 w5 F5 hb5 hr5;have hbV5:=zt (w:=V) hb5;have hbr5:Below V.heap.size V w5:=Za hbV hbV5)|(go_at_call 65;refine(Zah _ _ x (Zp nm) FK F5 _ (by exact zb HK.out.2 hbr5) (by omega) (by exact hr5) (by omega)).mono ?_;rintro e w6 ⟨v6,rfl,hb6,ho6⟩;have hbV6:Below V.heap.size V w6:=Za hbV5 hb6;obtain⟨F6,hr6,-,-⟩:=ho6.fresh (hw:=by decide) (hw2:=by decide);have HR6:=zh hr6;clear hr6)|(go_at_call 63;refine(ZS _ (x++ZB (Zp nm)) nu F6 _ (by exact HR6.out) (by rw[List.length_append];omega)).mono ?_;rw[ZcM _ ⟨hn0,by omega⟩];rintro e w7 ⟨v7,rfl,hb7,ho7⟩;have hbV7:Below V.heap.size V w7:=Za hbV6 hb7))
    try go_wp2_with fail
    refine hK.out _ _ ?_ (λhHeld=>?_)
    ·(try dsimp only)
     exact hS _ bl
    clear hK K;(try simp only[Act.put,zp0,zp1,zp2]);refine zst 15 (λK hK=>?_)
    go_simp
    (first|(refine ZcB rfl _ rfl rfl (by unfold maxLen;omega) ?_;intro v5 w5 F5 hb5 hr5;have hbV5:=zt (w:=V) hb5;have hbr5:Below V.heap.size V w5:=Za hbV hbV5)|(go_at_call 65;refine(Zah _ _ x (Zp nm) FK F5 _ (by exact zb HK.out.2 hbr5) (by omega) (by exact hr5) (by omega)).mono ?_;rintro e w6 ⟨v6,rfl,hb6,ho6⟩;have hbV6:Below V.heap.size V w6:=Za hbV5 hb6;obtain⟨F6,hr6,-,-⟩:=ho6.fresh (hw:=by decide) (hw2:=by decide);have HR6:=zh hr6;clear hr6)|(go_at_call 63;refine(ZS _ (x++ZB (Zp nm)) nu F6 _ (by exact HR6.out) (by rw[List.length_append];omega)).mono ?_;rw[ZcM _ ⟨hn0,by omega⟩];rintro e w7 ⟨v7,rfl,hb7,ho7⟩;have hbV7:Below V.heap.size V w7:=Za hbV6 hb7))
    try go_wp2_with fail
    refine hK.out _ _ ?_ (λhHeld=>?_)
    ·(try dsimp only)
     exact hS _ bl
    clear hK K;refine zrd (i:=16) 3 ?_;(try simp only[Act.put,zp0,zp1,zp2]);refine wpAnyH_done (by kernel_rfl) ?_ _
    have hbr7:Below V.heap.size V w7:=Za hbV hbV7
    have hlo7:=ho7.mono (show w.heap.size≤_ by have h9:=hbV6.size;omega)
    have HO7:=zh hlo7;have k7:w7.cell? ⟨w.heap.size,0,none⟩=some (.slice _ n cp):=zcl hbr7 k0
    have hz7:w.heap.size<w7.heap.size:=by have h9:=hbr7.size;omega
    clear ho7 hlo7;go_wp2_with fail;go_roundw
    case rel=>exact⟨k+1,by omega,by go_num,by rw[HX.out];exact HO7.out,k7,Za hbw hbr7,hz7⟩
    case measure=>simp[intOf];omega
   ·obtain rfl:k=n:=by omega
    have hEE:ZJ k++ZbI fs k=Zx ⟨fs⟩:=by rw[HE.out,HN.out]
    have HEE:=zh hEE;clear hEE hown hrK;go_wp2_with fail;go_ret
    exact⟨_,rfl,bl,by rw[← HEE.out];exact HK.out.1⟩
end Go.Proofs.YtghndifnohkokaaGreat
