/-
  EncKey of the seat. No conditions but sizes.
-/
import Derived.Test.YtghndifnohkokaaGreatZOpsPlain
import Derived.Test.YtghndifnohkokaaGreatZIsKey
namespace Go.Proofs.YtghndifnohkokaaGreat
open Go.ChangeShapes Go.WideShapes Go.RowKit
set_option linter.unusedVariables false
set_option linter.unusedSimpArgs false
set_option maxRecDepth 100000
set_option maxHeartbeats 16000000
theorem Zjd {k:TKey} (h:ZG k=false):ZE k=[]:=by unfold ZE;rw[h];rfl
theorem Zje {k:TKey} (h:ZG k=true) (h2:(k.kind==2)=true):ZE k=[UInt8.ofNat k.kind.toNat]++Zp k.text:=by
 unfold ZE Zdt
 rw[h,h2];rfl
theorem Zjc {k:TKey} (h:ZG k=true) (h2:(k.kind==2)=false):ZE k=(UInt8.ofNat k.kind.toNat::be6 (k.n+1000000000000).toNat)++Zp k.text:=by
 unfold ZE Zdt
 rw[h,h2];rfl
theorem ZdX (n:Int):bits .and .i64 n 255=n % 256:=by
 have h127:(BitVec.ofInt 64 255).toNat=2 ^ 8-1:=by decide
 have key:(BitVec.ofInt 64 n &&& BitVec.ofInt 64 255).toNat=(n % ((2 ^ 64:Nat):Int)).toNat % 2 ^ 8:=by
  rw[BitVec.toNat_and,BitVec.toNat_ofInt,h127,Nat.and_two_pow_sub_one_eq_mod]
 show IntKind.i64.wrap ((BitVec.ofInt 64 n &&& BitVec.ofInt 64 255).toNat:Nat)=n % 256
 rw[key,IntKind.wrap_i64]
 omega
theorem ZcZ (x:Int):IntKind.u8.wrap x=x % 256:=by simp[IntKind.wrap,IntKind.bits,IntKind.signed]
theorem Zbh (k:TKey) (w:World) (hs:k.text.size≤maxLen) :
  Calls Tryz.prog 76 #[.agg #[.int .i64 k.kind,.int .i64 k.n,.string k.text]] w (Zeh cU 5 w (ZE k)):=by
 obtain⟨i0,hi0,hz0,hz1,hz2⟩:=info_parts Zcs
 obtain⟨kd,n,t⟩:=k
 simp only at hs⊢
 go_enter Tryz.func76,Tryz.ntmps76
 go_wp2_with fail
 refine(Zr ⟨kd,n,t⟩ _ hs).mono ?_
 cases e1:ZG ⟨kd,n,t⟩
 ·rintro e w1 ⟨rfl,hb1⟩
  have hB1:=zt (w:=w) hb1
  have HE:=zh (Zjd e1)
  clear hb1
  go_wp2_with fail
  go_ret
  exact⟨_,rfl,bl,by rw[HE.out];exact Own.empty _⟩
 ·rintro e w1 ⟨rfl,hb1⟩
  obtain⟨hc_w1,hf_w1,hz_w1⟩:=Zc hb1
  try simp at hz_w1
  have ha0_w1:w.heap.size<w1.heap.size:=by omega
  have hb_w1:=zt (w:=w) hb1
  have a0:w1.cell? ⟨w.heap.size,0,none⟩=some (.int .i64 kd):=by go_simp
  have a1:w1.cell? ⟨w.heap.size,1,none⟩=some (.int .i64 n):=by go_simp
  have a2:w1.cell? ⟨w.heap.size,2,none⟩=some (.string t):=by go_simp
  obtain⟨⟨hk1,hk3⟩,⟨hn1,hn2⟩,-,ht12⟩:=Zep e1
  simp only at hk1 hk3 hn1 hn2 ht12
  obtain⟨kn,rfl⟩:∃kn:Nat,kd=kn:=⟨kd.toNat,by omega⟩
  have hw8:IntKind.u8.wrap (kn:Int)=(kn:Int):=Zlp (by omega)
  have hk9:((UInt8.ofNat kn).toNat:Int)=(kn:Int):=by rw[Zcl (by omega)]
  have hk2:((kn:Int) !=2)=!((kn:Int)==2):=rfl
  have hon:∀c:UInt8,(c.toNat:Int)=(kn:Int)→Own cU 5 (w.heap.size+1) (w1.alloc (.cells #[.int .u8 (kn:Int)] 5)) (.slice (some ⟨w1.heap.size,0,none⟩) 1 1) [c] []:=λc hc=>by
   have h9:=Own.of_new (c:=cU) (w:=w1) (vs:=#[.int .u8 (kn:Int)]) (xs:=[c]) (F:=[]) 5 1 rfl (by omega) (by decide) rfl (by rw[← hc];exact Cod.reps_one ⟨rfl,rfl⟩)
   exact h9.mono (by omega)
  clear hc_w1 hf_w1 hb1
  cases e2:((kn:Int)==2)
  ·rw[e2,Bool.not_false] at hk2
   have hE:=Zjc e1 e2
   simp only at hE
   obtain⟨m,hm⟩:∃m:Nat,n+1000000000000=m:=⟨(n+1000000000000).toNat,by omega⟩
   have hm9:(n+1000000000000).toNat=m:=by omega
   rw[hm9] at hE
   have hml:m≤2000000000000:=by omega
   have hwn:IntKind.i64.wrap (n+1000000000000)=(m:Int):=by rw[IntWalk.i64_in _ (by omega)];exact hm
   replace hE:ZE ⟨(kn:Int),n,t⟩=(UInt8.ofNat kn::be6 m)++Zp t:=hE
   have HC0:=zh (hon _ hk9)
   generalize UInt8.ofNat kn=c at *
   have HE:=zh hE
   clear hE hon
   go_wp2_with fail
   go_loopw [4,3] (λi out wr=>∃j:Nat,j≤6∧i=.int .i64 (5-(j:Int))∧Own cU 5 (w.heap.size+1) wr out (c::(be6 m).take j) []∧wr.cell? ⟨w.heap.size,0,none⟩=some (.int .i64 (kn:Int))∧wr.cell? ⟨w.heap.size,1,none⟩=some (.int .i64 n)∧wr.cell? ⟨w.heap.size,2,none⟩=some (.string t)∧Below w.heap.size w wr∧w.heap.size<wr.heap.size) (λi _ _=>(intOf i+1).toNat)
   case atStart=>exact⟨0,by omega,rfl,HC0.out,(by go_simp),(by go_simp),(by go_simp),bl,by (try simp);(try omega)⟩
   case round =>
    obtain⟨j,hj,hi,hown,k0,k1,k2,hbw,hzr⟩:=hrel
    have HO:=zh hown
    have hlen:(c::(be6 m).take j).length≤7:=by simp only[List.length_cons,List.length_take];omega
    clear hown hk9 a0 a1 a2 HC0
    rcases (by omega:j=0∨j=1∨j=2∨j=3∨j=4∨j=5∨j=6) with rfl|rfl|rfl|rfl|rfl|rfl|rfl
    ·replace hi:_=Value.int .i64 5:=hi
     subst hi
     obtain⟨Ao,co,e9⟩:=HO.out.slice
     subst e9
     have hbn:(be6 m).take 0++[UInt8.ofNat (m / 1099511627776 % 256)]=(be6 m).take 1:=by simp[be6]
     have hw9:IntKind.u8.wrap ((m:Int) / 1099511627776)=((m / 1099511627776 % 256:Nat):Int):=by rw[ZcZ];omega
     have hw7:IntKind.u8.wrap (((m:Int) / 1099511627776) % 256)=((m / 1099511627776 % 256:Nat):Int):=by rw[ZcZ];omega
     have ha9:=ZdX ((m:Int) / 1099511627776)
     have hu:=Zcl (n:=m / 1099511627776 % 256) (by omega)
     generalize UInt8.ofNat (m / 1099511627776 % 256)=d at hu hbn
     go_wp2_with (at_builtin;refine Zl (c:=cU) (B:=w.heap.size+1) (xs:=c::(be6 m).take 0) (ys:=[d]) (Fi:=[]) (Fy:=[]) _ rfl _ _ _ rfl i0 _ _ Tryz.underlying26 hi0 hz0 hz1 hz2 rfl (by decide) rfl (HO.out.bel bl) (.slice (some ⟨wr.heap.size,0,none⟩) 1 1) rfl (Zbg (by rw[hu];omega)) (by unfold maxLen;simp only[List.length_singleton];omega) (by simp only[List.length_singleton];omega) (by (try simp);(try omega)) (by simp) ?_)
     intro v2 w2 ho2 hg2 hat2
     have hB2:Below (w.heap.size+1) wr w2:=(Zat (by omega) (Below.refl _ _) _:Below (w.heap.size+1) wr (wr.alloc _)).grown hg2 (by (try simp);omega) (λg hg=>(HO.out.lt g hg).1)
     have hz2:=hB2.size
     have j0:=zcl hB2 k0
     have j1:=zcl hB2 k1
     have j2:=zcl hB2 k2
     have hbw2:Below w.heap.size w w2:=hbw.trans (hB2.mono (by omega))
     have HO2:=zh ho2
     have HBN:=zh hbn
     have hzr2:w.heap.size<w2.heap.size:=by omega
     clear ho2 hg2 hat2 hB2 hbn
     go_wp2_with fail
     go_roundw
     case rel=>exact⟨1,by omega,rfl,by first|exact HO2.out|(rw[← HBN.out];exact HO2.out),j0,j1,j2,hbw2,hzr2⟩
     case measure=>simp[intOf]
    ·replace hi:_=Value.int .i64 4:=hi
     subst hi
     obtain⟨Ao,co,e9⟩:=HO.out.slice
     subst e9
     have hbn:(be6 m).take 1++[UInt8.ofNat (m / 4294967296 % 256)]=(be6 m).take 2:=by simp[be6]
     have hw9:IntKind.u8.wrap ((m:Int) / 4294967296)=((m / 4294967296 % 256:Nat):Int):=by rw[ZcZ];omega
     have hw7:IntKind.u8.wrap (((m:Int) / 4294967296) % 256)=((m / 4294967296 % 256:Nat):Int):=by rw[ZcZ];omega
     have ha9:=ZdX ((m:Int) / 4294967296)
     have hu:=Zcl (n:=m / 4294967296 % 256) (by omega)
     generalize UInt8.ofNat (m / 4294967296 % 256)=d at hu hbn
     go_wp2_with (at_builtin;refine Zl (c:=cU) (B:=w.heap.size+1) (xs:=c::(be6 m).take 1) (ys:=[d]) (Fi:=[]) (Fy:=[]) _ rfl _ _ _ rfl i0 _ _ Tryz.underlying26 hi0 hz0 hz1 hz2 rfl (by decide) rfl (HO.out.bel bl) (.slice (some ⟨wr.heap.size,0,none⟩) 1 1) rfl (Zbg (by rw[hu];omega)) (by unfold maxLen;simp only[List.length_singleton];omega) (by simp only[List.length_singleton];omega) (by (try simp);(try omega)) (by simp) ?_)
     intro v2 w2 ho2 hg2 hat2
     have hB2:Below (w.heap.size+1) wr w2:=(Zat (by omega) (Below.refl _ _) _:Below (w.heap.size+1) wr (wr.alloc _)).grown hg2 (by (try simp);omega) (λg hg=>(HO.out.lt g hg).1)
     have hz2:=hB2.size
     have j0:=zcl hB2 k0
     have j1:=zcl hB2 k1
     have j2:=zcl hB2 k2
     have hbw2:Below w.heap.size w w2:=hbw.trans (hB2.mono (by omega))
     have HO2:=zh ho2
     have HBN:=zh hbn
     have hzr2:w.heap.size<w2.heap.size:=by omega
     clear ho2 hg2 hat2 hB2 hbn
     go_wp2_with fail
     go_roundw
     case rel=>exact⟨2,by omega,rfl,by first|exact HO2.out|(rw[← HBN.out];exact HO2.out),j0,j1,j2,hbw2,hzr2⟩
     case measure=>simp[intOf]
    ·replace hi:_=Value.int .i64 3:=hi
     subst hi
     obtain⟨Ao,co,e9⟩:=HO.out.slice
     subst e9
     have hbn:(be6 m).take 2++[UInt8.ofNat (m / 16777216 % 256)]=(be6 m).take 3:=by simp[be6]
     have hw9:IntKind.u8.wrap ((m:Int) / 16777216)=((m / 16777216 % 256:Nat):Int):=by rw[ZcZ];omega
     have hw7:IntKind.u8.wrap (((m:Int) / 16777216) % 256)=((m / 16777216 % 256:Nat):Int):=by rw[ZcZ];omega
     have ha9:=ZdX ((m:Int) / 16777216)
     have hu:=Zcl (n:=m / 16777216 % 256) (by omega)
     generalize UInt8.ofNat (m / 16777216 % 256)=d at hu hbn
     go_wp2_with (at_builtin;refine Zl (c:=cU) (B:=w.heap.size+1) (xs:=c::(be6 m).take 2) (ys:=[d]) (Fi:=[]) (Fy:=[]) _ rfl _ _ _ rfl i0 _ _ Tryz.underlying26 hi0 hz0 hz1 hz2 rfl (by decide) rfl (HO.out.bel bl) (.slice (some ⟨wr.heap.size,0,none⟩) 1 1) rfl (Zbg (by rw[hu];omega)) (by unfold maxLen;simp only[List.length_singleton];omega) (by simp only[List.length_singleton];omega) (by (try simp);(try omega)) (by simp) ?_)
     intro v2 w2 ho2 hg2 hat2
     have hB2:Below (w.heap.size+1) wr w2:=(Zat (by omega) (Below.refl _ _) _:Below (w.heap.size+1) wr (wr.alloc _)).grown hg2 (by (try simp);omega) (λg hg=>(HO.out.lt g hg).1)
     have hz2:=hB2.size
     have j0:=zcl hB2 k0
     have j1:=zcl hB2 k1
     have j2:=zcl hB2 k2
     have hbw2:Below w.heap.size w w2:=hbw.trans (hB2.mono (by omega))
     have HO2:=zh ho2
     have HBN:=zh hbn
     have hzr2:w.heap.size<w2.heap.size:=by omega
     clear ho2 hg2 hat2 hB2 hbn
     go_wp2_with fail
     go_roundw
     case rel=>exact⟨3,by omega,rfl,by first|exact HO2.out|(rw[← HBN.out];exact HO2.out),j0,j1,j2,hbw2,hzr2⟩
     case measure=>simp[intOf]
    ·replace hi:_=Value.int .i64 2:=hi
     subst hi
     obtain⟨Ao,co,e9⟩:=HO.out.slice
     subst e9
     have hbn:(be6 m).take 3++[UInt8.ofNat (m / 65536 % 256)]=(be6 m).take 4:=by simp[be6]
     have hw9:IntKind.u8.wrap ((m:Int) / 65536)=((m / 65536 % 256:Nat):Int):=by rw[ZcZ];omega
     have hw7:IntKind.u8.wrap (((m:Int) / 65536) % 256)=((m / 65536 % 256:Nat):Int):=by rw[ZcZ];omega
     have ha9:=ZdX ((m:Int) / 65536)
     have hu:=Zcl (n:=m / 65536 % 256) (by omega)
     generalize UInt8.ofNat (m / 65536 % 256)=d at hu hbn
     go_wp2_with (at_builtin;refine Zl (c:=cU) (B:=w.heap.size+1) (xs:=c::(be6 m).take 3) (ys:=[d]) (Fi:=[]) (Fy:=[]) _ rfl _ _ _ rfl i0 _ _ Tryz.underlying26 hi0 hz0 hz1 hz2 rfl (by decide) rfl (HO.out.bel bl) (.slice (some ⟨wr.heap.size,0,none⟩) 1 1) rfl (Zbg (by rw[hu];omega)) (by unfold maxLen;simp only[List.length_singleton];omega) (by simp only[List.length_singleton];omega) (by (try simp);(try omega)) (by simp) ?_)
     intro v2 w2 ho2 hg2 hat2
     have hB2:Below (w.heap.size+1) wr w2:=(Zat (by omega) (Below.refl _ _) _:Below (w.heap.size+1) wr (wr.alloc _)).grown hg2 (by (try simp);omega) (λg hg=>(HO.out.lt g hg).1)
     have hz2:=hB2.size
     have j0:=zcl hB2 k0
     have j1:=zcl hB2 k1
     have j2:=zcl hB2 k2
     have hbw2:Below w.heap.size w w2:=hbw.trans (hB2.mono (by omega))
     have HO2:=zh ho2
     have HBN:=zh hbn
     have hzr2:w.heap.size<w2.heap.size:=by omega
     clear ho2 hg2 hat2 hB2 hbn
     go_wp2_with fail
     go_roundw
     case rel=>exact⟨4,by omega,rfl,by first|exact HO2.out|(rw[← HBN.out];exact HO2.out),j0,j1,j2,hbw2,hzr2⟩
     case measure=>simp[intOf]
    ·replace hi:_=Value.int .i64 1:=hi
     subst hi
     obtain⟨Ao,co,e9⟩:=HO.out.slice
     subst e9
     have hbn:(be6 m).take 4++[UInt8.ofNat (m / 256 % 256)]=(be6 m).take 5:=by simp[be6]
     have hw9:IntKind.u8.wrap ((m:Int) / 256)=((m / 256 % 256:Nat):Int):=by rw[ZcZ];omega
     have hw7:IntKind.u8.wrap (((m:Int) / 256) % 256)=((m / 256 % 256:Nat):Int):=by rw[ZcZ];omega
     have ha9:=ZdX ((m:Int) / 256)
     have hu:=Zcl (n:=m / 256 % 256) (by omega)
     generalize UInt8.ofNat (m / 256 % 256)=d at hu hbn
     go_wp2_with (at_builtin;refine Zl (c:=cU) (B:=w.heap.size+1) (xs:=c::(be6 m).take 4) (ys:=[d]) (Fi:=[]) (Fy:=[]) _ rfl _ _ _ rfl i0 _ _ Tryz.underlying26 hi0 hz0 hz1 hz2 rfl (by decide) rfl (HO.out.bel bl) (.slice (some ⟨wr.heap.size,0,none⟩) 1 1) rfl (Zbg (by rw[hu];omega)) (by unfold maxLen;simp only[List.length_singleton];omega) (by simp only[List.length_singleton];omega) (by (try simp);(try omega)) (by simp) ?_)
     intro v2 w2 ho2 hg2 hat2
     have hB2:Below (w.heap.size+1) wr w2:=(Zat (by omega) (Below.refl _ _) _:Below (w.heap.size+1) wr (wr.alloc _)).grown hg2 (by (try simp);omega) (λg hg=>(HO.out.lt g hg).1)
     have hz2:=hB2.size
     have j0:=zcl hB2 k0
     have j1:=zcl hB2 k1
     have j2:=zcl hB2 k2
     have hbw2:Below w.heap.size w w2:=hbw.trans (hB2.mono (by omega))
     have HO2:=zh ho2
     have HBN:=zh hbn
     have hzr2:w.heap.size<w2.heap.size:=by omega
     clear ho2 hg2 hat2 hB2 hbn
     go_wp2_with fail
     go_roundw
     case rel=>exact⟨5,by omega,rfl,by first|exact HO2.out|(rw[← HBN.out];exact HO2.out),j0,j1,j2,hbw2,hzr2⟩
     case measure=>simp[intOf]
    ·replace hi:_=Value.int .i64 0:=hi
     subst hi
     obtain⟨Ao,co,e9⟩:=HO.out.slice
     subst e9
     have hbn:(be6 m).take 5++[UInt8.ofNat (m % 256)]=(be6 m).take 6:=by simp[be6]
     have hw9:IntKind.u8.wrap ((m:Int))=((m % 256:Nat):Int):=by rw[ZcZ];omega
     have hw7:IntKind.u8.wrap (((m:Int)) % 256)=((m % 256:Nat):Int):=by rw[ZcZ];omega
     have ha9:=ZdX ((m:Int))
     have hu:=Zcl (n:=m % 256) (by omega)
     generalize UInt8.ofNat (m % 256)=d at hu hbn
     go_wp2_with (at_builtin;refine Zl (c:=cU) (B:=w.heap.size+1) (xs:=c::(be6 m).take 5) (ys:=[d]) (Fi:=[]) (Fy:=[]) _ rfl _ _ _ rfl i0 _ _ Tryz.underlying26 hi0 hz0 hz1 hz2 rfl (by decide) rfl (HO.out.bel bl) (.slice (some ⟨wr.heap.size,0,none⟩) 1 1) rfl (Zbg (by rw[hu];omega)) (by unfold maxLen;simp only[List.length_singleton];omega) (by simp only[List.length_singleton];omega) (by (try simp);(try omega)) (by simp) ?_)
     intro v2 w2 ho2 hg2 hat2
     have hB2:Below (w.heap.size+1) wr w2:=(Zat (by omega) (Below.refl _ _) _:Below (w.heap.size+1) wr (wr.alloc _)).grown hg2 (by (try simp);omega) (λg hg=>(HO.out.lt g hg).1)
     have hz2:=hB2.size
     have j0:=zcl hB2 k0
     have j1:=zcl hB2 k1
     have j2:=zcl hB2 k2
     have hbw2:Below w.heap.size w w2:=hbw.trans (hB2.mono (by omega))
     have HO2:=zh ho2
     have HBN:=zh hbn
     have hzr2:w.heap.size<w2.heap.size:=by omega
     clear ho2 hg2 hat2 hB2 hbn
     go_wp2_with fail
     go_roundw
     case rel=>exact⟨6,by omega,rfl,by first|exact HO2.out|(rw[← HBN.out];exact HO2.out),j0,j1,j2,hbw2,hzr2⟩
     case measure=>simp[intOf]
    ·replace hi:_=Value.int .i64 (-1):=hi
     subst hi
     obtain⟨Ao,co,e9⟩:=HO.out.slice
     subst e9
     go_wp2_with (at_builtin;refine ZiH rfl _ _ rfl rfl (HO.out.bel bl) (by simp) t rfl (by omega) (by (try simp);(try omega)) ?_)
     intro v3 w3 ho3 hg3
     have hb3:Below w.heap.size w w3:=(show Below w.heap.size w _ from bl).grown hg3 (by (try simp);omega) (λg hg=>by have:=(HO.out.lt g hg).1;omega)
     have HO3:=zh ho3
     clear ho3 hg3
     go_wp2_with fail
     go_ret
     exact⟨_,rfl,hb3,by rw[HE.out];exact HO3.out.mono (by omega)⟩
  ·rw[e2,Bool.not_true] at hk2
   have hE:=Zje e1 e2
   simp only at hE
   replace hE:ZE ⟨(kn:Int),n,t⟩=[UInt8.ofNat kn]++Zp t:=hE
   have HC0:=zh (hon _ hk9)
   generalize UInt8.ofNat kn=c at *
   have HE:=zh hE
   have hlen:[c].length≤1:=Nat.le_refl _
   clear hE hon
   go_wp2_with (at_builtin;refine ZiH rfl _ _ rfl rfl (HC0.out.bel bl) (by simp) t rfl (by omega) (by (try simp);(try omega)) ?_)
   intro v3 w3 ho3 hg3
   have hb3:Below w.heap.size w w3:=(show Below w.heap.size w _ from bl).grown hg3 (by (try simp);omega) (λg hg=>by have:=(HC0.out.lt g hg).1;omega)
   have HO3:=zh ho3
   clear ho3 hg3
   go_wp2_with fail
   go_ret
   exact⟨_,rfl,hb3,by rw[HE.out];exact HO3.out.mono (by omega)⟩
theorem Zgp (k:TKey) (w:World) (hs:k.text.size≤maxLen) :
  Calls Tryz.prog 66 #[.agg #[.int .i64 k.kind,.int .i64 k.n,.string k.text]] w (Zeh cU 5 w (ZE k)):=by
 obtain⟨i0,hi0,hz0,hz1,hz2⟩:=info_parts Zcs
 obtain⟨kd,n,t⟩:=k
 simp only at hs⊢
 go_enter Tryz.func66,Tryz.ntmps66
 go_wp2_with fail
 refine(Zm ⟨kd,n,t⟩ _ hs).mono ?_
 cases e1:ZG ⟨kd,n,t⟩
 ·rintro e w1 ⟨rfl,hb1⟩
  have hB1:=zt (w:=w) hb1
  have HE:=zh (Zjd e1)
  clear hb1
  go_wp2_with fail
  go_ret
  exact⟨_,rfl,bl,by rw[HE.out];exact Own.empty _⟩
 ·rintro e w1 ⟨rfl,hb1⟩
  obtain⟨hc_w1,hf_w1,hz_w1⟩:=Zc hb1
  try simp at hz_w1
  have ha0_w1:w.heap.size<w1.heap.size:=by omega
  have hb_w1:=zt (w:=w) hb1
  have a0:w1.cell? ⟨w.heap.size,0,none⟩=some (.int .i64 kd):=by go_simp
  have a1:w1.cell? ⟨w.heap.size,1,none⟩=some (.int .i64 n):=by go_simp
  have a2:w1.cell? ⟨w.heap.size,2,none⟩=some (.string t):=by go_simp
  obtain⟨⟨hk1,hk3⟩,⟨hn1,hn2⟩,-,ht12⟩:=Zep e1
  simp only at hk1 hk3 hn1 hn2 ht12
  obtain⟨kn,rfl⟩:∃kn:Nat,kd=kn:=⟨kd.toNat,by omega⟩
  have hw8:IntKind.u8.wrap (kn:Int)=(kn:Int):=Zlp (by omega)
  have hk9:((UInt8.ofNat kn).toNat:Int)=(kn:Int):=by rw[Zcl (by omega)]
  have hk2:((kn:Int) !=2)=!((kn:Int)==2):=rfl
  have hon:∀c:UInt8,(c.toNat:Int)=(kn:Int)→Own cU 5 (w.heap.size+1) (w1.alloc (.cells #[.int .u8 (kn:Int)] 5)) (.slice (some ⟨w1.heap.size,0,none⟩) 1 1) [c] []:=λc hc=>by
   have h9:=Own.of_new (c:=cU) (w:=w1) (vs:=#[.int .u8 (kn:Int)]) (xs:=[c]) (F:=[]) 5 1 rfl (by omega) (by decide) rfl (by rw[← hc];exact Cod.reps_one ⟨rfl,rfl⟩)
   exact h9.mono (by omega)
  clear hc_w1 hf_w1 hb1
  cases e2:((kn:Int)==2)
  ·rw[e2,Bool.not_false] at hk2
   have hE:=Zjc e1 e2
   simp only at hE
   obtain⟨m,hm⟩:∃m:Nat,n+1000000000000=m:=⟨(n+1000000000000).toNat,by omega⟩
   have hm9:(n+1000000000000).toNat=m:=by omega
   rw[hm9] at hE
   have hml:m≤2000000000000:=by omega
   have hwn:IntKind.i64.wrap (n+1000000000000)=(m:Int):=by rw[IntWalk.i64_in _ (by omega)];exact hm
   replace hE:ZE ⟨(kn:Int),n,t⟩=(UInt8.ofNat kn::be6 m)++Zp t:=hE
   have HC0:=zh (hon _ hk9)
   generalize UInt8.ofNat kn=c at *
   have HE:=zh hE
   clear hE hon
   go_wp2_with fail
   go_loopw [4,3] (λi out wr=>∃j:Nat,j≤6∧i=.int .i64 (5-(j:Int))∧Own cU 5 (w.heap.size+1) wr out (c::(be6 m).take j) []∧wr.cell? ⟨w.heap.size,0,none⟩=some (.int .i64 (kn:Int))∧wr.cell? ⟨w.heap.size,1,none⟩=some (.int .i64 n)∧wr.cell? ⟨w.heap.size,2,none⟩=some (.string t)∧Below w.heap.size w wr∧w.heap.size<wr.heap.size) (λi _ _=>(intOf i+1).toNat)
   case atStart=>exact⟨0,by omega,rfl,HC0.out,(by go_simp),(by go_simp),(by go_simp),bl,by (try simp);(try omega)⟩
   case round =>
    obtain⟨j,hj,hi,hown,k0,k1,k2,hbw,hzr⟩:=hrel
    have HO:=zh hown
    have hlen:(c::(be6 m).take j).length≤7:=by simp only[List.length_cons,List.length_take];omega
    clear hown hk9 a0 a1 a2 HC0
    rcases (by omega:j=0∨j=1∨j=2∨j=3∨j=4∨j=5∨j=6) with rfl|rfl|rfl|rfl|rfl|rfl|rfl
    ·replace hi:_=Value.int .i64 5:=hi
     subst hi
     obtain⟨Ao,co,e9⟩:=HO.out.slice
     subst e9
     have hbn:(be6 m).take 0++[UInt8.ofNat (m / 1099511627776 % 256)]=(be6 m).take 1:=by simp[be6]
     have hw9:IntKind.u8.wrap ((m:Int) / 1099511627776)=((m / 1099511627776 % 256:Nat):Int):=by rw[ZcZ];omega
     have hw7:IntKind.u8.wrap (((m:Int) / 1099511627776) % 256)=((m / 1099511627776 % 256:Nat):Int):=by rw[ZcZ];omega
     have ha9:=ZdX ((m:Int) / 1099511627776)
     have hu:=Zcl (n:=m / 1099511627776 % 256) (by omega)
     generalize UInt8.ofNat (m / 1099511627776 % 256)=d at hu hbn
     go_wp2_with (at_builtin;refine Zl (c:=cU) (B:=w.heap.size+1) (xs:=c::(be6 m).take 0) (ys:=[d]) (Fi:=[]) (Fy:=[]) _ rfl _ _ _ rfl i0 _ _ Tryz.underlying26 hi0 hz0 hz1 hz2 rfl (by decide) rfl (HO.out.bel bl) (.slice (some ⟨wr.heap.size,0,none⟩) 1 1) rfl (Zbg (by rw[hu];omega)) (by unfold maxLen;simp only[List.length_singleton];omega) (by simp only[List.length_singleton];omega) (by (try simp);(try omega)) (by simp) ?_)
     intro v2 w2 ho2 hg2 hat2
     have hB2:Below (w.heap.size+1) wr w2:=(Zat (by omega) (Below.refl _ _) _:Below (w.heap.size+1) wr (wr.alloc _)).grown hg2 (by (try simp);omega) (λg hg=>(HO.out.lt g hg).1)
     have hz2:=hB2.size
     have j0:=zcl hB2 k0
     have j1:=zcl hB2 k1
     have j2:=zcl hB2 k2
     have hbw2:Below w.heap.size w w2:=hbw.trans (hB2.mono (by omega))
     have HO2:=zh ho2
     have HBN:=zh hbn
     have hzr2:w.heap.size<w2.heap.size:=by omega
     clear ho2 hg2 hat2 hB2 hbn
     go_wp2_with fail
     go_roundw
     case rel=>exact⟨1,by omega,rfl,by first|exact HO2.out|(rw[← HBN.out];exact HO2.out),j0,j1,j2,hbw2,hzr2⟩
     case measure=>simp[intOf]
    ·replace hi:_=Value.int .i64 4:=hi
     subst hi
     obtain⟨Ao,co,e9⟩:=HO.out.slice
     subst e9
     have hbn:(be6 m).take 1++[UInt8.ofNat (m / 4294967296 % 256)]=(be6 m).take 2:=by simp[be6]
     have hw9:IntKind.u8.wrap ((m:Int) / 4294967296)=((m / 4294967296 % 256:Nat):Int):=by rw[ZcZ];omega
     have hw7:IntKind.u8.wrap (((m:Int) / 4294967296) % 256)=((m / 4294967296 % 256:Nat):Int):=by rw[ZcZ];omega
     have ha9:=ZdX ((m:Int) / 4294967296)
     have hu:=Zcl (n:=m / 4294967296 % 256) (by omega)
     generalize UInt8.ofNat (m / 4294967296 % 256)=d at hu hbn
     go_wp2_with (at_builtin;refine Zl (c:=cU) (B:=w.heap.size+1) (xs:=c::(be6 m).take 1) (ys:=[d]) (Fi:=[]) (Fy:=[]) _ rfl _ _ _ rfl i0 _ _ Tryz.underlying26 hi0 hz0 hz1 hz2 rfl (by decide) rfl (HO.out.bel bl) (.slice (some ⟨wr.heap.size,0,none⟩) 1 1) rfl (Zbg (by rw[hu];omega)) (by unfold maxLen;simp only[List.length_singleton];omega) (by simp only[List.length_singleton];omega) (by (try simp);(try omega)) (by simp) ?_)
     intro v2 w2 ho2 hg2 hat2
     have hB2:Below (w.heap.size+1) wr w2:=(Zat (by omega) (Below.refl _ _) _:Below (w.heap.size+1) wr (wr.alloc _)).grown hg2 (by (try simp);omega) (λg hg=>(HO.out.lt g hg).1)
     have hz2:=hB2.size
     have j0:=zcl hB2 k0
     have j1:=zcl hB2 k1
     have j2:=zcl hB2 k2
     have hbw2:Below w.heap.size w w2:=hbw.trans (hB2.mono (by omega))
     have HO2:=zh ho2
     have HBN:=zh hbn
     have hzr2:w.heap.size<w2.heap.size:=by omega
     clear ho2 hg2 hat2 hB2 hbn
     go_wp2_with fail
     go_roundw
     case rel=>exact⟨2,by omega,rfl,by first|exact HO2.out|(rw[← HBN.out];exact HO2.out),j0,j1,j2,hbw2,hzr2⟩
     case measure=>simp[intOf]
    ·replace hi:_=Value.int .i64 3:=hi
     subst hi
     obtain⟨Ao,co,e9⟩:=HO.out.slice
     subst e9
     have hbn:(be6 m).take 2++[UInt8.ofNat (m / 16777216 % 256)]=(be6 m).take 3:=by simp[be6]
     have hw9:IntKind.u8.wrap ((m:Int) / 16777216)=((m / 16777216 % 256:Nat):Int):=by rw[ZcZ];omega
     have hw7:IntKind.u8.wrap (((m:Int) / 16777216) % 256)=((m / 16777216 % 256:Nat):Int):=by rw[ZcZ];omega
     have ha9:=ZdX ((m:Int) / 16777216)
     have hu:=Zcl (n:=m / 16777216 % 256) (by omega)
     generalize UInt8.ofNat (m / 16777216 % 256)=d at hu hbn
     go_wp2_with (at_builtin;refine Zl (c:=cU) (B:=w.heap.size+1) (xs:=c::(be6 m).take 2) (ys:=[d]) (Fi:=[]) (Fy:=[]) _ rfl _ _ _ rfl i0 _ _ Tryz.underlying26 hi0 hz0 hz1 hz2 rfl (by decide) rfl (HO.out.bel bl) (.slice (some ⟨wr.heap.size,0,none⟩) 1 1) rfl (Zbg (by rw[hu];omega)) (by unfold maxLen;simp only[List.length_singleton];omega) (by simp only[List.length_singleton];omega) (by (try simp);(try omega)) (by simp) ?_)
     intro v2 w2 ho2 hg2 hat2
     have hB2:Below (w.heap.size+1) wr w2:=(Zat (by omega) (Below.refl _ _) _:Below (w.heap.size+1) wr (wr.alloc _)).grown hg2 (by (try simp);omega) (λg hg=>(HO.out.lt g hg).1)
     have hz2:=hB2.size
     have j0:=zcl hB2 k0
     have j1:=zcl hB2 k1
     have j2:=zcl hB2 k2
     have hbw2:Below w.heap.size w w2:=hbw.trans (hB2.mono (by omega))
     have HO2:=zh ho2
     have HBN:=zh hbn
     have hzr2:w.heap.size<w2.heap.size:=by omega
     clear ho2 hg2 hat2 hB2 hbn
     go_wp2_with fail
     go_roundw
     case rel=>exact⟨3,by omega,rfl,by first|exact HO2.out|(rw[← HBN.out];exact HO2.out),j0,j1,j2,hbw2,hzr2⟩
     case measure=>simp[intOf]
    ·replace hi:_=Value.int .i64 2:=hi
     subst hi
     obtain⟨Ao,co,e9⟩:=HO.out.slice
     subst e9
     have hbn:(be6 m).take 3++[UInt8.ofNat (m / 65536 % 256)]=(be6 m).take 4:=by simp[be6]
     have hw9:IntKind.u8.wrap ((m:Int) / 65536)=((m / 65536 % 256:Nat):Int):=by rw[ZcZ];omega
     have hw7:IntKind.u8.wrap (((m:Int) / 65536) % 256)=((m / 65536 % 256:Nat):Int):=by rw[ZcZ];omega
     have ha9:=ZdX ((m:Int) / 65536)
     have hu:=Zcl (n:=m / 65536 % 256) (by omega)
     generalize UInt8.ofNat (m / 65536 % 256)=d at hu hbn
     go_wp2_with (at_builtin;refine Zl (c:=cU) (B:=w.heap.size+1) (xs:=c::(be6 m).take 3) (ys:=[d]) (Fi:=[]) (Fy:=[]) _ rfl _ _ _ rfl i0 _ _ Tryz.underlying26 hi0 hz0 hz1 hz2 rfl (by decide) rfl (HO.out.bel bl) (.slice (some ⟨wr.heap.size,0,none⟩) 1 1) rfl (Zbg (by rw[hu];omega)) (by unfold maxLen;simp only[List.length_singleton];omega) (by simp only[List.length_singleton];omega) (by (try simp);(try omega)) (by simp) ?_)
     intro v2 w2 ho2 hg2 hat2
     have hB2:Below (w.heap.size+1) wr w2:=(Zat (by omega) (Below.refl _ _) _:Below (w.heap.size+1) wr (wr.alloc _)).grown hg2 (by (try simp);omega) (λg hg=>(HO.out.lt g hg).1)
     have hz2:=hB2.size
     have j0:=zcl hB2 k0
     have j1:=zcl hB2 k1
     have j2:=zcl hB2 k2
     have hbw2:Below w.heap.size w w2:=hbw.trans (hB2.mono (by omega))
     have HO2:=zh ho2
     have HBN:=zh hbn
     have hzr2:w.heap.size<w2.heap.size:=by omega
     clear ho2 hg2 hat2 hB2 hbn
     go_wp2_with fail
     go_roundw
     case rel=>exact⟨4,by omega,rfl,by first|exact HO2.out|(rw[← HBN.out];exact HO2.out),j0,j1,j2,hbw2,hzr2⟩
     case measure=>simp[intOf]
    ·replace hi:_=Value.int .i64 1:=hi
     subst hi
     obtain⟨Ao,co,e9⟩:=HO.out.slice
     subst e9
     have hbn:(be6 m).take 4++[UInt8.ofNat (m / 256 % 256)]=(be6 m).take 5:=by simp[be6]
     have hw9:IntKind.u8.wrap ((m:Int) / 256)=((m / 256 % 256:Nat):Int):=by rw[ZcZ];omega
     have hw7:IntKind.u8.wrap (((m:Int) / 256) % 256)=((m / 256 % 256:Nat):Int):=by rw[ZcZ];omega
     have ha9:=ZdX ((m:Int) / 256)
     have hu:=Zcl (n:=m / 256 % 256) (by omega)
     generalize UInt8.ofNat (m / 256 % 256)=d at hu hbn
     go_wp2_with (at_builtin;refine Zl (c:=cU) (B:=w.heap.size+1) (xs:=c::(be6 m).take 4) (ys:=[d]) (Fi:=[]) (Fy:=[]) _ rfl _ _ _ rfl i0 _ _ Tryz.underlying26 hi0 hz0 hz1 hz2 rfl (by decide) rfl (HO.out.bel bl) (.slice (some ⟨wr.heap.size,0,none⟩) 1 1) rfl (Zbg (by rw[hu];omega)) (by unfold maxLen;simp only[List.length_singleton];omega) (by simp only[List.length_singleton];omega) (by (try simp);(try omega)) (by simp) ?_)
     intro v2 w2 ho2 hg2 hat2
     have hB2:Below (w.heap.size+1) wr w2:=(Zat (by omega) (Below.refl _ _) _:Below (w.heap.size+1) wr (wr.alloc _)).grown hg2 (by (try simp);omega) (λg hg=>(HO.out.lt g hg).1)
     have hz2:=hB2.size
     have j0:=zcl hB2 k0
     have j1:=zcl hB2 k1
     have j2:=zcl hB2 k2
     have hbw2:Below w.heap.size w w2:=hbw.trans (hB2.mono (by omega))
     have HO2:=zh ho2
     have HBN:=zh hbn
     have hzr2:w.heap.size<w2.heap.size:=by omega
     clear ho2 hg2 hat2 hB2 hbn
     go_wp2_with fail
     go_roundw
     case rel=>exact⟨5,by omega,rfl,by first|exact HO2.out|(rw[← HBN.out];exact HO2.out),j0,j1,j2,hbw2,hzr2⟩
     case measure=>simp[intOf]
    ·replace hi:_=Value.int .i64 0:=hi
     subst hi
     obtain⟨Ao,co,e9⟩:=HO.out.slice
     subst e9
     have hbn:(be6 m).take 5++[UInt8.ofNat (m % 256)]=(be6 m).take 6:=by simp[be6]
     have hw9:IntKind.u8.wrap ((m:Int))=((m % 256:Nat):Int):=by rw[ZcZ];omega
     have hw7:IntKind.u8.wrap (((m:Int)) % 256)=((m % 256:Nat):Int):=by rw[ZcZ];omega
     have ha9:=ZdX ((m:Int))
     have hu:=Zcl (n:=m % 256) (by omega)
     generalize UInt8.ofNat (m % 256)=d at hu hbn
     go_wp2_with (at_builtin;refine Zl (c:=cU) (B:=w.heap.size+1) (xs:=c::(be6 m).take 5) (ys:=[d]) (Fi:=[]) (Fy:=[]) _ rfl _ _ _ rfl i0 _ _ Tryz.underlying26 hi0 hz0 hz1 hz2 rfl (by decide) rfl (HO.out.bel bl) (.slice (some ⟨wr.heap.size,0,none⟩) 1 1) rfl (Zbg (by rw[hu];omega)) (by unfold maxLen;simp only[List.length_singleton];omega) (by simp only[List.length_singleton];omega) (by (try simp);(try omega)) (by simp) ?_)
     intro v2 w2 ho2 hg2 hat2
     have hB2:Below (w.heap.size+1) wr w2:=(Zat (by omega) (Below.refl _ _) _:Below (w.heap.size+1) wr (wr.alloc _)).grown hg2 (by (try simp);omega) (λg hg=>(HO.out.lt g hg).1)
     have hz2:=hB2.size
     have j0:=zcl hB2 k0
     have j1:=zcl hB2 k1
     have j2:=zcl hB2 k2
     have hbw2:Below w.heap.size w w2:=hbw.trans (hB2.mono (by omega))
     have HO2:=zh ho2
     have HBN:=zh hbn
     have hzr2:w.heap.size<w2.heap.size:=by omega
     clear ho2 hg2 hat2 hB2 hbn
     go_wp2_with fail
     go_roundw
     case rel=>exact⟨6,by omega,rfl,by first|exact HO2.out|(rw[← HBN.out];exact HO2.out),j0,j1,j2,hbw2,hzr2⟩
     case measure=>simp[intOf]
    ·replace hi:_=Value.int .i64 (-1):=hi
     subst hi
     obtain⟨Ao,co,e9⟩:=HO.out.slice
     subst e9
     obtain⟨vc,wc,Fc,hcv,hbc,hrc⟩:=Zfo wr t hs
     obtain⟨Ac,cc,e8⟩:=Zb hrc
     subst e8
     rw[Zbp] at hcv
     have HC:=zh (And.intro hbc hrc)
     have hzc:=hbc.size
     clear hbc hrc
     go_wp2_with (at_builtin;refine Zl (c:=cU) (B:=w.heap.size+1) (xs:=(c::(be6 m).take 6)) (ys:=Zp t) (Fi:=[]) (Fy:=[]) _ rfl _ _ _ rfl i0 _ _ Tryz.underlying26 hi0 hz0 hz1 hz2 rfl (by decide) rfl (HO.out.bel HC.out.1) (.slice Ac t.size cc) rfl (AppSrc.flat (hw:=by decide) (hw2:=by decide) ZeN HC.out.2) (by rw[Zbp];unfold maxLen;omega) (by rw[Zbp];omega) (by omega) (by simp) ?_)
     intro v3 w3 ho3 hg3 hat3
     have hb3:Below w.heap.size w w3:=(Za (show Below w.heap.size w wr from bl) HC.out.1).grown hg3 (by omega) (λg hg=>by have:=(HO.out.lt g hg).1;omega)
     have HO3:=zh ho3
     clear ho3 hg3 hat3
     go_wp2_with fail
     go_ret
     exact⟨_,rfl,hb3,by rw[HE.out];exact HO3.out.mono (by omega)⟩
  ·rw[e2,Bool.not_true] at hk2
   have hE:=Zje e1 e2
   simp only at hE
   replace hE:ZE ⟨(kn:Int),n,t⟩=[UInt8.ofNat kn]++Zp t:=hE
   have HC0:=zh (hon _ hk9)
   generalize UInt8.ofNat kn=c at *
   have HE:=zh hE
   have hlen:[c].length≤1:=Nat.le_refl _
   clear hE hon
   go_wp2_with fail
   go_loopw [4,3] (λi out wr=>i=.int .i64 5∧out=.slice (some ⟨w1.heap.size,0,none⟩) 1 1∧Own cU 5 (w.heap.size+1) wr (.slice (some ⟨w1.heap.size,0,none⟩) 1 1) [c] []∧wr.cell? ⟨w.heap.size,0,none⟩=some (.int .i64 (kn:Int))∧wr.cell? ⟨w.heap.size,2,none⟩=some (.string t)∧Below w.heap.size w wr∧w.heap.size<wr.heap.size) (λi _ _=>(intOf i+1).toNat)
   case atStart=>exact⟨rfl,rfl,HC0.out,(by go_simp),(by go_simp),bl,by (try simp);(try omega)⟩
   case round =>
    obtain⟨rfl,rfl,hown,k0,k2,hbw,hzr⟩:=hrel
    have HO:=zh hown
    clear hown hk9 a0 a1 a2 HC0
    obtain⟨vc,wc,Fc,hcv,hbc,hrc⟩:=Zfo wr t hs
    obtain⟨Ac,cc,e8⟩:=Zb hrc
    subst e8
    rw[Zbp] at hcv
    have HC:=zh (And.intro hbc hrc)
    have hzc:=hbc.size
    clear hbc hrc
    go_wp2_with (at_builtin;refine Zl (c:=cU) (B:=w.heap.size+1) (xs:=[c]) (ys:=Zp t) (Fi:=[]) (Fy:=[]) _ rfl _ _ _ rfl i0 _ _ Tryz.underlying26 hi0 hz0 hz1 hz2 rfl (by decide) rfl (HO.out.bel HC.out.1) (.slice Ac t.size cc) rfl (AppSrc.flat (hw:=by decide) (hw2:=by decide) ZeN HC.out.2) (by rw[Zbp];unfold maxLen;omega) (by rw[Zbp];omega) (by omega) (by simp) ?_)
    intro v3 w3 ho3 hg3 hat3
    have hb3:Below w.heap.size w w3:=(Za (show Below w.heap.size w wr from bl) HC.out.1).grown hg3 (by omega) (λg hg=>by have:=(HO.out.lt g hg).1;omega)
    have HO3:=zh ho3
    clear ho3 hg3 hat3
    go_wp2_with fail
    go_ret
    exact⟨_,rfl,hb3,by rw[HE.out];exact HO3.out.mono (by omega)⟩
end Go.Proofs.YtghndifnohkokaaGreat
