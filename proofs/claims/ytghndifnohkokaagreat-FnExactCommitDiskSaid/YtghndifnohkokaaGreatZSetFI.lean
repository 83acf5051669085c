/-
  SetFI of the seat. No conditions but sizes.
-/
import Derived.Test.YtghndifnohkokaaGreatZInsFn
import Derived.Test.YtghndifnohkokaaGreatZOpsPlain
import Derived.Test.YtghndifnohkokaaGreatZIsRec
import Derived.Test.YtghndifnohkokaaGreatZReadB
namespace Go.Proofs.YtghndifnohkokaaGreat
open Go.ChangeShapes Go.WideShapes Go.RowKit
set_option linter.unusedVariables false
set_option linter.unusedSimpArgs false
set_option maxRecDepth 100000
set_option maxHeartbeats 16000000
theorem Zno {fs:List TField} {name:ByteArray} {n:Int} {k:Nat} (hk:k<fs.length) (h:Zav fs name=k):ZeT fs name n=fs.set k ⟨fs[k].name,n⟩:=by
 unfold ZeT
 rw[h,if_neg (by omega),show ((k:Int)).toNat=k from rfl,List.getElem?_eq_getElem hk]
theorem ZlN {fs:List TField} {name:ByteArray} {n:Int} (h:Zav fs name=-1):ZeT fs name n=fs.take (Zaw name fs)++⟨name,n⟩::fs.drop (Zaw name fs):=by
 unfold ZeT
 rw[h,if_pos (by omega)]
def Zdd (name:ByteArray) (fs:List TField) (k:Nat):Bool:=(fs.take k).all λf=>ZcJ f.name name
theorem Zgw (name:ByteArray) (fs:List TField):Zdd name fs 0=true:=by simp[Zdd]
theorem Zgv {name:ByteArray} {fs:List TField} {k:Nat} (h:k<fs.length) (h1:Zdd name fs k=true) (h2:ZcJ fs[k].name name=true):Zdd name fs (k+1)=true:=by
 unfold Zdd at h1⊢
 rw[List.take_succ_eq_append_getElem h,List.all_append,h1];simp[h2]
theorem ZfT {name:ByteArray}:∀{fs:List TField},Zdd name fs fs.length=true→Zaw name fs=fs.length
 | [],_=>rfl
 | f::fs,h=>by
  simp only[Zdd,List.length_cons,List.take_succ_cons,List.all_cons,Bool.and_eq_true] at h
  rw[Zaw,h.1]
  show Zaw name fs+1=_
  rw[ZfT h.2];rfl
theorem ZeY {name:ByteArray}:∀{fs:List TField} {k:Nat} (hk:k<fs.length),Zdd name fs k=true→ZcJ fs[k].name name=false→Zaw name fs=k
 | f::fs,0,_,_,h=>by
  simp only[List.getElem_cons_zero] at h
  rw[Zaw,h];rfl
 | f::fs,k+1,hk,h1,h2=>by
  simp only[Zdd,List.take_succ_cons,List.all_cons,Bool.and_eq_true] at h1
  rw[Zaw,h1.1]
  show Zaw name fs+1=_
  rw[ZeY (by simpa using hk) h1.2 (by simpa using h2)]
theorem Zeb (v:Value) (fs:List TField) (name:ByteArray) (n:Int) (F:List Nat) (w:World) (h:cFieldS.rep w [v] fs F) (hl:fs.length≤1000000) (hs:name.size≤maxLen) (hn:-9223372036854775808≤n∧n≤9223372036854775807) :
  Calls Tryz.prog 158 #[.agg #[v],.string name,.int .i64 n] w (GivesR2 cRec w (Zan ⟨fs⟩ name n).1 (.bool (Zan ⟨fs⟩ name n).2)):=by
 rw[← Zkd]
 obtain⟨A,cp,rfl⟩:=Zb h
 obtain⟨-,hcp,hm⟩:=Zq h
 unfold maxLen at hm
 go_enter Tryz.func158,Tryz.ntmps158
 go_wp2_with fail
 refine(ZY _ fs _ _ (by exact zb h) (by omega)).mono ?_
 rintro e w1 ⟨v1,rfl,hb1,ho1⟩
 obtain⟨B1,d1,e9⟩:=ho1.slice
 subst e9
 obtain⟨hc_w1,hf_w1,hz_w1⟩:=Zc hb1
 try simp at hz_w1
 obtain⟨ha0_w1,ha1_w1⟩:=zg2 w.heap.size w1.heap.size
 have hb_w1:=zt (w:=w) hb1
 go_wp2_with fail
 refine(Zen _ fs name _ _ (by exact zb h)).mono ?_
 rintro e w2 ⟨he2,hb2⟩
 obtain⟨hc_w2,hf_w2,hz_w2⟩:=Zc hb2
 try simp at hz_w2
 obtain⟨ha0_w2,ha1_w2⟩:=zg2 w.heap.size w2.heap.size
 have ha2_w2:w1.heap.size<w2.heap.size:=by omega
 have hb_w2:=zt (w:=w) hb2
 have hB12:=zt (w:=w1) hb2
 have ho2:=ho1.bel hB12
 have a0:w2.cell? ⟨w.heap.size,0,none⟩=some (.slice A fs.length cp):=by go_simp
 have b0:w2.cell? ⟨w.heap.size+1,0,none⟩=some (.slice none 0 0):=by go_simp
 have c0:w2.cell? ⟨w1.heap.size,0,none⟩=some (.slice B1 fs.length d1):=by go_simp
 have fb0:w2.frozen? ⟨w.heap.size+1,0,none⟩=false:=by go_simp
 have fc0:w2.frozen? ⟨w1.heap.size,0,none⟩=false:=by go_simp
 have hlow:∀g,Zac (.slice B1 fs.length d1)=some g→w.heap.size+1+1≤g∧g<w1.heap.size:=λg hg=>by have h8:=ho1.lt g hg;(try simp at h8);omega
 have HO2:=zh (ho2.mono (show w.heap.size+2≤_ by (try simp);(try omega)))
 have HLOW:=zh hlow
 clear ho1 ho2 hc_w1 hf_w1 hc_w2 hf_w2 hb1 hb2 hlow
 rcases Zfq (λf:TField=>Zaz f.name name) fs with ⟨h1,h2⟩|⟨k,hk,h1,h2⟩
 ·rw[show Zav fs name=-1 from h1] at he2
  have hE1:=ZlN (n:=n) h1
  clear h1 h2
  subst he2
  obtain⟨m,hxm⟩:∃m,fs.length=m:=⟨_,rfl⟩
  have HM:=zh hxm
  have hl2:=hl
  rw[hxm] at h a0 c0 hcp hl HO2 HLOW
  obtain⟨FO,hrO,-,-⟩:=HO2.out.fresh (hw:=by decide) (hw2:=by decide)
  have hdc:m≤d1∧d1≤maxLen:=by have h9:=Zq hrO;exact h9.2
  have hdm:=hdc.2
  unfold maxLen at hdm
  clear hxm
  go_wp2_with fail
  go_loop [10] (λi=>∃k:Nat,k≤m∧i=.int .i64 k∧Zdd name fs k=true) (λi=>m-(intOf i).toNat)
  case atStart=>exact⟨0,Nat.zero_le _,rfl,Zgw _ _⟩
  case round =>
   obtain⟨k,hk,rfl,hno⟩:=hrel
   have HNO:=zh hno
   clear hno
   have hstop:∀wS:World,wS=w2→(k<m→∃hkx:k<fs.length,ZcJ fs[k].name name=false)→Zaw name fs=k:=λ_ _ h8=>by
    by_cases h7:k<m
    ·obtain⟨h6,h5⟩:=h8 h7
     exact ZeY h6 HNO.out h5
    ·have h6:k=fs.length:=by rw[HM.out];omega
     subst h6
     exact ZfT HNO.out
   have HST:=zh (hstop w2 rfl)
   clear hstop
   by_cases hlt:k<m
   ·have hkx:k<fs.length:=by rw[HM.out];exact hlt
    have hki:(k:Int)<(m:Int):=by omega
    obtain⟨g,o,rfl,hgF,hgw,-,q0,q1⟩:=ZbS hrO hkx
    cases hls:Op.bytesLess fs[k].name.toList name.toList
    ·have HAT:=zh (HST.out (λ_=>⟨hkx,hls⟩))
     have hins:∀(k:Nat) vb W,k≤m→Below w2.heap.size w2 W→w2.heap.size≤vb→Blk W vb 114 #[.string name,.int .i64 n]→Calls Tryz.prog 182 #[.slice (some ⟨g,o,none⟩) m d1,.int .i64 k,.slice (some ⟨vb,0,none⟩) 1 1] W (Zei cField 114 (w.heap.size+2) W (.slice (some ⟨g,o,none⟩) m d1) fs [] k ⟨name,n⟩ []) :=
      λk vb W hk hb hvb hblk=>Zeo _ m d1 k fs ⟨name,n⟩ #[.string name,.int .i64 n] [] [] vb (w.heap.size+2) W (HO2.out.bel hb) (λg hg=>⟨by simp,by simp,by have:=(HLOW.out g hg).2;omega⟩) HM.out hk (by omega) hblk (TField.mk_ (x:=⟨name,n⟩) ⟨hs,hn⟩) (by have:=hb.size;omega)
     have HI:=zh hins
     clear hins
     go_wp2_with fail
     refine(HI.out k _ _ (by omega) (by exact bl) (Nat.le_refl _) (by exact Blk.new _ _ _)).mono ?_
     rintro e w3 ⟨A3,cp3,G1,G2,rfl,hGG,ho3,hg3,hat3⟩
     have hG0:G1=[]∧G2=[]:=by
      have h9:=congrArg List.length hGG
      simp only[List.length_nil,List.length_append] at h9
      exact⟨List.eq_nil_of_length_eq_zero (by omega),List.eq_nil_of_length_eq_zero (by omega)⟩
     obtain⟨rfl,rfl⟩:=hG0
     rw[HM.out] at ho3 hat3⊢
     have hz3:=hg3.size
     (try simp at hz3)
     have hbl:=λb (hb:b<w2.heap.size)=>Below.block (ZM (Below.refl w2.heap.size w2) (.cells #[.string name,.int .i64 n] 114)) b hb
     have hr0:=hg3.block w.heap.size (by (try simp);(try omega)) (λe9=>by have:=HLOW.out _ e9.symm;omega)
     have hr1:=hg3.block (w.heap.size+1) (by (try simp);(try omega)) (λe9=>by have:=HLOW.out _ e9.symm;omega)
     have hr2:=hg3.block w1.heap.size (by (try simp);(try omega)) (λe9=>by have:=HLOW.out _ e9.symm;omega)
     have e0:=(World.cell?_of_block (a:=⟨w.heap.size,0,none⟩) (hr0.trans (hbl _ (by omega)))).trans a0
     have e1:=(World.cell?_of_block (a:=⟨w.heap.size+1,0,none⟩) (hr1.trans (hbl _ (by omega)))).trans b0
     have e2:=(World.frozen?_of_block (a:=⟨w.heap.size+1,0,none⟩) (hr1.trans (hbl _ (by omega)))).trans fb0
     have e3:=(World.cell?_of_block (a:=⟨w1.heap.size,0,none⟩) (hr2.trans (hbl _ (by omega)))).trans c0
     have e4:=(World.frozen?_of_block (a:=⟨w1.heap.size,0,none⟩) (hr2.trans (hbl _ (by omega)))).trans fc0
     have hB3:Below w.heap.size w w3:=(show Below w.heap.size w (w2.alloc _) from bl).grown hg3 (by (try simp);(try omega)) (λg hg=>by have:=HLOW.out g hg;omega)
     have hat4:Zac (.slice A3 (m+1) cp3)≠some w1.heap.size:=λe9=>by
      rcases hat3 _ e9 with h9|h9
      ·have:=HLOW.out _ h9;omega
      ·(try simp at h9);omega
     have ho4:=ho3.set_ (p:=⟨w1.heap.size,0,none⟩) hat4 (.slice A3 (m+1) cp3)
     have HX:=zh (And.intro ho4 (And.intro hB3 (show w2.heap.size+1≤w3.heap.size from hz3)))
     clear hGG ho3 hg3 hat3 hr0 hr1 hr2 hbl hat4 ho4 HI
     go_wp2_with fail
     have hB4:Below w.heap.size w (w3.setCell ⟨w1.heap.size,0,none⟩ (.slice A3 (m+1) cp3)):=ZeZ HX.out.2.1 (by (try simp);(try omega)) _
     have ha4:(w3.setCell ⟨w1.heap.size,0,none⟩ (.slice A3 (m+1) cp3)).cell? ⟨w.heap.size,0,none⟩=some (.slice A m cp):=by go_simp
     have hb4:(w3.setCell ⟨w1.heap.size,0,none⟩ (.slice A3 (m+1) cp3)).cell? ⟨w.heap.size+1,0,none⟩=some (.slice none 0 0):=by go_simp
     have hf4:(w3.setCell ⟨w1.heap.size,0,none⟩ (.slice A3 (m+1) cp3)).frozen? ⟨w.heap.size+1,0,none⟩=false:=by go_simp
     have hc4:(w3.setCell ⟨w1.heap.size,0,none⟩ (.slice A3 (m+1) cp3)).cell? ⟨w1.heap.size,0,none⟩=some (.slice A3 (m+1) cp3):=by go_simp
     have hz4:w1.heap.size<(w3.setCell ⟨w1.heap.size,0,none⟩ (.slice A3 (m+1) cp3)).heap.size:=by (try simp);omega
     have HT0:=HX.out.1
     clear HX hB3 e0 e1 e2 e3 e4 hz3
     generalize w3.setCell ⟨w1.heap.size,0,none⟩ (.slice A3 (m+1) cp3)=w4 at *
     have HT:=zh HT0
     have HE:=zh (show ZaJ ⟨fs⟩ name n=(bif Ze ⟨fs⟩&&Ze ⟨fs.take k++⟨name,n⟩::fs.drop k⟩ then (⟨fs.take k++⟨name,n⟩::fs.drop k⟩,true) else (⟨fs⟩,false)) by unfold ZaJ;rw[hE1,HAT.out])
     clear HT0
     have hz4a:w.heap.size<w4.heap.size:=by omega
     have hz4b:w.heap.size+1<w4.heap.size:=by omega
     obtain⟨FT,hrT,hfT,-⟩:=HT.out.fresh (hw:=by decide) (hw2:=by decide)
     have HRT:=zh (And.intro hrT hfT)
     clear hrT hfT
     refine(Zt _ fs _ _ (by exact zb h)).mono ?_
     cases e1:Ze ⟨fs⟩
     ·rintro e w5 ⟨rfl,hb5⟩
      obtain⟨hc_w5,hf_w5,hz_w5⟩:=Zc hb5
      try simp at hz_w5
      obtain⟨ha0_w5,ha1_w5⟩:=zg2 w.heap.size w5.heap.size
      have ha2_w5:w1.heap.size<w5.heap.size:=by omega
      have hb_w5:=zt (w:=w) hb5
      go_wp2_with fail
      refine(ZY _ fs _ _ (by exact zb h) (by omega)).mono ?_
      rintro e w6 ⟨v6,rfl,hb6,ho6⟩
      obtain⟨B6,d6,e9⟩:=ho6.slice
      subst e9
      obtain⟨hc_w6,hf_w6,hz_w6⟩:=Zc hb6
      try simp at hz_w6
      obtain⟨ha0_w6,ha1_w6⟩:=zg2 w.heap.size w6.heap.size
      have ha2_w6:w1.heap.size<w6.heap.size:=by omega
      have hb_w6:=zt (w:=w) hb6
      have ho7:=(ho6.set_ (p:=⟨w.heap.size+1,0,none⟩) (λe9=>by have h9:=(ho6.lt _ e9).1;(try simp at h9);(try omega)) (.slice B6 fs.length d6)).mono (show w.heap.size≤_ by (try simp);(try omega))
      obtain⟨F7,hr7,hf7,-⟩:=ho7.fresh (hw:=by decide) (hw2:=by decide)
      have H7:=zh (And.intro hr7 hf7)
      clear ho6 ho7 hr7 hf7
      go_wp2_with fail
      refine bodyPost_ret (v:=.tuple #[.agg #[.slice B6 fs.length d6],.bool false]) (by simp[results,Tryz.results158,go_sem, *]) rfl ?_
      have hE:ZaJ ⟨fs⟩ name n=(⟨fs⟩,false):=by rw[HE.out,e1];rfl
      rw[hE]
      exact⟨_,F7,rfl,bl,TRec.mk_ trivial H7.out.1,H7.out.2⟩
     ·rintro e w5 ⟨rfl,hb5⟩
      obtain⟨hc_w5,hf_w5,hz_w5⟩:=Zc hb5
      try simp at hz_w5
      obtain⟨ha0_w5,ha1_w5⟩:=zg2 w.heap.size w5.heap.size
      have ha2_w5:w1.heap.size<w5.heap.size:=by omega
      have hb_w5:=zt (w:=w) hb5
      go_wp2_with fail
      refine(Zt _ (fs.take k++⟨name,n⟩::fs.drop k) _ _ (by exact zb HRT.out.1)).mono ?_
      cases e2:Ze ⟨fs.take k++⟨name,n⟩::fs.drop k⟩
      ·rintro e w6 ⟨rfl,hb6⟩
       obtain⟨hc_w6,hf_w6,hz_w6⟩:=Zc hb6
       try simp at hz_w6
       obtain⟨ha0_w6,ha1_w6⟩:=zg2 w.heap.size w6.heap.size
       have ha2_w6:w1.heap.size<w6.heap.size:=by omega
       have hb_w6:=zt (w:=w) hb6
       go_wp2_with fail
       refine(ZY _ fs _ _ (by exact zb h) (by omega)).mono ?_
       rintro e w7 ⟨v6,rfl,hb7,ho6⟩
       obtain⟨B6,d6,e9⟩:=ho6.slice
       subst e9
       obtain⟨hc_w7,hf_w7,hz_w7⟩:=Zc hb7
       try simp at hz_w7
       obtain⟨ha0_w7,ha1_w7⟩:=zg2 w.heap.size w7.heap.size
       have ha2_w7:w1.heap.size<w7.heap.size:=by omega
       have hb_w7:=zt (w:=w) hb7
       have ho7:=(ho6.set_ (p:=⟨w.heap.size+1,0,none⟩) (λe9=>by have h9:=(ho6.lt _ e9).1;(try simp at h9);(try omega)) (.slice B6 fs.length d6)).mono (show w.heap.size≤_ by (try simp);(try omega))
       obtain⟨F7,hr7,hf7,-⟩:=ho7.fresh (hw:=by decide) (hw2:=by decide)
       have H7:=zh (And.intro hr7 hf7)
       clear ho6 ho7 hr7 hf7
       go_wp2_with fail
       refine bodyPost_ret (v:=.tuple #[.agg #[.slice B6 fs.length d6],.bool false]) (by simp[results,Tryz.results158,go_sem, *]) rfl ?_
       have hE:ZaJ ⟨fs⟩ name n=(⟨fs⟩,false):=by rw[HE.out,e1,e2];rfl
       rw[hE]
       exact⟨_,F7,rfl,bl,TRec.mk_ trivial H7.out.1,H7.out.2⟩
      ·rintro e w6 ⟨rfl,hb6⟩
       obtain⟨hc_w6,hf_w6,hz_w6⟩:=Zc hb6
       try simp at hz_w6
       obtain⟨ha0_w6,ha1_w6⟩:=zg2 w.heap.size w6.heap.size
       have ha2_w6:w1.heap.size<w6.heap.size:=by omega
       have hb_w6:=zt (w:=w) hb6
       have hBT6:Below w4.heap.size w4 w6:=Za (zt hb5) (zt hb6)
       have ho7:=((HT.out.bel hBT6).set_ (p:=⟨w.heap.size+1,0,none⟩) (λe9=>by have h9:=(HT.out.lt _ e9).1;(try simp at h9);(try omega)) (.slice A3 (m+1) cp3)).mono (show w.heap.size≤_ by (try simp);(try omega))
       obtain⟨F7,hr7,hf7,-⟩:=ho7.fresh (hw:=by decide) (hw2:=by decide)
       have H7:=zh (And.intro hr7 hf7)
       clear ho7 hr7 hf7
       go_wp2_with fail
       refine bodyPost_ret (v:=.tuple #[.agg #[.slice A3 (m+1) cp3],.bool true]) (by simp[results,Tryz.results158,go_sem, *]) rfl ?_
       have hE:ZaJ ⟨fs⟩ name n=(⟨fs.take k++⟨name,n⟩::fs.drop k⟩,true):=by rw[HE.out,e1,e2];rfl
       rw[hE]
       exact⟨_,F7,rfl,bl,TRec.mk_ trivial H7.out.1,H7.out.2⟩
    ·have HLS:=zh hls
     go_wp2_with fail
     go_round
     case rel=>exact⟨k+1,by omega,by go_num,Zgv hkx HNO.out HLS.out⟩
     case measure=>simp[intOf];omega
   ·obtain rfl:k=m:=by omega
    have HAT:=zh (HST.out (λh9=>absurd h9 (by omega)))
    have hins:∀(k2:Nat) vb W,k2≤k→Below w2.heap.size w2 W→w2.heap.size≤vb→Blk W vb 114 #[.string name,.int .i64 n]→Calls Tryz.prog 182 #[.slice (B1) k d1,.int .i64 k2,.slice (some ⟨vb,0,none⟩) 1 1] W (Zei cField 114 (w.heap.size+2) W (.slice (B1) k d1) fs [] k2 ⟨name,n⟩ []) :=
     λk2 vb W hk hb hvb hblk=>Zeo _ k d1 k2 fs ⟨name,n⟩ #[.string name,.int .i64 n] [] [] vb (w.heap.size+2) W (HO2.out.bel hb) (λg hg=>⟨by simp,by simp,by have:=(HLOW.out g hg).2;omega⟩) HM.out hk (by omega) hblk (TField.mk_ (x:=⟨name,n⟩) ⟨hs,hn⟩) (by have:=hb.size;omega)
    have HI:=zh hins
    clear hins
    go_wp2_with fail
    refine(HI.out k _ _ (by omega) (by exact bl) (Nat.le_refl _) (by exact Blk.new _ _ _)).mono ?_
    rintro e w3 ⟨A3,cp3,G1,G2,rfl,hGG,ho3,hg3,hat3⟩
    have hG0:G1=[]∧G2=[]:=by
     have h9:=congrArg List.length hGG
     simp only[List.length_nil,List.length_append] at h9
     exact⟨List.eq_nil_of_length_eq_zero (by omega),List.eq_nil_of_length_eq_zero (by omega)⟩
    obtain⟨rfl,rfl⟩:=hG0
    rw[HM.out] at ho3 hat3⊢
    have hz3:=hg3.size
    (try simp at hz3)
    have hbl:=λb (hb:b<w2.heap.size)=>Below.block (ZM (Below.refl w2.heap.size w2) (.cells #[.string name,.int .i64 n] 114)) b hb
    have hr0:=hg3.block w.heap.size (by (try simp);(try omega)) (λe9=>by have:=HLOW.out _ e9.symm;omega)
    have hr1:=hg3.block (w.heap.size+1) (by (try simp);(try omega)) (λe9=>by have:=HLOW.out _ e9.symm;omega)
    have hr2:=hg3.block w1.heap.size (by (try simp);(try omega)) (λe9=>by have:=HLOW.out _ e9.symm;omega)
    have e0:=(World.cell?_of_block (a:=⟨w.heap.size,0,none⟩) (hr0.trans (hbl _ (by omega)))).trans a0
    have e1:=(World.cell?_of_block (a:=⟨w.heap.size+1,0,none⟩) (hr1.trans (hbl _ (by omega)))).trans b0
    have e2:=(World.frozen?_of_block (a:=⟨w.heap.size+1,0,none⟩) (hr1.trans (hbl _ (by omega)))).trans fb0
    have e3:=(World.cell?_of_block (a:=⟨w1.heap.size,0,none⟩) (hr2.trans (hbl _ (by omega)))).trans c0
    have e4:=(World.frozen?_of_block (a:=⟨w1.heap.size,0,none⟩) (hr2.trans (hbl _ (by omega)))).trans fc0
    have hB3:Below w.heap.size w w3:=(show Below w.heap.size w (w2.alloc _) from bl).grown hg3 (by (try simp);(try omega)) (λg hg=>by have:=HLOW.out g hg;omega)
    have hat4:Zac (.slice A3 (k+1) cp3)≠some w1.heap.size:=λe9=>by
     rcases hat3 _ e9 with h9|h9
     ·have:=HLOW.out _ h9;omega
     ·(try simp at h9);omega
    have ho4:=ho3.set_ (p:=⟨w1.heap.size,0,none⟩) hat4 (.slice A3 (k+1) cp3)
    have HX:=zh (And.intro ho4 (And.intro hB3 (show w2.heap.size+1≤w3.heap.size from hz3)))
    clear hGG ho3 hg3 hat3 hr0 hr1 hr2 hbl hat4 ho4 HI
    go_wp2_with fail
    have hB4:Below w.heap.size w (w3.setCell ⟨w1.heap.size,0,none⟩ (.slice A3 (k+1) cp3)):=ZeZ HX.out.2.1 (by (try simp);(try omega)) _
    have ha4:(w3.setCell ⟨w1.heap.size,0,none⟩ (.slice A3 (k+1) cp3)).cell? ⟨w.heap.size,0,none⟩=some (.slice A k cp):=by go_simp
    have hb4:(w3.setCell ⟨w1.heap.size,0,none⟩ (.slice A3 (k+1) cp3)).cell? ⟨w.heap.size+1,0,none⟩=some (.slice none 0 0):=by go_simp
    have hf4:(w3.setCell ⟨w1.heap.size,0,none⟩ (.slice A3 (k+1) cp3)).frozen? ⟨w.heap.size+1,0,none⟩=false:=by go_simp
    have hc4:(w3.setCell ⟨w1.heap.size,0,none⟩ (.slice A3 (k+1) cp3)).cell? ⟨w1.heap.size,0,none⟩=some (.slice A3 (k+1) cp3):=by go_simp
    have hz4:w1.heap.size<(w3.setCell ⟨w1.heap.size,0,none⟩ (.slice A3 (k+1) cp3)).heap.size:=by (try simp);omega
    have HT0:=HX.out.1
    clear HX hB3 e0 e1 e2 e3 e4 hz3
    generalize w3.setCell ⟨w1.heap.size,0,none⟩ (.slice A3 (k+1) cp3)=w4 at *
    have HT:=zh HT0
    have HE:=zh (show ZaJ ⟨fs⟩ name n=(bif Ze ⟨fs⟩&&Ze ⟨fs.take k++⟨name,n⟩::fs.drop k⟩ then (⟨fs.take k++⟨name,n⟩::fs.drop k⟩,true) else (⟨fs⟩,false)) by unfold ZaJ;rw[hE1,HAT.out])
    clear HT0
    have hz4a:w.heap.size<w4.heap.size:=by omega
    have hz4b:w.heap.size+1<w4.heap.size:=by omega
    obtain⟨FT,hrT,hfT,-⟩:=HT.out.fresh (hw:=by decide) (hw2:=by decide)
    have HRT:=zh (And.intro hrT hfT)
    clear hrT hfT
    refine(Zt _ fs _ _ (by exact zb h)).mono ?_
    cases e1:Ze ⟨fs⟩
    ·rintro e w5 ⟨rfl,hb5⟩
     obtain⟨hc_w5,hf_w5,hz_w5⟩:=Zc hb5
     try simp at hz_w5
     obtain⟨ha0_w5,ha1_w5⟩:=zg2 w.heap.size w5.heap.size
     have ha2_w5:w1.heap.size<w5.heap.size:=by omega
     have hb_w5:=zt (w:=w) hb5
     go_wp2_with fail
     refine(ZY _ fs _ _ (by exact zb h) (by omega)).mono ?_
     rintro e w6 ⟨v6,rfl,hb6,ho6⟩
     obtain⟨B6,d6,e9⟩:=ho6.slice
     subst e9
     obtain⟨hc_w6,hf_w6,hz_w6⟩:=Zc hb6
     try simp at hz_w6
     obtain⟨ha0_w6,ha1_w6⟩:=zg2 w.heap.size w6.heap.size
     have ha2_w6:w1.heap.size<w6.heap.size:=by omega
     have hb_w6:=zt (w:=w) hb6
     have ho7:=(ho6.set_ (p:=⟨w.heap.size+1,0,none⟩) (λe9=>by have h9:=(ho6.lt _ e9).1;(try simp at h9);(try omega)) (.slice B6 fs.length d6)).mono (show w.heap.size≤_ by (try simp);(try omega))
     obtain⟨F7,hr7,hf7,-⟩:=ho7.fresh (hw:=by decide) (hw2:=by decide)
     have H7:=zh (And.intro hr7 hf7)
     clear ho6 ho7 hr7 hf7
     go_wp2_with fail
     refine bodyPost_ret (v:=.tuple #[.agg #[.slice B6 fs.length d6],.bool false]) (by simp[results,Tryz.results158,go_sem, *]) rfl ?_
     have hE:ZaJ ⟨fs⟩ name n=(⟨fs⟩,false):=by rw[HE.out,e1];rfl
     rw[hE]
     exact⟨_,F7,rfl,bl,TRec.mk_ trivial H7.out.1,H7.out.2⟩
    ·rintro e w5 ⟨rfl,hb5⟩
     obtain⟨hc_w5,hf_w5,hz_w5⟩:=Zc hb5
     try simp at hz_w5
     obtain⟨ha0_w5,ha1_w5⟩:=zg2 w.heap.size w5.heap.size
     have ha2_w5:w1.heap.size<w5.heap.size:=by omega
     have hb_w5:=zt (w:=w) hb5
     go_wp2_with fail
     refine(Zt _ (fs.take k++⟨name,n⟩::fs.drop k) _ _ (by exact zb HRT.out.1)).mono ?_
     cases e2:Ze ⟨fs.take k++⟨name,n⟩::fs.drop k⟩
     ·rintro e w6 ⟨rfl,hb6⟩
      obtain⟨hc_w6,hf_w6,hz_w6⟩:=Zc hb6
      try simp at hz_w6
      obtain⟨ha0_w6,ha1_w6⟩:=zg2 w.heap.size w6.heap.size
      have ha2_w6:w1.heap.size<w6.heap.size:=by omega
      have hb_w6:=zt (w:=w) hb6
      go_wp2_with fail
      refine(ZY _ fs _ _ (by exact zb h) (by omega)).mono ?_
      rintro e w7 ⟨v6,rfl,hb7,ho6⟩
      obtain⟨B6,d6,e9⟩:=ho6.slice
      subst e9
      obtain⟨hc_w7,hf_w7,hz_w7⟩:=Zc hb7
      try simp at hz_w7
      obtain⟨ha0_w7,ha1_w7⟩:=zg2 w.heap.size w7.heap.size
      have ha2_w7:w1.heap.size<w7.heap.size:=by omega
      have hb_w7:=zt (w:=w) hb7
      have ho7:=(ho6.set_ (p:=⟨w.heap.size+1,0,none⟩) (λe9=>by have h9:=(ho6.lt _ e9).1;(try simp at h9);(try omega)) (.slice B6 fs.length d6)).mono (show w.heap.size≤_ by (try simp);(try omega))
      obtain⟨F7,hr7,hf7,-⟩:=ho7.fresh (hw:=by decide) (hw2:=by decide)
      have H7:=zh (And.intro hr7 hf7)
      clear ho6 ho7 hr7 hf7
      go_wp2_with fail
      refine bodyPost_ret (v:=.tuple #[.agg #[.slice B6 fs.length d6],.bool false]) (by simp[results,Tryz.results158,go_sem, *]) rfl ?_
      have hE:ZaJ ⟨fs⟩ name n=(⟨fs⟩,false):=by rw[HE.out,e1,e2];rfl
      rw[hE]
      exact⟨_,F7,rfl,bl,TRec.mk_ trivial H7.out.1,H7.out.2⟩
     ·rintro e w6 ⟨rfl,hb6⟩
      obtain⟨hc_w6,hf_w6,hz_w6⟩:=Zc hb6
      try simp at hz_w6
      obtain⟨ha0_w6,ha1_w6⟩:=zg2 w.heap.size w6.heap.size
      have ha2_w6:w1.heap.size<w6.heap.size:=by omega
      have hb_w6:=zt (w:=w) hb6
      have hBT6:Below w4.heap.size w4 w6:=Za (zt hb5) (zt hb6)
      have ho7:=((HT.out.bel hBT6).set_ (p:=⟨w.heap.size+1,0,none⟩) (λe9=>by have h9:=(HT.out.lt _ e9).1;(try simp at h9);(try omega)) (.slice A3 (k+1) cp3)).mono (show w.heap.size≤_ by (try simp);(try omega))
      obtain⟨F7,hr7,hf7,-⟩:=ho7.fresh (hw:=by decide) (hw2:=by decide)
      have H7:=zh (And.intro hr7 hf7)
      clear ho7 hr7 hf7
      go_wp2_with fail
      refine bodyPost_ret (v:=.tuple #[.agg #[.slice A3 (k+1) cp3],.bool true]) (by simp[results,Tryz.results158,go_sem, *]) rfl ?_
      have hE:ZaJ ⟨fs⟩ name n=(⟨fs.take k++⟨name,n⟩::fs.drop k⟩,true):=by rw[HE.out,e1,e2];rfl
      rw[hE]
      exact⟨_,F7,rfl,bl,TRec.mk_ trivial H7.out.1,H7.out.2⟩
 ·rw[show Zav fs name=(k:Int) from h1] at he2
  have hE1:=Zno (n:=n) hk h1
  have HE:=zh (show ZaJ ⟨fs⟩ name n=(bif Ze ⟨fs⟩&&Ze ⟨fs.set k ⟨fs[k].name,n⟩⟩ then (⟨fs.set k ⟨fs[k].name,n⟩⟩,true) else (⟨fs⟩,false)) by unfold ZaJ;rw[hE1])
  clear h1 h2 hE1
  subst he2
  have hki:(k:Int)<(fs.length:Int):=by omega
  obtain⟨g,F1,Fm,F2,vs,rfl,-,hnd,hgB,hgw,hgo,hFi,hrm,hcm,hfm,hput⟩:=HO2.out.put1 (by decide) hk 1 (by decide) (.int .i64 n)
  obtain⟨rfl,hFm,hokk⟩:=TField.out hrm
  have hgl:=HLOW.out g hgo
  have p1:w2.cell? ⟨g,k*2+1,none⟩=some (.int .i64 fs[k].n):=hcm 1 (by decide)
  have hfp:w2.frozen? ⟨g,k*2+1,none⟩=false:=hfm _
  have hF0:F1=[]∧F2=[]:=by
   have h9:=congrArg List.length hFi
   simp only[List.length_nil,List.length_append] at h9
   exact⟨List.eq_nil_of_length_eq_zero (by omega),List.eq_nil_of_length_eq_zero (by omega)⟩
  obtain⟨rfl,rfl⟩:=hF0
  have ho3:=hput ⟨fs[k].name,n⟩ [] (by simp) (TField.mk_ (x:=⟨fs[k].name,n⟩) ⟨hokk.h0,hn⟩)
  have HX:=zh (show Own cField 114 (w.heap.size+2) (w2.setCell ⟨g,k*2+1,none⟩ (.int .i64 n)) (.slice (some ⟨g,0,none⟩) fs.length d1) (fs.set k ⟨fs[k].name,n⟩) [] from ho3)
  obtain⟨hgl1,hgl2⟩:=hgl
  have hgn0:¬g=w.heap.size:=by omega
  have hgn1:¬g=w.heap.size+1:=by omega
  have hgn2:¬g=w1.heap.size:=by omega
  have hB12':=hb_w2
  clear hput ho3 hcm hrm hfm hFi hgo hokk
  go_wp2_with fail
  have hB4:Below w.heap.size w (w2.setCell ⟨g,k*2+1,none⟩ (.int .i64 n)):=ZeZ hB12' (by (try simp);(try omega)) _
  have ha4:(w2.setCell ⟨g,k*2+1,none⟩ (.int .i64 n)).cell? ⟨w.heap.size,0,none⟩=some (.slice A fs.length cp):=by go_simp
  have hb4:(w2.setCell ⟨g,k*2+1,none⟩ (.int .i64 n)).cell? ⟨w.heap.size+1,0,none⟩=some (.slice none 0 0):=by go_simp
  have hf4:(w2.setCell ⟨g,k*2+1,none⟩ (.int .i64 n)).frozen? ⟨w.heap.size+1,0,none⟩=false:=by go_simp
  have hc4:(w2.setCell ⟨g,k*2+1,none⟩ (.int .i64 n)).cell? ⟨w1.heap.size,0,none⟩=some (.slice (some ⟨g,0,none⟩) fs.length d1):=by go_simp
  have hz4:w1.heap.size<(w2.setCell ⟨g,k*2+1,none⟩ (.int .i64 n)).heap.size:=by (try simp);omega
  have HT0:=HX.out
  clear HX
  generalize w2.setCell ⟨g,k*2+1,none⟩ (.int .i64 n)=w4 at *
  have HT:=zh HT0
  clear HT0
  have hz4a:w.heap.size<w4.heap.size:=by omega
  have hz4b:w.heap.size+1<w4.heap.size:=by omega
  obtain⟨FT,hrT,hfT,-⟩:=HT.out.fresh (hw:=by decide) (hw2:=by decide)
  have HRT:=zh (And.intro hrT hfT)
  clear hrT hfT
  refine(Zt _ fs _ _ (by exact zb h)).mono ?_
  cases e1:Ze ⟨fs⟩
  ·rintro e w5 ⟨rfl,hb5⟩
   obtain⟨hc_w5,hf_w5,hz_w5⟩:=Zc hb5
   try simp at hz_w5
   obtain⟨ha0_w5,ha1_w5⟩:=zg2 w.heap.size w5.heap.size
   have ha2_w5:w1.heap.size<w5.heap.size:=by omega
   have hb_w5:=zt (w:=w) hb5
   go_wp2_with fail
   refine(ZY _ fs _ _ (by exact zb h) (by omega)).mono ?_
   rintro e w6 ⟨v6,rfl,hb6,ho6⟩
   obtain⟨B6,d6,e9⟩:=ho6.slice
   subst e9
   obtain⟨hc_w6,hf_w6,hz_w6⟩:=Zc hb6
   try simp at hz_w6
   obtain⟨ha0_w6,ha1_w6⟩:=zg2 w.heap.size w6.heap.size
   have ha2_w6:w1.heap.size<w6.heap.size:=by omega
   have hb_w6:=zt (w:=w) hb6
   have ho7:=(ho6.set_ (p:=⟨w.heap.size+1,0,none⟩) (λe9=>by have h9:=(ho6.lt _ e9).1;(try simp at h9);(try omega)) (.slice B6 fs.length d6)).mono (show w.heap.size≤_ by (try simp);(try omega))
   obtain⟨F7,hr7,hf7,-⟩:=ho7.fresh (hw:=by decide) (hw2:=by decide)
   have H7:=zh (And.intro hr7 hf7)
   clear ho6 ho7 hr7 hf7
   go_wp2_with fail
   refine bodyPost_ret (v:=.tuple #[.agg #[.slice B6 fs.length d6],.bool false]) (by simp[results,Tryz.results158,go_sem, *]) rfl ?_
   have hE:ZaJ ⟨fs⟩ name n=(⟨fs⟩,false):=by rw[HE.out,e1];rfl
   rw[hE]
   exact⟨_,F7,rfl,bl,TRec.mk_ trivial H7.out.1,H7.out.2⟩
  ·rintro e w5 ⟨rfl,hb5⟩
   obtain⟨hc_w5,hf_w5,hz_w5⟩:=Zc hb5
   try simp at hz_w5
   obtain⟨ha0_w5,ha1_w5⟩:=zg2 w.heap.size w5.heap.size
   have ha2_w5:w1.heap.size<w5.heap.size:=by omega
   have hb_w5:=zt (w:=w) hb5
   go_wp2_with fail
   refine(Zt _ (fs.set k ⟨fs[k].name,n⟩) _ _ (by exact zb HRT.out.1)).mono ?_
   cases e2:Ze ⟨fs.set k ⟨fs[k].name,n⟩⟩
   ·rintro e w6 ⟨rfl,hb6⟩
    obtain⟨hc_w6,hf_w6,hz_w6⟩:=Zc hb6
    try simp at hz_w6
    obtain⟨ha0_w6,ha1_w6⟩:=zg2 w.heap.size w6.heap.size
    have ha2_w6:w1.heap.size<w6.heap.size:=by omega
    have hb_w6:=zt (w:=w) hb6
    go_wp2_with fail
    refine(ZY _ fs _ _ (by exact zb h) (by omega)).mono ?_
    rintro e w7 ⟨v6,rfl,hb7,ho6⟩
    obtain⟨B6,d6,e9⟩:=ho6.slice
    subst e9
    obtain⟨hc_w7,hf_w7,hz_w7⟩:=Zc hb7
    try simp at hz_w7
    obtain⟨ha0_w7,ha1_w7⟩:=zg2 w.heap.size w7.heap.size
    have ha2_w7:w1.heap.size<w7.heap.size:=by omega
    have hb_w7:=zt (w:=w) hb7
    have ho7:=(ho6.set_ (p:=⟨w.heap.size+1,0,none⟩) (λe9=>by have h9:=(ho6.lt _ e9).1;(try simp at h9);(try omega)) (.slice B6 fs.length d6)).mono (show w.heap.size≤_ by (try simp);(try omega))
    obtain⟨F7,hr7,hf7,-⟩:=ho7.fresh (hw:=by decide) (hw2:=by decide)
    have H7:=zh (And.intro hr7 hf7)
    clear ho6 ho7 hr7 hf7
    go_wp2_with fail
    refine bodyPost_ret (v:=.tuple #[.agg #[.slice B6 fs.length d6],.bool false]) (by simp[results,Tryz.results158,go_sem, *]) rfl ?_
    have hE:ZaJ ⟨fs⟩ name n=(⟨fs⟩,false):=by rw[HE.out,e1,e2];rfl
    rw[hE]
    exact⟨_,F7,rfl,bl,TRec.mk_ trivial H7.out.1,H7.out.2⟩
   ·rintro e w6 ⟨rfl,hb6⟩
    obtain⟨hc_w6,hf_w6,hz_w6⟩:=Zc hb6
    try simp at hz_w6
    obtain⟨ha0_w6,ha1_w6⟩:=zg2 w.heap.size w6.heap.size
    have ha2_w6:w1.heap.size<w6.heap.size:=by omega
    have hb_w6:=zt (w:=w) hb6
    have hBT6:Below w4.heap.size w4 w6:=Za (zt hb5) (zt hb6)
    have ho7:=((HT.out.bel hBT6).set_ (p:=⟨w.heap.size+1,0,none⟩) (λe9=>by have h9:=(HT.out.lt _ e9).1;(try simp at h9);(try omega)) (.slice (some ⟨g,0,none⟩) (fs.length) d1)).mono (show w.heap.size≤_ by (try simp);(try omega))
    obtain⟨F7,hr7,hf7,-⟩:=ho7.fresh (hw:=by decide) (hw2:=by decide)
    have H7:=zh (And.intro hr7 hf7)
    clear ho7 hr7 hf7
    go_wp2_with fail
    refine bodyPost_ret (v:=.tuple #[.agg #[.slice (some ⟨g,0,none⟩) (fs.length) d1],.bool true]) (by simp[results,Tryz.results158,go_sem, *]) rfl ?_
    have hE:ZaJ ⟨fs⟩ name n=(⟨fs.set k ⟨fs[k].name,n⟩⟩,true):=by rw[HE.out,e1,e2];rfl
    rw[hE]
    exact⟨_,F7,rfl,bl,TRec.mk_ trivial H7.out.1,H7.out.2⟩
end Go.Proofs.YtghndifnohkokaaGreat
