import Derived.Test.YtghndifnohkokaaGreatZEncRec
import Derived.Test.YtghndifnohkokaaGreatZEncKey
import Derived.Test.YtghndifnohkokaaGreatZIsOp
namespace Go.Proofs.YtghndifnohkokaaGreat
open Go.ChangeShapes Go.WideShapes Go.RowKit
set_option linter.unusedVariables false
set_option linter.unusedSimpArgs false
set_option maxRecDepth 100000
set_option maxHeartbeats 16000000
theorem ZbG (s:List UInt8) (h:s.length≤1000000000):(ZB s).length≤s.length+6:=by
 unfold ZB;rw[List.length_append];have:=Zax 5 s.length (by omega);omega
theorem ZlD {o:TOp} (h:ZdR o=true):(ZbK o).length≤200:=by
 obtain⟨hk,hs,hf⟩:=ZfB h;have k1:=ZcX o.key;have k2:=ZbY o.rcd;have k3:(Zp o.store).length=o.store.size:=rfl
 have k4:(Zp o.field).length=o.field.size:=rfl
 have l0:=Zax 5 o.kind.toNat (by omega)
 have l1:=ZbG (Zp o.store) (by omega);have l2:=ZbG (ZE o.key) (by omega);have l3:=ZbG (Zx o.rcd) (by omega);have l4:=ZbG (Zp o.field) (by omega)
 unfold ZbK
 simp only[List.length_append]
 omega
def ZiI (l:List TOp) (k:Nat):List UInt8:=((l.take k).map ZbK).flatten
theorem Zic (l:List TOp):ZiI l 0=[]:=rfl
theorem Zib {l:List TOp} {k:Nat} (h:k<l.length):ZiI l (k+1)=ZiI l k++ZbK l[k]:=by
 unfold ZiI
 rw[List.take_succ_eq_append_getElem h,List.map_append,List.flatten_append]
 simp
theorem Zho {l:List TOp}:∀{k:Nat},k≤l.length→(∀j (h:j<l.length),j<k→ZdR l[j]=true)→(ZiI l k).length≤200*k
 | 0,_,_=>by simp[Zic]
 | k+1,hk,h=>by
  rw[Zib (by omega),List.length_append]
  have h1:=Zho (k:=k) (by omega) (λj hj h2=>h j hj (by omega))
  have h2:=ZlD (h k (by omega) (by omega))
  omega
theorem Zps {l:List TOp} {n:Nat} (hn:l.length=n) (h:∀j (hj:j<l.length),j<n→ZdR l[j]=true):l.all ZdR=true:=by
 rw[List.all_eq_true]
 intro x hx;obtain⟨j,hj,rfl⟩:=List.getElem_of_mem hx;exact h j hj (by omega)
theorem Zpr {l:List TOp} {k:Nat} (hk:k<l.length) (h:ZdR l[k]=false):l.all ZdR=false:=by
 rw[Bool.eq_false_iff]
 intro h1;rw[List.all_eq_true] at h1
 rw[h1 _ (List.getElem_mem hk)] at h
 cases h
theorem ZnL {l:List TOp} (h:l.all ZdR=false):Zn l=[]:=by unfold Zn ZdC;rw[h];rfl
theorem ZnM {l:List TOp} (h:¬(l.length:Int)≤6):Zn l=[]:=by unfold Zn ZdC;rw[decide_eq_false h,Bool.and_false];rfl
theorem ZnO {l:List TOp} (h:l.all ZdR=true) (h6:(l.length:Int)≤6):Zn l=ZJ l.length++ZiI l l.length:=by
 unfold Zn ZdC ZjZ ZiI;rw[h,decide_eq_true h6,List.take_length];rfl
theorem ZnN (l:List TOp):(Zn l).length≤1210:=by
 cases h:l.all ZdR with
 | false=>rw[ZnL h];simp
 | true =>
  by_cases h6:(l.length:Int)≤6
  ·rw[ZnO h h6,List.length_append]
   have h1:=Zho (l:=l) (k:=l.length) (Nat.le_refl _) (λj hj _=>by rw[List.all_eq_true] at h;exact h _ (List.getElem_mem hj))
   have h2:=Zax 5 l.length (by omega)
   omega
  ·rw[ZnM h6];simp
def part (o:TOp):Nat→List UInt8
 | 0=>Zp o.store
 | 1=>ZE o.key
 | 2=>Zx o.rcd
 | _=>Zp o.field
def ZdI (o:TOp):Nat→List UInt8
 | 0=>[]
 | m+1=>ZdI o m++ZB (part o m)
theorem ZjW (o:TOp):ZbK o=ZJ o.kind.toNat++ZdI o 4:=by
 unfold ZbK
 simp only[ZdI,part,List.nil_append,List.append_assoc]
theorem ZmA {o:TOp} (h:ZdR o=true) (m:Nat):(part o m).length≤100:=by
 obtain⟨hk,hs,hf⟩:=ZfB h;have k1:=ZcX o.key;have k2:=ZbY o.rcd
 match m with
 | 0=>show o.store.size≤100;omega
 | 1=>show (ZE o.key).length≤100;omega
 | 2=>show (Zx o.rcd).length≤100;omega
 | m+3=>show o.field.size≤100;omega
theorem Zjt {o:TOp} (h:ZdR o=true):∀m,(ZdI o m).length≤110*m
 | 0=>Nat.zero_le _
 | m+1=>by
  have h1:=Zjt h m;have h2:=ZmA h m;have h3:=ZbG (part o m) (by omega)
  show (ZdI o m++ZB (part o m)).length≤_
  rw[List.length_append]
  omega
def Parts (wq:World) (pb:Nat) (o:TOp):Prop:=∀m,m<4→∃u F,wq.cell? ⟨pb,m,none⟩=some u∧cUS.rep wq [u] (part o m) F
theorem Parts.mk4 {w:World} {pb:Nat} {o:TOp} {u0 u1 u2 u3:Value} {F0 F1 F2 F3:List Nat} (c0:w.cell? ⟨pb,0,none⟩=some u0) (c1:w.cell? ⟨pb,1,none⟩=some u1) (c2:w.cell? ⟨pb,2,none⟩=some u2) (c3:w.cell? ⟨pb,3,none⟩=some u3)
  (r0:cUS.rep w [u0] (Zp o.store) F0) (r1:cUS.rep w [u1] (ZE o.key) F1) (r2:cUS.rep w [u2] (Zx o.rcd) F2) (r3:cUS.rep w [u3] (Zp o.field) F3):Parts w pb o:=λm hm=>by
 have h:m=0∨m=1∨m=2∨m=3:=by omega
 rcases h with rfl|rfl|rfl|rfl
 ·exact⟨u0,F0,c0,r0⟩
 ·exact⟨u1,F1,c1,r1⟩
 ·exact⟨u2,F2,c2,r2⟩
 ·exact⟨u3,F3,c3,r3⟩
theorem ZmS (vl:Value) (l:List TOp) (FL:List Nat) (w:World) (hl:cOpS.rep w [vl] l FL) :
  Calls Tryz.prog 74 #[vl] w (ZL w (.bool (ZdC l))):=by
 obtain⟨LA,lc,rfl⟩:=Zb hl;obtain⟨-,hlc,hm⟩:=Zq hl
 unfold maxLen at hm
 obtain⟨n,hxn⟩:∃n,l.length=n:=⟨_,rfl⟩
 have HN:=zh hxn;rw[hxn] at hlc hl⊢
 clear hxn;go_enter Tryz.func74,Tryz.ntmps74
 go_wp2_with fail;go_loopw [7] (λi wr=>∃k:Nat,k≤n∧i=.int .i64 k∧(∀j (hj:j<l.length),j<k→ZdR l[j]=true)∧Below w.heap.size w wr) (λi _=>n-(intOf i).toNat)
 case atStart=>exact⟨0,Nat.zero_le _,rfl,λj hj h=>by omega,Below.refl _ _⟩
 case round =>
  obtain⟨k,hk,rfl,hall,hB⟩:=hrel;have HA:=zh hall;clear hall
  by_cases hlt:k<n
  ·have hkx:k<l.length:=by rw[HN.out];exact hlt
   have hki:((k:Int)<(n:Int)):=by omega
   have hk0:(0:Int)≤(k:Int):=by omega
   obtain⟨g,o,A3,c3,F3,rfl,hgF,hgr,hok3,p0,p1,p2,p3,p4,p5,p6,r3,-⟩:=Zoi (zb hl hB) hkx
   go_wp2_with fail;refine(ZgI _ l[k] F3 _ (by exact zb r3) hok3).mono ?_
   cases e1:ZdR l[k]
   ·have HE:=zh (show ZdC l=false by unfold ZdC;rw[Zpr hkx e1];rfl)
    rintro e w1 ⟨rfl,hb1⟩;have hB1:=zt (w:=w) hb1
    go_wp2_with fail;go_ret
    exact⟨Zd HE.out.symm,bl⟩
   ·rintro e w1 ⟨rfl,hb1⟩;have hB1:=zt (w:=w) hb1
    have HE1:=zh e1;go_wp2_with fail;go_roundw
    case rel=>exact⟨k+1,by omega,by go_num,λj hj h=>by
     by_cases hjk:j<k
     ·exact HA.out j hj hjk
     ·obtain rfl:j=k:=by omega
      exact HE1.out,bl⟩
    case measure=>simp[intOf];omega
  ·obtain rfl:k=n:=by omega
   have HE:=zh (show ZdC l=decide ((k:Int)≤6) by unfold ZdC;rw[Zps HN.out HA.out,HN.out];rfl)
   go_wp2_with fail;go_ret
   exact⟨Zd HE.out.symm,bl⟩
def Znv (w:World) (r:List UInt8×Bool) (e:Ending) (w':World):Prop:=∃v,e=.returned (.tuple #[v,.bool r.2])∧Below w.heap.size w w'∧Own cU 5 w.heap.size w' v r.1 []
theorem ZpC {log data:List UInt8} {n:Int} {x:List UInt8} (hx:log++ZB data++ZJ (ZU n data).toNat=x) (h:n<0∨4000<x.length):Zao log n data=(log,false):=by unfold Zao;rw[hx,if_pos h]
theorem Zoe {log data:List UInt8} {n:Int} {x:List UInt8} (hx:log++ZB data++ZJ (ZU n data).toNat=x) (h:¬(n<0∨4000<x.length)):Zao log n data=(x,true):=by unfold Zao;rw[hx,if_neg h]
theorem ZfX (v u:Value) (log data:List UInt8) (n:Int) (F G:List Nat) (w:World) (h:cUS.rep w [v] log F) (hb:log.length≤5000000) (hs:cUS.rep w [u] data G) (hsl:data.length≤100000) (hn:-9223372036854775808≤n∧n≤9223372036854775807) :
  Calls Tryz.prog 39 #[v,.int .i64 n,u] w (Znv w (Zao log n data)):=by
 obtain⟨i0,hi0,iz0,iz1,iz2⟩:=info_parts Zcs;obtain⟨A,cp,rfl⟩:=Zb h;obtain⟨A2,cp2,rfl⟩:=Zb hs;have hpl:=ZbG data (by omega)
 have hcr:=ZfL n data;have hul:=Zax 5 (ZU n data).toNat (by omega)
 have HX:=zh (show ∀x,log++ZB data++ZJ (ZU n data).toNat=x→(n<0∨4000<x.length→Zao log n data=(log,false))∧(¬(n<0∨4000<x.length)→Zao log n data=(x,true)) from λx hx=>⟨ZpC hx,Zoe hx⟩)
 go_enter Tryz.func39,Tryz.ntmps39
 go_wp2_with fail;refine(ZaU _ _ log data F G _ (by exact h) (by omega) (by exact hs) (by omega)).mono ?_
 rintro e w1 ⟨v1,rfl,hb1,ho1⟩;obtain⟨B1,c1,e9⟩:=ho1.slice;subst e9;obtain⟨F1,hr1,-,-⟩:=ho1.fresh (hw:=by decide) (hw2:=by decide)
 have HR1:=zh (show cUS.rep w1 [.slice B1 (log++ZB data).length c1] (log++ZB data) F1 from hr1)
 have hlp:(log++ZB data).length≤6000000:=by rw[List.length_append];omega
 have hxl:(log++ZB data++ZJ (ZU n data).toNat).length≤7000000:=by rw[List.length_append];omega
 have hB1:Below w.heap.size w w1:=hb1
 generalize hlpx:log++ZB data=lp at *
 clear ho1 hr1;go_wp2_with fail;refine(ZdZ n _ data G _ (by exact zb hs hB1) (by omega) hn).mono ?_
 rintro e w2 ⟨rfl,hb2⟩;have hB2:Below w.heap.size w w2:=Za hB1 hb2
 go_wp2_with fail;refine(ZR _ lp (ZU n data) F1 _ (by exact zb HR1.out hb2) (by omega)).mono ?_
 rw[ZcM _ ⟨by omega,by omega⟩]
 have hXX:=HX.out _ rfl;generalize hx:lp++ZJ (ZU n data).toNat=x at *
 rintro e w3 ⟨v3,rfl,hb3,ho3⟩;obtain⟨B3,c3,e9⟩:=ho3.slice;subst e9;have hB3:Below w.heap.size w w3:=Za hB2 hb3
 have hbw3:Below w.heap.size w w3:=hB3
 have hz3:=(Za (Below.refl _ w) hB2).size
 have HO3:=zh (ho3.mono (show w.heap.size≤_ by omega))
 have HXX:=zh hXX;clear ho3 hXX
 by_cases h1:n<0
 ·have HE:=zh (HXX.out.1 (.inl h1))
  go_wp2_with fail;refine(Zam _ log F _ (by exact zb h hbw3) (by omega)).mono ?_
  rintro e w4 ⟨v4,rfl,hb4,ho4⟩;obtain⟨B4,c4,e9⟩:=ho4.slice;subst e9;have hz4:=hbw3.size;have hbw4:Below w.heap.size w w4:=Za hbw3 hb4
  have HO4:=zh (ho4.mono (show w.heap.size≤_ by omega))
  clear ho4;go_wp2_with fail;refine bodyPost_ret (v:=.tuple #[.slice B4 log.length c4,.bool false]) (by simp[results,Tryz.results39,go_sem]) rfl ?_
  rw[HE.out]
  exact⟨_,rfl,bl,HO4.out⟩
 ·by_cases h2:4000<x.length
  ·have h2i:(4000:Int)<(x.length:Int):=by omega
   have HE:=zh (HXX.out.1 (.inr h2))
   go_wp2_with fail;refine(Zam _ log F _ (by exact zb h hbw3) (by omega)).mono ?_
   rintro e w4 ⟨v4,rfl,hb4,ho4⟩;obtain⟨B4,c4,e9⟩:=ho4.slice;subst e9;have hz4:=hbw3.size;have hbw4:Below w.heap.size w w4:=Za hbw3 hb4
   have HO4:=zh (ho4.mono (show w.heap.size≤_ by omega))
   clear ho4;go_wp2_with fail;refine bodyPost_ret (v:=.tuple #[.slice B4 log.length c4,.bool false]) (by simp[results,Tryz.results39,go_sem]) rfl ?_
   rw[HE.out]
   exact⟨_,rfl,bl,HO4.out⟩
  ·have h2i:¬(4000:Int)<(x.length:Int):=by omega
   have HE:=zh (HXX.out.2 (λh9=>h9.elim h1 h2))
   go_wp2_with fail;refine bodyPost_ret (v:=.tuple #[.slice B3 x.length c3,.bool true]) (by simp[results,Tryz.results39,go_sem]) rfl ?_
   rw[HE.out]
   exact⟨_,rfl,hbw3,HO3.out⟩
theorem Zgm (v u:Value) (log data:List UInt8) (n:Int) (F G:List Nat) (w:World) (h:cUS.rep w [v] log F) (hb:log.length≤5000000) (hs:cUS.rep w [u] data G) (hsl:data.length≤100000) (hn:-9223372036854775808≤n∧n≤9223372036854775807) :
  Calls Tryz.prog 34 #[v,.int .i64 n,u] w (Znv w (Zao log n data)):=by
 obtain⟨i0,hi0,iz0,iz1,iz2⟩:=info_parts Zcs;obtain⟨A,cp,rfl⟩:=Zb h;obtain⟨A2,cp2,rfl⟩:=Zb hs;have hpl:=ZbG data (by omega)
 have hcr:=ZfL n data;have hul:=Zax 5 (ZU n data).toNat (by omega)
 have HX:=zh (show ∀x,log++ZB data++ZJ (ZU n data).toNat=x→(n<0∨4000<x.length→Zao log n data=(log,false))∧(¬(n<0∨4000<x.length)→Zao log n data=(x,true)) from λx hx=>⟨ZpC hx,Zoe hx⟩)
 go_enter Tryz.func34,Tryz.ntmps34
 go_wp2_with (at_builtin;refine Zl (c:=cU) (B:=w.heap.size) (xs:=[]) (ys:=log) (Fi:=[]) (Fy:=[]) _ rfl _ _ _ rfl i0 _ _ Tryz.underlying26 hi0 iz0 iz1 iz2 rfl (by decide) (v:=.slice (some _) 0 0) rfl (Own.empty _) (.slice A log.length cp) rfl (AppSrc.flat (hw:=by decide) (hw2:=by decide) ZeN (zb h)) (by unfold maxLen;simp;omega) (by simp;omega) (by (try simp);(try omega)) (by simp[Zac]) ?_)
 intro v0 w0 ho0 hg0 hat0;replace ho0:Own cU 5 w.heap.size w0 v0 log []:=ho0
 have hbw0:Below w.heap.size w w0:=(show Below w.heap.size w _ from bl).grown hg0 (by (try simp);(try omega)) (λg hg=>by simp[Zac] at hg)
 obtain⟨B0,c0,e9⟩:=ho0.slice;subst e9;obtain⟨F0,hr0,-,-⟩:=ho0.fresh (hw:=by decide) (hw2:=by decide)
 have HR0:=zh (show cUS.rep w0 [.slice B0 log.length c0] log F0 from hr0)
 have HO0:=zh ho0;clear ho0 hg0 hat0 hr0;go_wp2_with fail;refine(Zah _ _ log data F0 G _ (by exact HR0.out) (by omega) (by exact zb hs hbw0) (by omega)).mono ?_
 rintro e w1 ⟨v1,rfl,hb1,ho1⟩;obtain⟨B1,c1,e9⟩:=ho1.slice;subst e9;obtain⟨F1,hr1,-,-⟩:=ho1.fresh (hw:=by decide) (hw2:=by decide)
 have HR1:=zh (show cUS.rep w1 [.slice B1 (log++ZB data).length c1] (log++ZB data) F1 from hr1)
 have hlp:(log++ZB data).length≤6000000:=by rw[List.length_append];omega
 have hxl:(log++ZB data++ZJ (ZU n data).toNat).length≤7000000:=by rw[List.length_append];omega
 have hB1:Below w0.heap.size w0 w1:=hb1
 generalize hlpx:log++ZB data=lp at *
 clear ho1 hr1;go_wp2_with fail;refine(Zec n _ data G _ (by exact zb hs (Za hbw0 hB1)) (by omega) hn).mono ?_
 rintro e w2 ⟨rfl,hb2⟩;have hB2:Below w0.heap.size w0 w2:=Za hB1 hb2
 go_wp2_with fail;refine(ZS _ lp (ZU n data) F1 _ (by exact zb HR1.out hb2) (by omega)).mono ?_
 rw[ZcM _ ⟨by omega,by omega⟩]
 have hXX:=HX.out _ rfl;generalize hx:lp++ZJ (ZU n data).toNat=x at *
 rintro e w3 ⟨v3,rfl,hb3,ho3⟩;obtain⟨B3,c3,e9⟩:=ho3.slice;subst e9;have hB3:Below w0.heap.size w0 w3:=Za hB2 hb3
 have hbw3:Below w.heap.size w w3:=Za hbw0 hB3
 have hz3:=(Za hbw0 hB2).size
 have HO3:=zh (ho3.mono (show w.heap.size≤_ by omega))
 have HXX:=zh hXX;clear ho3 hXX
 by_cases h1:n<0
 ·have HE:=zh (HXX.out.1 (.inl h1))
  go_wp2_with fail;refine bodyPost_ret (v:=.tuple #[.slice B0 log.length c0,.bool false]) (by simp[results,Tryz.results34,go_sem]) rfl ?_
  rw[HE.out]
  exact⟨_,rfl,bl,(HO0.out.bel hB3)⟩
 ·by_cases h2:4000<x.length
  ·have h2i:(4000:Int)<(x.length:Int):=by omega
   have HE:=zh (HXX.out.1 (.inr h2))
   go_wp2_with fail;refine bodyPost_ret (v:=.tuple #[.slice B0 log.length c0,.bool false]) (by simp[results,Tryz.results34,go_sem]) rfl ?_
   rw[HE.out]
   exact⟨_,rfl,bl,(HO0.out.bel hB3)⟩
  ·have h2i:¬(4000:Int)<(x.length:Int):=by omega
   have HE:=zh (HXX.out.2 (λh9=>h9.elim h1 h2))
   go_wp2_with fail;refine bodyPost_ret (v:=.tuple #[.slice B3 x.length c3,.bool true]) (by simp[results,Tryz.results34,go_sem]) rfl ?_
   rw[HE.out]
   exact⟨_,rfl,hbw3,HO3.out⟩
end Go.Proofs.YtghndifnohkokaaGreat
