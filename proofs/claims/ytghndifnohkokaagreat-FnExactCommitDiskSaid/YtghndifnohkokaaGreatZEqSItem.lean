/-
  EqSItem, EqStore, EqSStore, EqDb, EqSU, EqDisk and others of the seat. No conditions but sizes.
-/
import Derived.Test.YtghndifnohkokaaGreatZBase
import Derived.Test.YtghndifnohkokaaGreatZOpsPlain
import Derived.LoopTactic
import Derived.StillTailTactics
import Derived.Test.YtghndifnohkokaaGreatRows
import Derived.Deep.RegionHeld3
namespace Go.Proofs.YtghndifnohkokaaGreat
open Go.ChangeShapes Go.WideShapes Go.RowKit
set_option linter.unusedVariables false
set_option linter.unusedSimpArgs false
set_option maxRecDepth 100000
set_option maxHeartbeats 16000000
theorem Zlw (v1 v2:Value) (xs:List TItem) (F1 F2:List Nat) (w:World) (h1:cItemS.rep w [v1] xs F1) (h2:cItemS.rep w [v2] xs F2) :
  Calls Tryz.prog 133 #[v1,v2] w (ZL w (.bool true)):=by
 obtain⟨A,cp,rfl⟩:=Zb h1
 obtain⟨B,cq,rfl⟩:=Zb h2
 obtain⟨-,hcp,hm⟩:=Zq h1
 obtain⟨n,hxn⟩:∃n,xs.length=n:=⟨_,rfl⟩
 have HN:=zh hxn
 rw[hxn] at hcp⊢
 clear hxn
 unfold maxLen at hm
 go_enter Tryz.func133,Tryz.ntmps133
 go_wp2
 go_loopw [5] (λi wr=>∃k:Nat,k≤n∧i=.int .i64 k∧Below w.heap.size w wr) (λi _=>n-(intOf i).toNat)
 case atStart=>exact⟨0,Nat.zero_le _,rfl,Below.refl _ _⟩
 case round =>
  obtain⟨k,hk,rfl,hB⟩:=hrel
  by_cases hlt:k<n
  ·have hkx:k<xs.length:=by rw[HN.out];exact hlt
   obtain⟨g,o,vs,G1,rfl,-,hx,-,hc⟩:=ZN (hw:=by decide) (hw2:=by decide) (zb h1 hB) hkx
   obtain⟨g2,o2,vs2,G2,rfl,-,hx2,-,hc2⟩:=ZN (hw:=by decide) (hw2:=by decide) (zb h2 hB) hkx
   have hy:=hx
   have hy2:=hx2
   obtain⟨a3,Q3,rfl,rfl,-,m3⟩:=TItem.out hx
   obtain⟨b3,R3,rfl,rfl,-,n3⟩:=TItem.out hx2
   have q0:wr.cell? ⟨g,o+k*4,none⟩=some _:=(hc 0 _ rfl).1
   have q1:wr.cell? ⟨g,o+k*4+1,none⟩=some _:=(hc 1 _ rfl).1
   have q2:wr.cell? ⟨g,o+k*4+2,none⟩=some _:=(hc 2 _ rfl).1
   have q3:wr.cell? ⟨g,o+k*4+3,none⟩=some _:=(hc 3 _ rfl).1
   have r0:wr.cell? ⟨g2,o2+k*4,none⟩=some _:=(hc2 0 _ rfl).1
   have r1:wr.cell? ⟨g2,o2+k*4+1,none⟩=some _:=(hc2 1 _ rfl).1
   have r2:wr.cell? ⟨g2,o2+k*4+2,none⟩=some _:=(hc2 2 _ rfl).1
   have r3:wr.cell? ⟨g2,o2+k*4+3,none⟩=some _:=(hc2 3 _ rfl).1
   clear hc hc2
   have hki:((k:Int)<(n:Int)):=by omega
   go_wp2
   go_still_tail 8,(by kernel_rfl)
   change wpList _ _ _ _ _ wr.drew
   have hB2:Below w.heap.size w wr.drew:=ZbX hB
   have hbd:Below wr.heap.size wr wr.drew:=ZbX (Below.refl _ _)
   generalize wr.drew=wd at hB2 hbd⊢
   go_wp2_with fail
   refine(ZmV _ _ xs[k] _ _ _ (by exact zb hy hbd) (by exact zb hy2 hbd)).mono ?_
   rintro e w1 ⟨rfl,hb1⟩
   have hB1:Below w.heap.size w w1:=Za hB2 hb1
   go_wp2_with fail
   go_roundw
   case rel=>exact⟨k+1,by omega,by go_num,hB1⟩
   case measure=>simp[intOf];omega
  ·obtain rfl:k=n:=by omega
   go_wp2
   go_ret
   exact⟨rfl,hB⟩
theorem Zlx (vs1 vs2:Array Value) (x:TStore) (F1 F2:List Nat) (w:World) (h1:cStore.rep w vs1.toList x F1) (h2:cStore.rep w vs2.toList x F2) :
  Calls Tryz.prog 97 #[.agg vs1,.agg vs2] w (ZL w (.bool true)):=by
 obtain⟨a1,F1,rfl,rfl,hok,m1⟩:=TStore.outA h1
 obtain⟨b1,Q1,rfl,rfl,-,n1⟩:=TStore.outA h2
 go_enter Tryz.func97,Tryz.ntmps97
 go_wp2_with fail
 refine(Zlw _ _ x.items _ _ _ (by exact zb m1) (by exact zb n1)).mono ?_
 rintro e w1 ⟨rfl,hb1⟩
 have hz1:=hb1.size
 (try simp at hz1)
 have hs1_0:w.heap.size<w1.heap.size:=by omega
 have hs1_1:w.heap.size+1<w1.heap.size:=by omega
 have hB1:=zt (w:=w) hb1
 obtain⟨hc1,hfz1,-⟩:=Zc hb1
 clear hb1
 go_wp2_with fail
 go_ret
 exact⟨rfl,bl⟩
theorem Zkt (v1 v2:Value) (xs:List TStore) (F1 F2:List Nat) (w:World) (h1:cStoreS.rep w [v1] xs F1) (h2:cStoreS.rep w [v2] xs F2) :
  Calls Tryz.prog 53 #[v1,v2] w (ZL w (.bool true)):=by
 obtain⟨A,cp,rfl⟩:=Zb h1
 obtain⟨B,cq,rfl⟩:=Zb h2
 obtain⟨-,hcp,hm⟩:=Zq h1
 obtain⟨n,hxn⟩:∃n,xs.length=n:=⟨_,rfl⟩
 have HN:=zh hxn
 rw[hxn] at hcp⊢
 clear hxn
 unfold maxLen at hm
 go_enter Tryz.func53,Tryz.ntmps53
 go_wp2
 go_loopw [5] (λi wr=>∃k:Nat,k≤n∧i=.int .i64 k∧Below w.heap.size w wr) (λi _=>n-(intOf i).toNat)
 case atStart=>exact⟨0,Nat.zero_le _,rfl,Below.refl _ _⟩
 case round =>
  obtain⟨k,hk,rfl,hB⟩:=hrel
  by_cases hlt:k<n
  ·have hkx:k<xs.length:=by rw[HN.out];exact hlt
   obtain⟨g,o,vs,G1,rfl,-,hx,-,hc⟩:=ZN (hw:=by decide) (hw2:=by decide) (zb h1 hB) hkx
   obtain⟨g2,o2,vs2,G2,rfl,-,hx2,-,hc2⟩:=ZN (hw:=by decide) (hw2:=by decide) (zb h2 hB) hkx
   have hy:=hx
   have hy2:=hx2
   obtain⟨a1,Q1,rfl,rfl,-,m1⟩:=TStore.out hx
   obtain⟨b1,R1,rfl,rfl,-,n1⟩:=TStore.out hx2
   have q0:wr.cell? ⟨g,o+k*3,none⟩=some _:=(hc 0 _ rfl).1
   have q1:wr.cell? ⟨g,o+k*3+1,none⟩=some _:=(hc 1 _ rfl).1
   have q2:wr.cell? ⟨g,o+k*3+2,none⟩=some _:=(hc 2 _ rfl).1
   have r0:wr.cell? ⟨g2,o2+k*3,none⟩=some _:=(hc2 0 _ rfl).1
   have r1:wr.cell? ⟨g2,o2+k*3+1,none⟩=some _:=(hc2 1 _ rfl).1
   have r2:wr.cell? ⟨g2,o2+k*3+2,none⟩=some _:=(hc2 2 _ rfl).1
   clear hc hc2
   have hki:((k:Int)<(n:Int)):=by omega
   go_wp2
   go_still_tail 8,(by kernel_rfl)
   change wpList _ _ _ _ _ wr.drew
   have hB2:Below w.heap.size w wr.drew:=ZbX hB
   have hbd:Below wr.heap.size wr wr.drew:=ZbX (Below.refl _ _)
   generalize wr.drew=wd at hB2 hbd⊢
   go_wp2_with fail
   refine(Zlx _ _ xs[k] _ _ _ (by exact zb hy hbd) (by exact zb hy2 hbd)).mono ?_
   rintro e w1 ⟨rfl,hb1⟩
   have hB1:Below w.heap.size w w1:=Za hB2 hb1
   go_wp2_with fail
   go_roundw
   case rel=>exact⟨k+1,by omega,by go_num,hB1⟩
   case measure=>simp[intOf];omega
  ·obtain rfl:k=n:=by omega
   go_wp2
   go_ret
   exact⟨rfl,hB⟩
theorem ZiM (vs1 vs2:Array Value) (x:TDb) (F1 F2:List Nat) (w:World) (h1:cDb.rep w vs1.toList x F1) (h2:cDb.rep w vs2.toList x F2) :
  Calls Tryz.prog 24 #[.agg vs1,.agg vs2] w (ZL w (.bool true)):=by
 obtain⟨a2,a3,F2,F3,rfl,rfl,hok,m2,m3⟩:=TDb.outA h1
 obtain⟨b2,b3,Q2,Q3,rfl,rfl,-,n2,n3⟩:=TDb.outA h2
 go_enter Tryz.func24,Tryz.ntmps24
 go_wp2_with fail
 refine(Zkt _ _ x.stores _ _ _ (by exact zb m2) (by exact zb n2)).mono ?_
 rintro e w1 ⟨rfl,hb1⟩
 have hz1:=hb1.size
 (try simp at hz1)
 have hs1_0:w.heap.size<w1.heap.size:=by omega
 have hs1_1:w.heap.size+1<w1.heap.size:=by omega
 have hB1:=zt (w:=w) hb1
 obtain⟨hc1,hfz1,-⟩:=Zc hb1
 clear hb1
 go_wp2_with fail
 refine(ZhH _ _ x.uniq _ _ _ (by exact zb m3) (by exact zb n3)).mono ?_
 rintro e w2 ⟨rfl,hb2⟩
 have hz2:=hb2.size
 (try simp at hz2)
 have hs2_0:w.heap.size<w2.heap.size:=by omega
 have hs2_1:w.heap.size+1<w2.heap.size:=by omega
 have hB2:=zt (w:=w) hb2
 obtain⟨hc2,hfz2,-⟩:=Zc hb2
 clear hb2
 go_wp2_with fail
 go_ret
 exact⟨rfl,bl⟩
theorem Zlu (v1 v2:Value) (xs:List UInt8) (F1 F2:List Nat) (w:World) (h1:cUS.rep w [v1] xs F1) (h2:cUS.rep w [v2] xs F2) :
  Calls Tryz.prog 25 #[v1,v2] w (ZL w (.bool true)):=by
 obtain⟨A,cp,rfl⟩:=Zb h1
 obtain⟨B,cq,rfl⟩:=Zb h2
 obtain⟨-,hcp,hm⟩:=Zq h1
 obtain⟨n,hxn⟩:∃n,xs.length=n:=⟨_,rfl⟩
 have HN:=zh hxn
 rw[hxn] at hcp⊢
 clear hxn
 unfold maxLen at hm
 go_enter Tryz.func25,Tryz.ntmps25
 go_wp2
 go_loopw [5] (λi wr=>∃k:Nat,k≤n∧i=.int .i64 k∧Below w.heap.size w wr) (λi _=>n-(intOf i).toNat)
 case atStart=>exact⟨0,Nat.zero_le _,rfl,Below.refl _ _⟩
 case round =>
  obtain⟨k,hk,rfl,hB⟩:=hrel
  by_cases hlt:k<n
  ·have hkx:k<xs.length:=by rw[HN.out];exact hlt
   obtain⟨g,o,vs,G1,rfl,-,hx,-,hc⟩:=ZN (hw:=by decide) (hw2:=by decide) (zb h1 hB) hkx
   obtain⟨g2,o2,vs2,G2,rfl,-,hx2,-,hc2⟩:=ZN (hw:=by decide) (hw2:=by decide) (zb h2 hB) hkx
   have hy:=hx
   have hy2:=hx2
   obtain⟨rfl,rfl⟩:=hx
   obtain⟨rfl,rfl⟩:=hx2
   have q0:wr.cell? ⟨g,o+k,none⟩=some _:=(by have h1:=(hc 0 _ rfl).1;rwa [show (cU).wd=1 from rfl,Nat.mul_one,Nat.add_zero] at h1)
   have r0:wr.cell? ⟨g2,o2+k,none⟩=some _:=(by have h1:=(hc2 0 _ rfl).1;rwa [show (cU).wd=1 from rfl,Nat.mul_one,Nat.add_zero] at h1)
   clear hc hc2
   have hki:((k:Int)<(n:Int)):=by omega
   go_wp2
   go_quiet (fail)
   go_wp2
   go_roundw
   case rel=>exact⟨k+1,by omega,by go_num,ZhC hB _⟩
   case measure=>simp[intOf];omega
  ·obtain rfl:k=n:=by omega
   go_wp2
   go_ret
   exact⟨rfl,hB⟩
theorem Zch (vs1 vs2:Array Value) (x:TDisk) (F1 F2:List Nat) (w:World) (h1:cDisk.rep w vs1.toList x F1) (h2:cDisk.rep w vs2.toList x F2) :
  Calls Tryz.prog 9 #[.agg vs1,.agg vs2] w (ZL w (.bool true)):=by
 obtain⟨a2,a3,a4,F2,F3,F4,rfl,rfl,hok,m2,m3,m4⟩:=TDisk.outA h1
 obtain⟨b2,b3,b4,Q2,Q3,Q4,rfl,rfl,-,n2,n3,n4⟩:=TDisk.outA h2
 go_enter Tryz.func9,Tryz.ntmps9
 go_wp2_with fail
 refine(ZiM _ _ x.base _ _ _ (by exact TDb.mk_ ⟨hok.h0,hok.h1⟩ (zb m2) (zb m3)) (by exact TDb.mk_ ⟨hok.h0,hok.h1⟩ (zb n2) (zb n3))).mono ?_
 rintro e w1 ⟨rfl,hb1⟩
 have hz1:=hb1.size
 (try simp at hz1)
 have hs1_0:w.heap.size<w1.heap.size:=by omega
 have hs1_1:w.heap.size+1<w1.heap.size:=by omega
 have hB1:=zt (w:=w) hb1
 obtain⟨hc1,hfz1,-⟩:=Zc hb1
 clear hb1
 go_wp2_with fail
 refine(Zlu _ _ x.log _ _ _ (by exact zb m4) (by exact zb n4)).mono ?_
 rintro e w2 ⟨rfl,hb2⟩
 have hz2:=hb2.size
 (try simp at hz2)
 have hs2_0:w.heap.size<w2.heap.size:=by omega
 have hs2_1:w.heap.size+1<w2.heap.size:=by omega
 have hB2:=zt (w:=w) hb2
 obtain⟨hc2,hfz2,-⟩:=Zc hb2
 clear hb2
 go_wp2_with fail
 go_ret
 exact⟨rfl,bl⟩
theorem ZoR (vs1 vs2:Array Value) (x:TOp) (F1 F2:List Nat) (w:World) (h1:cOp.rep w vs1.toList x F1) (h2:cOp.rep w vs2.toList x F2) :
  Calls Tryz.prog 40 #[.agg vs1,.agg vs2] w (ZL w (.bool true)):=by
 obtain⟨a5,F5,rfl,rfl,hok,m5⟩:=TOp.outA h1
 obtain⟨b5,Q5,rfl,rfl,-,n5⟩:=TOp.outA h2
 go_enter Tryz.func40,Tryz.ntmps40
 go_wp2_with fail
 refine(Zks _ _ x.key _ _ _ (by exact TKey.mk_ ⟨hok.h2,hok.h3,hok.h4⟩) (by exact TKey.mk_ ⟨hok.h2,hok.h3,hok.h4⟩)).mono ?_
 rintro e w1 ⟨rfl,hb1⟩
 have hz1:=hb1.size
 (try simp at hz1)
 have hs1_0:w.heap.size<w1.heap.size:=by omega
 have hs1_1:w.heap.size+1<w1.heap.size:=by omega
 have hB1:=zt (w:=w) hb1
 obtain⟨hc1,hfz1,-⟩:=Zc hb1
 clear hb1
 go_wp2_with fail
 refine(ZgC _ _ x.rcd _ _ _ (by exact TRec.mk_ trivial (zb m5)) (by exact TRec.mk_ trivial (zb n5))).mono ?_
 rintro e w2 ⟨rfl,hb2⟩
 have hz2:=hb2.size
 (try simp at hz2)
 have hs2_0:w.heap.size<w2.heap.size:=by omega
 have hs2_1:w.heap.size+1<w2.heap.size:=by omega
 have hB2:=zt (w:=w) hb2
 obtain⟨hc2,hfz2,-⟩:=Zc hb2
 clear hb2
 go_wp2_with fail
 go_ret
 exact⟨rfl,bl⟩
theorem ZnP (v1 v2:Value) (xs:List TOp) (F1 F2:List Nat) (w:World) (h1:cOpS.rep w [v1] xs F1) (h2:cOpS.rep w [v2] xs F2) :
  Calls Tryz.prog 16 #[v1,v2] w (ZL w (.bool true)):=by
 obtain⟨A,cp,rfl⟩:=Zb h1
 obtain⟨B,cq,rfl⟩:=Zb h2
 obtain⟨-,hcp,hm⟩:=Zq h1
 obtain⟨n,hxn⟩:∃n,xs.length=n:=⟨_,rfl⟩
 have HN:=zh hxn
 rw[hxn] at hcp⊢
 clear hxn
 unfold maxLen at hm
 go_enter Tryz.func16,Tryz.ntmps16
 go_wp2
 go_loopw [5] (λi wr=>∃k:Nat,k≤n∧i=.int .i64 k∧Below w.heap.size w wr) (λi _=>n-(intOf i).toNat)
 case atStart=>exact⟨0,Nat.zero_le _,rfl,Below.refl _ _⟩
 case round =>
  obtain⟨k,hk,rfl,hB⟩:=hrel
  by_cases hlt:k<n
  ·have hkx:k<xs.length:=by rw[HN.out];exact hlt
   obtain⟨g,o,vs,G1,rfl,-,hx,-,hc⟩:=ZN (hw:=by decide) (hw2:=by decide) (zb h1 hB) hkx
   obtain⟨g2,o2,vs2,G2,rfl,-,hx2,-,hc2⟩:=ZN (hw:=by decide) (hw2:=by decide) (zb h2 hB) hkx
   have hy:=hx
   have hy2:=hx2
   obtain⟨a5,Q5,rfl,rfl,-,m5⟩:=TOp.out hx
   obtain⟨b5,R5,rfl,rfl,-,n5⟩:=TOp.out hx2
   have q0:wr.cell? ⟨g,o+k*7,none⟩=some _:=(hc 0 _ rfl).1
   have q1:wr.cell? ⟨g,o+k*7+1,none⟩=some _:=(hc 1 _ rfl).1
   have q2:wr.cell? ⟨g,o+k*7+2,none⟩=some _:=(hc 2 _ rfl).1
   have q3:wr.cell? ⟨g,o+k*7+3,none⟩=some _:=(hc 3 _ rfl).1
   have q4:wr.cell? ⟨g,o+k*7+4,none⟩=some _:=(hc 4 _ rfl).1
   have q5:wr.cell? ⟨g,o+k*7+5,none⟩=some _:=(hc 5 _ rfl).1
   have q6:wr.cell? ⟨g,o+k*7+6,none⟩=some _:=(hc 6 _ rfl).1
   have r0:wr.cell? ⟨g2,o2+k*7,none⟩=some _:=(hc2 0 _ rfl).1
   have r1:wr.cell? ⟨g2,o2+k*7+1,none⟩=some _:=(hc2 1 _ rfl).1
   have r2:wr.cell? ⟨g2,o2+k*7+2,none⟩=some _:=(hc2 2 _ rfl).1
   have r3:wr.cell? ⟨g2,o2+k*7+3,none⟩=some _:=(hc2 3 _ rfl).1
   have r4:wr.cell? ⟨g2,o2+k*7+4,none⟩=some _:=(hc2 4 _ rfl).1
   have r5:wr.cell? ⟨g2,o2+k*7+5,none⟩=some _:=(hc2 5 _ rfl).1
   have r6:wr.cell? ⟨g2,o2+k*7+6,none⟩=some _:=(hc2 6 _ rfl).1
   clear hc hc2
   have hki:((k:Int)<(n:Int)):=by omega
   go_wp2
   go_still_tail 8,(by kernel_rfl)
   change wpList _ _ _ _ _ wr.drew
   have hB2:Below w.heap.size w wr.drew:=ZbX hB
   have hbd:Below wr.heap.size wr wr.drew:=ZbX (Below.refl _ _)
   generalize wr.drew=wd at hB2 hbd⊢
   go_wp2_with fail
   refine(ZoR _ _ xs[k] _ _ _ (by exact zb hy hbd) (by exact zb hy2 hbd)).mono ?_
   rintro e w1 ⟨rfl,hb1⟩
   have hB1:Below w.heap.size w w1:=Za hB2 hb1
   go_wp2_with fail
   go_roundw
   case rel=>exact⟨k+1,by omega,by go_num,hB1⟩
   case measure=>simp[intOf];omega
  ·obtain rfl:k=n:=by omega
   go_wp2
   go_ret
   exact⟨rfl,hB⟩
theorem TOp.cn_eq (x:TOp):((cOp.cn x:Nat):Int)=1+1+1+1+1+((cFieldS.cn x.rcd.fields:Nat):Int)+1:=by
 have h:cOp.cn x=1+(1+(1+(1+(1+(cFieldS.cn x.rcd.fields+(1)))))):=rfl
 omega
theorem Zof (j:Nat) (s:List UInt8) (h:0<j):Zkh j j s=Zkh (j / 10) (j / 10) (UInt8.ofNat (48+j % 10)::s):=by
 cases j with
 | zero=>omega
 | succ j =>
  show (if j+1=0 then s else Zkh j ((j+1) / 10) (UInt8.ofNat (48+(j+1) % 10)::s))=_
  rw[if_neg (by omega),ZhY j _ _ (by omega)]
theorem ZhE (x:UInt8) (s:List UInt8):(⟨#[x]⟩:ByteArray)++⟨s.toArray⟩=⟨(x::s).toArray⟩:=by
 apply ByteArray.ext
 simp
theorem ZmU (n:Nat):UInt8.ofNat (48+n)=48+UInt8.ofNat n:=by simp
def ZpM (m:Nat) (w:World) (a b:Value) (wr:World):Prop :=
 ∃(j:Nat) (s:List UInt8),(j:Int)+s.length≤1000000000∧a=.int .i64 j∧b=.string ⟨s.toArray⟩∧Zkh m m []=Zkh j j s∧Below w.heap.size w wr
theorem Zau (k:Int) (w:World) (hk:k≤1000000000):Calls Tryz.prog 41 #[.int .i64 k] w (ZL w (.string (Zy k))):=by
 by_cases h0:k≤0
 ·have HM:=zh (show Zy k=⟨#[109,48]⟩ by unfold Zy;rw[if_pos h0])
  go_enter Tryz.func41,Tryz.ntmps41
  go_wp2
  go_ret
  exact⟨by rw[HM.out];rfl,bl⟩
 ·obtain⟨m,rfl⟩:∃m:Nat,k=m:=⟨k.toNat,by omega⟩
  have hm0:(0:Int)<m:=by omega
  have HM:=zh (show Zy m=⟨(109::Zkh m m []).toArray⟩ by unfold Zy;rw[if_neg (by omega)];rfl)
  go_enter Tryz.func41,Tryz.ntmps41
  go_wp2
  go_loopw [0,3] (ZpM m w) (λa _ _=>(intOf a).toNat)
  case atStart=>exact⟨m,[],by simp;omega,rfl,rfl,rfl,Below.refl _ _⟩
  case round =>
   obtain⟨j,s,hj,rfl,rfl,he,hB⟩:=hrel
   have HE:=zh he
   clear he
   by_cases hj0:0<(j:Int)
   ·have hj1:0<j:=by omega
    have hcv:(convert 26 9 (.slice (some ⟨wr.heap.size,0,none⟩) 1 1)).run Tryz.prog (wr.alloc (.cells #[.int .u8 (48+(j:Int) % 10)] 5))=.ok (.string ⟨[UInt8.ofNat (48+j % 10)].toArray⟩) (wr.alloc (.cells #[.int .u8 (48+(j:Int) % 10)] 5)) :=
     run_convert_bytes_back _ 26 9 5 ⟨wr.heap.size,0,none⟩ 1 [UInt8.ofNat (48+j % 10)] Tryz.underlying26 Tryz.underlying5 Tryz.underlying9 (λi hi=>by
      obtain rfl:i=0:=by simpa using hi
      simp[Addr.add];omega)
    have hs9:s.length≤1000000000:=by omega
    have HS:=zh (Zof j s hj1)
    go_wp2
    go_roundw
    case rel =>
     exact⟨j / 10,UInt8.ofNat (48+j % 10)::s,by simp only[List.length_cons];omega,by go_num,by rw[ZhE,ZmU],HE.out.trans HS.out,bl⟩
    case measure=>simp[intOf];omega
   ·obtain rfl:j=0:=by omega
    have hs9:s.length≤1000000000:=by omega
    go_wp2
    go_ret
    exact⟨by rw[HM.out,HE.out];exact congrArg (λb=>Ending.returned (Value.string b)) (ZhE 109 s),bl⟩
theorem TField.cn_eq (x:TField):((cField.cn x:Nat):Int)=1+1:=by
 have h:cField.cn x=1+(1):=rfl
 omega
theorem ZiP (v:Value) (xs:List TField) (F:List Nat) (k0:Int) (w:World) (h:cFieldS.rep w [v] (cFieldS.mrk k0 xs) F) (h0:0≤k0) (h1:k0+((cFieldS.cn xs:Nat):Int)≤900000000) :
  Calls Tryz.prog 134 #[v,.int .i64 k0] w (ZL w (.int .i64 (k0+((cFieldS.cn xs:Nat):Int)))):=by
 change (cL cField _ _).rep w [v] (Cod.mks cField k0 xs) F at h
 change k0+((Cod.cns cField xs:Nat):Int)≤900000000 at h1
 change Calls _ _ _ _ (ZL w (.int .i64 (k0+((Cod.cns cField xs:Nat):Int))))
 obtain⟨A,cp,rfl⟩:=Zb h
 obtain⟨-,hcp,hm⟩:=Zq h
 have hlen:=Cod.mks_len cField k0 xs
 obtain⟨n,hxn⟩:∃n,xs.length=n:=⟨_,rfl⟩
 have HN:=zh hxn
 have HL:=zh (hlen.trans hxn)
 rw[hlen,hxn] at hcp⊢
 clear hxn hlen
 have hcle:=Cod.cns_take_le cField xs
 unfold maxLen at hm
 go_enter Tryz.func134,Tryz.ntmps134
 go_wp2
 go_loopw [1,5] (λa i wr=>∃k:Nat,k≤n∧i=.int .i64 k∧(∃kv:Int,a=.int .i64 kv∧0≤kv∧kv≤900000000∧kv=k0+((Cod.cns cField (xs.take k):Nat):Int))∧Below w.heap.size w wr) (λ_ i _=>n-(intOf i).toNat)
 case atStart=>exact⟨0,Nat.zero_le _,rfl,⟨_,rfl,h0,by omega,by simp[Cod.cns]⟩,Below.refl _ _⟩
 case round =>
  obtain⟨k,hk,rfl,⟨kv,rfl,hkv0,hkv1,he⟩,hB⟩:=hrel
  by_cases hlt:k<n
  ·have hkx:k<xs.length:=by rw[HN.out];exact hlt
   have hkm:k<(Cod.mks cField k0 xs).length:=by rw[HL.out];exact hlt
   obtain⟨g,o,vs,F1,rfl,hgF,hx,-,hc⟩:=ZN (hw:=by decide) (hw2:=by decide) (zb h hB) hkm
   rw[Cod.mks_get cField k0 xs k hkx hkm,← he] at hx
   have hsucc:=Cod.cns_succ cField xs k hkx
   have hle2:=hcle (k+1)
   have hcn:=TField.cn_eq xs[k]
   have hb9:kv+((Cod.cn cField xs[k]:Nat):Int)≤900000000:=by omega
   have HE:=zh (And.intro he hsucc)
   clear he hsucc hle2 hcle
   obtain⟨rfl,rfl,-⟩:=TField.out hx
   have q0_0:wr.cell? ⟨g,o+k*2,none⟩=some (.string (Zy (kv))):=(hc 0 _ rfl).1
   have q1_0:wr.cell? ⟨g,o+k*2+1,none⟩=some (.int .i64 (kv+1)):=(hc 1 _ rfl).1
   clear hc
   have hgr:g<wr.heap.size:=Nat.lt_of_lt_of_le (Cod.lt _ h g hgF) hB.size
   have hwb:Below wr.heap.size wr wr:=Below.refl _ _
   go_wp2_with fail
   have hS1:∀w9,Below wr.heap.size wr w9→Below wr.heap.size wr w9∧w9.cell? ⟨g,o+k*2,none⟩=some (.string (Zy (kv))):=λw9 hb=>⟨hb,zcl hb q0_0⟩
   go_region_held3 (λw9=>Below wr.heap.size wr w9∧w9.cell? ⟨g,o+k*2,none⟩=some (.string (Zy (kv)))) (exact hS1 _ bl) (first|(go_at_call 41;refine(Zau _ _ (by omega)).mono ?_;rintro e w1 ⟨rfl,hb1⟩;have hbw1:=zt (w:=wr) hb1))
   clear hS1
   have q1_1:w1.cell? ⟨g,o+k*2+1,none⟩=some (.int .i64 (kv+1)):=zcl hbw1 q1_0
   go_wp2_with fail
   have hB9:Below w.heap.size w w1:=Za hB hbw1
   go_roundw
   case rel=>exact⟨k+1,by omega,by go_num,⟨_,rfl,by omega,by omega,by have hh:=HE.out;omega⟩,hB9⟩
   case measure=>simp[intOf];omega
  ·obtain rfl:k=n:=by omega
   have HE:=zh he
   clear he
   go_wp2_with fail
   go_ret
   exact⟨Zh (by have hh:=HE.out;rw[List.take_of_length_le (by rw[HN.out];exact Nat.le_refl _)] at hh;omega),hB⟩

def TDisk.top (k:Int) (x:TDisk):TDisk:=⟨⟨x.base.name,x.base.ver,cStoreS.mrk (k) x.base.stores,cIdxS.mrk (k+((cStoreS.cn x.base.stores:Nat):Int)) x.base.uniq⟩,cUS.mrk (k+((cStoreS.cn x.base.stores:Nat):Int)+((cIdxS.cn x.base.uniq:Nat):Int)) x.log,x.count⟩
def TDisk.tcn (x:TDisk):Nat:=cStoreS.cn x.base.stores+cIdxS.cn x.base.uniq+cUS.cn x.log
theorem TDisk.tcn_le (x:TDisk):TDisk.tcn x≤32*cDisk.sz x:=by
 have h:cDisk.sz x=x.base.name.size+(0+(cStoreS.sz x.base.stores+(cIdxS.sz x.base.uniq+(cUS.sz x.log+(0))))):=rfl
 have h2:cStoreS.cn x.base.stores≤32*cStoreS.sz x.base.stores:=Cod.cns_le cStore (by decide) x.base.stores
 have h3:cIdxS.cn x.base.uniq≤32*cIdxS.sz x.base.uniq:=Cod.cns_le cIdx (by decide) x.base.uniq
 have h4:cUS.cn x.log≤32*cUS.sz x.log:=Cod.cns_le cU (by decide) x.log
 unfold TDisk.tcn
 omega
def TDb.top (k:Int) (x:TDb):TDb:=⟨x.name,x.ver,cStoreS.mrk (k) x.stores,cIdxS.mrk (k+((cStoreS.cn x.stores:Nat):Int)) x.uniq⟩
def TDb.tcn (x:TDb):Nat:=cStoreS.cn x.stores+cIdxS.cn x.uniq
theorem TIdx.cn_eq (x:TIdx):((cIdx.cn x:Nat):Int)=1+1:=by
 have h:cIdx.cn x=1+(1):=rfl
 omega
theorem ZfW (v:Value) (xs:List TIdx) (F:List Nat) (k0:Int) (w:World) (h:cIdxS.rep w [v] (cIdxS.mrk k0 xs) F) (h0:0≤k0) (h1:k0+((cIdxS.cn xs:Nat):Int)≤900000000) :
  Calls Tryz.prog 58 #[v,.int .i64 k0] w (ZL w (.int .i64 (k0+((cIdxS.cn xs:Nat):Int)))):=by
 change (cL cIdx _ _).rep w [v] (Cod.mks cIdx k0 xs) F at h
 change k0+((Cod.cns cIdx xs:Nat):Int)≤900000000 at h1
 change Calls _ _ _ _ (ZL w (.int .i64 (k0+((Cod.cns cIdx xs:Nat):Int))))
 obtain⟨A,cp,rfl⟩:=Zb h
 obtain⟨-,hcp,hm⟩:=Zq h
 have hlen:=Cod.mks_len cIdx k0 xs
 obtain⟨n,hxn⟩:∃n,xs.length=n:=⟨_,rfl⟩
 have HN:=zh hxn
 have HL:=zh (hlen.trans hxn)
 rw[hlen,hxn] at hcp⊢
 clear hxn hlen
 have hcle:=Cod.cns_take_le cIdx xs
 unfold maxLen at hm
 go_enter Tryz.func58,Tryz.ntmps58
 go_wp2
 go_loopw [1,5] (λa i wr=>∃k:Nat,k≤n∧i=.int .i64 k∧(∃kv:Int,a=.int .i64 kv∧0≤kv∧kv≤900000000∧kv=k0+((Cod.cns cIdx (xs.take k):Nat):Int))∧Below w.heap.size w wr) (λ_ i _=>n-(intOf i).toNat)
 case atStart=>exact⟨0,Nat.zero_le _,rfl,⟨_,rfl,h0,by omega,by simp[Cod.cns]⟩,Below.refl _ _⟩
 case round =>
  obtain⟨k,hk,rfl,⟨kv,rfl,hkv0,hkv1,he⟩,hB⟩:=hrel
  by_cases hlt:k<n
  ·have hkx:k<xs.length:=by rw[HN.out];exact hlt
   have hkm:k<(Cod.mks cIdx k0 xs).length:=by rw[HL.out];exact hlt
   obtain⟨g,o,vs,F1,rfl,hgF,hx,-,hc⟩:=ZN (hw:=by decide) (hw2:=by decide) (zb h hB) hkm
   rw[Cod.mks_get cIdx k0 xs k hkx hkm,← he] at hx
   have hsucc:=Cod.cns_succ cIdx xs k hkx
   have hle2:=hcle (k+1)
   have hcn:=TIdx.cn_eq xs[k]
   have hb9:kv+((Cod.cn cIdx xs[k]:Nat):Int)≤900000000:=by omega
   have HE:=zh (And.intro he hsucc)
   clear he hsucc hle2 hcle
   obtain⟨rfl,rfl,-⟩:=TIdx.out hx
   have q0_0:wr.cell? ⟨g,o+k*2,none⟩=some (.string (Zy (kv))):=(hc 0 _ rfl).1
   have q1_0:wr.cell? ⟨g,o+k*2+1,none⟩=some (.string (Zy (kv+1))):=(hc 1 _ rfl).1
   clear hc
   have hgr:g<wr.heap.size:=Nat.lt_of_lt_of_le (Cod.lt _ h g hgF) hB.size
   have hwb:Below wr.heap.size wr wr:=Below.refl _ _
   go_wp2_with fail
   have hS1:∀w9,Below wr.heap.size wr w9→Below wr.heap.size wr w9∧w9.cell? ⟨g,o+k*2,none⟩=some (.string (Zy (kv))):=λw9 hb=>⟨hb,zcl hb q0_0⟩
   go_region_held3 (λw9=>Below wr.heap.size wr w9∧w9.cell? ⟨g,o+k*2,none⟩=some (.string (Zy (kv)))) (exact hS1 _ bl) (first|(go_at_call 41;refine(Zau _ _ (by omega)).mono ?_;rintro e w1 ⟨rfl,hb1⟩;have hbw1:=zt (w:=wr) hb1))
   clear hS1
   have q1_1:w1.cell? ⟨g,o+k*2+1,none⟩=some (.string (Zy (kv+1))):=zcl hbw1 q1_0
   go_wp2_with fail
   have hS2:∀w9,Below wr.heap.size wr w9→Below wr.heap.size wr w9∧w9.cell? ⟨g,o+k*2+1,none⟩=some (.string (Zy (kv+1))):=λw9 hb=>⟨hb,zcl hb q1_0⟩
   go_region_held3 (λw9=>Below wr.heap.size wr w9∧w9.cell? ⟨g,o+k*2+1,none⟩=some (.string (Zy (kv+1)))) (exact hS2 _ bl) (first|(go_at_call 41;refine(Zau _ _ (by omega)).mono ?_;rintro e w2 ⟨rfl,hb2⟩;have hbw2:=zt (w:=wr) hb2))
   clear hS2
   go_wp2_with fail
   have hB9:Below w.heap.size w w2:=Za hB hbw2
   go_roundw
   case rel=>exact⟨k+1,by omega,by go_num,⟨_,rfl,by omega,by omega,by have hh:=HE.out;omega⟩,hB9⟩
   case measure=>simp[intOf];omega
  ·obtain rfl:k=n:=by omega
   have HE:=zh he
   clear he
   go_wp2_with fail
   go_ret
   exact⟨Zh (by have hh:=HE.out;rw[List.take_of_length_le (by rw[HN.out];exact Nat.le_refl _)] at hh;omega),hB⟩
theorem TStore.cn_eq (x:TStore):((cStore.cn x:Nat):Int)=1+((cItemS.cn x.items:Nat):Int)+1:=by
 have h:cStore.cn x=1+(cItemS.cn x.items+(1)):=rfl
 omega
theorem TItem.cn_eq (x:TItem):((cItem.cn x:Nat):Int)=1+1+1+((cFieldS.cn x.rcd.fields:Nat):Int):=by
 have h:cItem.cn x=1+(1+(1+(cFieldS.cn x.rcd.fields))):=rfl
 omega
theorem ZjQ (v:Value) (xs:List TItem) (F:List Nat) (k0:Int) (w:World) (h:cItemS.rep w [v] (cItemS.mrk k0 xs) F) (h0:0≤k0) (h1:k0+((cItemS.cn xs:Nat):Int)≤900000000) :
  Calls Tryz.prog 100 #[v,.int .i64 k0] w (ZL w (.int .i64 (k0+((cItemS.cn xs:Nat):Int)))):=by
 change (cL cItem _ _).rep w [v] (Cod.mks cItem k0 xs) F at h
 change k0+((Cod.cns cItem xs:Nat):Int)≤900000000 at h1
 change Calls _ _ _ _ (ZL w (.int .i64 (k0+((Cod.cns cItem xs:Nat):Int))))
 obtain⟨A,cp,rfl⟩:=Zb h
 obtain⟨-,hcp,hm⟩:=Zq h
 have hlen:=Cod.mks_len cItem k0 xs
 obtain⟨n,hxn⟩:∃n,xs.length=n:=⟨_,rfl⟩
 have HN:=zh hxn
 have HL:=zh (hlen.trans hxn)
 rw[hlen,hxn] at hcp⊢
 clear hxn hlen
 have hcle:=Cod.cns_take_le cItem xs
 unfold maxLen at hm
 go_enter Tryz.func100,Tryz.ntmps100
 go_wp2
 go_loopw [1,5] (λa i wr=>∃k:Nat,k≤n∧i=.int .i64 k∧(∃kv:Int,a=.int .i64 kv∧0≤kv∧kv≤900000000∧kv=k0+((Cod.cns cItem (xs.take k):Nat):Int))∧Below w.heap.size w wr) (λ_ i _=>n-(intOf i).toNat)
 case atStart=>exact⟨0,Nat.zero_le _,rfl,⟨_,rfl,h0,by omega,by simp[Cod.cns]⟩,Below.refl _ _⟩
 case round =>
  obtain⟨k,hk,rfl,⟨kv,rfl,hkv0,hkv1,he⟩,hB⟩:=hrel
  by_cases hlt:k<n
  ·have hkx:k<xs.length:=by rw[HN.out];exact hlt
   have hkm:k<(Cod.mks cItem k0 xs).length:=by rw[HL.out];exact hlt
   obtain⟨g,o,vs,F1,rfl,hgF,hx,-,hc⟩:=ZN (hw:=by decide) (hw2:=by decide) (zb h hB) hkm
   rw[Cod.mks_get cItem k0 xs k hkx hkm,← he] at hx
   have hsucc:=Cod.cns_succ cItem xs k hkx
   have hle2:=hcle (k+1)
   have hcn:=TItem.cn_eq xs[k]
   have hb9:kv+((Cod.cn cItem xs[k]:Nat):Int)≤900000000:=by omega
   have HE:=zh (And.intro he hsucc)
   clear he hsucc hle2 hcle
   obtain⟨u3_,Q3,rfl,rfl,-,m3⟩:=TItem.out hx
   change cFieldS.rep wr [_] (cFieldS.mrk (kv+1+1+1) xs[k].rcd.fields) _ at m3
   obtain⟨A3,c3,hv3⟩:=Zb m3
   subst hv3
   have q0_0:wr.cell? ⟨g,o+k*4,none⟩=some (.int .i64 (kv)):=(hc 0 _ rfl).1
   have q1_0:wr.cell? ⟨g,o+k*4+1,none⟩=some (.int .i64 (kv+1)):=(hc 1 _ rfl).1
   have q2_0:wr.cell? ⟨g,o+k*4+2,none⟩=some (.string (Zy (kv+1+1))):=(hc 2 _ rfl).1
   have q3_0:wr.cell? ⟨g,o+k*4+3,none⟩=some (_):=(hc 3 _ rfl).1
   clear hc
   have hgr:g<wr.heap.size:=Nat.lt_of_lt_of_le (Cod.lt _ h g hgF) hB.size
   have hwb:Below wr.heap.size wr wr:=Below.refl _ _
   go_wp2_with fail
   have hS1:∀w9,Below wr.heap.size wr w9→Below wr.heap.size wr w9∧w9.cell? ⟨g,o+k*4+2,none⟩=some (.string (Zy (kv+1+1))):=λw9 hb=>⟨hb,zcl hb q2_0⟩
   go_region_held3 (λw9=>Below wr.heap.size wr w9∧w9.cell? ⟨g,o+k*4+2,none⟩=some (.string (Zy (kv+1+1)))) (exact hS1 _ bl) (first|(go_at_call 41;refine(Zau _ _ (by omega)).mono ?_;rintro e w1 ⟨rfl,hb1⟩;have hbw1:=zt (w:=wr) hb1))
   clear hS1
   have q3_1:w1.cell? ⟨g,o+k*4+3,none⟩=some (_):=zcl hbw1 q3_0
   go_wp2_with fail
   refine(ZiP _ xs[k].rcd.fields _ _ _ (by exact zb m3 hbw1) (by omega) (by omega)).mono ?_
   rintro e w2 ⟨rfl,hb2⟩
   have hbw2:Below wr.heap.size wr w2:=Za hbw1 hb2
   go_wp2_with fail
   have hB9:Below w.heap.size w w2:=Za hB hbw2
   go_roundw
   case rel=>exact⟨k+1,by omega,by go_num,⟨_,rfl,by omega,by omega,by have hh:=HE.out;omega⟩,hB9⟩
   case measure=>simp[intOf];omega
  ·obtain rfl:k=n:=by omega
   have HE:=zh he
   clear he
   go_wp2_with fail
   go_ret
   exact⟨Zh (by have hh:=HE.out;rw[List.take_of_length_le (by rw[HN.out];exact Nat.le_refl _)] at hh;omega),hB⟩
theorem ZiQ (v:Value) (xs:List TStore) (F:List Nat) (k0:Int) (w:World) (h:cStoreS.rep w [v] (cStoreS.mrk k0 xs) F) (h0:0≤k0) (h1:k0+((cStoreS.cn xs:Nat):Int)≤900000000) :
  Calls Tryz.prog 57 #[v,.int .i64 k0] w (ZL w (.int .i64 (k0+((cStoreS.cn xs:Nat):Int)))):=by
 change (cL cStore _ _).rep w [v] (Cod.mks cStore k0 xs) F at h
 change k0+((Cod.cns cStore xs:Nat):Int)≤900000000 at h1
 change Calls _ _ _ _ (ZL w (.int .i64 (k0+((Cod.cns cStore xs:Nat):Int))))
 obtain⟨A,cp,rfl⟩:=Zb h
 obtain⟨-,hcp,hm⟩:=Zq h
 have hlen:=Cod.mks_len cStore k0 xs
 obtain⟨n,hxn⟩:∃n,xs.length=n:=⟨_,rfl⟩
 have HN:=zh hxn
 have HL:=zh (hlen.trans hxn)
 rw[hlen,hxn] at hcp⊢
 clear hxn hlen
 have hcle:=Cod.cns_take_le cStore xs
 unfold maxLen at hm
 go_enter Tryz.func57,Tryz.ntmps57
 go_wp2
 go_loopw [1,5] (λa i wr=>∃k:Nat,k≤n∧i=.int .i64 k∧(∃kv:Int,a=.int .i64 kv∧0≤kv∧kv≤900000000∧kv=k0+((Cod.cns cStore (xs.take k):Nat):Int))∧Below w.heap.size w wr) (λ_ i _=>n-(intOf i).toNat)
 case atStart=>exact⟨0,Nat.zero_le _,rfl,⟨_,rfl,h0,by omega,by simp[Cod.cns]⟩,Below.refl _ _⟩
 case round =>
  obtain⟨k,hk,rfl,⟨kv,rfl,hkv0,hkv1,he⟩,hB⟩:=hrel
  by_cases hlt:k<n
  ·have hkx:k<xs.length:=by rw[HN.out];exact hlt
   have hkm:k<(Cod.mks cStore k0 xs).length:=by rw[HL.out];exact hlt
   obtain⟨g,o,vs,F1,rfl,hgF,hx,-,hc⟩:=ZN (hw:=by decide) (hw2:=by decide) (zb h hB) hkm
   rw[Cod.mks_get cStore k0 xs k hkx hkm,← he] at hx
   have hsucc:=Cod.cns_succ cStore xs k hkx
   have hle2:=hcle (k+1)
   have hcn:=TStore.cn_eq xs[k]
   have hb9:kv+((Cod.cn cStore xs[k]:Nat):Int)≤900000000:=by omega
   have HE:=zh (And.intro he hsucc)
   clear he hsucc hle2 hcle
   obtain⟨u1_,Q1,rfl,rfl,-,m1⟩:=TStore.out hx
   change cItemS.rep wr [_] (cItemS.mrk (kv+1) xs[k].items) _ at m1
   obtain⟨A1,c1,hv1⟩:=Zb m1
   subst hv1
   have q0_0:wr.cell? ⟨g,o+k*3,none⟩=some (.string (Zy (kv))):=(hc 0 _ rfl).1
   have q1_0:wr.cell? ⟨g,o+k*3+1,none⟩=some (_):=(hc 1 _ rfl).1
   have q2_0:wr.cell? ⟨g,o+k*3+2,none⟩=some (.int .i64 (kv+1+((cItemS.cn xs[k].items:Nat):Int))):=(hc 2 _ rfl).1
   clear hc
   have hgr:g<wr.heap.size:=Nat.lt_of_lt_of_le (Cod.lt _ h g hgF) hB.size
   have hwb:Below wr.heap.size wr wr:=Below.refl _ _
   go_wp2_with fail
   have hS1:∀w9,Below wr.heap.size wr w9→Below wr.heap.size wr w9∧w9.cell? ⟨g,o+k*3,none⟩=some (.string (Zy (kv))):=λw9 hb=>⟨hb,zcl hb q0_0⟩
   go_region_held3 (λw9=>Below wr.heap.size wr w9∧w9.cell? ⟨g,o+k*3,none⟩=some (.string (Zy (kv)))) (exact hS1 _ bl) (first|(go_at_call 41;refine(Zau _ _ (by omega)).mono ?_;rintro e w1 ⟨rfl,hb1⟩;have hbw1:=zt (w:=wr) hb1))
   clear hS1
   have q1_1:w1.cell? ⟨g,o+k*3+1,none⟩=some (_):=zcl hbw1 q1_0
   have q2_1:w1.cell? ⟨g,o+k*3+2,none⟩=some (.int .i64 (kv+1+((cItemS.cn xs[k].items:Nat):Int))):=zcl hbw1 q2_0
   go_wp2_with fail
   refine(ZjQ _ xs[k].items _ _ _ (by exact zb m1 hbw1) (by omega) (by omega)).mono ?_
   rintro e w2 ⟨rfl,hb2⟩
   have hbw2:Below wr.heap.size wr w2:=Za hbw1 hb2
   have q2_2:w2.cell? ⟨g,o+k*3+2,none⟩=some (.int .i64 (kv+1+((cItemS.cn xs[k].items:Nat):Int))):=zcl hbw2 q2_0
   go_wp2_with fail
   have hB9:Below w.heap.size w w2:=Za hB hbw2
   go_roundw
   case rel=>exact⟨k+1,by omega,by go_num,⟨_,rfl,by omega,by omega,by have hh:=HE.out;omega⟩,hB9⟩
   case measure=>simp[intOf];omega
  ·obtain rfl:k=n:=by omega
   have HE:=zh he
   clear he
   go_wp2_with fail
   go_ret
   exact⟨Zh (by have hh:=HE.out;rw[List.take_of_length_le (by rw[HN.out];exact Nat.le_refl _)] at hh;omega),hB⟩
def Zej (w:World) (v:Value) (F:List Nat) (n:Int) (xs:List TIdx) (e:Ending) (w':World):Prop:=e=.returned (.int .i64 n)∧Only F w w'∧cIdxS.rep w' [v] xs F
theorem Zgh (v:Value) (xs:List TIdx) (F:List Nat) (k0:Int) (w:World) (h:cIdxS.rep w [v] xs F) (hnd:F.Nodup) (h0:0≤k0) (h1:k0+((cIdxS.cn xs:Nat):Int)≤900000000) :
  Calls Tryz.prog 56 #[v,.int .i64 k0] w (Zej w v F (k0+((cIdxS.cn xs:Nat):Int)) (cIdxS.mrk k0 xs)):=by
 change k0+((Cod.cns cIdx xs:Nat):Int)≤900000000 at h1
 change Calls _ _ _ _ (Zej w v F (k0+((Cod.cns cIdx xs:Nat):Int)) (Cod.mks cIdx k0 xs))
 obtain⟨A,cp,rfl⟩:=Zb h
 obtain⟨-,hcp,hm⟩:=Zq h
 have hml:=Cod.mkTo_len cIdx k0 xs
 obtain⟨n,hxn⟩:∃n,xs.length=n:=⟨_,rfl⟩
 have HN:=zh hxn
 have HM:=zh (λi=>(hml i).trans hxn)
 rw[hxn] at hcp h⊢
 clear hxn hml
 have hcle:=Cod.cns_take_le cIdx xs
 have h':(cL cIdx (by decide) (by decide)).rep w [.slice A n cp] (Cod.mkTo cIdx k0 xs 0) F:=by rw[Cod.mkTo_zero];exact h
 unfold maxLen at hm
 go_enter Tryz.func56,Tryz.ntmps56
 go_wp2
 go_loopw [1,5] (λa i wr=>∃k:Nat,k≤n∧i=.int .i64 k∧(∃kv:Int,a=.int .i64 kv∧0≤kv∧kv≤900000000∧kv=k0+((Cod.cns cIdx (xs.take k):Nat):Int))∧Only F w wr∧(cL cIdx (by decide) (by decide)).rep wr [.slice A n cp] (Cod.mkTo cIdx k0 xs k) F) (λ_ i _=>n-(intOf i).toNat)
 case atStart=>exact⟨0,Nat.zero_le _,rfl,⟨_,rfl,h0,by omega,by simp[Cod.cns]⟩,Only.refl _ _,h'⟩
 case round =>
  obtain⟨k,hk,rfl,⟨kv,rfl,hkv0,hkv1,he⟩,hO,hR⟩:=hrel
  by_cases hlt:k<n
  ·have hkx:k<xs.length:=by rw[HN.out];exact hlt
   have hkm:k<(Cod.mkTo cIdx k0 xs k).length:=by rw[HM.out];exact hlt
   obtain⟨g,o,vs,Fi,rfl,hgF,hgi,hFi,hndi,hx,R0,hfr,hup⟩:=Zja (hw:=by decide) (hw2:=by decide) hR hnd hkm
   rw[Cod.mkTo_get cIdx k0 xs k hkx hkm] at hx
   have hsucc:=Cod.cns_succ cIdx xs k hkx
   have hle2:=hcle (k+1)
   have hset:=Cod.mkTo_set cIdx k0 xs k hkx
   rw[← he] at hset
   have hcn:=TIdx.cn_eq xs[k]
   have hb9:kv+((Cod.cn cIdx xs[k]:Nat):Int)≤900000000:=by omega
   have HE:=zh (And.intro he (And.intro hsucc hset))
   clear he hsucc hle2 hcle hset
   obtain⟨rfl,rfl,hok⟩:=TIdx.out hx
   change RS wr wr g (o+k*2) _ _ at R0
   have hgr:g<wr.heap.size:=R0.glt
   have q0_wr:wr.cell? ⟨g,o+k*2,none⟩=some _:=R0.cell 0 _ rfl
   have f0_wr:wr.frozen? ⟨g,o+k*2,none⟩=false:=(R0.frz _).trans (hfr 0 (by decide))
   have q1_wr:wr.cell? ⟨g,o+k*2+1,none⟩=some _:=R0.cell 1 _ rfl
   have f1_wr:wr.frozen? ⟨g,o+k*2+1,none⟩=false:=(R0.frz _).trans (hfr 1 (by decide))
   go_wp2_with fail
   refine(Zau _ _ (by omega)).mono ?_
   rintro e w1 ⟨rfl,hb1⟩
   have R1:=R0.bel hb1
   have q0_w1:w1.cell? ⟨g,o+k*2,none⟩=some _:=R1.cell 0 _ rfl
   have f0_w1:w1.frozen? ⟨g,o+k*2,none⟩=false:=(R1.frz _).trans (hfr 0 (by decide))
   have q1_w1:w1.cell? ⟨g,o+k*2+1,none⟩=some _:=R1.cell 1 _ rfl
   have f1_w1:w1.frozen? ⟨g,o+k*2+1,none⟩=false:=(R1.frz _).trans (hfr 1 (by decide))
   go_wp2_with fail
   have R2:=R1.set0 (by simp) (.string (Zy (kv)))
   refine(Zau _ _ (by omega)).mono ?_
   rintro e w2 ⟨rfl,hb2⟩
   have R3:=R2.bel hb2
   have q1_w2:w2.cell? ⟨g,o+k*2+1,none⟩=some _:=R3.cell 1 _ rfl
   have f1_w2:w2.frozen? ⟨g,o+k*2+1,none⟩=false:=(R3.frz _).trans (hfr 1 (by decide))
   go_wp2_with fail
   have R4:=R3.set (j:=1) (by simp) (.string (Zy (kv+1)))
   have hrow:=hup _ _ (cIdx.mrk kv xs[k]) (by exact R4) (by exact TIdx.mk_ (x:=cIdx.mrk kv xs[k]) ⟨show (Zy (kv)).size≤maxLen from ZaY (by omega),show (Zy (kv+1)).size≤maxLen from ZaY (by omega)⟩)
   rw[HE.out.2.2] at hrow
   have hO9:=hO.trans (R4.only.mono (G:=F) (λx hx=>(List.mem_cons.1 hx).elim (λe1=>e1 ▸ hgF) (hFi x)))
   go_roundw
   case rel=>exact⟨k+1,by omega,by go_num,⟨_,rfl,by omega,by omega,by have hh:=HE.out;omega⟩,hO9,hrow⟩
   case measure=>simp[intOf];omega
  ·obtain rfl:k=n:=by omega
   have HE:=zh he
   clear he
   go_wp2_with fail
   go_ret
   exact⟨Zh (by have hh:=HE.out;rw[List.take_of_length_le (by rw[HN.out];exact Nat.le_refl _)] at hh;omega),hO,by have hh:=hR;rw[← HN.out,Cod.mkTo_end] at hh;rw[← HN.out];exact hh⟩
def Zgt (w:World) (v:Value) (F:List Nat) (n:Int) (xs:List TField) (e:Ending) (w':World):Prop:=e=.returned (.int .i64 n)∧Only F w w'∧cFieldS.rep w' [v] xs F
theorem ZeQ (v:Value) (xs:List TField) (F:List Nat) (k0:Int) (w:World) (h:cFieldS.rep w [v] xs F) (hnd:F.Nodup) (h0:0≤k0) (h1:k0+((cFieldS.cn xs:Nat):Int)≤900000000) :
  Calls Tryz.prog 42 #[v,.int .i64 k0] w (Zgt w v F (k0+((cFieldS.cn xs:Nat):Int)) (cFieldS.mrk k0 xs)):=by
 change k0+((Cod.cns cField xs:Nat):Int)≤900000000 at h1
 change Calls _ _ _ _ (Zgt w v F (k0+((Cod.cns cField xs:Nat):Int)) (Cod.mks cField k0 xs))
 obtain⟨A,cp,rfl⟩:=Zb h
 obtain⟨-,hcp,hm⟩:=Zq h
 have hml:=Cod.mkTo_len cField k0 xs
 obtain⟨n,hxn⟩:∃n,xs.length=n:=⟨_,rfl⟩
 have HN:=zh hxn
 have HM:=zh (λi=>(hml i).trans hxn)
 rw[hxn] at hcp h⊢
 clear hxn hml
 have hcle:=Cod.cns_take_le cField xs
 have h':(cL cField (by decide) (by decide)).rep w [.slice A n cp] (Cod.mkTo cField k0 xs 0) F:=by rw[Cod.mkTo_zero];exact h
 unfold maxLen at hm
 go_enter Tryz.func42,Tryz.ntmps42
 go_wp2
 go_loopw [1,5] (λa i wr=>∃k:Nat,k≤n∧i=.int .i64 k∧(∃kv:Int,a=.int .i64 kv∧0≤kv∧kv≤900000000∧kv=k0+((Cod.cns cField (xs.take k):Nat):Int))∧Only F w wr∧(cL cField (by decide) (by decide)).rep wr [.slice A n cp] (Cod.mkTo cField k0 xs k) F) (λ_ i _=>n-(intOf i).toNat)
 case atStart=>exact⟨0,Nat.zero_le _,rfl,⟨_,rfl,h0,by omega,by simp[Cod.cns]⟩,Only.refl _ _,h'⟩
 case round =>
  obtain⟨k,hk,rfl,⟨kv,rfl,hkv0,hkv1,he⟩,hO,hR⟩:=hrel
  by_cases hlt:k<n
  ·have hkx:k<xs.length:=by rw[HN.out];exact hlt
   have hkm:k<(Cod.mkTo cField k0 xs k).length:=by rw[HM.out];exact hlt
   obtain⟨g,o,vs,Fi,rfl,hgF,hgi,hFi,hndi,hx,R0,hfr,hup⟩:=Zja (hw:=by decide) (hw2:=by decide) hR hnd hkm
   rw[Cod.mkTo_get cField k0 xs k hkx hkm] at hx
   have hsucc:=Cod.cns_succ cField xs k hkx
   have hle2:=hcle (k+1)
   have hset:=Cod.mkTo_set cField k0 xs k hkx
   rw[← he] at hset
   have hcn:=TField.cn_eq xs[k]
   have hb9:kv+((Cod.cn cField xs[k]:Nat):Int)≤900000000:=by omega
   have HE:=zh (And.intro he (And.intro hsucc hset))
   clear he hsucc hle2 hcle hset
   obtain⟨rfl,rfl,hok⟩:=TField.out hx
   change RS wr wr g (o+k*2) _ _ at R0
   have hgr:g<wr.heap.size:=R0.glt
   have q0_wr:wr.cell? ⟨g,o+k*2,none⟩=some _:=R0.cell 0 _ rfl
   have f0_wr:wr.frozen? ⟨g,o+k*2,none⟩=false:=(R0.frz _).trans (hfr 0 (by decide))
   have q1_wr:wr.cell? ⟨g,o+k*2+1,none⟩=some _:=R0.cell 1 _ rfl
   have f1_wr:wr.frozen? ⟨g,o+k*2+1,none⟩=false:=(R0.frz _).trans (hfr 1 (by decide))
   go_wp2_with fail
   refine(Zau _ _ (by omega)).mono ?_
   rintro e w1 ⟨rfl,hb1⟩
   have R1:=R0.bel hb1
   have q0_w1:w1.cell? ⟨g,o+k*2,none⟩=some _:=R1.cell 0 _ rfl
   have f0_w1:w1.frozen? ⟨g,o+k*2,none⟩=false:=(R1.frz _).trans (hfr 0 (by decide))
   have q1_w1:w1.cell? ⟨g,o+k*2+1,none⟩=some _:=R1.cell 1 _ rfl
   have f1_w1:w1.frozen? ⟨g,o+k*2+1,none⟩=false:=(R1.frz _).trans (hfr 1 (by decide))
   go_wp2_with fail
   have R2:=R1.set0 (by simp) (.string (Zy (kv)))
   have R3:=R2.set (j:=1) (by simp) (.int .i64 (kv+1))
   have hrow:=hup _ _ (cField.mrk kv xs[k]) (by exact R3) (by exact TField.mk_ (x:=cField.mrk kv xs[k]) ⟨show (Zy (kv)).size≤maxLen from ZaY (by omega),by show -9223372036854775808≤kv+1∧kv+1≤9223372036854775807;omega⟩)
   rw[HE.out.2.2] at hrow
   have hO9:=hO.trans (R3.only.mono (G:=F) (λx hx=>(List.mem_cons.1 hx).elim (λe1=>e1 ▸ hgF) (hFi x)))
   go_roundw
   case rel=>exact⟨k+1,by omega,by go_num,⟨_,rfl,by omega,by omega,by have hh:=HE.out;omega⟩,hO9,hrow⟩
   case measure=>simp[intOf];omega
  ·obtain rfl:k=n:=by omega
   have HE:=zh he
   clear he
   go_wp2_with fail
   go_ret
   exact⟨Zh (by have hh:=HE.out;rw[List.take_of_length_le (by rw[HN.out];exact Nat.le_refl _)] at hh;omega),hO,by have hh:=hR;rw[← HN.out,Cod.mkTo_end] at hh;rw[← HN.out];exact hh⟩
def Zht (w:World) (v:Value) (F:List Nat) (n:Int) (xs:List TItem) (e:Ending) (w':World):Prop:=e=.returned (.int .i64 n)∧Only F w w'∧cItemS.rep w' [v] xs F
theorem ZjV (v:Value) (xs:List TItem) (F:List Nat) (k0:Int) (w:World) (h:cItemS.rep w [v] xs F) (hnd:F.Nodup) (h0:0≤k0) (h1:k0+((cItemS.cn xs:Nat):Int)≤900000000) :
  Calls Tryz.prog 99 #[v,.int .i64 k0] w (Zht w v F (k0+((cItemS.cn xs:Nat):Int)) (cItemS.mrk k0 xs)):=by
 change k0+((Cod.cns cItem xs:Nat):Int)≤900000000 at h1
 change Calls _ _ _ _ (Zht w v F (k0+((Cod.cns cItem xs:Nat):Int)) (Cod.mks cItem k0 xs))
 obtain⟨A,cp,rfl⟩:=Zb h
 obtain⟨-,hcp,hm⟩:=Zq h
 have hml:=Cod.mkTo_len cItem k0 xs
 obtain⟨n,hxn⟩:∃n,xs.length=n:=⟨_,rfl⟩
 have HN:=zh hxn
 have HM:=zh (λi=>(hml i).trans hxn)
 rw[hxn] at hcp h⊢
 clear hxn hml
 have hcle:=Cod.cns_take_le cItem xs
 have h':(cL cItem (by decide) (by decide)).rep w [.slice A n cp] (Cod.mkTo cItem k0 xs 0) F:=by rw[Cod.mkTo_zero];exact h
 unfold maxLen at hm
 go_enter Tryz.func99,Tryz.ntmps99
 go_wp2
 go_loopw [1,5] (λa i wr=>∃k:Nat,k≤n∧i=.int .i64 k∧(∃kv:Int,a=.int .i64 kv∧0≤kv∧kv≤900000000∧kv=k0+((Cod.cns cItem (xs.take k):Nat):Int))∧Only F w wr∧(cL cItem (by decide) (by decide)).rep wr [.slice A n cp] (Cod.mkTo cItem k0 xs k) F) (λ_ i _=>n-(intOf i).toNat)
 case atStart=>exact⟨0,Nat.zero_le _,rfl,⟨_,rfl,h0,by omega,by simp[Cod.cns]⟩,Only.refl _ _,h'⟩
 case round =>
  obtain⟨k,hk,rfl,⟨kv,rfl,hkv0,hkv1,he⟩,hO,hR⟩:=hrel
  by_cases hlt:k<n
  ·have hkx:k<xs.length:=by rw[HN.out];exact hlt
   have hkm:k<(Cod.mkTo cItem k0 xs k).length:=by rw[HM.out];exact hlt
   obtain⟨g,o,vs,Fi,rfl,hgF,hgi,hFi,hndi,hx,R0,hfr,hup⟩:=Zja (hw:=by decide) (hw2:=by decide) hR hnd hkm
   rw[Cod.mkTo_get cItem k0 xs k hkx hkm] at hx
   have hsucc:=Cod.cns_succ cItem xs k hkx
   have hle2:=hcle (k+1)
   have hset:=Cod.mkTo_set cItem k0 xs k hkx
   rw[← he] at hset
   have hcn:=TItem.cn_eq xs[k]
   have hb9:kv+((Cod.cn cItem xs[k]:Nat):Int)≤900000000:=by omega
   have HE:=zh (And.intro he (And.intro hsucc hset))
   clear he hsucc hle2 hcle hset
   obtain⟨u3_,Q3,rfl,rfl,hok,m3⟩:=TItem.out hx
   obtain⟨A3,c3,hv3⟩:=Zb m3
   subst hv3
   change RS wr wr g (o+k*4) _ _ at R0
   have hgr:g<wr.heap.size:=R0.glt
   have q0_wr:wr.cell? ⟨g,o+k*4,none⟩=some _:=R0.cell 0 _ rfl
   have f0_wr:wr.frozen? ⟨g,o+k*4,none⟩=false:=(R0.frz _).trans (hfr 0 (by decide))
   have q1_wr:wr.cell? ⟨g,o+k*4+1,none⟩=some _:=R0.cell 1 _ rfl
   have f1_wr:wr.frozen? ⟨g,o+k*4+1,none⟩=false:=(R0.frz _).trans (hfr 1 (by decide))
   have q2_wr:wr.cell? ⟨g,o+k*4+2,none⟩=some _:=R0.cell 2 _ rfl
   have f2_wr:wr.frozen? ⟨g,o+k*4+2,none⟩=false:=(R0.frz _).trans (hfr 2 (by decide))
   have q3_wr:wr.cell? ⟨g,o+k*4+3,none⟩=some _:=R0.cell 3 _ rfl
   have f3_wr:wr.frozen? ⟨g,o+k*4+3,none⟩=false:=(R0.frz _).trans (hfr 3 (by decide))
   go_wp2_with fail
   have R1:=R0.set0 (by simp) (.int .i64 (kv))
   have m3_1:=Cod.set_ m3 hgi (o+k*4) (.int .i64 (kv))
   have R2:=R1.set (j:=1) (by simp) (.int .i64 (kv+1))
   have m3_2:=Cod.set_ m3_1 hgi (o+k*4+1) (.int .i64 (kv+1))
   refine(Zau _ _ (by omega)).mono ?_
   rintro e w1 ⟨rfl,hb1⟩
   have R3:=R2.bel hb1
   have m3_3:=zb m3_2 hb1
   have q2_w1:w1.cell? ⟨g,o+k*4+2,none⟩=some _:=R3.cell 2 _ rfl
   have f2_w1:w1.frozen? ⟨g,o+k*4+2,none⟩=false:=(R3.frz _).trans (hfr 2 (by decide))
   have q3_w1:w1.cell? ⟨g,o+k*4+3,none⟩=some _:=R3.cell 3 _ rfl
   have f3_w1:w1.frozen? ⟨g,o+k*4+3,none⟩=false:=(R3.frz _).trans (hfr 3 (by decide))
   go_wp2_with fail
   have R4:=R3.set (j:=2) (by simp) (.string (Zy (kv+1+1)))
   have m3_4:=Cod.set_ m3_3 hgi (o+k*4+2) (.string (Zy (kv+1+1)))
   refine(ZeQ _ xs[k].rcd.fields _ _ _ (by exact m3_4) hndi (by omega) (by omega)).mono ?_
   rintro e w2 ⟨rfl,ho2,hr2⟩
   have R5:=R4.sub ho2 (λx hx=>hx) hgi
   go_wp2_with fail
   have hrow:=hup _ _ (cItem.mrk kv xs[k]) (by exact R5) (by exact TItem.mk_ (x:=cItem.mrk kv xs[k]) ⟨by show -9223372036854775808≤kv∧kv≤9223372036854775807;omega,by show -9223372036854775808≤kv+1∧kv+1≤9223372036854775807;omega,show (Zy (kv+1+1)).size≤maxLen from ZaY (by omega)⟩ hr2)
   rw[HE.out.2.2] at hrow
   have hO9:=hO.trans (R5.only.mono (G:=F) (λx hx=>(List.mem_cons.1 hx).elim (λe1=>e1 ▸ hgF) (hFi x)))
   go_roundw
   case rel=>exact⟨k+1,by omega,by go_num,⟨_,rfl,by omega,by omega,by have hh:=HE.out;omega⟩,hO9,hrow⟩
   case measure=>simp[intOf];omega
  ·obtain rfl:k=n:=by omega
   have HE:=zh he
   clear he
   go_wp2_with fail
   go_ret
   exact⟨Zh (by have hh:=HE.out;rw[List.take_of_length_le (by rw[HN.out];exact Nat.le_refl _)] at hh;omega),hO,by have hh:=hR;rw[← HN.out,Cod.mkTo_end] at hh;rw[← HN.out];exact hh⟩
def Zgu (w:World) (v:Value) (F:List Nat) (n:Int) (xs:List TStore) (e:Ending) (w':World):Prop:=e=.returned (.int .i64 n)∧Only F w w'∧cStoreS.rep w' [v] xs F
theorem ZiT (v:Value) (xs:List TStore) (F:List Nat) (k0:Int) (w:World) (h:cStoreS.rep w [v] xs F) (hnd:F.Nodup) (h0:0≤k0) (h1:k0+((cStoreS.cn xs:Nat):Int)≤900000000) :
  Calls Tryz.prog 55 #[v,.int .i64 k0] w (Zgu w v F (k0+((cStoreS.cn xs:Nat):Int)) (cStoreS.mrk k0 xs)):=by
 change k0+((Cod.cns cStore xs:Nat):Int)≤900000000 at h1
 change Calls _ _ _ _ (Zgu w v F (k0+((Cod.cns cStore xs:Nat):Int)) (Cod.mks cStore k0 xs))
 obtain⟨A,cp,rfl⟩:=Zb h
 obtain⟨-,hcp,hm⟩:=Zq h
 have hml:=Cod.mkTo_len cStore k0 xs
 obtain⟨n,hxn⟩:∃n,xs.length=n:=⟨_,rfl⟩
 have HN:=zh hxn
 have HM:=zh (λi=>(hml i).trans hxn)
 rw[hxn] at hcp h⊢
 clear hxn hml
 have hcle:=Cod.cns_take_le cStore xs
 have h':(cL cStore (by decide) (by decide)).rep w [.slice A n cp] (Cod.mkTo cStore k0 xs 0) F:=by rw[Cod.mkTo_zero];exact h
 unfold maxLen at hm
 go_enter Tryz.func55,Tryz.ntmps55
 go_wp2
 go_loopw [1,5] (λa i wr=>∃k:Nat,k≤n∧i=.int .i64 k∧(∃kv:Int,a=.int .i64 kv∧0≤kv∧kv≤900000000∧kv=k0+((Cod.cns cStore (xs.take k):Nat):Int))∧Only F w wr∧(cL cStore (by decide) (by decide)).rep wr [.slice A n cp] (Cod.mkTo cStore k0 xs k) F) (λ_ i _=>n-(intOf i).toNat)
 case atStart=>exact⟨0,Nat.zero_le _,rfl,⟨_,rfl,h0,by omega,by simp[Cod.cns]⟩,Only.refl _ _,h'⟩
 case round =>
  obtain⟨k,hk,rfl,⟨kv,rfl,hkv0,hkv1,he⟩,hO,hR⟩:=hrel
  by_cases hlt:k<n
  ·have hkx:k<xs.length:=by rw[HN.out];exact hlt
   have hkm:k<(Cod.mkTo cStore k0 xs k).length:=by rw[HM.out];exact hlt
   obtain⟨g,o,vs,Fi,rfl,hgF,hgi,hFi,hndi,hx,R0,hfr,hup⟩:=Zja (hw:=by decide) (hw2:=by decide) hR hnd hkm
   rw[Cod.mkTo_get cStore k0 xs k hkx hkm] at hx
   have hsucc:=Cod.cns_succ cStore xs k hkx
   have hle2:=hcle (k+1)
   have hset:=Cod.mkTo_set cStore k0 xs k hkx
   rw[← he] at hset
   have hcn:=TStore.cn_eq xs[k]
   have hb9:kv+((Cod.cn cStore xs[k]:Nat):Int)≤900000000:=by omega
   have HE:=zh (And.intro he (And.intro hsucc hset))
   clear he hsucc hle2 hcle hset
   obtain⟨u1_,Q1,rfl,rfl,hok,m1⟩:=TStore.out hx
   obtain⟨A1,c1,hv1⟩:=Zb m1
   subst hv1
   change RS wr wr g (o+k*3) _ _ at R0
   have hgr:g<wr.heap.size:=R0.glt
   have q0_wr:wr.cell? ⟨g,o+k*3,none⟩=some _:=R0.cell 0 _ rfl
   have f0_wr:wr.frozen? ⟨g,o+k*3,none⟩=false:=(R0.frz _).trans (hfr 0 (by decide))
   have q1_wr:wr.cell? ⟨g,o+k*3+1,none⟩=some _:=R0.cell 1 _ rfl
   have f1_wr:wr.frozen? ⟨g,o+k*3+1,none⟩=false:=(R0.frz _).trans (hfr 1 (by decide))
   have q2_wr:wr.cell? ⟨g,o+k*3+2,none⟩=some _:=R0.cell 2 _ rfl
   have f2_wr:wr.frozen? ⟨g,o+k*3+2,none⟩=false:=(R0.frz _).trans (hfr 2 (by decide))
   go_wp2_with fail
   refine(Zau _ _ (by omega)).mono ?_
   rintro e w1 ⟨rfl,hb1⟩
   have R1:=R0.bel hb1
   have m1_1:=zb m1 hb1
   have q0_w1:w1.cell? ⟨g,o+k*3,none⟩=some _:=R1.cell 0 _ rfl
   have f0_w1:w1.frozen? ⟨g,o+k*3,none⟩=false:=(R1.frz _).trans (hfr 0 (by decide))
   have q1_w1:w1.cell? ⟨g,o+k*3+1,none⟩=some _:=R1.cell 1 _ rfl
   have f1_w1:w1.frozen? ⟨g,o+k*3+1,none⟩=false:=(R1.frz _).trans (hfr 1 (by decide))
   have q2_w1:w1.cell? ⟨g,o+k*3+2,none⟩=some _:=R1.cell 2 _ rfl
   have f2_w1:w1.frozen? ⟨g,o+k*3+2,none⟩=false:=(R1.frz _).trans (hfr 2 (by decide))
   go_wp2_with fail
   have R2:=R1.set0 (by simp) (.string (Zy (kv)))
   have m1_2:=Cod.set_ m1_1 hgi (o+k*3) (.string (Zy (kv)))
   refine(ZjV _ xs[k].items _ _ _ (by exact m1_2) hndi (by omega) (by omega)).mono ?_
   rintro e w2 ⟨rfl,ho2,hr2⟩
   have R3:=R2.sub ho2 (λx hx=>hx) hgi
   have q2_w2:w2.cell? ⟨g,o+k*3+2,none⟩=some _:=R3.cell 2 _ rfl
   have f2_w2:w2.frozen? ⟨g,o+k*3+2,none⟩=false:=(R3.frz _).trans (hfr 2 (by decide))
   go_wp2_with fail
   have R4:=R3.set (j:=2) (by simp) (.int .i64 (kv+1+((cItemS.cn xs[k].items:Nat):Int)))
   have m1_4:=Cod.set_ hr2 hgi (o+k*3+2) (.int .i64 (kv+1+((cItemS.cn xs[k].items:Nat):Int)))
   have hrow:=hup _ _ (cStore.mrk kv xs[k]) (by exact R4) (by exact TStore.mk_ (x:=cStore.mrk kv xs[k]) ⟨show (Zy (kv)).size≤maxLen from ZaY (by omega),by show -9223372036854775808≤kv+1+((cItemS.cn xs[k].items:Nat):Int)∧kv+1+((cItemS.cn xs[k].items:Nat):Int)≤9223372036854775807;omega⟩ m1_4)
   rw[HE.out.2.2] at hrow
   have hO9:=hO.trans (R4.only.mono (G:=F) (λx hx=>(List.mem_cons.1 hx).elim (λe1=>e1 ▸ hgF) (hFi x)))
   go_roundw
   case rel=>exact⟨k+1,by omega,by go_num,⟨_,rfl,by omega,by omega,by have hh:=HE.out;omega⟩,hO9,hrow⟩
   case measure=>simp[intOf];omega
  ·obtain rfl:k=n:=by omega
   have HE:=zh he
   clear he
   go_wp2_with fail
   go_ret
   exact⟨Zh (by have hh:=HE.out;rw[List.take_of_length_le (by rw[HN.out];exact Nat.le_refl _)] at hh;omega),hO,by have hh:=hR;rw[← HN.out,Cod.mkTo_end] at hh;rw[← HN.out];exact hh⟩
def ZiJ (w:World) (vs:Array Value) (F:List Nat) (n:Int) (x:TDb) (e:Ending) (w':World):Prop:=e=.returned (.int .i64 n)∧Only F w w'∧cDb.rep w' vs.toList x F
theorem Zhh (vs:Array Value) (x:TDb) (F:List Nat) (k0:Int) (w:World) (h:cDb.rep w vs.toList x F) (hnd:F.Nodup) (h0:0≤k0) (h1:k0+((TDb.tcn x:Nat):Int)≤900000000) :
  Calls Tryz.prog 26 #[.agg vs,.int .i64 k0] w (ZiJ w vs F (k0+((TDb.tcn x:Nat):Int)) (TDb.top k0 x)):=by
 obtain⟨v2,v3,F2,F3,rfl,rfl,hok,m2,m3⟩:=TDb.outA h
 have htc:TDb.tcn x=cStoreS.cn x.stores+cIdxS.cn x.uniq:=rfl
 simp only[List.nodup_append] at hnd
 have hdis:F2.Nodup∧F3.Nodup∧(∀b,b∈F2→b∉F3)∧(∀b,b∈F3→b∉F2):=by
  refine⟨?_,?_,?_,?_⟩
  ·exact hnd.1
  ·exact hnd.2.1
  ·intro b hb hb2;exact hnd.2.2 b hb b (by simp[hb2]) rfl
  ·intro b hb hb2;exact hnd.2.2 b hb2 b (by simp[hb]) rfl
 obtain⟨hnd2,hnd3,hd2_3,hd3_2⟩:=hdis
 go_enter Tryz.func26,Tryz.ntmps26
 go_wp2_with fail
 have hO0:Only (F2++F3) w w:=Only.refl _ _
 refine(ZiT _ x.stores _ _ _ (by exact zb m2) hnd2 (by omega) (by omega)).mono ?_
 rintro e w1 ⟨rfl,ho1,hr1⟩
 have m3_1:=Cod.only (zb m3) ho1 hd3_2
 have hz1:=ho1.size
 (try simp at hz1)
 have hs1:w.heap.size<w1.heap.size:=by omega
 have hbox1:w1.heap[w.heap.size]?=_:=ho1.block w.heap.size (by (try simp);(try omega)) (λhm=>Nat.lt_irrefl _ (Cod.lt _ m2 _ hm))
 have hcb1:∀o:Nat,w1.cell? ⟨w.heap.size,o,none⟩=_:=λo=>World.cell?_of_block (a:=⟨w.heap.size,o,none⟩) hbox1
 clear hbox1
 have hO1:Only (F2++F3) w w1:=(Only.trans hO0 (by exact Only.trans (Only.of_below bl) (ho1.mono (λx hx=>by simp[hx]))))
 go_wp2_with fail
 refine(Zgh _ x.uniq _ _ _ (by exact zb m3_1) hnd3 (by omega) (by omega)).mono ?_
 rintro e w2 ⟨rfl,ho2,hr2⟩
 have m2_2:=Cod.only (zb hr1) ho2 hd2_3
 have hz2:=ho2.size
 (try simp at hz2)
 have hs2:w.heap.size<w2.heap.size:=by omega
 have hbox2:w2.heap[w.heap.size]?=_:=ho2.block w.heap.size (by (try simp);(try omega)) (λhm=>Nat.lt_irrefl _ (Cod.lt _ m3 _ hm))
 have hcb2:∀o:Nat,w2.cell? ⟨w.heap.size,o,none⟩=_:=λo=>World.cell?_of_block (a:=⟨w.heap.size,o,none⟩) hbox2
 clear hbox2
 have hO2:Only (F2++F3) w w2:=(Only.trans hO1 (by exact Only.trans (Only.of_below (Below.refl _ _)) (ho2.mono (λx hx=>by simp[hx]))))
 go_wp2_with fail
 go_ret
 exact⟨Zh (by (try simp only[htc]);(try omega)),hO2,TDb.mk_ (x:=TDb.top k0 x) ⟨hok.h0,hok.h1⟩ m2_2 hr2⟩
theorem Zhf (vs:Array Value) (x:TDb) (F:List Nat) (k0:Int) (w:World) (h:cDb.rep w vs.toList (TDb.top k0 x) F) (h0:0≤k0) (h1:k0+((TDb.tcn x:Nat):Int)≤900000000) :
  Calls Tryz.prog 28 #[.agg vs,.int .i64 k0] w (ZL w (.int .i64 (k0+((TDb.tcn x:Nat):Int)))):=by
 obtain⟨v2,v3,F2,F3,rfl,rfl,hok,m2,m3⟩:=TDb.outA h
 clear hok h
 have htc:TDb.tcn x=cStoreS.cn x.stores+cIdxS.cn x.uniq:=rfl
 go_enter Tryz.func28,Tryz.ntmps28
 go_wp2_with fail
 refine(ZiQ _ x.stores _ _ _ (by exact zb m2) (by omega) (by omega)).mono ?_
 rintro e w1 ⟨rfl,hb1⟩
 obtain⟨hc1,hfz1,hz1⟩:=Zc hb1
 (try simp at hz1)
 have hs1:w.heap.size<w1.heap.size:=by omega
 have hB1:=zt (w:=w) hb1
 clear hb1
 go_wp2_with fail
 refine(ZfW _ x.uniq _ _ _ (by exact zb m3) (by omega) (by omega)).mono ?_
 rintro e w2 ⟨rfl,hb2⟩
 obtain⟨hc2,hfz2,hz2⟩:=Zc hb2
 (try simp at hz2)
 have hs2:w.heap.size<w2.heap.size:=by omega
 have hB2:=zt (w:=w) hb2
 clear hb2
 go_wp2_with fail
 go_ret
 exact⟨Zh (by (try simp only[htc]);(try omega)),bl⟩
def Zhs (w:World) (v:Value) (F:List Nat) (n:Int) (xs:List UInt8) (e:Ending) (w':World):Prop:=e=.returned (.int .i64 n)∧Only F w w'∧cUS.rep w' [v] xs F
theorem ZjU (v:Value) (xs:List UInt8) (F:List Nat) (k0:Int) (w:World) (h:cUS.rep w [v] xs F) (hnd:F.Nodup) (h0:0≤k0) (h1:k0+((cUS.cn xs:Nat):Int)≤900000000) :
  Calls Tryz.prog 27 #[v,.int .i64 k0] w (Zhs w v F (k0+((cUS.cn xs:Nat):Int)) (cUS.mrk k0 xs)):=by
 change k0+((Cod.cns cU xs:Nat):Int)≤900000000 at h1
 change Calls _ _ _ _ (Zhs w v F (k0+((Cod.cns cU xs:Nat):Int)) (Cod.mks cU k0 xs))
 obtain⟨A,cp,rfl⟩:=Zb h
 obtain⟨-,hcp,hm⟩:=Zq h
 have hml:=Cod.mkTo_len cU k0 xs
 obtain⟨n,hxn⟩:∃n,xs.length=n:=⟨_,rfl⟩
 have HN:=zh hxn
 have HM:=zh (λi=>(hml i).trans hxn)
 rw[hxn] at hcp h⊢
 clear hxn hml
 have hcle:=Cod.cns_take_le cU xs
 have h':(cL cU (by decide) (by decide)).rep w [.slice A n cp] (Cod.mkTo cU k0 xs 0) F:=by rw[Cod.mkTo_zero];exact h
 unfold maxLen at hm
 go_enter Tryz.func27,Tryz.ntmps27
 go_wp2
 go_loopw [1,5] (λa i wr=>∃k:Nat,k≤n∧i=.int .i64 k∧(∃kv:Int,a=.int .i64 kv∧0≤kv∧kv≤900000000∧kv=k0+((Cod.cns cU (xs.take k):Nat):Int))∧Only F w wr∧(cL cU (by decide) (by decide)).rep wr [.slice A n cp] (Cod.mkTo cU k0 xs k) F) (λ_ i _=>n-(intOf i).toNat)
 case atStart=>exact⟨0,Nat.zero_le _,rfl,⟨_,rfl,h0,by omega,by simp[Cod.cns]⟩,Only.refl _ _,h'⟩
 case round =>
  obtain⟨k,hk,rfl,⟨kv,rfl,hkv0,hkv1,he⟩,hO,hR⟩:=hrel
  by_cases hlt:k<n
  ·have hkx:k<xs.length:=by rw[HN.out];exact hlt
   have hkm:k<(Cod.mkTo cU k0 xs k).length:=by rw[HM.out];exact hlt
   obtain⟨g,o,vs,Fi,rfl,hgF,hgi,hFi,hndi,hx,R0,hfr,hup⟩:=Zja (hw:=by decide) (hw2:=by decide) hR hnd hkm
   rw[Cod.mkTo_get cU k0 xs k hkx hkm] at hx
   have hsucc:=Cod.cns_succ cU xs k hkx
   have hle2:=hcle (k+1)
   have hset:=Cod.mkTo_set cU k0 xs k hkx
   rw[← he] at hset
   have hcn:((Cod.cn cU xs[k]:Nat):Int)=1:=rfl
   have hb9:kv+((Cod.cn cU xs[k]:Nat):Int)≤900000000:=by omega
   have HE:=zh (And.intro he (And.intro hsucc hset))
   clear he hsucc hle2 hcle hset
   obtain⟨rfl,rfl⟩:=hx
   rw[show (cU).wd=1 from rfl,Nat.mul_one] at R0
   simp only[show (cU).wd=1 from rfl,Nat.mul_one] at hfr
   have hgr:g<wr.heap.size:=R0.glt
   have q0_wr:wr.cell? ⟨g,o+k,none⟩=some _:=R0.cell 0 _ rfl
   have f0_wr:wr.frozen? ⟨g,o+k,none⟩=false:=(R0.frz _).trans (hfr 0 (by decide))
   go_wp2_with fail
   have R1:=R0.set0 (by simp) (.int .u8 ((kv) % 256))
   have hrow:=hup _ _ (cU.mrk kv xs[k]) (by rw[show (cU).wd=1 from rfl,Nat.mul_one];exact R1) (by exact⟨by rw[show cU.mrk kv xs[k]=UInt8.ofNat (kv % 256).toNat from rfl,ZkK];rfl,rfl⟩)
   rw[HE.out.2.2] at hrow
   have hO9:=hO.trans (R1.only.mono (G:=F) (λx hx=>(List.mem_cons.1 hx).elim (λe1=>e1 ▸ hgF) (hFi x)))
   go_roundw
   case rel=>exact⟨k+1,by omega,by go_num,⟨_,rfl,by omega,by omega,by have hh:=HE.out;omega⟩,hO9,hrow⟩
   case measure=>simp[intOf];omega
  ·obtain rfl:k=n:=by omega
   have HE:=zh he
   clear he
   go_wp2_with fail
   go_ret
   exact⟨Zh (by have hh:=HE.out;rw[List.take_of_length_le (by rw[HN.out];exact Nat.le_refl _)] at hh;omega),hO,by have hh:=hR;rw[← HN.out,Cod.mkTo_end] at hh;rw[← HN.out];exact hh⟩
theorem ZjP (v:Value) (xs:List UInt8) (F:List Nat) (k0:Int) (w:World) (h:cUS.rep w [v] (cUS.mrk k0 xs) F) (h0:0≤k0) (h1:k0+((cUS.cn xs:Nat):Int)≤900000000) :
  Calls Tryz.prog 29 #[v,.int .i64 k0] w (ZL w (.int .i64 (k0+((cUS.cn xs:Nat):Int)))):=by
 change (cL cU _ _).rep w [v] (Cod.mks cU k0 xs) F at h
 change k0+((Cod.cns cU xs:Nat):Int)≤900000000 at h1
 change Calls _ _ _ _ (ZL w (.int .i64 (k0+((Cod.cns cU xs:Nat):Int))))
 obtain⟨A,cp,rfl⟩:=Zb h
 obtain⟨-,hcp,hm⟩:=Zq h
 have hlen:=Cod.mks_len cU k0 xs
 obtain⟨n,hxn⟩:∃n,xs.length=n:=⟨_,rfl⟩
 have HN:=zh hxn
 have HL:=zh (hlen.trans hxn)
 rw[hlen,hxn] at hcp⊢
 clear hxn hlen
 have hcle:=Cod.cns_take_le cU xs
 unfold maxLen at hm
 go_enter Tryz.func29,Tryz.ntmps29
 go_wp2
 go_loopw [1,5] (λa i wr=>∃k:Nat,k≤n∧i=.int .i64 k∧(∃kv:Int,a=.int .i64 kv∧0≤kv∧kv≤900000000∧kv=k0+((Cod.cns cU (xs.take k):Nat):Int))∧Below w.heap.size w wr) (λ_ i _=>n-(intOf i).toNat)
 case atStart=>exact⟨0,Nat.zero_le _,rfl,⟨_,rfl,h0,by omega,by simp[Cod.cns]⟩,Below.refl _ _⟩
 case round =>
  obtain⟨k,hk,rfl,⟨kv,rfl,hkv0,hkv1,he⟩,hB⟩:=hrel
  by_cases hlt:k<n
  ·have hkx:k<xs.length:=by rw[HN.out];exact hlt
   have hkm:k<(Cod.mks cU k0 xs).length:=by rw[HL.out];exact hlt
   obtain⟨g,o,vs,F1,rfl,hgF,hx,-,hc⟩:=ZN (hw:=by decide) (hw2:=by decide) (zb h hB) hkm
   rw[Cod.mks_get cU k0 xs k hkx hkm,← he] at hx
   have hsucc:=Cod.cns_succ cU xs k hkx
   have hle2:=hcle (k+1)
   have hb9:kv+((Cod.cn cU xs[k]:Nat):Int)≤900000000:=by omega
   have HE:=zh (And.intro he hsucc)
   clear he hsucc hle2 hcle
   obtain⟨rfl,rfl⟩:=hx
   have q0:wr.cell? ⟨g,o+k,none⟩=some (.int .u8 (kv % 256)):=by
    have h2:=(hc 0 _ rfl).1
    rw[show cU.wd=1 from rfl,Nat.mul_one,Nat.add_zero] at h2
    rw[h2,show cU.mrk kv xs[k]=UInt8.ofNat (kv % 256).toNat from rfl,ZkK]
   clear hc
   have hcn:((Cod.cn cU xs[k]:Nat):Int)=1:=rfl
   go_wp2_with fail
   go_roundw
   case rel=>exact⟨k+1,by omega,by go_num,⟨_,rfl,by omega,by omega,by have hh:=HE.out;omega⟩,hB⟩
   case measure=>simp[intOf];omega
  ·obtain rfl:k=n:=by omega
   have HE:=zh he
   clear he
   go_wp2_with fail
   go_ret
   exact⟨Zh (by have hh:=HE.out;rw[List.take_of_length_le (by rw[HN.out];exact Nat.le_refl _)] at hh;omega),hB⟩
def ZmR (w:World) (vs:Array Value) (F:List Nat) (n:Int) (x:TDisk) (e:Ending) (w':World):Prop:=e=.returned (.int .i64 n)∧Only F w w'∧cDisk.rep w' vs.toList x F
theorem TDisk.tcn_db (x:TDisk):TDisk.tcn x=TDb.tcn x.base+cUS.cn x.log:=rfl
theorem TDisk.top_log (k:Int) (x:TDisk):(TDisk.top k x).log=cUS.mrk (k+((TDb.tcn x.base:Nat):Int)) x.log:=by
 show cUS.mrk (k+((cStoreS.cn x.base.stores:Nat):Int)+((cIdxS.cn x.base.uniq:Nat):Int)) x.log=_
 rw[show ((TDb.tcn x.base:Nat):Int)=((cStoreS.cn x.base.stores:Nat):Int)+((cIdxS.cn x.base.uniq:Nat):Int) from by unfold TDb.tcn;omega,Int.add_assoc]
theorem Zdv (vs:Array Value) (x:TDisk) (F:List Nat) (k0:Int) (w:World) (h:cDisk.rep w vs.toList x F) (hnd:F.Nodup) (h0:0≤k0) (h1:k0+((TDisk.tcn x:Nat):Int)≤900000000) :
  Calls Tryz.prog 10 #[.agg vs,.int .i64 k0] w (ZmR w vs F (k0+((TDisk.tcn x:Nat):Int)) (TDisk.top k0 x)):=by
 obtain⟨v2,v3,v4,F2,F3,F4,rfl,rfl,hok,m2,m3,m4⟩:=TDisk.outA h
 have htc:=TDisk.tcn_db x
 obtain⟨hnd23,hnd4,hdd⟩:=List.nodup_append.1 hnd
 have hd4:∀b,b∈F4→b∉F2++F3:=λb hb hb2=>hdd b hb2 b hb rfl
 have hd23:∀b,b∈F2++F3→b∉F4:=λb hb hb2=>hdd b hb b hb2 rfl
 go_enter Tryz.func10,Tryz.ntmps10
 go_wp2_with fail
 have hO0:Only (F2++F3++F4) w w:=Only.refl _ _
 refine(Zhh #[_,_,_,_] x.base (F2++F3) _ _ (by exact TDb.mk_ ⟨hok.h0,hok.h1⟩ (zb m2) (zb m3)) hnd23 (by omega) (by omega)).mono ?_
 rintro e w1 ⟨rfl,ho1,hr1⟩
 have m4_1:=Cod.only (zb m4) ho1 hd4
 have hz1:=ho1.size
 (try simp at hz1)
 have hs1:w.heap.size<w1.heap.size:=by omega
 have hbox1:w1.heap[w.heap.size]?=_:=ho1.block w.heap.size (by (try simp);(try omega)) (λhm=>by
  rcases List.mem_append.1 hm with hm|hm
  ·exact Nat.lt_irrefl _ (Cod.lt _ m2 _ hm)
  ·exact Nat.lt_irrefl _ (Cod.lt _ m3 _ hm))
 have hcb1:∀o:Nat,w1.cell? ⟨w.heap.size,o,none⟩=_:=λo=>World.cell?_of_block (a:=⟨w.heap.size,o,none⟩) hbox1
 clear hbox1
 have hO1:Only (F2++F3++F4) w w1:=(Only.trans hO0 (by exact Only.trans (Only.of_below bl) (ho1.mono (λx hx=>List.mem_append_left _ hx))))
 go_wp2_with fail
 refine(ZjU _ x.log _ _ _ (by exact zb m4_1) hnd4 (by omega) (by omega)).mono ?_
 rintro e w2 ⟨rfl,ho2,hr2⟩
 have hdb2:=Cod.only (zb hr1) ho2 hd23
 have hz2:=ho2.size
 (try simp at hz2)
 have hs2:w.heap.size<w2.heap.size:=by omega
 have hbox2:w2.heap[w.heap.size]?=_:=ho2.block w.heap.size (by (try simp);(try omega)) (λhm=>Nat.lt_irrefl _ (Cod.lt _ m4 _ hm))
 have hcb2:∀o:Nat,w2.cell? ⟨w.heap.size,o,none⟩=_:=λo=>World.cell?_of_block (a:=⟨w.heap.size,o,none⟩) hbox2
 clear hbox2
 have hO2:Only (F2++F3++F4) w w2:=(Only.trans hO1 (by exact Only.trans (Only.of_below (Below.refl _ _)) (ho2.mono (λx hx=>List.mem_append_right _ hx))))
 obtain⟨u2,u3,G2,G3,e9,eF,-,k2,k3⟩:=TDb.outA hdb2
 have e2:v2=u2:=by injection e9 with e9;injection e9 with _ e9;injection e9 with _ e9;injection e9
 have e3:v3=u3:=by injection e9 with e9;injection e9 with _ e9;injection e9 with _ e9;injection e9 with _ e9;injection e9
 subst e2 e3
 have hfin:cDisk.rep w2 [Value.string x.base.name,.int .i64 x.base.ver,v2,v3,v4,.int .i64 x.count] (TDisk.top k0 x) (F2++F3++F4):=by
  rw[eF]
  exact TDisk.mk_ (x:=TDisk.top k0 x) ⟨hok.h0,hok.h1,hok.h5⟩ k2 k3 (by rw[TDisk.top_log];exact hr2)
 go_wp2_with fail
 go_ret
 exact⟨Zh (by (try simp only[htc]);(try omega)),hO2,hfin⟩
theorem Zdp (vs:Array Value) (x:TDisk) (F:List Nat) (k0:Int) (w:World) (h:cDisk.rep w vs.toList (TDisk.top k0 x) F) (h0:0≤k0) (h1:k0+((TDisk.tcn x:Nat):Int)≤900000000) :
  Calls Tryz.prog 11 #[.agg vs,.int .i64 k0] w (ZL w (.int .i64 (k0+((TDisk.tcn x:Nat):Int)))):=by
 obtain⟨v2,v3,v4,F2,F3,F4,rfl,rfl,hok,m2,m3,m4⟩:=TDisk.outA h
 have htc:=TDisk.tcn_db x
 rw[TDisk.top_log] at m4
 go_enter Tryz.func11,Tryz.ntmps11
 go_wp2_with fail
 refine(Zhf #[_,_,_,_] x.base (F2++F3) _ _ (by exact TDb.mk_ (x:=TDb.top k0 x.base) ⟨hok.h0,hok.h1⟩ (zb m2) (zb m3)) (by omega) (by omega)).mono ?_
 rintro e w1 ⟨rfl,hb1⟩
 obtain⟨hc1,hfz1,hz1⟩:=Zc hb1
 (try simp at hz1)
 have hs1:w.heap.size<w1.heap.size:=by omega
 have hB1:=zt (w:=w) hb1
 clear hb1
 go_wp2_with fail
 refine(ZjP _ x.log _ _ _ (by exact zb m4) (by omega) (by omega)).mono ?_
 rintro e w2 ⟨rfl,hb2⟩
 obtain⟨hc2,hfz2,hz2⟩:=Zc hb2
 (try simp at hz2)
 have hs2:w.heap.size<w2.heap.size:=by omega
 have hB2:=zt (w:=w) hb2
 clear hb2
 go_wp2_with fail
 go_ret
 exact⟨Zh (by (try simp only[htc]);(try omega)),bl⟩
def Zki (w:World) (v:Value) (F:List Nat) (n:Int) (xs:List TOp) (e:Ending) (w':World):Prop:=e=.returned (.int .i64 n)∧Only F w w'∧cOpS.rep w' [v] xs F
theorem ZlC (v:Value) (xs:List TOp) (F:List Nat) (k0:Int) (w:World) (h:cOpS.rep w [v] xs F) (hnd:F.Nodup) (h0:0≤k0) (h1:k0+((cOpS.cn xs:Nat):Int)≤900000000) :
  Calls Tryz.prog 17 #[v,.int .i64 k0] w (Zki w v F (k0+((cOpS.cn xs:Nat):Int)) (cOpS.mrk k0 xs)):=by
 change k0+((Cod.cns cOp xs:Nat):Int)≤900000000 at h1
 change Calls _ _ _ _ (Zki w v F (k0+((Cod.cns cOp xs:Nat):Int)) (Cod.mks cOp k0 xs))
 obtain⟨A,cp,rfl⟩:=Zb h
 obtain⟨-,hcp,hm⟩:=Zq h
 have hml:=Cod.mkTo_len cOp k0 xs
 obtain⟨n,hxn⟩:∃n,xs.length=n:=⟨_,rfl⟩
 have HN:=zh hxn
 have HM:=zh (λi=>(hml i).trans hxn)
 rw[hxn] at hcp h⊢
 clear hxn hml
 have hcle:=Cod.cns_take_le cOp xs
 have h':(cL cOp (by decide) (by decide)).rep w [.slice A n cp] (Cod.mkTo cOp k0 xs 0) F:=by rw[Cod.mkTo_zero];exact h
 unfold maxLen at hm
 go_enter Tryz.func17,Tryz.ntmps17
 go_wp2
 go_loopw [1,5] (λa i wr=>∃k:Nat,k≤n∧i=.int .i64 k∧(∃kv:Int,a=.int .i64 kv∧0≤kv∧kv≤900000000∧kv=k0+((Cod.cns cOp (xs.take k):Nat):Int))∧Only F w wr∧(cL cOp (by decide) (by decide)).rep wr [.slice A n cp] (Cod.mkTo cOp k0 xs k) F) (λ_ i _=>n-(intOf i).toNat)
 case atStart=>exact⟨0,Nat.zero_le _,rfl,⟨_,rfl,h0,by omega,by simp[Cod.cns]⟩,Only.refl _ _,h'⟩
 case round =>
  obtain⟨k,hk,rfl,⟨kv,rfl,hkv0,hkv1,he⟩,hO,hR⟩:=hrel
  by_cases hlt:k<n
  ·have hkx:k<xs.length:=by rw[HN.out];exact hlt
   have hkm:k<(Cod.mkTo cOp k0 xs k).length:=by rw[HM.out];exact hlt
   obtain⟨g,o,vs,Fi,rfl,hgF,hgi,hFi,hndi,hx,R0,hfr,hup⟩:=Zja (hw:=by decide) (hw2:=by decide) hR hnd hkm
   rw[Cod.mkTo_get cOp k0 xs k hkx hkm] at hx
   have hsucc:=Cod.cns_succ cOp xs k hkx
   have hle2:=hcle (k+1)
   have hset:=Cod.mkTo_set cOp k0 xs k hkx
   rw[← he] at hset
   have hcn:=TOp.cn_eq xs[k]
   have hb9:kv+((Cod.cn cOp xs[k]:Nat):Int)≤900000000:=by omega
   have HE:=zh (And.intro he (And.intro hsucc hset))
   clear he hsucc hle2 hcle hset
   obtain⟨u5_,Q5,rfl,rfl,hok,m5⟩:=TOp.out hx
   obtain⟨A5,c5,hv5⟩:=Zb m5
   subst hv5
   change RS wr wr g (o+k*7) _ _ at R0
   have hgr:g<wr.heap.size:=R0.glt
   have q0_wr:wr.cell? ⟨g,o+k*7,none⟩=some _:=R0.cell 0 _ rfl
   have f0_wr:wr.frozen? ⟨g,o+k*7,none⟩=false:=(R0.frz _).trans (hfr 0 (by decide))
   have q1_wr:wr.cell? ⟨g,o+k*7+1,none⟩=some _:=R0.cell 1 _ rfl
   have f1_wr:wr.frozen? ⟨g,o+k*7+1,none⟩=false:=(R0.frz _).trans (hfr 1 (by decide))
   have q2_wr:wr.cell? ⟨g,o+k*7+2,none⟩=some _:=R0.cell 2 _ rfl
   have f2_wr:wr.frozen? ⟨g,o+k*7+2,none⟩=false:=(R0.frz _).trans (hfr 2 (by decide))
   have q3_wr:wr.cell? ⟨g,o+k*7+3,none⟩=some _:=R0.cell 3 _ rfl
   have f3_wr:wr.frozen? ⟨g,o+k*7+3,none⟩=false:=(R0.frz _).trans (hfr 3 (by decide))
   have q4_wr:wr.cell? ⟨g,o+k*7+4,none⟩=some _:=R0.cell 4 _ rfl
   have f4_wr:wr.frozen? ⟨g,o+k*7+4,none⟩=false:=(R0.frz _).trans (hfr 4 (by decide))
   have q5_wr:wr.cell? ⟨g,o+k*7+5,none⟩=some _:=R0.cell 5 _ rfl
   have f5_wr:wr.frozen? ⟨g,o+k*7+5,none⟩=false:=(R0.frz _).trans (hfr 5 (by decide))
   have q6_wr:wr.cell? ⟨g,o+k*7+6,none⟩=some _:=R0.cell 6 _ rfl
   have f6_wr:wr.frozen? ⟨g,o+k*7+6,none⟩=false:=(R0.frz _).trans (hfr 6 (by decide))
   go_wp2_with fail
   have R1:=R0.set0 (by simp) (.int .i64 (kv))
   have m5_1:=Cod.set_ m5 hgi (o+k*7) (.int .i64 (kv))
   refine(Zau _ _ (by omega)).mono ?_
   rintro e w1 ⟨rfl,hb1⟩
   have R2:=R1.bel hb1
   have m5_2:=zb m5_1 hb1
   have q1_w1:w1.cell? ⟨g,o+k*7+1,none⟩=some _:=R2.cell 1 _ rfl
   have f1_w1:w1.frozen? ⟨g,o+k*7+1,none⟩=false:=(R2.frz _).trans (hfr 1 (by decide))
   have q2_w1:w1.cell? ⟨g,o+k*7+2,none⟩=some _:=R2.cell 2 _ rfl
   have f2_w1:w1.frozen? ⟨g,o+k*7+2,none⟩=false:=(R2.frz _).trans (hfr 2 (by decide))
   have q3_w1:w1.cell? ⟨g,o+k*7+3,none⟩=some _:=R2.cell 3 _ rfl
   have f3_w1:w1.frozen? ⟨g,o+k*7+3,none⟩=false:=(R2.frz _).trans (hfr 3 (by decide))
   have q4_w1:w1.cell? ⟨g,o+k*7+4,none⟩=some _:=R2.cell 4 _ rfl
   have f4_w1:w1.frozen? ⟨g,o+k*7+4,none⟩=false:=(R2.frz _).trans (hfr 4 (by decide))
   have q5_w1:w1.cell? ⟨g,o+k*7+5,none⟩=some _:=R2.cell 5 _ rfl
   have f5_w1:w1.frozen? ⟨g,o+k*7+5,none⟩=false:=(R2.frz _).trans (hfr 5 (by decide))
   have q6_w1:w1.cell? ⟨g,o+k*7+6,none⟩=some _:=R2.cell 6 _ rfl
   have f6_w1:w1.frozen? ⟨g,o+k*7+6,none⟩=false:=(R2.frz _).trans (hfr 6 (by decide))
   go_wp2_with fail
   have R3:=R2.set (j:=1) (by simp) (.string (Zy (kv+1)))
   have m5_3:=Cod.set_ m5_2 hgi (o+k*7+1) (.string (Zy (kv+1)))
   have R4:=R3.set (j:=2) (by simp) (.int .i64 (kv+1+1))
   have m5_4:=Cod.set_ m5_3 hgi (o+k*7+2) (.int .i64 (kv+1+1))
   have R5:=R4.set (j:=3) (by simp) (.int .i64 (kv+1+1+1))
   have m5_5:=Cod.set_ m5_4 hgi (o+k*7+3) (.int .i64 (kv+1+1+1))
   refine(Zau _ _ (by omega)).mono ?_
   rintro e w2 ⟨rfl,hb2⟩
   have R6:=R5.bel hb2
   have m5_6:=zb m5_5 hb2
   have q4_w2:w2.cell? ⟨g,o+k*7+4,none⟩=some _:=R6.cell 4 _ rfl
   have f4_w2:w2.frozen? ⟨g,o+k*7+4,none⟩=false:=(R6.frz _).trans (hfr 4 (by decide))
   have q5_w2:w2.cell? ⟨g,o+k*7+5,none⟩=some _:=R6.cell 5 _ rfl
   have f5_w2:w2.frozen? ⟨g,o+k*7+5,none⟩=false:=(R6.frz _).trans (hfr 5 (by decide))
   have q6_w2:w2.cell? ⟨g,o+k*7+6,none⟩=some _:=R6.cell 6 _ rfl
   have f6_w2:w2.frozen? ⟨g,o+k*7+6,none⟩=false:=(R6.frz _).trans (hfr 6 (by decide))
   go_wp2_with fail
   have R7:=R6.set (j:=4) (by simp) (.string (Zy (kv+1+1+1+1)))
   have m5_7:=Cod.set_ m5_6 hgi (o+k*7+4) (.string (Zy (kv+1+1+1+1)))
   refine(ZeQ _ xs[k].rcd.fields _ _ _ (by exact m5_7) hndi (by omega) (by omega)).mono ?_
   rintro e w3 ⟨rfl,ho3,hr3⟩
   have R8:=R7.sub ho3 (λx hx=>hx) hgi
   have q6_w3:w3.cell? ⟨g,o+k*7+6,none⟩=some _:=R8.cell 6 _ rfl
   have f6_w3:w3.frozen? ⟨g,o+k*7+6,none⟩=false:=(R8.frz _).trans (hfr 6 (by decide))
   go_wp2_with fail
   refine(Zau _ _ (by omega)).mono ?_
   rintro e w4 ⟨rfl,hb4⟩
   have R9:=R8.bel hb4
   have m5_9:=zb hr3 hb4
   have q6_w4:w4.cell? ⟨g,o+k*7+6,none⟩=some _:=R9.cell 6 _ rfl
   have f6_w4:w4.frozen? ⟨g,o+k*7+6,none⟩=false:=(R9.frz _).trans (hfr 6 (by decide))
   go_wp2_with fail
   have R10:=R9.set (j:=6) (by simp) (.string (Zy (kv+1+1+1+1+1+((cFieldS.cn xs[k].rcd.fields:Nat):Int))))
   have m5_10:=Cod.set_ m5_9 hgi (o+k*7+6) (.string (Zy (kv+1+1+1+1+1+((cFieldS.cn xs[k].rcd.fields:Nat):Int))))
   have hrow:=hup _ _ (cOp.mrk kv xs[k]) (by exact R10) (by exact TOp.mk_ (x:=cOp.mrk kv xs[k]) ⟨by show -9223372036854775808≤kv∧kv≤9223372036854775807;omega,show (Zy (kv+1)).size≤maxLen from ZaY (by omega),by show -9223372036854775808≤kv+1+1∧kv+1+1≤9223372036854775807;omega,by show -9223372036854775808≤kv+1+1+1∧kv+1+1+1≤9223372036854775807;omega,show (Zy (kv+1+1+1+1)).size≤maxLen from ZaY (by omega),show (Zy (kv+1+1+1+1+1+((cFieldS.cn xs[k].rcd.fields:Nat):Int))).size≤maxLen from ZaY (by omega)⟩ m5_10)
   rw[HE.out.2.2] at hrow
   have hO9:=hO.trans (R10.only.mono (G:=F) (λx hx=>(List.mem_cons.1 hx).elim (λe1=>e1 ▸ hgF) (hFi x)))
   go_roundw
   case rel=>exact⟨k+1,by omega,by go_num,⟨_,rfl,by omega,by omega,by have hh:=HE.out;omega⟩,hO9,hrow⟩
   case measure=>simp[intOf];omega
  ·obtain rfl:k=n:=by omega
   have HE:=zh he
   clear he
   go_wp2_with fail
   go_ret
   exact⟨Zh (by have hh:=HE.out;rw[List.take_of_length_le (by rw[HN.out];exact Nat.le_refl _)] at hh;omega),hO,by have hh:=hR;rw[← HN.out,Cod.mkTo_end] at hh;rw[← HN.out];exact hh⟩
theorem ZeX (vs:Array Value) (x:TIdx) (F:List Nat) (n:Int) (w:World) (h:cIdx.rep w vs.toList x F) (h0:0≤n) (h1:n≤1048576) :
  Calls Tryz.prog 83 #[.agg vs,.int .i64 n] w (ZL w (.int .i64 (ZcQ n (cIdx.sz x)))):=by
 obtain⟨e,rfl,hok⟩:=TIdx.out h
 obtain rfl:vs=#[Value.string x.store,.string x.field]:=Array.toList_inj.1 e
 have hsz:cIdx.sz x=x.store.size+(x.field.size):=rfl
 have hm0:=hok.h0
 unfold maxLen at hm0
 have hm1:=hok.h1
 unfold maxLen at hm1
 have HZ:=zh (And.intro hsz trivial)
 clear hsz
 by_cases l0:n-(x.store.size:Int)<0
 ·go_enter Tryz.func83,Tryz.ntmps83
  go_wp2_with fail
  go_ret
  exact⟨Zh (Zj (by have hh:=HZ.out;omega)).symm,bl⟩
 ·have p0:0≤n-(x.store.size:Int):=by omega
  by_cases l1:n-(x.store.size:Int)-(x.field.size:Int)<0
  ·go_enter Tryz.func83,Tryz.ntmps83
   go_wp2_with fail
   go_ret
   exact⟨Zh (Zj (by have hh:=HZ.out;omega)).symm,bl⟩
  ·have p1:0≤n-(x.store.size:Int)-(x.field.size:Int):=by omega
   go_enter Tryz.func83,Tryz.ntmps83
   go_wp2_with fail
   go_ret
   exact⟨Zh (by have hh:=HZ.out;rw[Zw (by omega)];omega),bl⟩
theorem ZiX (vs:Array Value) (x:TIdx) (F:List Nat) (w:World) (h:cIdx.rep w vs.toList x F) (hn:cIdx.sz x≤1048576) :
  Calls Tryz.prog 90 #[.agg vs] w (ZaT cIdx w x):=by
 obtain⟨e,rfl,hok⟩:=TIdx.out h
 obtain rfl:vs=#[Value.string x.store,.string x.field]:=Array.toList_inj.1 e
 go_enter Tryz.func90,Tryz.ntmps90
 go_wp2
 exact bodyPost_ret (v:=.agg #[Value.string x.store,.string x.field]) (by simp[results,Tryz.results90,go_sem]) rfl ⟨_,[],rfl,bl,TIdx.mk_ hok,Fresh.nil _⟩
theorem Zev (v:Value) (xs:List TIdx) (F:List Nat) (n:Int) (w:World) (h:cIdxS.rep w [v] xs F) (h0:0≤n) (h1:n≤1048576) :
  Calls Tryz.prog 44 #[v,.int .i64 n] w (ZL w (.int .i64 (ZcQ n (cIdxS.sz xs)))):=by
 obtain⟨A,cp,rfl⟩:=Zb h
 obtain⟨-,hcp,hm⟩:=Zq h
 have hsz:((cIdxS.sz xs:Nat):Int)=xs.length+(Cod.sumSz cIdx xs:Nat):=by rw[show cIdxS.sz xs=xs.length+Cod.sumSz cIdx xs from Cod.szs_sum cIdx xs];omega
 rw[hsz]
 clear hsz
 have hle:=Cod.sumSz_le cIdx xs
 obtain⟨n0,hxn⟩:∃n0,xs.length=n0:=⟨_,rfl⟩
 have HN:=zh hxn
 rw[hxn] at hcp⊢
 clear hxn
 unfold maxLen at hm
 by_cases l1:n-n0<0
 ·go_enter Tryz.func44,Tryz.ntmps44
  go_wp2
  go_ret
  exact⟨Zh (Zj (by omega)).symm,bl⟩
 ·have l1':0≤n-n0:=by omega
  go_enter Tryz.func44,Tryz.ntmps44
  go_wp2
  go_loopw [1,5] (λl i wr=>∃k:Nat,k≤n0∧i=.int .i64 k∧(∃lv:Int,l=.int .i64 lv∧0≤lv∧lv≤1048576∧lv=n-n0-(Cod.sumSz cIdx (xs.take k):Nat))∧Below w.heap.size w wr) (λ_ i _=>n0-(intOf i).toNat)
  case atStart=>exact⟨0,Nat.zero_le _,rfl,⟨_,rfl,l1',by omega,by simp[Cod.sumSz]⟩,Below.refl _ _⟩
  case round =>
   obtain⟨k,hk,rfl,⟨lv,rfl,hl0,hl1,he⟩,hB⟩:=hrel
   by_cases hlt:k<n0
   ·have hkx:k<xs.length:=by rw[HN.out];exact hlt
    have hsucc:=Cod.sumSz_succ cIdx xs k hkx
    have hle2:=hle (k+1)
    have HE:=zh (And.intro he (And.intro hsucc hle2))
    clear he hsucc hle2 hle
    obtain⟨g,o,vs,F1,rfl,-,hx,-,hc⟩:=ZN (hw:=by decide) (hw2:=by decide) (zb h hB) hkx
    have hx0:=hx
    obtain⟨rfl,rfl,hok⟩:=TIdx.out hx0
    have q0:wr.cell? ⟨g,o+k*2,none⟩=some _:=(hc 0 _ rfl).1
    have q1:wr.cell? ⟨g,o+k*2+1,none⟩=some _:=(hc 1 _ rfl).1
    clear hc
    by_cases l2:lv-(cIdx.sz xs[k]:Nat)<0
    ·have HV:=zh (Zj l2)
     go_wp2_with fail
     refine(ZeX _ _ _ _ _ hx hl0 hl1).mono ?_
     rintro e w1 ⟨rfl,hb1⟩
     rw[HV.out]
     have hB1:Below w.heap.size w w1:=Za hB hb1
     go_wp2_with fail
     go_ret
     exact⟨Zh (Zj (by have:=HE.out;omega)).symm,hB1⟩
    ·have HV:=zh (Zw l2)
     go_wp2_with fail
     refine(ZeX _ _ _ _ _ hx hl0 hl1).mono ?_
     rintro e w1 ⟨rfl,hb1⟩
     rw[HV.out]
     have hB1:Below w.heap.size w w1:=Za hB hb1
     have l3:0≤lv-(cIdx.sz xs[k]:Nat):=by omega
     go_wp2_with fail
     go_roundw
     case rel=>exact⟨k+1,by omega,by go_num,⟨_,rfl,l3,by omega,by have:=HE.out;omega⟩,hB1⟩
     case measure=>simp[intOf];omega
   ·obtain rfl:k=n0:=by omega
    have HE:=zh he
    clear he
    go_wp2_with fail
    go_ret
    exact⟨Zh (by have he:=HE.out;rw[List.take_of_length_le (by rw[HN.out];exact Nat.le_refl _)] at he;rw[Zw (by omega)];omega),hB⟩
theorem ZoT:(Tryz.prog.info? 133).map (λi=>(i.zero,i.size,i.bytes))=some (some (Value.agg #[.string ByteArray.empty,.string ByteArray.empty]),2,32):=by kernel_rfl
theorem ZiE (v:Value) (xs:List TIdx) (F:List Nat) (w:World) (h:cIdxS.rep w [v] xs F) (hn:cIdxS.sz xs≤1048576) :
  Calls Tryz.prog 49 #[v] w (Zgs cIdxS w xs):=by
 obtain⟨A,cp,rfl⟩:=Zb h
 obtain⟨-,hcp,hm⟩:=Zq h
 have hall:=Cod.sz_mem cIdx xs
 have hn1:xs.length≤1048576:=Nat.le_trans (Cod.len_le cIdx xs) hn
 obtain⟨i0,hi,hz0,hz1,hz2⟩:=info_parts ZoT
 have hmk:=λW=>ZbU (P:=Tryz.prog) 31 133 i0 _ Tryz.underlying31 hi hz0 .i64 .i64 xs.length xs.length (Nat.le_refl _) (by rw[hz2];omega) (by omega) W
 rw[hz1] at hmk
 have hst:Filled cIdx w 133 xs 0 _:=Filled.start (madeCells (Value.cells (Value.agg #[.string ByteArray.empty,.string ByteArray.empty])) (xs.length*2)) (size_madeCells _ _)
 obtain⟨n,hxn⟩:∃n,xs.length=n:=⟨_,rfl⟩
 have HN:=zh hxn
 rw[hxn] at hmk hst hcp hn1⊢
 clear hxn
 unfold maxLen at hm
 go_enter Tryz.func49,Tryz.ntmps49
 go_wp2
 go_loopw [4] (λi wr=>∃k:Nat,k≤n∧i=.int .i64 k∧Filled cIdx w 133 xs k wr) (λi _=>n-(intOf i).toNat)
 case atStart=>exact⟨0,Nat.zero_le _,rfl,hst⟩
 case round =>
  obtain⟨k,hk,rfl,hF⟩:=hrel
  by_cases hlt:k<n
  ·have hkx:k<xs.length:=by rw[HN.out];exact hlt
   obtain⟨g,o,vs,F1,rfl,-,hx,-,hc⟩:=ZN (hw:=by decide) (hw2:=by decide) (zb h hF.bel) hkx
   have hx0:=hx
   obtain⟨rfl,rfl,hok⟩:=TIdx.out hx0
   have q0:wr.cell? ⟨g,o+k*2,none⟩=some _:=(hc 0 _ rfl).1
   have q1:wr.cell? ⟨g,o+k*2+1,none⟩=some _:=(hc 1 _ rfl).1
   clear hc
   go_wp2_with fail
   refine(ZiX _ _ _ _ hx (Nat.le_trans (hall _ (List.getElem_mem hkx)) hn)).mono ?_
   rintro e w1 ⟨vs1,G1,rfl,hb1,hx1,hf1⟩
   have hF2:=hF.step hkx hb1 hx1 hf1
   obtain⟨e1,rfl,hok1⟩:=TIdx.out hx1
   obtain rfl:vs1=#[Value.string xs[k].store,.string xs[k].field]:=Array.toList_inj.1 e1
   obtain⟨⟨o0,p0⟩,f0⟩:=hF.cell hkx hb1 0 (by decide)
   change w1.cell? ⟨w.heap.size,k*2,none⟩=_ at p0
   change w1.frozen? ⟨w.heap.size,k*2,none⟩=_ at f0
   obtain⟨⟨o1,p1⟩,f1⟩:=hF.cell hkx hb1 1 (by decide)
   change w1.cell? ⟨w.heap.size,k*2+1,none⟩=_ at p1
   change w1.frozen? ⟨w.heap.size,k*2+1,none⟩=_ at f1
   go_wp2_with fail
   go_roundw
   case rel=>exact⟨k+1,by omega,by go_num,hF2⟩
   case measure=>simp[intOf];omega
  ·obtain rfl:k=n:=by omega
   obtain⟨F',hr,hf⟩:=Filled.done (c:=cIdx) (hw:=by decide) (hw2:=by decide) (by rw[HN.out];exact hF) (by rw[HN.out];unfold maxLen;omega)
   rw[HN.out] at hr
   go_wp2_with fail
   go_ret
   exact⟨_,F',rfl,hF.bel,hr,hf⟩
theorem ZfM (vs:Array Value) (x:TKey) (F:List Nat) (n:Int) (w:World) (h:cKey.rep w vs.toList x F) (h0:0≤n) (h1:n≤1048576) :
  Calls Tryz.prog 59 #[.agg vs,.int .i64 n] w (ZL w (.int .i64 (ZcQ n (cKey.sz x)))):=by
 obtain⟨e,rfl,hok⟩:=TKey.out h
 obtain rfl:vs=#[Value.int .i64 x.kind,.int .i64 x.n,.string x.text]:=Array.toList_inj.1 e
 have hsz:cKey.sz x=0+(0+(x.text.size)):=rfl
 have hm2:=hok.h2
 unfold maxLen at hm2
 have HZ:=zh (And.intro hsz trivial)
 clear hsz
 by_cases l0:n-(x.text.size:Int)<0
 ·go_enter Tryz.func59,Tryz.ntmps59
  go_wp2_with fail
  go_ret
  exact⟨Zh (Zj (by have hh:=HZ.out;omega)).symm,bl⟩
 ·have p0:0≤n-(x.text.size:Int):=by omega
  go_enter Tryz.func59,Tryz.ntmps59
  go_wp2_with fail
  go_ret
  exact⟨Zh (by have hh:=HZ.out;rw[Zw (by omega)];omega),bl⟩
theorem Zlm (vs:Array Value) (x:TKey) (F:List Nat) (w:World) (h:cKey.rep w vs.toList x F) (hn:cKey.sz x≤1048576) :
  Calls Tryz.prog 69 #[.agg vs] w (ZaT cKey w x):=by
 obtain⟨e,rfl,hok⟩:=TKey.out h
 obtain rfl:vs=#[Value.int .i64 x.kind,.int .i64 x.n,.string x.text]:=Array.toList_inj.1 e
 go_enter Tryz.func69,Tryz.ntmps69
 go_wp2
 exact bodyPost_ret (v:=.agg #[Value.int .i64 x.kind,.int .i64 x.n,.string x.text]) (by simp[results,Tryz.results69,go_sem]) rfl ⟨_,[],rfl,bl,TKey.mk_ hok,Fresh.nil _⟩
theorem ZiA (vs:Array Value) (x:TField) (F:List Nat) (n:Int) (w:World) (h:cField.rep w vs.toList x F) (h0:0≤n) (h1:n≤1048576) :
  Calls Tryz.prog 135 #[.agg vs,.int .i64 n] w (ZL w (.int .i64 (ZcQ n (cField.sz x)))):=by
 obtain⟨e,rfl,hok⟩:=TField.out h
 obtain rfl:vs=#[Value.string x.name,.int .i64 x.n]:=Array.toList_inj.1 e
 have hsz:cField.sz x=x.name.size+(0):=rfl
 have hm0:=hok.h0
 unfold maxLen at hm0
 have HZ:=zh (And.intro hsz trivial)
 clear hsz
 by_cases l0:n-(x.name.size:Int)<0
 ·go_enter Tryz.func135,Tryz.ntmps135
  go_wp2_with fail
  go_ret
  exact⟨Zh (Zj (by have hh:=HZ.out;omega)).symm,bl⟩
 ·have p0:0≤n-(x.name.size:Int):=by omega
  go_enter Tryz.func135,Tryz.ntmps135
  go_wp2_with fail
  go_ret
  exact⟨Zh (by have hh:=HZ.out;rw[Zw (by omega)];omega),bl⟩
theorem ZlT (vs:Array Value) (x:TField) (F:List Nat) (w:World) (h:cField.rep w vs.toList x F) (hn:cField.sz x≤1048576) :
  Calls Tryz.prog 146 #[.agg vs] w (ZaT cField w x):=by
 obtain⟨e,rfl,hok⟩:=TField.out h
 obtain rfl:vs=#[Value.string x.name,.int .i64 x.n]:=Array.toList_inj.1 e
 go_enter Tryz.func146,Tryz.ntmps146
 go_wp2
 exact bodyPost_ret (v:=.agg #[Value.string x.name,.int .i64 x.n]) (by simp[results,Tryz.results146,go_sem]) rfl ⟨_,[],rfl,bl,TField.mk_ hok,Fresh.nil _⟩
theorem ZgY (v:Value) (xs:List TField) (F:List Nat) (n:Int) (w:World) (h:cFieldS.rep w [v] xs F) (h0:0≤n) (h1:n≤1048576) :
  Calls Tryz.prog 101 #[v,.int .i64 n] w (ZL w (.int .i64 (ZcQ n (cFieldS.sz xs)))):=by
 obtain⟨A,cp,rfl⟩:=Zb h
 obtain⟨-,hcp,hm⟩:=Zq h
 have hsz:((cFieldS.sz xs:Nat):Int)=xs.length+(Cod.sumSz cField xs:Nat):=by rw[show cFieldS.sz xs=xs.length+Cod.sumSz cField xs from Cod.szs_sum cField xs];omega
 rw[hsz]
 clear hsz
 have hle:=Cod.sumSz_le cField xs
 obtain⟨n0,hxn⟩:∃n0,xs.length=n0:=⟨_,rfl⟩
 have HN:=zh hxn
 rw[hxn] at hcp⊢
 clear hxn
 unfold maxLen at hm
 by_cases l1:n-n0<0
 ·go_enter Tryz.func101,Tryz.ntmps101
  go_wp2
  go_ret
  exact⟨Zh (Zj (by omega)).symm,bl⟩
 ·have l1':0≤n-n0:=by omega
  go_enter Tryz.func101,Tryz.ntmps101
  go_wp2
  go_loopw [1,5] (λl i wr=>∃k:Nat,k≤n0∧i=.int .i64 k∧(∃lv:Int,l=.int .i64 lv∧0≤lv∧lv≤1048576∧lv=n-n0-(Cod.sumSz cField (xs.take k):Nat))∧Below w.heap.size w wr) (λ_ i _=>n0-(intOf i).toNat)
  case atStart=>exact⟨0,Nat.zero_le _,rfl,⟨_,rfl,l1',by omega,by simp[Cod.sumSz]⟩,Below.refl _ _⟩
  case round =>
   obtain⟨k,hk,rfl,⟨lv,rfl,hl0,hl1,he⟩,hB⟩:=hrel
   by_cases hlt:k<n0
   ·have hkx:k<xs.length:=by rw[HN.out];exact hlt
    have hsucc:=Cod.sumSz_succ cField xs k hkx
    have hle2:=hle (k+1)
    have HE:=zh (And.intro he (And.intro hsucc hle2))
    clear he hsucc hle2 hle
    obtain⟨g,o,vs,F1,rfl,-,hx,-,hc⟩:=ZN (hw:=by decide) (hw2:=by decide) (zb h hB) hkx
    have hx0:=hx
    obtain⟨rfl,rfl,hok⟩:=TField.out hx0
    have q0:wr.cell? ⟨g,o+k*2,none⟩=some _:=(hc 0 _ rfl).1
    have q1:wr.cell? ⟨g,o+k*2+1,none⟩=some _:=(hc 1 _ rfl).1
    clear hc
    by_cases l2:lv-(cField.sz xs[k]:Nat)<0
    ·have HV:=zh (Zj l2)
     go_wp2_with fail
     refine(ZiA _ _ _ _ _ hx hl0 hl1).mono ?_
     rintro e w1 ⟨rfl,hb1⟩
     rw[HV.out]
     have hB1:Below w.heap.size w w1:=Za hB hb1
     go_wp2_with fail
     go_ret
     exact⟨Zh (Zj (by have:=HE.out;omega)).symm,hB1⟩
    ·have HV:=zh (Zw l2)
     go_wp2_with fail
     refine(ZiA _ _ _ _ _ hx hl0 hl1).mono ?_
     rintro e w1 ⟨rfl,hb1⟩
     rw[HV.out]
     have hB1:Below w.heap.size w w1:=Za hB hb1
     have l3:0≤lv-(cField.sz xs[k]:Nat):=by omega
     go_wp2_with fail
     go_roundw
     case rel=>exact⟨k+1,by omega,by go_num,⟨_,rfl,l3,by omega,by have:=HE.out;omega⟩,hB1⟩
     case measure=>simp[intOf];omega
   ·obtain rfl:k=n0:=by omega
    have HE:=zh he
    clear he
    go_wp2_with fail
    go_ret
    exact⟨Zh (by have he:=HE.out;rw[List.take_of_length_le (by rw[HN.out];exact Nat.le_refl _)] at he;rw[Zw (by omega)];omega),hB⟩
theorem Zna:(Tryz.prog.info? 114).map (λi=>(i.zero,i.size,i.bytes))=some (some (Value.agg #[.string ByteArray.empty,.int .i64 0]),2,24):=by kernel_rfl
theorem Zll (v:Value) (xs:List TField) (F:List Nat) (w:World) (h:cFieldS.rep w [v] xs F) (hn:cFieldS.sz xs≤1048576) :
  Calls Tryz.prog 112 #[v] w (Zgs cFieldS w xs):=by
 obtain⟨A,cp,rfl⟩:=Zb h
 obtain⟨-,hcp,hm⟩:=Zq h
 have hall:=Cod.sz_mem cField xs
 have hn1:xs.length≤1048576:=Nat.le_trans (Cod.len_le cField xs) hn
 obtain⟨i0,hi,hz0,hz1,hz2⟩:=info_parts Zna
 have hmk:=λW=>ZbU (P:=Tryz.prog) 74 114 i0 _ Tryz.underlying74 hi hz0 .i64 .i64 xs.length xs.length (Nat.le_refl _) (by rw[hz2];omega) (by omega) W
 rw[hz1] at hmk
 have hst:Filled cField w 114 xs 0 _:=Filled.start (madeCells (Value.cells (Value.agg #[.string ByteArray.empty,.int .i64 0])) (xs.length*2)) (size_madeCells _ _)
 obtain⟨n,hxn⟩:∃n,xs.length=n:=⟨_,rfl⟩
 have HN:=zh hxn
 rw[hxn] at hmk hst hcp hn1⊢
 clear hxn
 unfold maxLen at hm
 go_enter Tryz.func112,Tryz.ntmps112
 go_wp2
 go_loopw [4] (λi wr=>∃k:Nat,k≤n∧i=.int .i64 k∧Filled cField w 114 xs k wr) (λi _=>n-(intOf i).toNat)
 case atStart=>exact⟨0,Nat.zero_le _,rfl,hst⟩
 case round =>
  obtain⟨k,hk,rfl,hF⟩:=hrel
  by_cases hlt:k<n
  ·have hkx:k<xs.length:=by rw[HN.out];exact hlt
   obtain⟨g,o,vs,F1,rfl,-,hx,-,hc⟩:=ZN (hw:=by decide) (hw2:=by decide) (zb h hF.bel) hkx
   have hx0:=hx
   obtain⟨rfl,rfl,hok⟩:=TField.out hx0
   have q0:wr.cell? ⟨g,o+k*2,none⟩=some _:=(hc 0 _ rfl).1
   have q1:wr.cell? ⟨g,o+k*2+1,none⟩=some _:=(hc 1 _ rfl).1
   clear hc
   go_wp2_with fail
   refine(ZlT _ _ _ _ hx (Nat.le_trans (hall _ (List.getElem_mem hkx)) hn)).mono ?_
   rintro e w1 ⟨vs1,G1,rfl,hb1,hx1,hf1⟩
   have hF2:=hF.step hkx hb1 hx1 hf1
   obtain⟨e1,rfl,hok1⟩:=TField.out hx1
   obtain rfl:vs1=#[Value.string xs[k].name,.int .i64 xs[k].n]:=Array.toList_inj.1 e1
   obtain⟨⟨o0,p0⟩,f0⟩:=hF.cell hkx hb1 0 (by decide)
   change w1.cell? ⟨w.heap.size,k*2,none⟩=_ at p0
   change w1.frozen? ⟨w.heap.size,k*2,none⟩=_ at f0
   obtain⟨⟨o1,p1⟩,f1⟩:=hF.cell hkx hb1 1 (by decide)
   change w1.cell? ⟨w.heap.size,k*2+1,none⟩=_ at p1
   change w1.frozen? ⟨w.heap.size,k*2+1,none⟩=_ at f1
   go_wp2_with fail
   go_roundw
   case rel=>exact⟨k+1,by omega,by go_num,hF2⟩
   case measure=>simp[intOf];omega
  ·obtain rfl:k=n:=by omega
   obtain⟨F',hr,hf⟩:=Filled.done (c:=cField) (hw:=by decide) (hw2:=by decide) (by rw[HN.out];exact hF) (by rw[HN.out];unfold maxLen;omega)
   rw[HN.out] at hr
   go_wp2_with fail
   go_ret
   exact⟨_,F',rfl,hF.bel,hr,hf⟩
theorem Zdx (vs:Array Value) (x:TRec) (F:List Nat) (n:Int) (w:World) (h:cRec.rep w vs.toList x F) (h0:0≤n) (h1:n≤1048576) :
  Calls Tryz.prog 60 #[.agg vs,.int .i64 n] w (ZL w (.int .i64 (ZcQ n (cRec.sz x)))):=by
 obtain⟨v0,F0,rfl,rfl,hok,m0⟩:=TRec.outA h
 have hsz:cRec.sz x=cFieldS.sz x.fields:=rfl
 have HZ:=zh (And.intro hsz trivial)
 clear hsz
 go_enter Tryz.func60,Tryz.ntmps60
 go_wp2_with fail
 by_cases l0:n-(cFieldS.sz x.fields:Nat)<0
 ·have HV:=zh (Zj l0)
  refine(ZgY _ _ _ _ _ (by exact zb m0) (by omega) (by omega)).mono ?_
  rintro e w1 ⟨rfl,hb0⟩
  rw[HV.out]
  have hB0:=zt (w:=w) hb0
  go_wp2_with fail
  go_ret
  exact⟨Zh (Zj (by have hh:=HZ.out;omega)).symm,hB0⟩
 ·have HV:=zh (Zw l0)
  have p0:0≤n-(cFieldS.sz x.fields:Nat):=by omega
  refine(ZgY _ _ _ _ _ (by exact zb m0) (by omega) (by omega)).mono ?_
  rintro e w1 ⟨rfl,hb0⟩
  rw[HV.out]
  obtain⟨hc0,hfz0,hz0⟩:=Zc hb0
  have hs0:w.heap.size<w1.heap.size:=(by (try simp only[World.size_alloc] at hz0);omega)
  have hB0:=zt (w:=w) hb0
  clear hb0
  go_wp2_with fail
  go_ret
  exact⟨Zh (by have hh:=HZ.out;rw[Zw (by omega)];omega),bl⟩
theorem Zha (vs:Array Value) (x:TRec) (F:List Nat) (w:World) (h:cRec.rep w vs.toList x F) (hn:cRec.sz x≤1048576) :
  Calls Tryz.prog 70 #[.agg vs] w (ZaT cRec w x):=by
 obtain⟨v0,F0,rfl,rfl,hok,m0⟩:=TRec.outA h
 have hsz:cRec.sz x=cFieldS.sz x.fields:=rfl
 go_enter Tryz.func70,Tryz.ntmps70
 go_wp2_with fail
 refine(Zll _ _ _ _ (by exact zb m0) (by omega)).mono ?_
 rintro e w1 ⟨r1,G1,rfl,hb1,hr1,hf1⟩
 obtain⟨A1,c1,rfl⟩:=Zb hr1
 have hlt1:∀b,b∈G1→b<w1.heap.size:=λb hb=>Cod.lt _ hr1 b hb
 have hz1:=hb1.size
 (try simp at hz1)
 have hs1_0:w.heap.size<w1.heap.size:=by omega
 have hs1_1:w.heap.size+1<w1.heap.size:=by omega
 have hs1_2:w.heap.size+2<w1.heap.size:=by omega
 have hB1:=zt (w:=w) hb1
 have hA1:Fresh w.heap.size G1:=hf1.mono (by simp;try omega)
 have hL1:=hlt1
 obtain⟨hc1,hfz1,-⟩:=Zc hb1
 clear hb1
 go_wp2_with fail
 have hret:∀Wf:World,Below w.heap.size w Wf→Keep _ w1 Wf→ZaT cRec w x (.returned (.agg #[.slice A1 x.fields.length c1])) Wf:=λWf hBf K=>⟨_,_,rfl,hBf,TRec.mk_ hok (Cod.keep2 hr1 hf1 (by first|exact K|exact K.mono (by (try simp);(try omega)))),hA1⟩
 refine bodyPost_ret (v:=.agg #[.slice A1 x.fields.length c1]) ?_ rfl ?_
 ·simp[results,Tryz.results70,go_sem, *]
 ·exact hret _ bl (by repeat (first|with_reducible exact Keep.refl _ _|with_reducible assumption|with_reducible refine Keep.alloc ?_ _|with_reducible refine Keep.drew ?_|with_reducible refine Keep.drewN ?_ _|(with_reducible refine Keep.set_ ?_ ?_ _;rotate_left;((try simp);(try omega)))))
theorem ZjC (vs:Array Value) (x:TItem) (F:List Nat) (n:Int) (w:World) (h:cItem.rep w vs.toList x F) (h0:0≤n) (h1:n≤1048576) :
  Calls Tryz.prog 162 #[.agg vs,.int .i64 n] w (ZL w (.int .i64 (ZcQ n (cItem.sz x)))):=by
 obtain⟨v3,F3,rfl,rfl,hok,m3⟩:=TItem.outA h
 have hsz:cItem.sz x=0+(0+(x.key.text.size+(cFieldS.sz x.rcd.fields))):=rfl
 have hszkey:cKey.sz x.key=0+(0+(x.key.text.size)):=rfl
 have hszrcd:cRec.sz x.rcd=cFieldS.sz x.rcd.fields:=rfl
 have hm2:=hok.h2
 unfold maxLen at hm2
 have HZ:=zh (And.intro hsz (And.intro hszkey (And.intro hszrcd trivial)))
 clear hsz hszkey hszrcd
 go_enter Tryz.func162,Tryz.ntmps162
 go_wp2_with fail
 by_cases l0:n-(cKey.sz x.key:Nat)<0
 ·have HV:=zh (Zj l0)
  refine(ZfM _ x.key _ _ _ (by exact TKey.mk_ ⟨hok.h0,hok.h1,hok.h2⟩) (by omega) (by omega)).mono ?_
  rintro e w1 ⟨rfl,hb0⟩
  rw[HV.out]
  have hB0:=zt (w:=w) hb0
  go_wp2_with fail
  go_ret
  exact⟨Zh (Zj (by have hh:=HZ.out;omega)).symm,hB0⟩
 ·have HV:=zh (Zw l0)
  have p0:0≤n-(cKey.sz x.key:Nat):=by omega
  refine(ZfM _ x.key _ _ _ (by exact TKey.mk_ ⟨hok.h0,hok.h1,hok.h2⟩) (by omega) (by omega)).mono ?_
  rintro e w1 ⟨rfl,hb0⟩
  rw[HV.out]
  obtain⟨hc0,hfz0,hz0⟩:=Zc hb0
  have hs0:w.heap.size<w1.heap.size:=(by (try simp only[World.size_alloc] at hz0);omega)
  have hB0:=zt (w:=w) hb0
  clear hb0
  go_wp2_with fail
  by_cases l1:n-(cKey.sz x.key:Nat)-(cRec.sz x.rcd:Nat)<0
  ·have HV:=zh (Zj l1)
   refine(Zdx _ x.rcd _ _ _ (by exact TRec.mk_ trivial (zb m3)) (by omega) (by omega)).mono ?_
   rintro e w2 ⟨rfl,hb1⟩
   rw[HV.out]
   have hB1:=zt (w:=w) hb1
   go_wp2_with fail
   go_ret
   exact⟨Zh (Zj (by have hh:=HZ.out;omega)).symm,hB1⟩
  ·have HV:=zh (Zw l1)
   have p1:0≤n-(cKey.sz x.key:Nat)-(cRec.sz x.rcd:Nat):=by omega
   refine(Zdx _ x.rcd _ _ _ (by exact TRec.mk_ trivial (zb m3)) (by omega) (by omega)).mono ?_
   rintro e w2 ⟨rfl,hb1⟩
   rw[HV.out]
   obtain⟨hc1,hfz1,hz1⟩:=Zc hb1
   have hs1:w.heap.size<w2.heap.size:=(by (try simp only[World.size_alloc] at hz1);omega)
   have hB1:=zt (w:=w) hb1
   clear hb1
   go_wp2_with fail
   go_ret
   exact⟨Zh (by have hh:=HZ.out;rw[Zw (by omega)];omega),bl⟩
theorem Zns (vs:Array Value) (x:TItem) (F:List Nat) (w:World) (h:cItem.rep w vs.toList x F) (hn:cItem.sz x≤1048576) :
  Calls Tryz.prog 165 #[.agg vs] w (ZaT cItem w x):=by
 obtain⟨v3,F3,rfl,rfl,hok,m3⟩:=TItem.outA h
 have hsz:cItem.sz x=0+(0+(x.key.text.size+(cFieldS.sz x.rcd.fields))):=rfl
 have hszkey:cKey.sz x.key=0+(0+(x.key.text.size)):=rfl
 have hszrcd:cRec.sz x.rcd=cFieldS.sz x.rcd.fields:=rfl
 go_enter Tryz.func165,Tryz.ntmps165
 go_wp2_with fail
 refine(Zlm _ x.key _ _ (by exact TKey.mk_ ⟨hok.h0,hok.h1,hok.h2⟩) (by omega)).mono ?_
 rintro e w1 ⟨r1,G1,rfl,hb1,hr1,hf1⟩
 have hq1:=hr1
 obtain⟨e1,hGe1,hokq1⟩:=TKey.out hq1
 obtain rfl:r1=#[Value.int .i64 x.key.kind,.int .i64 x.key.n,.string x.key.text]:=Array.toList_inj.1 e1
 have hlt1:∀b,b∈G1→b<w1.heap.size:=λb hb=>Cod.lt _ hr1 b hb
 have hz1:=hb1.size
 (try simp at hz1)
 have hs1_0:w.heap.size<w1.heap.size:=by omega
 have hs1_1:w.heap.size+1<w1.heap.size:=by omega
 have hs1_2:w.heap.size+2<w1.heap.size:=by omega
 have hB1:=zt (w:=w) hb1
 have hA1:Fresh w.heap.size G1:=hf1.mono (by simp;try omega)
 have hL1:=hlt1
 obtain⟨hc1,hfz1,-⟩:=Zc hb1
 clear hb1
 go_wp2_with fail
 refine(Zha _ x.rcd _ _ (by exact TRec.mk_ trivial (zb m3)) (by omega)).mono ?_
 rintro e w2 ⟨r2,G2,rfl,hb2,hr2,hf2⟩
 replace hr1:=Cod.keep2 hr1 hf1 (show Keep _ w1 w2 from Keep.bel (by repeat (first|with_reducible exact Keep.refl _ _|with_reducible assumption|with_reducible refine Keep.alloc ?_ _|with_reducible refine Keep.drew ?_|with_reducible refine Keep.drewN ?_ _|(with_reducible refine Keep.set_ ?_ ?_ _;rotate_left;((try simp);(try omega))))) hb2)
 have hq2:=hr2
 obtain⟨y2_0,Z2_0,rfl,rfl,hokq2,n2_0⟩:=TRec.outA hq2
 obtain⟨A2_0,c2_0,rfl⟩:=Zb n2_0
 have hlt2:∀b,b∈G2→b<w2.heap.size:=λb hb=>Cod.lt _ hr2 b hb
 have hz2:=hb2.size
 (try simp at hz2)
 have hs2_0:w.heap.size<w2.heap.size:=by omega
 have hs2_1:w.heap.size+1<w2.heap.size:=by omega
 have hs2_2:w.heap.size+2<w2.heap.size:=by omega
 have hB2:=zt (w:=w) hb2
 have hA2:Fresh w.heap.size (G1++G2):=hA1.then_ hL1 (by simp) hf2 (by simp;omega)
 have hL2:=Zmw hL1 hlt2 (by omega)
 obtain⟨hc2,hfz2,-⟩:=Zc hb2
 clear hb2
 go_wp2_with fail
 simp only[hGe1,List.nil_append] at hA2
 have hret:∀Wf:World,Below w.heap.size w Wf→Keep _ w2 Wf→ZaT cItem w x (.returned (.agg #[.int .i64 x.key.kind,.int .i64 x.key.n,.string x.key.text,.slice A2_0 x.rcd.fields.length c2_0])) Wf:=λWf hBf K=>⟨_,_,rfl,hBf,TItem.mk_ hok (Cod.keep2 n2_0 hf2 (by first|exact K|exact K.mono (by (try simp);(try omega)))),hA2⟩
 refine bodyPost_ret (v:=.agg #[.int .i64 x.key.kind,.int .i64 x.key.n,.string x.key.text,.slice A2_0 x.rcd.fields.length c2_0]) ?_ rfl ?_
 ·simp[results,Tryz.results165,go_sem, *]
 ·exact hret _ bl (by repeat (first|with_reducible exact Keep.refl _ _|with_reducible assumption|with_reducible refine Keep.alloc ?_ _|with_reducible refine Keep.drew ?_|with_reducible refine Keep.drewN ?_ _|(with_reducible refine Keep.set_ ?_ ?_ _;rotate_left;((try simp);(try omega)))))
theorem ZiB (v:Value) (xs:List TItem) (F:List Nat) (n:Int) (w:World) (h:cItemS.rep w [v] xs F) (h0:0≤n) (h1:n≤1048576) :
  Calls Tryz.prog 126 #[v,.int .i64 n] w (ZL w (.int .i64 (ZcQ n (cItemS.sz xs)))):=by
 obtain⟨A,cp,rfl⟩:=Zb h
 obtain⟨-,hcp,hm⟩:=Zq h
 have hsz:((cItemS.sz xs:Nat):Int)=xs.length+(Cod.sumSz cItem xs:Nat):=by rw[show cItemS.sz xs=xs.length+Cod.sumSz cItem xs from Cod.szs_sum cItem xs];omega
 rw[hsz]
 clear hsz
 have hle:=Cod.sumSz_le cItem xs
 obtain⟨n0,hxn⟩:∃n0,xs.length=n0:=⟨_,rfl⟩
 have HN:=zh hxn
 rw[hxn] at hcp⊢
 clear hxn
 unfold maxLen at hm
 by_cases l1:n-n0<0
 ·go_enter Tryz.func126,Tryz.ntmps126
  go_wp2
  go_ret
  exact⟨Zh (Zj (by omega)).symm,bl⟩
 ·have l1':0≤n-n0:=by omega
  go_enter Tryz.func126,Tryz.ntmps126
  go_wp2
  go_loopw [1,5] (λl i wr=>∃k:Nat,k≤n0∧i=.int .i64 k∧(∃lv:Int,l=.int .i64 lv∧0≤lv∧lv≤1048576∧lv=n-n0-(Cod.sumSz cItem (xs.take k):Nat))∧Below w.heap.size w wr) (λ_ i _=>n0-(intOf i).toNat)
  case atStart=>exact⟨0,Nat.zero_le _,rfl,⟨_,rfl,l1',by omega,by simp[Cod.sumSz]⟩,Below.refl _ _⟩
  case round =>
   obtain⟨k,hk,rfl,⟨lv,rfl,hl0,hl1,he⟩,hB⟩:=hrel
   by_cases hlt:k<n0
   ·have hkx:k<xs.length:=by rw[HN.out];exact hlt
    have hsucc:=Cod.sumSz_succ cItem xs k hkx
    have hle2:=hle (k+1)
    have HE:=zh (And.intro he (And.intro hsucc hle2))
    clear he hsucc hle2 hle
    obtain⟨g,o,vs,F1,rfl,-,hx,-,hc⟩:=ZN (hw:=by decide) (hw2:=by decide) (zb h hB) hkx
    have hx0:=hx
    obtain⟨w3,Q3,rfl,rfl,hok,m3⟩:=TItem.out hx0
    have q0:wr.cell? ⟨g,o+k*4,none⟩=some _:=(hc 0 _ rfl).1
    have q1:wr.cell? ⟨g,o+k*4+1,none⟩=some _:=(hc 1 _ rfl).1
    have q2:wr.cell? ⟨g,o+k*4+2,none⟩=some _:=(hc 2 _ rfl).1
    have q3:wr.cell? ⟨g,o+k*4+3,none⟩=some _:=(hc 3 _ rfl).1
    clear hc
    by_cases l2:lv-(cItem.sz xs[k]:Nat)<0
    ·have HV:=zh (Zj l2)
     go_wp2_with fail
     refine(ZjC _ _ _ _ _ hx hl0 hl1).mono ?_
     rintro e w1 ⟨rfl,hb1⟩
     rw[HV.out]
     have hB1:Below w.heap.size w w1:=Za hB hb1
     go_wp2_with fail
     go_ret
     exact⟨Zh (Zj (by have:=HE.out;omega)).symm,hB1⟩
    ·have HV:=zh (Zw l2)
     go_wp2_with fail
     refine(ZjC _ _ _ _ _ hx hl0 hl1).mono ?_
     rintro e w1 ⟨rfl,hb1⟩
     rw[HV.out]
     have hB1:Below w.heap.size w w1:=Za hB hb1
     have l3:0≤lv-(cItem.sz xs[k]:Nat):=by omega
     go_wp2_with fail
     go_roundw
     case rel=>exact⟨k+1,by omega,by go_num,⟨_,rfl,l3,by omega,by have:=HE.out;omega⟩,hB1⟩
     case measure=>simp[intOf];omega
   ·obtain rfl:k=n0:=by omega
    have HE:=zh he
    clear he
    go_wp2_with fail
    go_ret
    exact⟨Zh (by have he:=HE.out;rw[List.take_of_length_le (by rw[HN.out];exact Nat.le_refl _)] at he;rw[Zw (by omega)];omega),hB⟩
theorem ZnU:(Tryz.prog.info? 162).map (λi=>(i.zero,i.size,i.bytes))=some (some (Value.agg #[.int .i64 0,.int .i64 0,.string ByteArray.empty,.slice none 0 0]),4,56):=by kernel_rfl
theorem ZlU (v:Value) (xs:List TItem) (F:List Nat) (w:World) (h:cItemS.rep w [v] xs F) (hn:cItemS.sz xs≤1048576) :
  Calls Tryz.prog 130 #[v] w (Zgs cItemS w xs):=by
 obtain⟨A,cp,rfl⟩:=Zb h
 obtain⟨-,hcp,hm⟩:=Zq h
 have hall:=Cod.sz_mem cItem xs
 have hn1:xs.length≤1048576:=Nat.le_trans (Cod.len_le cItem xs) hn
 obtain⟨i0,hi,hz0,hz1,hz2⟩:=info_parts ZnU
 have hmk:=λW=>ZbU (P:=Tryz.prog) 122 162 i0 _ Tryz.underlying122 hi hz0 .i64 .i64 xs.length xs.length (Nat.le_refl _) (by rw[hz2];omega) (by omega) W
 rw[hz1] at hmk
 have hst:Filled cItem w 162 xs 0 _:=Filled.start (madeCells (Value.cells (Value.agg #[.int .i64 0,.int .i64 0,.string ByteArray.empty,.slice none 0 0])) (xs.length*4)) (size_madeCells _ _)
 obtain⟨n,hxn⟩:∃n,xs.length=n:=⟨_,rfl⟩
 have HN:=zh hxn
 rw[hxn] at hmk hst hcp hn1⊢
 clear hxn
 unfold maxLen at hm
 go_enter Tryz.func130,Tryz.ntmps130
 go_wp2
 go_loopw [4] (λi wr=>∃k:Nat,k≤n∧i=.int .i64 k∧Filled cItem w 162 xs k wr) (λi _=>n-(intOf i).toNat)
 case atStart=>exact⟨0,Nat.zero_le _,rfl,hst⟩
 case round =>
  obtain⟨k,hk,rfl,hF⟩:=hrel
  by_cases hlt:k<n
  ·have hkx:k<xs.length:=by rw[HN.out];exact hlt
   obtain⟨g,o,vs,F1,rfl,-,hx,-,hc⟩:=ZN (hw:=by decide) (hw2:=by decide) (zb h hF.bel) hkx
   have hx0:=hx
   obtain⟨w3,Q3,rfl,rfl,hok,m3⟩:=TItem.out hx0
   have q0:wr.cell? ⟨g,o+k*4,none⟩=some _:=(hc 0 _ rfl).1
   have q1:wr.cell? ⟨g,o+k*4+1,none⟩=some _:=(hc 1 _ rfl).1
   have q2:wr.cell? ⟨g,o+k*4+2,none⟩=some _:=(hc 2 _ rfl).1
   have q3:wr.cell? ⟨g,o+k*4+3,none⟩=some _:=(hc 3 _ rfl).1
   clear hc
   go_wp2_with fail
   refine(Zns _ _ _ _ hx (Nat.le_trans (hall _ (List.getElem_mem hkx)) hn)).mono ?_
   rintro e w1 ⟨vs1,G1,rfl,hb1,hx1,hf1⟩
   have hF2:=hF.step hkx hb1 hx1 hf1
   obtain⟨u3,P3,rfl,rfl,hok1,l3⟩:=TItem.outA hx1
   obtain⟨A3,c3,rfl⟩:=Zb l3
   obtain⟨⟨o0,p0⟩,f0⟩:=hF.cell hkx hb1 0 (by decide)
   change w1.cell? ⟨w.heap.size,k*4,none⟩=_ at p0
   change w1.frozen? ⟨w.heap.size,k*4,none⟩=_ at f0
   obtain⟨⟨o1,p1⟩,f1⟩:=hF.cell hkx hb1 1 (by decide)
   change w1.cell? ⟨w.heap.size,k*4+1,none⟩=_ at p1
   change w1.frozen? ⟨w.heap.size,k*4+1,none⟩=_ at f1
   obtain⟨⟨o2,p2⟩,f2⟩:=hF.cell hkx hb1 2 (by decide)
   change w1.cell? ⟨w.heap.size,k*4+2,none⟩=_ at p2
   change w1.frozen? ⟨w.heap.size,k*4+2,none⟩=_ at f2
   obtain⟨⟨o3,p3⟩,f3⟩:=hF.cell hkx hb1 3 (by decide)
   change w1.cell? ⟨w.heap.size,k*4+3,none⟩=_ at p3
   change w1.frozen? ⟨w.heap.size,k*4+3,none⟩=_ at f3
   go_wp2_with fail
   go_roundw
   case rel=>exact⟨k+1,by omega,by go_num,hF2⟩
   case measure=>simp[intOf];omega
  ·obtain rfl:k=n:=by omega
   obtain⟨F',hr,hf⟩:=Filled.done (c:=cItem) (hw:=by decide) (hw2:=by decide) (by rw[HN.out];exact hF) (by rw[HN.out];unfold maxLen;omega)
   rw[HN.out] at hr
   go_wp2_with fail
   go_ret
   exact⟨_,F',rfl,hF.bel,hr,hf⟩
theorem ZiC (vs:Array Value) (x:TStore) (F:List Nat) (n:Int) (w:World) (h:cStore.rep w vs.toList x F) (h0:0≤n) (h1:n≤1048576) :
  Calls Tryz.prog 82 #[.agg vs,.int .i64 n] w (ZL w (.int .i64 (ZcQ n (cStore.sz x)))):=by
 obtain⟨v1,F1,rfl,rfl,hok,m1⟩:=TStore.outA h
 have hsz:cStore.sz x=x.name.size+(cItemS.sz x.items+(0)):=rfl
 have hm0:=hok.h0
 unfold maxLen at hm0
 have HZ:=zh (And.intro hsz trivial)
 clear hsz
 by_cases l0:n-(x.name.size:Int)<0
 ·go_enter Tryz.func82,Tryz.ntmps82
  go_wp2_with fail
  go_ret
  exact⟨Zh (Zj (by have hh:=HZ.out;omega)).symm,bl⟩
 ·have p0:0≤n-(x.name.size:Int):=by omega
  go_enter Tryz.func82,Tryz.ntmps82
  go_wp2_with fail
  by_cases l1:n-(x.name.size:Int)-(cItemS.sz x.items:Nat)<0
  ·have HV:=zh (Zj l1)
   refine(ZiB _ _ _ _ _ (by exact zb m1) (by omega) (by omega)).mono ?_
   rintro e w2 ⟨rfl,hb1⟩
   rw[HV.out]
   have hB1:=zt (w:=w) hb1
   go_wp2_with fail
   go_ret
   exact⟨Zh (Zj (by have hh:=HZ.out;omega)).symm,hB1⟩
  ·have HV:=zh (Zw l1)
   have p1:0≤n-(x.name.size:Int)-(cItemS.sz x.items:Nat):=by omega
   refine(ZiB _ _ _ _ _ (by exact zb m1) (by omega) (by omega)).mono ?_
   rintro e w2 ⟨rfl,hb1⟩
   rw[HV.out]
   obtain⟨hc1,hfz1,hz1⟩:=Zc hb1
   have hs1:w.heap.size<w2.heap.size:=(by (try simp only[World.size_alloc] at hz1);omega)
   have hB1:=zt (w:=w) hb1
   clear hb1
   go_wp2_with fail
   go_ret
   exact⟨Zh (by have hh:=HZ.out;rw[Zw (by omega)];omega),bl⟩
theorem ZlV (vs:Array Value) (x:TStore) (F:List Nat) (w:World) (h:cStore.rep w vs.toList x F) (hn:cStore.sz x≤1048576) :
  Calls Tryz.prog 89 #[.agg vs] w (ZaT cStore w x):=by
 obtain⟨v1,F1,rfl,rfl,hok,m1⟩:=TStore.outA h
 have hsz:cStore.sz x=x.name.size+(cItemS.sz x.items+(0)):=rfl
 go_enter Tryz.func89,Tryz.ntmps89
 go_wp2_with fail
 refine(ZlU _ _ _ _ (by exact zb m1) (by omega)).mono ?_
 rintro e w1 ⟨r1,G1,rfl,hb1,hr1,hf1⟩
 obtain⟨A1,c1,rfl⟩:=Zb hr1
 have hlt1:∀b,b∈G1→b<w1.heap.size:=λb hb=>Cod.lt _ hr1 b hb
 have hz1:=hb1.size
 (try simp at hz1)
 have hs1_0:w.heap.size<w1.heap.size:=by omega
 have hs1_1:w.heap.size+1<w1.heap.size:=by omega
 have hs1_2:w.heap.size+2<w1.heap.size:=by omega
 have hB1:=zt (w:=w) hb1
 have hA1:Fresh w.heap.size G1:=hf1.mono (by simp;try omega)
 have hL1:=hlt1
 obtain⟨hc1,hfz1,-⟩:=Zc hb1
 clear hb1
 go_wp2_with fail
 have hret:∀Wf:World,Below w.heap.size w Wf→Keep _ w1 Wf→ZaT cStore w x (.returned (.agg #[.string x.name,.slice A1 x.items.length c1,.int .i64 x.auto])) Wf:=λWf hBf K=>⟨_,_,rfl,hBf,TStore.mk_ hok (Cod.keep2 hr1 hf1 (by first|exact K|exact K.mono (by (try simp);(try omega)))),hA1⟩
 refine bodyPost_ret (v:=.agg #[.string x.name,.slice A1 x.items.length c1,.int .i64 x.auto]) ?_ rfl ?_
 ·simp[results,Tryz.results89,go_sem, *]
 ·exact hret _ bl (by repeat (first|with_reducible exact Keep.refl _ _|with_reducible assumption|with_reducible refine Keep.alloc ?_ _|with_reducible refine Keep.drew ?_|with_reducible refine Keep.drewN ?_ _|(with_reducible refine Keep.set_ ?_ ?_ _;rotate_left;((try simp);(try omega)))))
theorem ZgZ (v:Value) (xs:List TStore) (F:List Nat) (n:Int) (w:World) (h:cStoreS.rep w [v] xs F) (h0:0≤n) (h1:n≤1048576) :
  Calls Tryz.prog 43 #[v,.int .i64 n] w (ZL w (.int .i64 (ZcQ n (cStoreS.sz xs)))):=by
 obtain⟨A,cp,rfl⟩:=Zb h
 obtain⟨-,hcp,hm⟩:=Zq h
 have hsz:((cStoreS.sz xs:Nat):Int)=xs.length+(Cod.sumSz cStore xs:Nat):=by rw[show cStoreS.sz xs=xs.length+Cod.sumSz cStore xs from Cod.szs_sum cStore xs];omega
 rw[hsz]
 clear hsz
 have hle:=Cod.sumSz_le cStore xs
 obtain⟨n0,hxn⟩:∃n0,xs.length=n0:=⟨_,rfl⟩
 have HN:=zh hxn
 rw[hxn] at hcp⊢
 clear hxn
 unfold maxLen at hm
 by_cases l1:n-n0<0
 ·go_enter Tryz.func43,Tryz.ntmps43
  go_wp2
  go_ret
  exact⟨Zh (Zj (by omega)).symm,bl⟩
 ·have l1':0≤n-n0:=by omega
  go_enter Tryz.func43,Tryz.ntmps43
  go_wp2
  go_loopw [1,5] (λl i wr=>∃k:Nat,k≤n0∧i=.int .i64 k∧(∃lv:Int,l=.int .i64 lv∧0≤lv∧lv≤1048576∧lv=n-n0-(Cod.sumSz cStore (xs.take k):Nat))∧Below w.heap.size w wr) (λ_ i _=>n0-(intOf i).toNat)
  case atStart=>exact⟨0,Nat.zero_le _,rfl,⟨_,rfl,l1',by omega,by simp[Cod.sumSz]⟩,Below.refl _ _⟩
  case round =>
   obtain⟨k,hk,rfl,⟨lv,rfl,hl0,hl1,he⟩,hB⟩:=hrel
   by_cases hlt:k<n0
   ·have hkx:k<xs.length:=by rw[HN.out];exact hlt
    have hsucc:=Cod.sumSz_succ cStore xs k hkx
    have hle2:=hle (k+1)
    have HE:=zh (And.intro he (And.intro hsucc hle2))
    clear he hsucc hle2 hle
    obtain⟨g,o,vs,F1,rfl,-,hx,-,hc⟩:=ZN (hw:=by decide) (hw2:=by decide) (zb h hB) hkx
    have hx0:=hx
    obtain⟨w1,Q1,rfl,rfl,hok,m1⟩:=TStore.out hx0
    have q0:wr.cell? ⟨g,o+k*3,none⟩=some _:=(hc 0 _ rfl).1
    have q1:wr.cell? ⟨g,o+k*3+1,none⟩=some _:=(hc 1 _ rfl).1
    have q2:wr.cell? ⟨g,o+k*3+2,none⟩=some _:=(hc 2 _ rfl).1
    clear hc
    by_cases l2:lv-(cStore.sz xs[k]:Nat)<0
    ·have HV:=zh (Zj l2)
     go_wp2_with fail
     refine(ZiC _ _ _ _ _ hx hl0 hl1).mono ?_
     rintro e w1 ⟨rfl,hb1⟩
     rw[HV.out]
     have hB1:Below w.heap.size w w1:=Za hB hb1
     go_wp2_with fail
     go_ret
     exact⟨Zh (Zj (by have:=HE.out;omega)).symm,hB1⟩
    ·have HV:=zh (Zw l2)
     go_wp2_with fail
     refine(ZiC _ _ _ _ _ hx hl0 hl1).mono ?_
     rintro e w1 ⟨rfl,hb1⟩
     rw[HV.out]
     have hB1:Below w.heap.size w w1:=Za hB hb1
     have l3:0≤lv-(cStore.sz xs[k]:Nat):=by omega
     go_wp2_with fail
     go_roundw
     case rel=>exact⟨k+1,by omega,by go_num,⟨_,rfl,l3,by omega,by have:=HE.out;omega⟩,hB1⟩
     case measure=>simp[intOf];omega
   ·obtain rfl:k=n0:=by omega
    have HE:=zh he
    clear he
    go_wp2_with fail
    go_ret
    exact⟨Zh (by have he:=HE.out;rw[List.take_of_length_le (by rw[HN.out];exact Nat.le_refl _)] at he;rw[Zw (by omega)];omega),hB⟩
theorem Znb:(Tryz.prog.info? 124).map (λi=>(i.zero,i.size,i.bytes))=some (some (Value.agg #[.string ByteArray.empty,.slice none 0 0,.int .i64 0]),3,48):=by kernel_rfl
theorem Zln (v:Value) (xs:List TStore) (F:List Nat) (w:World) (h:cStoreS.rep w [v] xs F) (hn:cStoreS.sz xs≤1048576) :
  Calls Tryz.prog 48 #[v] w (Zgs cStoreS w xs):=by
 obtain⟨A,cp,rfl⟩:=Zb h
 obtain⟨-,hcp,hm⟩:=Zq h
 have hall:=Cod.sz_mem cStore xs
 have hn1:xs.length≤1048576:=Nat.le_trans (Cod.len_le cStore xs) hn
 obtain⟨i0,hi,hz0,hz1,hz2⟩:=info_parts Znb
 have hmk:=λW=>ZbU (P:=Tryz.prog) 30 124 i0 _ Tryz.underlying30 hi hz0 .i64 .i64 xs.length xs.length (Nat.le_refl _) (by rw[hz2];omega) (by omega) W
 rw[hz1] at hmk
 have hst:Filled cStore w 124 xs 0 _:=Filled.start (madeCells (Value.cells (Value.agg #[.string ByteArray.empty,.slice none 0 0,.int .i64 0])) (xs.length*3)) (size_madeCells _ _)
 obtain⟨n,hxn⟩:∃n,xs.length=n:=⟨_,rfl⟩
 have HN:=zh hxn
 rw[hxn] at hmk hst hcp hn1⊢
 clear hxn
 unfold maxLen at hm
 go_enter Tryz.func48,Tryz.ntmps48
 go_wp2
 go_loopw [4] (λi wr=>∃k:Nat,k≤n∧i=.int .i64 k∧Filled cStore w 124 xs k wr) (λi _=>n-(intOf i).toNat)
 case atStart=>exact⟨0,Nat.zero_le _,rfl,hst⟩
 case round =>
  obtain⟨k,hk,rfl,hF⟩:=hrel
  by_cases hlt:k<n
  ·have hkx:k<xs.length:=by rw[HN.out];exact hlt
   obtain⟨g,o,vs,F1,rfl,-,hx,-,hc⟩:=ZN (hw:=by decide) (hw2:=by decide) (zb h hF.bel) hkx
   have hx0:=hx
   obtain⟨w1,Q1,rfl,rfl,hok,m1⟩:=TStore.out hx0
   have q0:wr.cell? ⟨g,o+k*3,none⟩=some _:=(hc 0 _ rfl).1
   have q1:wr.cell? ⟨g,o+k*3+1,none⟩=some _:=(hc 1 _ rfl).1
   have q2:wr.cell? ⟨g,o+k*3+2,none⟩=some _:=(hc 2 _ rfl).1
   clear hc
   go_wp2_with fail
   refine(ZlV _ _ _ _ hx (Nat.le_trans (hall _ (List.getElem_mem hkx)) hn)).mono ?_
   rintro e w1 ⟨vs1,G1,rfl,hb1,hx1,hf1⟩
   have hF2:=hF.step hkx hb1 hx1 hf1
   obtain⟨u1,P1,rfl,rfl,hok1,l1⟩:=TStore.outA hx1
   obtain⟨A1,c1,rfl⟩:=Zb l1
   obtain⟨⟨o0,p0⟩,f0⟩:=hF.cell hkx hb1 0 (by decide)
   change w1.cell? ⟨w.heap.size,k*3,none⟩=_ at p0
   change w1.frozen? ⟨w.heap.size,k*3,none⟩=_ at f0
   obtain⟨⟨o1,p1⟩,f1⟩:=hF.cell hkx hb1 1 (by decide)
   change w1.cell? ⟨w.heap.size,k*3+1,none⟩=_ at p1
   change w1.frozen? ⟨w.heap.size,k*3+1,none⟩=_ at f1
   obtain⟨⟨o2,p2⟩,f2⟩:=hF.cell hkx hb1 2 (by decide)
   change w1.cell? ⟨w.heap.size,k*3+2,none⟩=_ at p2
   change w1.frozen? ⟨w.heap.size,k*3+2,none⟩=_ at f2
   go_wp2_with fail
   go_roundw
   case rel=>exact⟨k+1,by omega,by go_num,hF2⟩
   case measure=>simp[intOf];omega
  ·obtain rfl:k=n:=by omega
   obtain⟨F',hr,hf⟩:=Filled.done (c:=cStore) (hw:=by decide) (hw2:=by decide) (by rw[HN.out];exact hF) (by rw[HN.out];unfold maxLen;omega)
   rw[HN.out] at hr
   go_wp2_with fail
   go_ret
   exact⟨_,F',rfl,hF.bel,hr,hf⟩
theorem ZeW (vs:Array Value) (x:TDb) (F:List Nat) (n:Int) (w:World) (h:cDb.rep w vs.toList x F) (h0:0≤n) (h1:n≤1048576) :
  Calls Tryz.prog 18 #[.agg vs,.int .i64 n] w (ZL w (.int .i64 (ZcQ n (cDb.sz x)))):=by
 obtain⟨v2,v3,F2,F3,rfl,rfl,hok,m2,m3⟩:=TDb.outA h
 have hsz:cDb.sz x=x.name.size+(0+(cStoreS.sz x.stores+(cIdxS.sz x.uniq))):=rfl
 have hm0:=hok.h0
 unfold maxLen at hm0
 have HZ:=zh (And.intro hsz trivial)
 clear hsz
 by_cases l0:n-(x.name.size:Int)<0
 ·go_enter Tryz.func18,Tryz.ntmps18
  go_wp2_with fail
  go_ret
  exact⟨Zh (Zj (by have hh:=HZ.out;omega)).symm,bl⟩
 ·have p0:0≤n-(x.name.size:Int):=by omega
  go_enter Tryz.func18,Tryz.ntmps18
  go_wp2_with fail
  by_cases l1:n-(x.name.size:Int)-(cStoreS.sz x.stores:Nat)<0
  ·have HV:=zh (Zj l1)
   refine(ZgZ _ _ _ _ _ (by exact zb m2) (by omega) (by omega)).mono ?_
   rintro e w2 ⟨rfl,hb1⟩
   rw[HV.out]
   have hB1:=zt (w:=w) hb1
   go_wp2_with fail
   go_ret
   exact⟨Zh (Zj (by have hh:=HZ.out;omega)).symm,hB1⟩
  ·have HV:=zh (Zw l1)
   have p1:0≤n-(x.name.size:Int)-(cStoreS.sz x.stores:Nat):=by omega
   refine(ZgZ _ _ _ _ _ (by exact zb m2) (by omega) (by omega)).mono ?_
   rintro e w2 ⟨rfl,hb1⟩
   rw[HV.out]
   obtain⟨hc1,hfz1,hz1⟩:=Zc hb1
   have hs1:w.heap.size<w2.heap.size:=(by (try simp only[World.size_alloc] at hz1);omega)
   have hB1:=zt (w:=w) hb1
   clear hb1
   go_wp2_with fail
   by_cases l2:n-(x.name.size:Int)-(cStoreS.sz x.stores:Nat)-(cIdxS.sz x.uniq:Nat)<0
   ·have HV:=zh (Zj l2)
    refine(Zev _ _ _ _ _ (by exact zb m3) (by omega) (by omega)).mono ?_
    rintro e w3 ⟨rfl,hb2⟩
    rw[HV.out]
    have hB2:=zt (w:=w) hb2
    go_wp2_with fail
    go_ret
    exact⟨Zh (Zj (by have hh:=HZ.out;omega)).symm,hB2⟩
   ·have HV:=zh (Zw l2)
    have p2:0≤n-(x.name.size:Int)-(cStoreS.sz x.stores:Nat)-(cIdxS.sz x.uniq:Nat):=by omega
    refine(Zev _ _ _ _ _ (by exact zb m3) (by omega) (by omega)).mono ?_
    rintro e w3 ⟨rfl,hb2⟩
    rw[HV.out]
    obtain⟨hc2,hfz2,hz2⟩:=Zc hb2
    have hs2:w.heap.size<w3.heap.size:=(by (try simp only[World.size_alloc] at hz2);omega)
    have hB2:=zt (w:=w) hb2
    clear hb2
    go_wp2_with fail
    go_ret
    exact⟨Zh (by have hh:=HZ.out;rw[Zw (by omega)];omega),bl⟩
theorem ZiW (vs:Array Value) (x:TDb) (F:List Nat) (w:World) (h:cDb.rep w vs.toList x F) (hn:cDb.sz x≤1048576) :
  Calls Tryz.prog 21 #[.agg vs] w (ZaT cDb w x):=by
 obtain⟨v2,v3,F2,F3,rfl,rfl,hok,m2,m3⟩:=TDb.outA h
 have hsz:cDb.sz x=x.name.size+(0+(cStoreS.sz x.stores+(cIdxS.sz x.uniq))):=rfl
 go_enter Tryz.func21,Tryz.ntmps21
 go_wp2_with fail
 refine(Zln _ _ _ _ (by exact zb m2) (by omega)).mono ?_
 rintro e w1 ⟨r1,G1,rfl,hb1,hr1,hf1⟩
 obtain⟨A1,c1,rfl⟩:=Zb hr1
 have hlt1:∀b,b∈G1→b<w1.heap.size:=λb hb=>Cod.lt _ hr1 b hb
 have hz1:=hb1.size
 (try simp at hz1)
 have hs1_0:w.heap.size<w1.heap.size:=by omega
 have hs1_1:w.heap.size+1<w1.heap.size:=by omega
 have hs1_2:w.heap.size+2<w1.heap.size:=by omega
 have hB1:=zt (w:=w) hb1
 have hA1:Fresh w.heap.size G1:=hf1.mono (by simp;try omega)
 have hL1:=hlt1
 obtain⟨hc1,hfz1,-⟩:=Zc hb1
 clear hb1
 go_wp2_with fail
 refine(ZiE _ _ _ _ (by exact zb m3) (by omega)).mono ?_
 rintro e w2 ⟨r2,G2,rfl,hb2,hr2,hf2⟩
 replace hr1:=Cod.keep2 hr1 hf1 (show Keep _ w1 w2 from Keep.bel (by repeat (first|with_reducible exact Keep.refl _ _|with_reducible assumption|with_reducible refine Keep.alloc ?_ _|with_reducible refine Keep.drew ?_|with_reducible refine Keep.drewN ?_ _|(with_reducible refine Keep.set_ ?_ ?_ _;rotate_left;((try simp);(try omega))))) hb2)
 obtain⟨A2,c2,rfl⟩:=Zb hr2
 have hlt2:∀b,b∈G2→b<w2.heap.size:=λb hb=>Cod.lt _ hr2 b hb
 have hz2:=hb2.size
 (try simp at hz2)
 have hs2_0:w.heap.size<w2.heap.size:=by omega
 have hs2_1:w.heap.size+1<w2.heap.size:=by omega
 have hs2_2:w.heap.size+2<w2.heap.size:=by omega
 have hB2:=zt (w:=w) hb2
 have hA2:Fresh w.heap.size (G1++G2):=hA1.then_ hL1 (by simp) hf2 (by simp;omega)
 have hL2:=Zmw hL1 hlt2 (by omega)
 obtain⟨hc2,hfz2,-⟩:=Zc hb2
 clear hb2
 go_wp2_with fail
 have hret:∀Wf:World,Below w.heap.size w Wf→Keep _ w2 Wf→ZaT cDb w x (.returned (.agg #[.string x.name,.int .i64 x.ver,.slice A1 x.stores.length c1,.slice A2 x.uniq.length c2])) Wf:=λWf hBf K=>⟨_,_,rfl,hBf,TDb.mk_ hok (Cod.keep2 hr1 hf1 (by first|exact K|exact K.mono (by (try simp);(try omega)))) (Cod.keep2 hr2 hf2 (by first|exact K|exact K.mono (by (try simp);(try omega)))),hA2⟩
 refine bodyPost_ret (v:=.agg #[.string x.name,.int .i64 x.ver,.slice A1 x.stores.length c1,.slice A2 x.uniq.length c2]) ?_ rfl ?_
 ·simp[results,Tryz.results21,go_sem, *]
 ·exact hret _ bl (by repeat (first|with_reducible exact Keep.refl _ _|with_reducible assumption|with_reducible refine Keep.alloc ?_ _|with_reducible refine Keep.drew ?_|with_reducible refine Keep.drewN ?_ _|(with_reducible refine Keep.set_ ?_ ?_ _;rotate_left;((try simp);(try omega)))))
theorem Ziz (v:Value) (xs:List UInt8) (F:List Nat) (n:Int) (w:World) (h:cUS.rep w [v] xs F) (h0:0≤n) (h1:n≤1048576) :
  Calls Tryz.prog 19 #[v,.int .i64 n] w (ZL w (.int .i64 (ZcQ n (cUS.sz xs)))):=by
 obtain⟨A,cp,rfl⟩:=Zb h
 obtain⟨-,hcp,hm⟩:=Zq h
 have hsz:((cUS.sz xs:Nat):Int)=xs.length:=by rw[show cUS.sz xs=xs.length from Cod.szs_flat (c:=cU) (λ_=>rfl) xs]
 rw[hsz]
 clear hsz
 unfold maxLen at hm
 by_cases l1:n-xs.length<0
 ·go_enter Tryz.func19,Tryz.ntmps19
  go_wp2
  go_ret
  exact⟨Zh (Zj (by omega)).symm,bl⟩
 ·go_enter Tryz.func19,Tryz.ntmps19
  go_wp2
  go_ret
  exact⟨Zh (Zw (by omega)).symm,bl⟩
theorem Zqh:(Tryz.prog.info? 5).map (λi=>(i.zero,i.size,i.bytes))=some (some (Value.int .u8 0),1,1):=by kernel_rfl
theorem ZlS (v:Value) (xs:List UInt8) (F:List Nat) (w:World) (h:cUS.rep w [v] xs F) (hn:cUS.sz xs≤1048576) :
  Calls Tryz.prog 22 #[v] w (Zgs cUS w xs):=by
 obtain⟨A,cp,rfl⟩:=Zb h
 obtain⟨-,hcp,hm⟩:=Zq h
 have hall:=Cod.sz_mem cU xs
 have hn1:xs.length≤1048576:=Nat.le_trans (Cod.len_le cU xs) hn
 obtain⟨i0,hi,hz0,hz1,hz2⟩:=info_parts Zqh
 have hmk:=λW=>ZbU (P:=Tryz.prog) 26 5 i0 _ Tryz.underlying26 hi hz0 .i64 .i64 xs.length xs.length (Nat.le_refl _) (by rw[hz2];omega) (by omega) W
 rw[hz1] at hmk
 have hst:Filled cU w 5 xs 0 _:=Filled.start (madeCells (Value.cells (Value.int .u8 0)) (xs.length)) (by rw[size_madeCells];exact(Nat.mul_one _).symm)
 obtain⟨n,hxn⟩:∃n,xs.length=n:=⟨_,rfl⟩
 have HN:=zh hxn
 rw[hxn] at hmk hst hcp hn1⊢
 clear hxn
 unfold maxLen at hm
 go_enter Tryz.func22,Tryz.ntmps22
 go_wp2
 go_loopw [4] (λi wr=>∃k:Nat,k≤n∧i=.int .i64 k∧Filled cU w 5 xs k wr) (λi _=>n-(intOf i).toNat)
 case atStart=>exact⟨0,Nat.zero_le _,rfl,hst⟩
 case round =>
  obtain⟨k,hk,rfl,hF⟩:=hrel
  by_cases hlt:k<n
  ·have hkx:k<xs.length:=by rw[HN.out];exact hlt
   obtain⟨g,o,vs,F1,rfl,-,hx,-,hc⟩:=ZN (hw:=by decide) (hw2:=by decide) (zb h hF.bel) hkx
   have hx0:=hx
   obtain⟨rfl,rfl⟩:=hx0
   have q0:wr.cell? ⟨g,o+k,none⟩=some _:=(by have h1:=(hc 0 _ rfl).1;rwa [show (cU).wd=1 from rfl,Nat.mul_one,Nat.add_zero] at h1)
   clear hc
   obtain⟨⟨o0,p0⟩,f0⟩:=hF.cell hkx (Below.refl _ wr) 0 (by decide)
   rw[show (cU).wd=1 from rfl,Nat.mul_one,Nat.add_zero] at p0 f0
   have hF2:=hF.step hkx (Below.refl _ wr) hx (Fresh.nil _)
   go_wp2_with fail
   go_roundw
   case rel=>exact⟨k+1,by omega,by go_num,by rw[show (cU).wd=1 from rfl,Nat.mul_one] at hF2;exact hF2⟩
   case measure=>simp[intOf];omega
  ·obtain rfl:k=n:=by omega
   obtain⟨F',hr,hf⟩:=Filled.done (c:=cU) (hw:=by decide) (hw2:=by decide) (by rw[HN.out];exact hF) (by rw[HN.out];unfold maxLen;omega)
   rw[HN.out] at hr
   go_wp2_with fail
   go_ret
   exact⟨_,F',rfl,hF.bel,hr,hf⟩
theorem ZeF (vs:Array Value) (x:TDisk) (F:List Nat) (n:Int) (w:World) (h:cDisk.rep w vs.toList x F) (h0:0≤n) (h1:n≤1048576) :
  Calls Tryz.prog 5 #[.agg vs,.int .i64 n] w (ZL w (.int .i64 (ZcQ n (cDisk.sz x)))):=by
 obtain⟨v2,v3,v4,F2,F3,F4,rfl,rfl,hok,m2,m3,m4⟩:=TDisk.outA h
 have hsz:cDisk.sz x=x.base.name.size+(0+(cStoreS.sz x.base.stores+(cIdxS.sz x.base.uniq+(cUS.sz x.log+(0))))):=rfl
 have hszbase:cDb.sz x.base=x.base.name.size+(0+(cStoreS.sz x.base.stores+(cIdxS.sz x.base.uniq))):=rfl
 have hm0:=hok.h0
 unfold maxLen at hm0
 have HZ:=zh (And.intro hsz (And.intro hszbase trivial))
 clear hsz hszbase
 go_enter Tryz.func5,Tryz.ntmps5
 go_wp2_with fail
 by_cases l0:n-(cDb.sz x.base:Nat)<0
 ·have HV:=zh (Zj l0)
  refine(ZeW _ x.base _ _ _ (by exact TDb.mk_ ⟨hok.h0,hok.h1⟩ (zb m2) (zb m3)) (by omega) (by omega)).mono ?_
  rintro e w1 ⟨rfl,hb0⟩
  rw[HV.out]
  have hB0:=zt (w:=w) hb0
  go_wp2_with fail
  go_ret
  exact⟨Zh (Zj (by have hh:=HZ.out;omega)).symm,hB0⟩
 ·have HV:=zh (Zw l0)
  have p0:0≤n-(cDb.sz x.base:Nat):=by omega
  refine(ZeW _ x.base _ _ _ (by exact TDb.mk_ ⟨hok.h0,hok.h1⟩ (zb m2) (zb m3)) (by omega) (by omega)).mono ?_
  rintro e w1 ⟨rfl,hb0⟩
  rw[HV.out]
  obtain⟨hc0,hfz0,hz0⟩:=Zc hb0
  have hs0:w.heap.size<w1.heap.size:=(by (try simp only[World.size_alloc] at hz0);omega)
  have hB0:=zt (w:=w) hb0
  clear hb0
  go_wp2_with fail
  by_cases l1:n-(cDb.sz x.base:Nat)-(cUS.sz x.log:Nat)<0
  ·have HV:=zh (Zj l1)
   refine(Ziz _ _ _ _ _ (by exact zb m4) (by omega) (by omega)).mono ?_
   rintro e w2 ⟨rfl,hb1⟩
   rw[HV.out]
   have hB1:=zt (w:=w) hb1
   go_wp2_with fail
   go_ret
   exact⟨Zh (Zj (by have hh:=HZ.out;omega)).symm,hB1⟩
  ·have HV:=zh (Zw l1)
   have p1:0≤n-(cDb.sz x.base:Nat)-(cUS.sz x.log:Nat):=by omega
   refine(Ziz _ _ _ _ _ (by exact zb m4) (by omega) (by omega)).mono ?_
   rintro e w2 ⟨rfl,hb1⟩
   rw[HV.out]
   obtain⟨hc1,hfz1,hz1⟩:=Zc hb1
   have hs1:w.heap.size<w2.heap.size:=(by (try simp only[World.size_alloc] at hz1);omega)
   have hB1:=zt (w:=w) hb1
   clear hb1
   go_wp2_with fail
   go_ret
   exact⟨Zh (by have hh:=HZ.out;rw[Zw (by omega)];omega),bl⟩
theorem Zck (vs:Array Value) (x:TDisk) (F:List Nat) (w:World) (h:cDisk.rep w vs.toList x F) (hn:cDisk.sz x≤1048576) :
  Calls Tryz.prog 7 #[.agg vs] w (ZaT cDisk w x):=by
 obtain⟨v2,v3,v4,F2,F3,F4,rfl,rfl,hok,m2,m3,m4⟩:=TDisk.outA h
 have hsz:cDisk.sz x=x.base.name.size+(0+(cStoreS.sz x.base.stores+(cIdxS.sz x.base.uniq+(cUS.sz x.log+(0))))):=rfl
 have hszbase:cDb.sz x.base=x.base.name.size+(0+(cStoreS.sz x.base.stores+(cIdxS.sz x.base.uniq))):=rfl
 go_enter Tryz.func7,Tryz.ntmps7
 go_wp2_with fail
 refine(ZiW _ x.base _ _ (by exact TDb.mk_ ⟨hok.h0,hok.h1⟩ (zb m2) (zb m3)) (by omega)).mono ?_
 rintro e w1 ⟨r1,G1,rfl,hb1,hr1,hf1⟩
 have hq1:=hr1
 obtain⟨y1_2,y1_3,Z1_2,Z1_3,rfl,hG1,hokq1,n1_2,n1_3⟩:=TDb.outA hq1
 obtain⟨A1_2,c1_2,rfl⟩:=Zb n1_2
 obtain⟨A1_3,c1_3,rfl⟩:=Zb n1_3
 have hf1_2:Fresh _ Z1_2:=⟨λb hb=>hf1.1 b (by rw[hG1];simp[hb]),hf1.2.sublist (by rw[hG1];exact List.sublist_append_left _ _)⟩
 have hf1_3:Fresh _ Z1_3:=⟨λb hb=>hf1.1 b (by rw[hG1];simp[hb]),hf1.2.sublist (by rw[hG1];exact List.sublist_append_right _ _)⟩
 have hlt1:∀b,b∈G1→b<w1.heap.size:=λb hb=>Cod.lt _ hr1 b hb
 have hz1:=hb1.size
 (try simp at hz1)
 have hs1_0:w.heap.size<w1.heap.size:=by omega
 have hs1_1:w.heap.size+1<w1.heap.size:=by omega
 have hs1_2:w.heap.size+2<w1.heap.size:=by omega
 have hB1:=zt (w:=w) hb1
 have hA1:Fresh w.heap.size G1:=hf1.mono (by simp;try omega)
 have hL1:=hlt1
 obtain⟨hc1,hfz1,-⟩:=Zc hb1
 clear hb1
 go_wp2_with fail
 refine(ZlS _ _ _ _ (by exact zb m4) (by omega)).mono ?_
 rintro e w2 ⟨r2,G2,rfl,hb2,hr2,hf2⟩
 replace hr1:=Cod.keep2 hr1 hf1 (show Keep _ w1 w2 from Keep.bel (by repeat (first|with_reducible exact Keep.refl _ _|with_reducible assumption|with_reducible refine Keep.alloc ?_ _|with_reducible refine Keep.drew ?_|with_reducible refine Keep.drewN ?_ _|(with_reducible refine Keep.set_ ?_ ?_ _;rotate_left;((try simp);(try omega))))) hb2)
 replace n1_2:=Cod.keep2 n1_2 hf1_2 (show Keep _ w1 w2 from Keep.bel (by repeat (first|with_reducible exact Keep.refl _ _|with_reducible assumption|with_reducible refine Keep.alloc ?_ _|with_reducible refine Keep.drew ?_|with_reducible refine Keep.drewN ?_ _|(with_reducible refine Keep.set_ ?_ ?_ _;rotate_left;((try simp);(try omega))))) hb2)
 replace n1_3:=Cod.keep2 n1_3 hf1_3 (show Keep _ w1 w2 from Keep.bel (by repeat (first|with_reducible exact Keep.refl _ _|with_reducible assumption|with_reducible refine Keep.alloc ?_ _|with_reducible refine Keep.drew ?_|with_reducible refine Keep.drewN ?_ _|(with_reducible refine Keep.set_ ?_ ?_ _;rotate_left;((try simp);(try omega))))) hb2)
 obtain⟨A2,c2,rfl⟩:=Zb hr2
 have hlt2:∀b,b∈G2→b<w2.heap.size:=λb hb=>Cod.lt _ hr2 b hb
 have hz2:=hb2.size
 (try simp at hz2)
 have hs2_0:w.heap.size<w2.heap.size:=by omega
 have hs2_1:w.heap.size+1<w2.heap.size:=by omega
 have hs2_2:w.heap.size+2<w2.heap.size:=by omega
 have hB2:=zt (w:=w) hb2
 have hA2:Fresh w.heap.size (G1++G2):=hA1.then_ hL1 (by simp) hf2 (by simp;omega)
 have hL2:=Zmw hL1 hlt2 (by omega)
 obtain⟨hc2,hfz2,-⟩:=Zc hb2
 clear hb2
 go_wp2_with fail
 have hret:∀Wf:World,Below w.heap.size w Wf→Keep (w.heap.size+3) w2 Wf→ZaT cDisk w x (.returned (.agg #[.string x.base.name,.int .i64 x.base.ver,.slice A1_2 x.base.stores.length c1_2,.slice A1_3 x.base.uniq.length c1_3,.slice A2 x.log.length c2,.int .i64 x.count])) Wf:=λWf hBf K=>⟨_,_,rfl,hBf,TDisk.mk_ hok (Cod.keep2 n1_2 hf1_2 (by first|exact K|exact K.mono (by (try simp);(try omega)))) (Cod.keep2 n1_3 hf1_3 (by first|exact K|exact K.mono (by (try simp);(try omega)))) (Cod.keep2 hr2 hf2 (by first|exact K|exact K.mono (by (try simp);(try omega)))),(by have hh:=hA2;(try simp only[hG1] at hh);(try simp only[List.append_assoc] at hh);(try simp only[List.append_assoc]);exact hh)⟩
 refine bodyPost_ret (v:=.agg #[.string x.base.name,.int .i64 x.base.ver,.slice A1_2 x.base.stores.length c1_2,.slice A1_3 x.base.uniq.length c1_3,.slice A2 x.log.length c2,.int .i64 x.count]) ?_ rfl ?_
 ·simp[results,Tryz.results7,go_sem, *]
 ·exact hret _ bl (by repeat (first|with_reducible exact Keep.refl _ _|with_reducible assumption|with_reducible refine Keep.alloc ?_ _|with_reducible refine Keep.drew ?_|with_reducible refine Keep.drewN ?_ _|(with_reducible refine Keep.set_ ?_ ?_ _;rotate_left;((try simp);(try omega)))))
theorem ZmK (vs:Array Value) (x:TOp) (F:List Nat) (n:Int) (w:World) (h:cOp.rep w vs.toList x F) (h0:0≤n) (h1:n≤1048576) :
  Calls Tryz.prog 30 #[.agg vs,.int .i64 n] w (ZL w (.int .i64 (ZcQ n (cOp.sz x)))):=by
 obtain⟨v5,F5,rfl,rfl,hok,m5⟩:=TOp.outA h
 have hsz:cOp.sz x=0+(x.store.size+(0+(0+(x.key.text.size+(cFieldS.sz x.rcd.fields+(x.field.size)))))):=rfl
 have hszkey:cKey.sz x.key=0+(0+(x.key.text.size)):=rfl
 have hszrcd:cRec.sz x.rcd=cFieldS.sz x.rcd.fields:=rfl
 have hm1:=hok.h1
 unfold maxLen at hm1
 have hm4:=hok.h4
 unfold maxLen at hm4
 have hm6:=hok.h6
 unfold maxLen at hm6
 have HZ:=zh (And.intro hsz (And.intro hszkey (And.intro hszrcd trivial)))
 clear hsz hszkey hszrcd
 by_cases l0:n-(x.store.size:Int)<0
 ·go_enter Tryz.func30,Tryz.ntmps30
  go_wp2_with fail
  go_ret
  exact⟨Zh (Zj (by have hh:=HZ.out;omega)).symm,bl⟩
 ·have p0:0≤n-(x.store.size:Int):=by omega
  go_enter Tryz.func30,Tryz.ntmps30
  go_wp2_with fail
  by_cases l1:n-(x.store.size:Int)-(cKey.sz x.key:Nat)<0
  ·have HV:=zh (Zj l1)
   refine(ZfM _ x.key _ _ _ (by exact TKey.mk_ ⟨hok.h2,hok.h3,hok.h4⟩) (by omega) (by omega)).mono ?_
   rintro e w2 ⟨rfl,hb1⟩
   rw[HV.out]
   have hB1:=zt (w:=w) hb1
   go_wp2_with fail
   go_ret
   exact⟨Zh (Zj (by have hh:=HZ.out;omega)).symm,hB1⟩
  ·have HV:=zh (Zw l1)
   have p1:0≤n-(x.store.size:Int)-(cKey.sz x.key:Nat):=by omega
   refine(ZfM _ x.key _ _ _ (by exact TKey.mk_ ⟨hok.h2,hok.h3,hok.h4⟩) (by omega) (by omega)).mono ?_
   rintro e w2 ⟨rfl,hb1⟩
   rw[HV.out]
   obtain⟨hc1,hfz1,hz1⟩:=Zc hb1
   have hs1:w.heap.size<w2.heap.size:=(by (try simp only[World.size_alloc] at hz1);omega)
   have hB1:=zt (w:=w) hb1
   clear hb1
   go_wp2_with fail
   by_cases l2:n-(x.store.size:Int)-(cKey.sz x.key:Nat)-(cRec.sz x.rcd:Nat)<0
   ·have HV:=zh (Zj l2)
    refine(Zdx _ x.rcd _ _ _ (by exact TRec.mk_ trivial (zb m5)) (by omega) (by omega)).mono ?_
    rintro e w3 ⟨rfl,hb2⟩
    rw[HV.out]
    have hB2:=zt (w:=w) hb2
    go_wp2_with fail
    go_ret
    exact⟨Zh (Zj (by have hh:=HZ.out;omega)).symm,hB2⟩
   ·have HV:=zh (Zw l2)
    have p2:0≤n-(x.store.size:Int)-(cKey.sz x.key:Nat)-(cRec.sz x.rcd:Nat):=by omega
    refine(Zdx _ x.rcd _ _ _ (by exact TRec.mk_ trivial (zb m5)) (by omega) (by omega)).mono ?_
    rintro e w3 ⟨rfl,hb2⟩
    rw[HV.out]
    obtain⟨hc2,hfz2,hz2⟩:=Zc hb2
    have hs2:w.heap.size<w3.heap.size:=(by (try simp only[World.size_alloc] at hz2);omega)
    have hB2:=zt (w:=w) hb2
    clear hb2
    by_cases l3:n-(x.store.size:Int)-(cKey.sz x.key:Nat)-(cRec.sz x.rcd:Nat)-(x.field.size:Int)<0
    ·go_wp2_with fail
     go_ret
     exact⟨Zh (Zj (by have hh:=HZ.out;omega)).symm,bl⟩
    ·have p3:0≤n-(x.store.size:Int)-(cKey.sz x.key:Nat)-(cRec.sz x.rcd:Nat)-(x.field.size:Int):=by omega
     go_wp2_with fail
     go_ret
     exact⟨Zh (by have hh:=HZ.out;rw[Zw (by omega)];omega),bl⟩
theorem Zpl (vs:Array Value) (x:TOp) (F:List Nat) (w:World) (h:cOp.rep w vs.toList x F) (hn:cOp.sz x≤1048576) :
  Calls Tryz.prog 35 #[.agg vs] w (ZaT cOp w x):=by
 obtain⟨v5,F5,rfl,rfl,hok,m5⟩:=TOp.outA h
 have hsz:cOp.sz x=0+(x.store.size+(0+(0+(x.key.text.size+(cFieldS.sz x.rcd.fields+(x.field.size)))))):=rfl
 have hszkey:cKey.sz x.key=0+(0+(x.key.text.size)):=rfl
 have hszrcd:cRec.sz x.rcd=cFieldS.sz x.rcd.fields:=rfl
 go_enter Tryz.func35,Tryz.ntmps35
 go_wp2_with fail
 refine(Zlm _ x.key _ _ (by exact TKey.mk_ ⟨hok.h2,hok.h3,hok.h4⟩) (by omega)).mono ?_
 rintro e w1 ⟨r1,G1,rfl,hb1,hr1,hf1⟩
 have hq1:=hr1
 obtain⟨e1,hGe1,hokq1⟩:=TKey.out hq1
 obtain rfl:r1=#[Value.int .i64 x.key.kind,.int .i64 x.key.n,.string x.key.text]:=Array.toList_inj.1 e1
 have hlt1:∀b,b∈G1→b<w1.heap.size:=λb hb=>Cod.lt _ hr1 b hb
 have hz1:=hb1.size
 (try simp at hz1)
 have hs1_0:w.heap.size<w1.heap.size:=by omega
 have hs1_1:w.heap.size+1<w1.heap.size:=by omega
 have hs1_2:w.heap.size+2<w1.heap.size:=by omega
 have hB1:=zt (w:=w) hb1
 have hA1:Fresh w.heap.size G1:=hf1.mono (by simp;try omega)
 have hL1:=hlt1
 obtain⟨hc1,hfz1,-⟩:=Zc hb1
 clear hb1
 go_wp2_with fail
 refine(Zha _ x.rcd _ _ (by exact TRec.mk_ trivial (zb m5)) (by omega)).mono ?_
 rintro e w2 ⟨r2,G2,rfl,hb2,hr2,hf2⟩
 replace hr1:=Cod.keep2 hr1 hf1 (show Keep _ w1 w2 from Keep.bel (by repeat (first|with_reducible exact Keep.refl _ _|with_reducible assumption|with_reducible refine Keep.alloc ?_ _|with_reducible refine Keep.drew ?_|with_reducible refine Keep.drewN ?_ _|(with_reducible refine Keep.set_ ?_ ?_ _;rotate_left;((try simp);(try omega))))) hb2)
 have hq2:=hr2
 obtain⟨y2_0,Z2_0,rfl,rfl,hokq2,n2_0⟩:=TRec.outA hq2
 obtain⟨A2_0,c2_0,rfl⟩:=Zb n2_0
 have hlt2:∀b,b∈G2→b<w2.heap.size:=λb hb=>Cod.lt _ hr2 b hb
 have hz2:=hb2.size
 (try simp at hz2)
 have hs2_0:w.heap.size<w2.heap.size:=by omega
 have hs2_1:w.heap.size+1<w2.heap.size:=by omega
 have hs2_2:w.heap.size+2<w2.heap.size:=by omega
 have hB2:=zt (w:=w) hb2
 have hA2:Fresh w.heap.size (G1++G2):=hA1.then_ hL1 (by simp) hf2 (by simp;omega)
 have hL2:=Zmw hL1 hlt2 (by omega)
 obtain⟨hc2,hfz2,-⟩:=Zc hb2
 clear hb2
 go_wp2_with fail
 simp only[hGe1,List.nil_append] at hA2
 have hret:∀Wf:World,Below w.heap.size w Wf→Keep _ w2 Wf→ZaT cOp w x (.returned (.agg #[.int .i64 x.kind,.string x.store,.int .i64 x.key.kind,.int .i64 x.key.n,.string x.key.text,.slice A2_0 x.rcd.fields.length c2_0,.string x.field])) Wf:=λWf hBf K=>⟨_,_,rfl,hBf,TOp.mk_ hok (Cod.keep2 n2_0 hf2 (by first|exact K|exact K.mono (by (try simp);(try omega)))),hA2⟩
 refine bodyPost_ret (v:=.agg #[.int .i64 x.kind,.string x.store,.int .i64 x.key.kind,.int .i64 x.key.n,.string x.key.text,.slice A2_0 x.rcd.fields.length c2_0,.string x.field]) ?_ rfl ?_
 ·simp[results,Tryz.results35,go_sem, *]
 ·exact hret _ bl (by repeat (first|with_reducible exact Keep.refl _ _|with_reducible assumption|with_reducible refine Keep.alloc ?_ _|with_reducible refine Keep.drew ?_|with_reducible refine Keep.drewN ?_ _|(with_reducible refine Keep.set_ ?_ ?_ _;rotate_left;((try simp);(try omega)))))
theorem Zli (v:Value) (xs:List TOp) (F:List Nat) (n:Int) (w:World) (h:cOpS.rep w [v] xs F) (h0:0≤n) (h1:n≤1048576) :
  Calls Tryz.prog 12 #[v,.int .i64 n] w (ZL w (.int .i64 (ZcQ n (cOpS.sz xs)))):=by
 obtain⟨A,cp,rfl⟩:=Zb h
 obtain⟨-,hcp,hm⟩:=Zq h
 have hsz:((cOpS.sz xs:Nat):Int)=xs.length+(Cod.sumSz cOp xs:Nat):=by rw[show cOpS.sz xs=xs.length+Cod.sumSz cOp xs from Cod.szs_sum cOp xs];omega
 rw[hsz]
 clear hsz
 have hle:=Cod.sumSz_le cOp xs
 obtain⟨n0,hxn⟩:∃n0,xs.length=n0:=⟨_,rfl⟩
 have HN:=zh hxn
 rw[hxn] at hcp⊢
 clear hxn
 unfold maxLen at hm
 by_cases l1:n-n0<0
 ·go_enter Tryz.func12,Tryz.ntmps12
  go_wp2
  go_ret
  exact⟨Zh (Zj (by omega)).symm,bl⟩
 ·have l1':0≤n-n0:=by omega
  go_enter Tryz.func12,Tryz.ntmps12
  go_wp2
  go_loopw [1,5] (λl i wr=>∃k:Nat,k≤n0∧i=.int .i64 k∧(∃lv:Int,l=.int .i64 lv∧0≤lv∧lv≤1048576∧lv=n-n0-(Cod.sumSz cOp (xs.take k):Nat))∧Below w.heap.size w wr) (λ_ i _=>n0-(intOf i).toNat)
  case atStart=>exact⟨0,Nat.zero_le _,rfl,⟨_,rfl,l1',by omega,by simp[Cod.sumSz]⟩,Below.refl _ _⟩
  case round =>
   obtain⟨k,hk,rfl,⟨lv,rfl,hl0,hl1,he⟩,hB⟩:=hrel
   by_cases hlt:k<n0
   ·have hkx:k<xs.length:=by rw[HN.out];exact hlt
    have hsucc:=Cod.sumSz_succ cOp xs k hkx
    have hle2:=hle (k+1)
    have HE:=zh (And.intro he (And.intro hsucc hle2))
    clear he hsucc hle2 hle
    obtain⟨g,o,vs,F1,rfl,-,hx,-,hc⟩:=ZN (hw:=by decide) (hw2:=by decide) (zb h hB) hkx
    have hx0:=hx
    obtain⟨w5,Q5,rfl,rfl,hok,m5⟩:=TOp.out hx0
    have q0:wr.cell? ⟨g,o+k*7,none⟩=some _:=(hc 0 _ rfl).1
    have q1:wr.cell? ⟨g,o+k*7+1,none⟩=some _:=(hc 1 _ rfl).1
    have q2:wr.cell? ⟨g,o+k*7+2,none⟩=some _:=(hc 2 _ rfl).1
    have q3:wr.cell? ⟨g,o+k*7+3,none⟩=some _:=(hc 3 _ rfl).1
    have q4:wr.cell? ⟨g,o+k*7+4,none⟩=some _:=(hc 4 _ rfl).1
    have q5:wr.cell? ⟨g,o+k*7+5,none⟩=some _:=(hc 5 _ rfl).1
    have q6:wr.cell? ⟨g,o+k*7+6,none⟩=some _:=(hc 6 _ rfl).1
    clear hc
    by_cases l2:lv-(cOp.sz xs[k]:Nat)<0
    ·have HV:=zh (Zj l2)
     go_wp2_with fail
     refine(ZmK _ _ _ _ _ hx hl0 hl1).mono ?_
     rintro e w1 ⟨rfl,hb1⟩
     rw[HV.out]
     have hB1:Below w.heap.size w w1:=Za hB hb1
     go_wp2_with fail
     go_ret
     exact⟨Zh (Zj (by have:=HE.out;omega)).symm,hB1⟩
    ·have HV:=zh (Zw l2)
     go_wp2_with fail
     refine(ZmK _ _ _ _ _ hx hl0 hl1).mono ?_
     rintro e w1 ⟨rfl,hb1⟩
     rw[HV.out]
     have hB1:Below w.heap.size w w1:=Za hB hb1
     have l3:0≤lv-(cOp.sz xs[k]:Nat):=by omega
     go_wp2_with fail
     go_roundw
     case rel=>exact⟨k+1,by omega,by go_num,⟨_,rfl,l3,by omega,by have:=HE.out;omega⟩,hB1⟩
     case measure=>simp[intOf];omega
   ·obtain rfl:k=n0:=by omega
    have HE:=zh he
    clear he
    go_wp2_with fail
    go_ret
    exact⟨Zh (by have he:=HE.out;rw[List.take_of_length_le (by rw[HN.out];exact Nat.le_refl _)] at he;rw[Zw (by omega)];omega),hB⟩
theorem ZpS:(Tryz.prog.info? 78).map (λi=>(i.zero,i.size,i.bytes))=some (some (Value.agg #[.int .i64 0,.string ByteArray.empty,.int .i64 0,.int .i64 0,.string ByteArray.empty,.slice none 0 0,.string ByteArray.empty]),7,96):=by kernel_rfl
theorem ZfP (v:Value) (xs:List TOp) (F:List Nat) (w:World) (h:cOpS.rep w [v] xs F) (hn:cOpS.sz xs≤1048576) :
  Calls Tryz.prog 14 #[v] w (Zgs cOpS w xs):=by
 obtain⟨A,cp,rfl⟩:=Zb h
 obtain⟨-,hcp,hm⟩:=Zq h
 have hall:=Cod.sz_mem cOp xs
 have hn1:xs.length≤1048576:=Nat.le_trans (Cod.len_le cOp xs) hn
 obtain⟨i0,hi,hz0,hz1,hz2⟩:=info_parts ZpS
 have hmk:=λW=>ZbU (P:=Tryz.prog) 45 78 i0 _ Tryz.underlying45 hi hz0 .i64 .i64 xs.length xs.length (Nat.le_refl _) (by rw[hz2];omega) (by omega) W
 rw[hz1] at hmk
 have hst:Filled cOp w 78 xs 0 _:=Filled.start (madeCells (Value.cells (Value.agg #[.int .i64 0,.string ByteArray.empty,.int .i64 0,.int .i64 0,.string ByteArray.empty,.slice none 0 0,.string ByteArray.empty])) (xs.length*7)) (size_madeCells _ _)
 obtain⟨n,hxn⟩:∃n,xs.length=n:=⟨_,rfl⟩
 have HN:=zh hxn
 rw[hxn] at hmk hst hcp hn1⊢
 clear hxn
 unfold maxLen at hm
 go_enter Tryz.func14,Tryz.ntmps14
 go_wp2
 go_loopw [4] (λi wr=>∃k:Nat,k≤n∧i=.int .i64 k∧Filled cOp w 78 xs k wr) (λi _=>n-(intOf i).toNat)
 case atStart=>exact⟨0,Nat.zero_le _,rfl,hst⟩
 case round =>
  obtain⟨k,hk,rfl,hF⟩:=hrel
  by_cases hlt:k<n
  ·have hkx:k<xs.length:=by rw[HN.out];exact hlt
   obtain⟨g,o,vs,F1,rfl,-,hx,-,hc⟩:=ZN (hw:=by decide) (hw2:=by decide) (zb h hF.bel) hkx
   have hx0:=hx
   obtain⟨w5,Q5,rfl,rfl,hok,m5⟩:=TOp.out hx0
   have q0:wr.cell? ⟨g,o+k*7,none⟩=some _:=(hc 0 _ rfl).1
   have q1:wr.cell? ⟨g,o+k*7+1,none⟩=some _:=(hc 1 _ rfl).1
   have q2:wr.cell? ⟨g,o+k*7+2,none⟩=some _:=(hc 2 _ rfl).1
   have q3:wr.cell? ⟨g,o+k*7+3,none⟩=some _:=(hc 3 _ rfl).1
   have q4:wr.cell? ⟨g,o+k*7+4,none⟩=some _:=(hc 4 _ rfl).1
   have q5:wr.cell? ⟨g,o+k*7+5,none⟩=some _:=(hc 5 _ rfl).1
   have q6:wr.cell? ⟨g,o+k*7+6,none⟩=some _:=(hc 6 _ rfl).1
   clear hc
   go_wp2_with fail
   refine(Zpl _ _ _ _ hx (Nat.le_trans (hall _ (List.getElem_mem hkx)) hn)).mono ?_
   rintro e w1 ⟨vs1,G1,rfl,hb1,hx1,hf1⟩
   have hF2:=hF.step hkx hb1 hx1 hf1
   obtain⟨u5,P5,rfl,rfl,hok1,l5⟩:=TOp.outA hx1
   obtain⟨A5,c5,rfl⟩:=Zb l5
   obtain⟨⟨o0,p0⟩,f0⟩:=hF.cell hkx hb1 0 (by decide)
   change w1.cell? ⟨w.heap.size,k*7,none⟩=_ at p0
   change w1.frozen? ⟨w.heap.size,k*7,none⟩=_ at f0
   obtain⟨⟨o1,p1⟩,f1⟩:=hF.cell hkx hb1 1 (by decide)
   change w1.cell? ⟨w.heap.size,k*7+1,none⟩=_ at p1
   change w1.frozen? ⟨w.heap.size,k*7+1,none⟩=_ at f1
   obtain⟨⟨o2,p2⟩,f2⟩:=hF.cell hkx hb1 2 (by decide)
   change w1.cell? ⟨w.heap.size,k*7+2,none⟩=_ at p2
   change w1.frozen? ⟨w.heap.size,k*7+2,none⟩=_ at f2
   obtain⟨⟨o3,p3⟩,f3⟩:=hF.cell hkx hb1 3 (by decide)
   change w1.cell? ⟨w.heap.size,k*7+3,none⟩=_ at p3
   change w1.frozen? ⟨w.heap.size,k*7+3,none⟩=_ at f3
   obtain⟨⟨o4,p4⟩,f4⟩:=hF.cell hkx hb1 4 (by decide)
   change w1.cell? ⟨w.heap.size,k*7+4,none⟩=_ at p4
   change w1.frozen? ⟨w.heap.size,k*7+4,none⟩=_ at f4
   obtain⟨⟨o5,p5⟩,f5⟩:=hF.cell hkx hb1 5 (by decide)
   change w1.cell? ⟨w.heap.size,k*7+5,none⟩=_ at p5
   change w1.frozen? ⟨w.heap.size,k*7+5,none⟩=_ at f5
   obtain⟨⟨o6,p6⟩,f6⟩:=hF.cell hkx hb1 6 (by decide)
   change w1.cell? ⟨w.heap.size,k*7+6,none⟩=_ at p6
   change w1.frozen? ⟨w.heap.size,k*7+6,none⟩=_ at f6
   go_wp2_with fail
   go_roundw
   case rel=>exact⟨k+1,by omega,by go_num,hF2⟩
   case measure=>simp[intOf];omega
  ·obtain rfl:k=n:=by omega
   obtain⟨F',hr,hf⟩:=Filled.done (c:=cOp) (hw:=by decide) (hw2:=by decide) (by rw[HN.out];exact hF) (by rw[HN.out];unfold maxLen;omega)
   rw[HN.out] at hr
   go_wp2_with fail
   go_ret
   exact⟨_,F',rfl,hF.bel,hr,hf⟩
end Go.Proofs.YtghndifnohkokaaGreat
