/-
  InsFn of the seat. No conditions but sizes.
-/
import Derived.Test.YtghndifnohkokaaGreatZOpsPlain
import Derived.Deep.CutRange
namespace Go.Proofs.YtghndifnohkokaaGreat
open Go.ChangeShapes Go.WideShapes Go.RowKit
set_option linter.unusedVariables false
set_option linter.unusedSimpArgs false
set_option maxRecDepth 100000
set_option maxHeartbeats 16000000
def Zei {α:Type} (c:Cod α) (e:TypeId) (B:Nat) (w:World) (v:Value) (xs:List α) (Fi:List Nat) (i:Nat) (y:α) (Fy:List Nat) (er:Ending) (w':World):Prop :=
 ∃A' cp' F1 F2,er=.returned (.slice A' (xs.length+1) cp')∧Fi=F1++F2∧Own c e B w' (.slice A' (xs.length+1) cp') (xs.take i++y::xs.drop i) (F1++(Fy++F2))∧w.grownBy w' (Zac v)∧(∀g,Zac (.slice A' (xs.length+1) cp')=some g→Zac v=some g∨w.heap.size≤g)
theorem Zds:(Tryz.prog.info? 162).map (λi=>(i.zero,i.size,i.bytes))=some (some (Value.agg #[.int .i64 0,.int .i64 0,.string ByteArray.empty,.slice none 0 0]),4,56):=by kernel_rfl
theorem Zeo (A:Option Addr) (n cp i:Nat) (xs:List TField) (y:TField) (vs:Array Value) (Fi Fy:List Nat) (vb B:Nat) (w:World) (h:Own cField 114 B w (.slice A n cp) xs Fi) (hd:∀g,Zac (.slice A n cp)=some g→g∉Fi∧g∉Fy∧g≠vb) (hxn:xs.length=n) (hi:i≤n) (hn:n≤1048576)
  (hv:Blk w vb 114 vs) (hy:cField.rep w vs.toList y Fy) (hB:B≤w.heap.size) :
  Calls Tryz.prog 182 #[.slice A n cp,.int .i64 i,.slice (some ⟨vb,0,none⟩) 1 1] w (Zei cField 114 B w (.slice A n cp) xs Fi i y Fy):=by
 obtain⟨i0,hi0,hz0,hz1,hz2⟩:=info_parts ZdF
 have hvl:=cField.len hy
 have hvo:=cField.ones hy
 have hsrc0:AppSrc cField w (.slice (some ⟨vb,0,none⟩) 1 1) [y] Fy:=Zeu hy (λj u hu=>by rw[hv.cell];simpa using hu)
 have hncp:n≤cp∧cp≤maxLen:=by
  rcases h.form with ⟨rfl,-,A',hv'⟩|⟨g,cap,cur,us,hv',hB',hh,hnc,hcm,-⟩
  ·simp only[Value.slice.injEq] at hv';unfold maxLen;simp at hxn;omega
  ·simp only[Value.slice.injEq] at hv';omega
 obtain⟨hnc,hcm⟩:=hncp
 have HX:=zh hxn
 by_cases hin:i=n
 ·subst hin
  have HO:=zh (And.intro h (And.intro hsrc0 hd))
  clear h hsrc0 hd hv hy hvo
  unfold maxLen at hcm
  have hcpi:i=cp∨¬cp=i:=by omega
  rcases hcpi with rfl|hcpi
  all_goals
   go_enter Tryz.func182,Tryz.ntmps182
   go_wp2_with (at_builtin;refine Zl (c:=cField) (B:=B) (xs:=xs) (ys:=[y]) (Fi:=Fi) (Fy:=Fy) _ rfl _ _ _ rfl i0 _ _ Tryz.underlying74 hi0 hz0 hz1 hz2 rfl (by decide) rfl HO.out.1 (.slice (some ⟨vb,0,none⟩) 1 1) rfl HO.out.2.1 (by have:=HX.out;unfold maxLen;simp;omega) (by have:=HX.out;simp;omega) hB (λg hg=>⟨(HO.out.2.2 g hg).1,(HO.out.2.2 g hg).2.1⟩) ?_)
   intro v' w' ho' hg' hat'
   obtain⟨A',cp',e'⟩:=ho'.slice
   rw[List.length_append,List.length_singleton] at e'
   subst e'
   have HE:=zh (And.intro ho' (And.intro hg' hat'))
   clear ho' hg' hat'
   go_wp2_with fail
   go_ret
   have htk:xs.take i=xs:=List.take_of_length_le (by have:=HX.out;omega)
   have hdp:xs.drop i=[]:=List.drop_of_length_le (by have:=HX.out;omega)
   exact⟨A',cp',Fi,[],rfl,by simp,by rw[htk,hdp,List.append_nil];exact HE.out.1,HE.out.2.1,HE.out.2.2⟩
 ·have hil:i<n:=by omega
  obtain⟨g,cur,u1,u2,F1,F2,rfl,-,-,-,hblk,hcz,htk,hu1,hu2,hBg,hgo,rfl,r1,r2⟩:=h.parts (i:=i) (by omega) (by omega)
  have hgd:=hd g hgo
  have hgw:g<w.heap.size:=hblk.lt
  have hvw:vb<w.heap.size:=hv.lt
  have hone1:=Cod.reps_ones r1
  have hone2:=Cod.reps_ones r2
  rw[show (cField).wd=2 from rfl] at *
  have hw1:IntKind.i64.wrap ((i:Int)+1)=(i:Int)+1:=IntWalk.i64_in _ (by omega)
  have hw2:IntKind.i64.wrap ((n:Int)+1)=(n:Int)+1:=IntWalk.i64_in _ (by omega)
  have hci:¬cp=i:=by omega
  have hni:¬(i:Int)=(n:Int):=by omega
  unfold maxLen at hcm
  have HM:=zh (And.intro h (And.intro hblk (And.intro hcz (And.intro htk (And.intro r1 (And.intro r2 (And.intro hv hy)))))))
  clear h hblk hcz htk r1 r2 hv hy hd hsrc0
  by_cases hroom:n+1≤cp
  ·have hnr:¬((cp:Int)<(n:Int)+1):=by omega
   have hci1:¬cp=i+1:=by omega
   have hov:∀lb cb,(callFunc 188 #[.slice (some ⟨vb,0,none⟩) 1 1,.slice (some ⟨g,(i+1)*2,none⟩) lb cb]).run Tryz.prog w=.ok (.value (.bool false)) w:=λlb cb=>by
    rw[run_callFunc_extern Tryz.func188 (by kernel_rfl) (by kernel_rfl) (by kernel_rfl) (e:=Extern.SlicesOverlaps.overlaps #[74,74] #[4]) (by kernel_rfl),
     Lib.run_overlaps_apart w 74 4 114 Tryz.underlying74 2 (λw=>by simp[sizeOf,typeInfo,hi0,hz1]) ⟨vb,0,none⟩ ⟨g,(i+1)*2,none⟩ 1 1 lb cb (Ne.symm hgd.2.2) 114 114 vs.size cur.size (by have:=HM.out.2.2.2.2.2.2.1;unfold Blk at this;simp[World.shape?,this]) (by have:=HM.out.2.1;unfold Blk at this;simp[World.shape?,this]) (by rw[HM.out.2.2.1];omega) (HM.out.2.2.2.2.2.2.1.frozen 0) (HM.out.2.2.2.2.2.2.1.frozen _)]
    rfl
   go_enter Tryz.func182,Tryz.ntmps182
   go_wp2_with (simp only[hov])
   have hi01:(0:Int)≤(i:Int)+1:=by omega
   have hi02:(i:Int)≤(n:Int)+1:=by omega
   have hmin1:Nat.min (n+1-i) (n-i)=n-i:=by simp only[Nat.min_def];split<;>omega
   have hmin2:Nat.min 1 (n+1-i)=1:=by simp only[Nat.min_def];split<;>omega
   have hu2f:(i+1)*2+u2.length≤cur.size:=by rw[hu2,HM.out.2.2.1];omega
   have hcell2:∀j v,u2[j]?=some v→w.cell? ⟨g,i*2+j,none⟩=some v:=λj v hj=>by
    have hjl:=(List.getElem?_eq_some_iff.1 hj).1
    rw[HM.out.2.1.cell,← Array.getElem?_toList]
    have h1:=congrArg (λl=>l[i*2+j]?) HM.out.2.2.2.1
    rw[List.getElem?_take_of_lt (by omega),List.getElem?_append_right (by omega),hu1,Nat.add_sub_cancel_left,hj] at h1
    exact h1
   have hcl:cur.toList.length=cp*2:=by rw[Array.length_toList];exact HM.out.2.2.1
   have hspl:(cur.toList.take ((i+1)*2)++u2++cur.toList.drop ((i+1)*2+u2.length)).length=cp*2:=by rw[Zaq (by rw[hcl];rw[HM.out.2.2.1] at hu2f;exact hu2f)];exact hcl
   refine ZaE (S:=(λ_=>True)) [8] (by kernel_rfl) (by (try dsimp only);(first|done|trivial)) (λhHeld=>?_)
   refine zrdT (i:=0) 9 69 ?_
   refine zrdT (i:=1) 9 70 ?_
   refine zrdT (i:=2) 9 71 ?_
   refine zrdT (i:=3) 9 72 ?_
   refine zrdT (i:=4) 9 73 ?_
   refine zrdT (i:=5) 9 74 ?_
   refine zrdT (i:=6) 9 75 ?_
   refine zrdT (i:=7) 9 76 ?_
   try simp only[Act.put,zp0,zp1,zp2]
   refine ZT 8 (by kernel_rfl) rfl (by kernel_rfl) (λK hK=>?_)
   (refine ZeE _ rfl _ _ _ _ 114 rfl g ((i+1)*2) (n-i) (cp-(i+1)) ⟨g,i*2,none⟩ (n+1-i) (cp-i) rfl rfl cur 114 u2 (n-i) 2 Tryz.underlying74 i0 hi0 hz1 (by exact HM.out.2.1) hmin1 hu2 (λj v hj=>by rw[Addr.add_lit];exact hcell2 j v hj) hu2f hone2 ?_;intro w2 hr2)
   refine hK.out _ _ ?_
   clear hK K
   refine Zfa (by kernel_rfl) ?_ _
   have HR2:=zh hr2
   clear hr2 hcell2
   obtain⟨w3,hcp3,hr3⟩:∃w3,(∀ty,(Builtin.copy_ #[74,74] ty #[.slice (some ⟨g,i*2,none⟩) (n+1-i) (cp-i),.slice (some ⟨vb,0,none⟩) 1 1]).run Tryz.prog w2=.ok (goInt 1) w3)∧RowSet w2 w3 g 114 _ :=
    ⟨_,λty=>Zcx w2 _ _ ty 114 g (i*2) (n+1-i) (cp-i) ⟨vb,0,none⟩ 1 1 _ 114 vs.toList 1 2 Tryz.underlying74 i0 hi0 hz1 HR2.out.blk hmin2 (by rw[hvl]) (λj v hj=>by rw[Addr.add_lit,Nat.zero_add,World.cell?_of_block (a:=⟨vb,j,none⟩) (HR2.out.other vb (Ne.symm hgd.2.2)),show w.drew.cell? ⟨vb,j,none⟩=w.cell? ⟨vb,j,none⟩ from rfl,HM.out.2.2.2.2.2.2.1.cell];simpa using hj) (by rw[List.size_toArray,hspl,hvl];omega) hvo,RowSet.mk_ HR2.out.blk _⟩
   have HR3:=zh hr3
   clear hr3
   go_wp2_with fail
   go_ret
   have e1:(i+1)*2=i*2+2:=by omega
   have e2:(n+1)*2=i*2+2+u2.length:=by rw[hu2];omega
   have ht:=ZjD (L0:=cur.toList) (u1:=u1) (u2:=u2) (vs:=vs.toList) (a:=i*2) (b:=2) (by rw[show i*2+u2.length=n*2 by rw[hu2];omega];exact HM.out.2.2.2.1) hu1 hvl (by rw[hcl,hu2];omega)
   have hblk3:=HR3.out.blk
   rw[List.toList_toArray,e1] at hblk3
   have hk3:∀b,b≠g→w3.heap[b]?=w.heap[b]?:=λb hb=>(HR3.out.other b hb).trans ((HR2.out.other b hb).trans rfl)
   have hgr:w.grownBy w3 (some g):=⟨HR3.out.os.trans HR2.out.os,HR3.out.tape.trans HR2.out.tape,HR3.out.output.trans HR2.out.output,by rw[HR3.out.size,HR2.out.size];exact Nat.le_refl _,λb _ hne=>hk3 b (λe=>hne (by rw[e]))⟩
   simp only[Zei,HX.out]
   refine⟨some ⟨g,0,none⟩,cp,F1,F2,rfl,rfl,?_,by rw[hgo];exact hgr,λg' hg'=>.inl (by cases cp with|zero=>omega|succ m=>exact hg')⟩
   exact Own.of_parts (c:=cField) hBg hblk3 (by rw[List.size_toArray,Zaq (by rw[Zaq (by rw[hcl,hu2];show i*2+2+(n-i)*2≤_;omega),hcl,hvl];show i*2+2≤_;omega),Zaq (by rw[hcl,hu2];show i*2+2+(n-i)*2≤_;omega)];exact hcl) (by rw[List.length_take,List.length_drop,HX.out];omega) (by show List.take ((n+1)*2) _=_;rw[List.toList_toArray,e2];exact ht) hroom (by unfold maxLen;exact hcm)
    (Cod.reps_keep HM.out.2.2.2.2.1 λb hb=>hk3 b (λe=>hgd.1 (by rw[← e];simp[hb]))) (Cod.keep _ HM.out.2.2.2.2.2.2.2 λb hb=>hk3 b (λe=>hgd.2.1 (by rw[← e];exact hb))) (Cod.reps_keep HM.out.2.2.2.2.2.1 λb hb=>hk3 b (λe=>hgd.1 (by rw[← e];simp[hb])))
  ·have hnr:(cp:Int)<(n:Int)+1:=by omega
   obtain⟨k,hk⟩:∃k,n+1-i=k:=⟨_,rfl⟩
   have hk0:0<k:=by omega
   have hik:i+k=n+1:=by omega
   have hwk:IntKind.i64.wrap ((n:Int)+1-(i:Int))=(k:Int):=by rw[IntWalk.i64_in _ (by omega)];omega
   have hwk2:(n:Int)+1-(i:Int)=(k:Int):=by omega
   have hcell1:∀j v,u1[j]?=some v→w.cell? ⟨g,j,none⟩=some v:=λj v hj=>by
    have hjl:=(List.getElem?_eq_some_iff.1 hj).1
    rw[HM.out.2.1.cell,← Array.getElem?_toList]
    have h1:=congrArg (λl=>l[j]?) HM.out.2.2.2.1
    rw[List.getElem?_take_of_lt (by omega),List.getElem?_append_left (by omega),hj] at h1
    exact h1
   go_enter Tryz.func182,Tryz.ntmps182
   go_wp2_with (at_builtin;refine Zhc _ rfl _ _ _ 3 114 rfl i0 _ Tryz.underlying74 Tryz.underlying3 hi0 hz0 ⟨g,0,none⟩ i cp k rfl rfl u1 (by rw[hu1,hz1]) (λj v hj=>by rw[Addr.add_lit,Nat.zero_add];exact hcell1 j v hj) hk0 (by rw[hz1];decide) (by omega) (by unfold maxLen;omega) (by rw[hz2];omega) ?_)
   intro G w1 hG hGm hblk1 hgr1 hsz1
   have hR0:∃R0:Array Value,Blk w1 w.heap.size 114 R0∧R0.size=G*2∧R0.toList.take (i*2)=u1:=by
    refine⟨_,hblk1,?_,?_⟩
    ·simp only[Array.size_append,List.size_toArray,hu1];simp[Builtin.zeroCells];omega
    ·rw[Array.toList_append,List.toList_toArray,List.take_left' hu1]
   obtain⟨R0,hb1,hs0,ht0⟩:=hR0
   have hRl:R0.toList.length=G*2:=by rw[Array.length_toList];exact hs0
   unfold maxLen at hGm
   have hGi:¬G=i:=by omega
   have hGi1:¬G=i+1:=by omega
   have hi01:(0:Int)≤(i:Int)+1:=by omega
   have hi02:(i:Int)≤(n:Int)+1:=by omega
   have hmin2:Nat.min 1 (n+1-i)=1:=by simp only[Nat.min_def];split<;>omega
   have hmin1:Nat.min (n-i) (n-i)=n-i:=by simp only[Nat.min_def];split<;>omega
   have hvN:vb≠w.heap.size:=by omega
   have hgN:g≠w.heap.size:=by omega
   have H1:=zh (And.intro hb1 hgr1)
   clear hblk1 hb1 hgr1 hk hwk hwk2 hcell1
   obtain⟨w2,hcp2,hr2⟩:∃w2,(∀ty,(Builtin.copy_ #[74,74] ty #[.slice (some ⟨w.heap.size,i*2,none⟩) (n+1-i) (G-i),.slice (some ⟨vb,0,none⟩) 1 1]).run Tryz.prog w1=.ok (goInt 1) w2)∧RowSet w1 w2 w.heap.size 114 _ :=
    ⟨_,λty=>Zcx w1 _ _ ty 114 w.heap.size (i*2) (n+1-i) (G-i) ⟨vb,0,none⟩ 1 1 _ 114 vs.toList 1 2 Tryz.underlying74 i0 hi0 hz1 H1.out.1 hmin2 (by rw[hvl]) (λj v hj=>by rw[Addr.add_lit,Nat.zero_add,World.cell?_of_block (a:=⟨vb,j,none⟩) (H1.out.2.block vb hvw (by simp)),HM.out.2.2.2.2.2.2.1.cell];simpa using hj) (by rw[hs0,hvl];omega) hvo,RowSet.mk_ H1.out.1 _⟩
   have HR2:=zh hr2
   clear hr2
   have hspl:(R0.toList.take (i*2)++vs.toList++R0.toList.drop (i*2+vs.toList.length)).length=G*2:=by rw[Zaq (by rw[hRl,hvl];omega)];exact hRl
   have hcell2:∀j v,u2[j]?=some v→w2.cell? ⟨g,i*2+j,none⟩=some v:=λj v hj=>by
    have hjl:=(List.getElem?_eq_some_iff.1 hj).1
    rw[World.cell?_of_block (a:=⟨g,i*2+j,none⟩) ((HR2.out.other g hgN).trans (H1.out.2.block g hgw (by simp))),HM.out.2.1.cell,← Array.getElem?_toList]
    have h1:=congrArg (λl=>l[i*2+j]?) HM.out.2.2.2.1
    rw[List.getElem?_take_of_lt (by omega),List.getElem?_append_right (by omega),hu1,Nat.add_sub_cancel_left,hj] at h1
    exact h1
   have hfit2:(i+1)*2+u2.length≤G*2:=by rw[hu2];omega
   go_upto_region 11 with (fail)
   refine ZaE (S:=(λ_=>True)) [8] (by kernel_rfl) (by (try dsimp only);(first|done|trivial)) (λhHeld=>?_)
   refine zrdT (i:=0) 9 46 ?_
   refine zrdT (i:=1) 9 47 ?_
   refine zrdT (i:=2) 9 48 ?_
   refine zrdT (i:=3) 9 49 ?_
   refine zrdT (i:=4) 9 50 ?_
   refine zrdT (i:=5) 9 51 ?_
   refine zrdT (i:=6) 9 52 ?_
   refine zrdT (i:=7) 9 53 ?_
   try simp only[Act.put,zp0,zp1,zp2]
   refine ZT 8 (by kernel_rfl) rfl (by kernel_rfl) (λK hK=>?_)
   (refine ZeE _ rfl _ _ _ _ 114 rfl w.heap.size ((i+1)*2) (n-i) (G-(i+1)) ⟨g,i*2,none⟩ (n-i) (cp-i) rfl rfl _ 114 u2 (n-i) 2 Tryz.underlying74 i0 hi0 hz1 (by exact HR2.out.blk) hmin1 hu2 (λj v hj=>by rw[Addr.add_lit];exact hcell2 j v hj) (by rw[List.size_toArray,hspl];exact hfit2) hone2 ?_;intro w3 hr3)
   refine hK.out _ _ ?_
   clear hK K
   refine Zfa (by kernel_rfl) ?_ _
   have HR3:=zh hr3
   clear hr3 hcell2
   go_wp2_with fail
   go_ret
   have e1:(i+1)*2=i*2+2:=by omega
   have e2:(n+1)*2=i*2+2+u2.length:=by rw[hu2];omega
   have ht:=Zlk (u1:=u1) (u2:=u2) (vs:=vs.toList) (R:=R0.toList) (a:=i*2) (b:=2) ht0 hu1 hvl (by rw[hRl,hu2];omega)
   have hblk3:=HR3.out.blk
   rw[List.toList_toArray,e1] at hblk3
   have hk3:∀b,b<w.heap.size→w3.heap[b]?=w.heap[b]?:=λb hb=>(HR3.out.other b (by omega)).trans ((HR2.out.other b (by omega)).trans (H1.out.2.block b hb (by simp)))
   have hgr:w.grownBy w3 (some g):=⟨HR3.out.os.trans (HR2.out.os.trans H1.out.2.os),HR3.out.tape.trans (HR2.out.tape.trans H1.out.2.tape),HR3.out.output.trans (HR2.out.output.trans H1.out.2.output),by have h9:=HR3.out.size;have h8:=HR2.out.size;(try simp at h9);omega,λb hb _=>hk3 b hb⟩
   simp only[Zei,HX.out]
   refine⟨some ⟨w.heap.size,0,none⟩,G,F1,F2,rfl,rfl,?_,by rw[hgo];exact hgr,λg' hg'=>.inr (by cases G with|zero=>omega|succ m=>simp only[Zac,Option.some.injEq] at hg';omega)⟩
   exact Own.of_parts (c:=cField) hB hblk3 (by rw[List.size_toArray,Zaq (by rw[hspl,hu2];show i*2+2+(n-i)*2≤_;omega)];exact hspl) (by rw[List.length_take,List.length_drop,HX.out];omega) (by show List.take ((n+1)*2) _=_;rw[List.toList_toArray,e2];exact ht) hG (by unfold maxLen;exact hGm)
    (Cod.reps_keep HM.out.2.2.2.2.1 λb hb=>hk3 b (Cod.reps_lt HM.out.2.2.2.2.1 b hb)) (Cod.keep _ HM.out.2.2.2.2.2.2.2 λb hb=>hk3 b (Cod.lt _ HM.out.2.2.2.2.2.2.2 b hb)) (Cod.reps_keep HM.out.2.2.2.2.2.1 λb hb=>hk3 b (Cod.reps_lt HM.out.2.2.2.2.2.1 b hb))
theorem ZcO (A:Option Addr) (n cp i:Nat) (xs:List TItem) (y:TItem) (vs:Array Value) (Fi Fy:List Nat) (vb B:Nat) (w:World) (h:Own cItem 162 B w (.slice A n cp) xs Fi) (hd:∀g,Zac (.slice A n cp)=some g→g∉Fi∧g∉Fy∧g≠vb) (hxn:xs.length=n) (hi:i≤n) (hn:n≤1048576)
  (hv:Blk w vb 162 vs) (hy:cItem.rep w vs.toList y Fy) (hB:B≤w.heap.size) :
  Calls Tryz.prog 175 #[.slice A n cp,.int .i64 i,.slice (some ⟨vb,0,none⟩) 1 1] w (Zei cItem 162 B w (.slice A n cp) xs Fi i y Fy):=by
 obtain⟨i0,hi0,hz0,hz1,hz2⟩:=info_parts Zds
 have hvl:=cItem.len hy
 have hvo:=cItem.ones hy
 have hsrc0:AppSrc cItem w (.slice (some ⟨vb,0,none⟩) 1 1) [y] Fy:=Zeu hy (λj u hu=>by rw[hv.cell];simpa using hu)
 have hncp:n≤cp∧cp≤maxLen:=by
  rcases h.form with ⟨rfl,-,A',hv'⟩|⟨g,cap,cur,us,hv',hB',hh,hnc,hcm,-⟩
  ·simp only[Value.slice.injEq] at hv';unfold maxLen;simp at hxn;omega
  ·simp only[Value.slice.injEq] at hv';omega
 obtain⟨hnc,hcm⟩:=hncp
 have HX:=zh hxn
 by_cases hin:i=n
 ·subst hin
  have HO:=zh (And.intro h (And.intro hsrc0 hd))
  clear h hsrc0 hd hv hy hvo
  unfold maxLen at hcm
  have hcpi:i=cp∨¬cp=i:=by omega
  rcases hcpi with rfl|hcpi
  all_goals
   go_enter Tryz.func175,Tryz.ntmps175
   go_wp2_with (at_builtin;refine Zl (c:=cItem) (B:=B) (xs:=xs) (ys:=[y]) (Fi:=Fi) (Fy:=Fy) _ rfl _ _ _ rfl i0 _ _ Tryz.underlying122 hi0 hz0 hz1 hz2 rfl (by decide) rfl HO.out.1 (.slice (some ⟨vb,0,none⟩) 1 1) rfl HO.out.2.1 (by have:=HX.out;unfold maxLen;simp;omega) (by have:=HX.out;simp;omega) hB (λg hg=>⟨(HO.out.2.2 g hg).1,(HO.out.2.2 g hg).2.1⟩) ?_)
   intro v' w' ho' hg' hat'
   obtain⟨A',cp',e'⟩:=ho'.slice
   rw[List.length_append,List.length_singleton] at e'
   subst e'
   have HE:=zh (And.intro ho' (And.intro hg' hat'))
   clear ho' hg' hat'
   go_wp2_with fail
   go_ret
   have htk:xs.take i=xs:=List.take_of_length_le (by have:=HX.out;omega)
   have hdp:xs.drop i=[]:=List.drop_of_length_le (by have:=HX.out;omega)
   exact⟨A',cp',Fi,[],rfl,by simp,by rw[htk,hdp,List.append_nil];exact HE.out.1,HE.out.2.1,HE.out.2.2⟩
 ·have hil:i<n:=by omega
  obtain⟨g,cur,u1,u2,F1,F2,rfl,-,-,-,hblk,hcz,htk,hu1,hu2,hBg,hgo,rfl,r1,r2⟩:=h.parts (i:=i) (by omega) (by omega)
  have hgd:=hd g hgo
  have hgw:g<w.heap.size:=hblk.lt
  have hvw:vb<w.heap.size:=hv.lt
  have hone1:=Cod.reps_ones r1
  have hone2:=Cod.reps_ones r2
  rw[show (cItem).wd=4 from rfl] at *
  have hw1:IntKind.i64.wrap ((i:Int)+1)=(i:Int)+1:=IntWalk.i64_in _ (by omega)
  have hw2:IntKind.i64.wrap ((n:Int)+1)=(n:Int)+1:=IntWalk.i64_in _ (by omega)
  have hci:¬cp=i:=by omega
  have hni:¬(i:Int)=(n:Int):=by omega
  unfold maxLen at hcm
  have HM:=zh (And.intro h (And.intro hblk (And.intro hcz (And.intro htk (And.intro r1 (And.intro r2 (And.intro hv hy)))))))
  clear h hblk hcz htk r1 r2 hv hy hd hsrc0
  by_cases hroom:n+1≤cp
  ·have hnr:¬((cp:Int)<(n:Int)+1):=by omega
   have hci1:¬cp=i+1:=by omega
   have hov:∀lb cb,(callFunc 184 #[.slice (some ⟨vb,0,none⟩) 1 1,.slice (some ⟨g,(i+1)*4,none⟩) lb cb]).run Tryz.prog w=.ok (.value (.bool false)) w:=λlb cb=>by
    rw[run_callFunc_extern Tryz.func184 (by kernel_rfl) (by kernel_rfl) (by kernel_rfl) (e:=Extern.SlicesOverlaps.overlaps #[122,122] #[4]) (by kernel_rfl),
     Lib.run_overlaps_apart w 122 4 162 Tryz.underlying122 4 (λw=>by simp[sizeOf,typeInfo,hi0,hz1]) ⟨vb,0,none⟩ ⟨g,(i+1)*4,none⟩ 1 1 lb cb (Ne.symm hgd.2.2) 162 162 vs.size cur.size (by have:=HM.out.2.2.2.2.2.2.1;unfold Blk at this;simp[World.shape?,this]) (by have:=HM.out.2.1;unfold Blk at this;simp[World.shape?,this]) (by rw[HM.out.2.2.1];omega) (HM.out.2.2.2.2.2.2.1.frozen 0) (HM.out.2.2.2.2.2.2.1.frozen _)]
    rfl
   go_enter Tryz.func175,Tryz.ntmps175
   go_wp2_with (simp only[hov])
   have hi01:(0:Int)≤(i:Int)+1:=by omega
   have hi02:(i:Int)≤(n:Int)+1:=by omega
   have hmin1:Nat.min (n+1-i) (n-i)=n-i:=by simp only[Nat.min_def];split<;>omega
   have hmin2:Nat.min 1 (n+1-i)=1:=by simp only[Nat.min_def];split<;>omega
   have hu2f:(i+1)*4+u2.length≤cur.size:=by rw[hu2,HM.out.2.2.1];omega
   have hcell2:∀j v,u2[j]?=some v→w.cell? ⟨g,i*4+j,none⟩=some v:=λj v hj=>by
    have hjl:=(List.getElem?_eq_some_iff.1 hj).1
    rw[HM.out.2.1.cell,← Array.getElem?_toList]
    have h1:=congrArg (λl=>l[i*4+j]?) HM.out.2.2.2.1
    rw[List.getElem?_take_of_lt (by omega),List.getElem?_append_right (by omega),hu1,Nat.add_sub_cancel_left,hj] at h1
    exact h1
   have hcl:cur.toList.length=cp*4:=by rw[Array.length_toList];exact HM.out.2.2.1
   have hspl:(cur.toList.take ((i+1)*4)++u2++cur.toList.drop ((i+1)*4+u2.length)).length=cp*4:=by rw[Zaq (by rw[hcl];rw[HM.out.2.2.1] at hu2f;exact hu2f)];exact hcl
   refine ZaE (S:=(λ_=>True)) [8] (by kernel_rfl) (by (try dsimp only);(first|done|trivial)) (λhHeld=>?_)
   refine zrdT (i:=0) 9 69 ?_
   refine zrdT (i:=1) 9 70 ?_
   refine zrdT (i:=2) 9 71 ?_
   refine zrdT (i:=3) 9 72 ?_
   refine zrdT (i:=4) 9 73 ?_
   refine zrdT (i:=5) 9 74 ?_
   refine zrdT (i:=6) 9 75 ?_
   refine zrdT (i:=7) 9 76 ?_
   try simp only[Act.put,zp0,zp1,zp2]
   refine ZT 8 (by kernel_rfl) rfl (by kernel_rfl) (λK hK=>?_)
   (refine ZeE _ rfl _ _ _ _ 162 rfl g ((i+1)*4) (n-i) (cp-(i+1)) ⟨g,i*4,none⟩ (n+1-i) (cp-i) rfl rfl cur 162 u2 (n-i) 4 Tryz.underlying122 i0 hi0 hz1 (by exact HM.out.2.1) hmin1 hu2 (λj v hj=>by rw[Addr.add_lit];exact hcell2 j v hj) hu2f hone2 ?_;intro w2 hr2)
   refine hK.out _ _ ?_
   clear hK K
   refine Zfa (by kernel_rfl) ?_ _
   have HR2:=zh hr2
   clear hr2 hcell2
   obtain⟨w3,hcp3,hr3⟩:∃w3,(∀ty,(Builtin.copy_ #[122,122] ty #[.slice (some ⟨g,i*4,none⟩) (n+1-i) (cp-i),.slice (some ⟨vb,0,none⟩) 1 1]).run Tryz.prog w2=.ok (goInt 1) w3)∧RowSet w2 w3 g 162 _ :=
    ⟨_,λty=>Zcx w2 _ _ ty 162 g (i*4) (n+1-i) (cp-i) ⟨vb,0,none⟩ 1 1 _ 162 vs.toList 1 4 Tryz.underlying122 i0 hi0 hz1 HR2.out.blk hmin2 (by rw[hvl]) (λj v hj=>by rw[Addr.add_lit,Nat.zero_add,World.cell?_of_block (a:=⟨vb,j,none⟩) (HR2.out.other vb (Ne.symm hgd.2.2)),show w.drew.cell? ⟨vb,j,none⟩=w.cell? ⟨vb,j,none⟩ from rfl,HM.out.2.2.2.2.2.2.1.cell];simpa using hj) (by rw[List.size_toArray,hspl,hvl];omega) hvo,RowSet.mk_ HR2.out.blk _⟩
   have HR3:=zh hr3
   clear hr3
   go_wp2_with fail
   go_ret
   have e1:(i+1)*4=i*4+4:=by omega
   have e2:(n+1)*4=i*4+4+u2.length:=by rw[hu2];omega
   have ht:=ZjD (L0:=cur.toList) (u1:=u1) (u2:=u2) (vs:=vs.toList) (a:=i*4) (b:=4) (by rw[show i*4+u2.length=n*4 by rw[hu2];omega];exact HM.out.2.2.2.1) hu1 hvl (by rw[hcl,hu2];omega)
   have hblk3:=HR3.out.blk
   rw[List.toList_toArray,e1] at hblk3
   have hk3:∀b,b≠g→w3.heap[b]?=w.heap[b]?:=λb hb=>(HR3.out.other b hb).trans ((HR2.out.other b hb).trans rfl)
   have hgr:w.grownBy w3 (some g):=⟨HR3.out.os.trans HR2.out.os,HR3.out.tape.trans HR2.out.tape,HR3.out.output.trans HR2.out.output,by rw[HR3.out.size,HR2.out.size];exact Nat.le_refl _,λb _ hne=>hk3 b (λe=>hne (by rw[e]))⟩
   simp only[Zei,HX.out]
   refine⟨some ⟨g,0,none⟩,cp,F1,F2,rfl,rfl,?_,by rw[hgo];exact hgr,λg' hg'=>.inl (by cases cp with|zero=>omega|succ m=>exact hg')⟩
   exact Own.of_parts (c:=cItem) hBg hblk3 (by rw[List.size_toArray,Zaq (by rw[Zaq (by rw[hcl,hu2];show i*4+4+(n-i)*4≤_;omega),hcl,hvl];show i*4+4≤_;omega),Zaq (by rw[hcl,hu2];show i*4+4+(n-i)*4≤_;omega)];exact hcl) (by rw[List.length_take,List.length_drop,HX.out];omega) (by show List.take ((n+1)*4) _=_;rw[List.toList_toArray,e2];exact ht) hroom (by unfold maxLen;exact hcm)
    (Cod.reps_keep HM.out.2.2.2.2.1 λb hb=>hk3 b (λe=>hgd.1 (by rw[← e];simp[hb]))) (Cod.keep _ HM.out.2.2.2.2.2.2.2 λb hb=>hk3 b (λe=>hgd.2.1 (by rw[← e];exact hb))) (Cod.reps_keep HM.out.2.2.2.2.2.1 λb hb=>hk3 b (λe=>hgd.1 (by rw[← e];simp[hb])))
  ·have hnr:(cp:Int)<(n:Int)+1:=by omega
   obtain⟨k,hk⟩:∃k,n+1-i=k:=⟨_,rfl⟩
   have hk0:0<k:=by omega
   have hik:i+k=n+1:=by omega
   have hwk:IntKind.i64.wrap ((n:Int)+1-(i:Int))=(k:Int):=by rw[IntWalk.i64_in _ (by omega)];omega
   have hwk2:(n:Int)+1-(i:Int)=(k:Int):=by omega
   have hcell1:∀j v,u1[j]?=some v→w.cell? ⟨g,j,none⟩=some v:=λj v hj=>by
    have hjl:=(List.getElem?_eq_some_iff.1 hj).1
    rw[HM.out.2.1.cell,← Array.getElem?_toList]
    have h1:=congrArg (λl=>l[j]?) HM.out.2.2.2.1
    rw[List.getElem?_take_of_lt (by omega),List.getElem?_append_left (by omega),hj] at h1
    exact h1
   go_enter Tryz.func175,Tryz.ntmps175
   go_wp2_with (at_builtin;refine Zhc _ rfl _ _ _ 3 162 rfl i0 _ Tryz.underlying122 Tryz.underlying3 hi0 hz0 ⟨g,0,none⟩ i cp k rfl rfl u1 (by rw[hu1,hz1]) (λj v hj=>by rw[Addr.add_lit,Nat.zero_add];exact hcell1 j v hj) hk0 (by rw[hz1];decide) (by omega) (by unfold maxLen;omega) (by rw[hz2];omega) ?_)
   intro G w1 hG hGm hblk1 hgr1 hsz1
   have hR0:∃R0:Array Value,Blk w1 w.heap.size 162 R0∧R0.size=G*4∧R0.toList.take (i*4)=u1:=by
    refine⟨_,hblk1,?_,?_⟩
    ·simp only[Array.size_append,List.size_toArray,hu1];simp[Builtin.zeroCells];omega
    ·rw[Array.toList_append,List.toList_toArray,List.take_left' hu1]
   obtain⟨R0,hb1,hs0,ht0⟩:=hR0
   have hRl:R0.toList.length=G*4:=by rw[Array.length_toList];exact hs0
   unfold maxLen at hGm
   have hGi:¬G=i:=by omega
   have hGi1:¬G=i+1:=by omega
   have hi01:(0:Int)≤(i:Int)+1:=by omega
   have hi02:(i:Int)≤(n:Int)+1:=by omega
   have hmin2:Nat.min 1 (n+1-i)=1:=by simp only[Nat.min_def];split<;>omega
   have hmin1:Nat.min (n-i) (n-i)=n-i:=by simp only[Nat.min_def];split<;>omega
   have hvN:vb≠w.heap.size:=by omega
   have hgN:g≠w.heap.size:=by omega
   have H1:=zh (And.intro hb1 hgr1)
   clear hblk1 hb1 hgr1 hk hwk hwk2 hcell1
   obtain⟨w2,hcp2,hr2⟩:∃w2,(∀ty,(Builtin.copy_ #[122,122] ty #[.slice (some ⟨w.heap.size,i*4,none⟩) (n+1-i) (G-i),.slice (some ⟨vb,0,none⟩) 1 1]).run Tryz.prog w1=.ok (goInt 1) w2)∧RowSet w1 w2 w.heap.size 162 _ :=
    ⟨_,λty=>Zcx w1 _ _ ty 162 w.heap.size (i*4) (n+1-i) (G-i) ⟨vb,0,none⟩ 1 1 _ 162 vs.toList 1 4 Tryz.underlying122 i0 hi0 hz1 H1.out.1 hmin2 (by rw[hvl]) (λj v hj=>by rw[Addr.add_lit,Nat.zero_add,World.cell?_of_block (a:=⟨vb,j,none⟩) (H1.out.2.block vb hvw (by simp)),HM.out.2.2.2.2.2.2.1.cell];simpa using hj) (by rw[hs0,hvl];omega) hvo,RowSet.mk_ H1.out.1 _⟩
   have HR2:=zh hr2
   clear hr2
   have hspl:(R0.toList.take (i*4)++vs.toList++R0.toList.drop (i*4+vs.toList.length)).length=G*4:=by rw[Zaq (by rw[hRl,hvl];omega)];exact hRl
   have hcell2:∀j v,u2[j]?=some v→w2.cell? ⟨g,i*4+j,none⟩=some v:=λj v hj=>by
    have hjl:=(List.getElem?_eq_some_iff.1 hj).1
    rw[World.cell?_of_block (a:=⟨g,i*4+j,none⟩) ((HR2.out.other g hgN).trans (H1.out.2.block g hgw (by simp))),HM.out.2.1.cell,← Array.getElem?_toList]
    have h1:=congrArg (λl=>l[i*4+j]?) HM.out.2.2.2.1
    rw[List.getElem?_take_of_lt (by omega),List.getElem?_append_right (by omega),hu1,Nat.add_sub_cancel_left,hj] at h1
    exact h1
   have hfit2:(i+1)*4+u2.length≤G*4:=by rw[hu2];omega
   go_upto_region 11 with (fail)
   refine ZaE (S:=(λ_=>True)) [8] (by kernel_rfl) (by (try dsimp only);(first|done|trivial)) (λhHeld=>?_)
   refine zrdT (i:=0) 9 46 ?_
   refine zrdT (i:=1) 9 47 ?_
   refine zrdT (i:=2) 9 48 ?_
   refine zrdT (i:=3) 9 49 ?_
   refine zrdT (i:=4) 9 50 ?_
   refine zrdT (i:=5) 9 51 ?_
   refine zrdT (i:=6) 9 52 ?_
   refine zrdT (i:=7) 9 53 ?_
   try simp only[Act.put,zp0,zp1,zp2]
   refine ZT 8 (by kernel_rfl) rfl (by kernel_rfl) (λK hK=>?_)
   (refine ZeE _ rfl _ _ _ _ 162 rfl w.heap.size ((i+1)*4) (n-i) (G-(i+1)) ⟨g,i*4,none⟩ (n-i) (cp-i) rfl rfl _ 162 u2 (n-i) 4 Tryz.underlying122 i0 hi0 hz1 (by exact HR2.out.blk) hmin1 hu2 (λj v hj=>by rw[Addr.add_lit];exact hcell2 j v hj) (by rw[List.size_toArray,hspl];exact hfit2) hone2 ?_;intro w3 hr3)
   refine hK.out _ _ ?_
   clear hK K
   refine Zfa (by kernel_rfl) ?_ _
   have HR3:=zh hr3
   clear hr3 hcell2
   go_wp2_with fail
   go_ret
   have e1:(i+1)*4=i*4+4:=by omega
   have e2:(n+1)*4=i*4+4+u2.length:=by rw[hu2];omega
   have ht:=Zlk (u1:=u1) (u2:=u2) (vs:=vs.toList) (R:=R0.toList) (a:=i*4) (b:=4) ht0 hu1 hvl (by rw[hRl,hu2];omega)
   have hblk3:=HR3.out.blk
   rw[List.toList_toArray,e1] at hblk3
   have hk3:∀b,b<w.heap.size→w3.heap[b]?=w.heap[b]?:=λb hb=>(HR3.out.other b (by omega)).trans ((HR2.out.other b (by omega)).trans (H1.out.2.block b hb (by simp)))
   have hgr:w.grownBy w3 (some g):=⟨HR3.out.os.trans (HR2.out.os.trans H1.out.2.os),HR3.out.tape.trans (HR2.out.tape.trans H1.out.2.tape),HR3.out.output.trans (HR2.out.output.trans H1.out.2.output),by have h9:=HR3.out.size;have h8:=HR2.out.size;(try simp at h9);omega,λb hb _=>hk3 b hb⟩
   simp only[Zei,HX.out]
   refine⟨some ⟨w.heap.size,0,none⟩,G,F1,F2,rfl,rfl,?_,by rw[hgo];exact hgr,λg' hg'=>.inr (by cases G with|zero=>omega|succ m=>simp only[Zac,Option.some.injEq] at hg';omega)⟩
   exact Own.of_parts (c:=cItem) hB hblk3 (by rw[List.size_toArray,Zaq (by rw[hspl,hu2];show i*4+4+(n-i)*4≤_;omega)];exact hspl) (by rw[List.length_take,List.length_drop,HX.out];omega) (by show List.take ((n+1)*4) _=_;rw[List.toList_toArray,e2];exact ht) hG (by unfold maxLen;exact hGm)
    (Cod.reps_keep HM.out.2.2.2.2.1 λb hb=>hk3 b (Cod.reps_lt HM.out.2.2.2.2.1 b hb)) (Cod.keep _ HM.out.2.2.2.2.2.2.2 λb hb=>hk3 b (Cod.lt _ HM.out.2.2.2.2.2.2.2 b hb)) (Cod.reps_keep HM.out.2.2.2.2.2.1 λb hb=>hk3 b (Cod.reps_lt HM.out.2.2.2.2.2.1 b hb))
end Go.Proofs.YtghndifnohkokaaGreat
