import Derived.Test.YtghndifnohkokaaGreatZRunOpP
import Derived.Test.YtghndifnohkokaaGreatZDecRecI
namespace Go.Proofs.YtghndifnohkokaaGreat
open Go.ChangeShapes Go.WideShapes Go.RowKit
set_option linter.unusedVariables false
set_option linter.unusedSimpArgs false
set_option maxRecDepth 100000
set_option maxHeartbeats 16000000
theorem Zlj (xs:List UInt8):cUS.sz xs=xs.length:=Cod.szs_flat (c:=cU) (λ_=>rfl) xs
theorem Zcj {k:TDisk} (h:cDisk.sz k≤1048576):Zbl k.base∧k.log.length≤1048576:=by
 have hsz:cDisk.sz k=k.base.name.size+(0+(cStoreS.sz k.base.stores+(cIdxS.sz k.base.uniq+(cUS.sz k.log+0)))):=rfl
 have h1:=Cod.len_le cStore k.base.stores;have h2:=Cod.len_le cIdx k.base.uniq;have h3:=Zlj k.log;have e1:cStoreS.sz k.base.stores=cStore.szs k.base.stores:=rfl
 have e2:cIdxS.sz k.base.uniq=cIdx.szs k.base.uniq:=rfl
 refine⟨⟨by omega,by omega,λs hs=>?_⟩,by omega⟩
 have h4:=Cod.sz_mem cStore _ s hs;have e4:cStore.sz s=s.name.size+(cItemS.sz s.items+0):=rfl
 have h5:=Cod.len_le cItem s.items;have e5:cItemS.sz s.items=cItem.szs s.items:=rfl
 refine⟨by omega,λx hx=>?_⟩
 have h6:=Cod.sz_mem cItem _ x hx;have e6:cItem.sz x=0+(0+(x.key.text.size+cFieldS.sz x.rcd.fields)):=rfl
 have h7:=Cod.len_le cField x.rcd.fields;have e7:cFieldS.sz x.rcd.fields=cField.szs x.rcd.fields:=rfl
 show x.rcd.fields.length≤1048576
 omega
theorem ZkM {d:TDb} {i:Nat} {es:List (List UInt8)} {m:Nat} (hm:m<es.length) (h:(ZW es[m]).2=true):Zab d i (es.drop m)=Zab (Zba d (ZW es[m]).1).1 (i+1) (es.drop (m+1)):=by
 rw[List.drop_eq_getElem_cons hm,Zab,h];rfl
theorem ZkN {d:TDb} {i:Nat} {es:List (List UInt8)} {m:Nat} (hm:m<es.length) (h:(ZW es[m]).2=false):Zab d i (es.drop m)=(d,i):=by
 rw[List.drop_eq_getElem_cons hm,Zab,h];rfl
theorem Zmy {d:TDb} {i:Nat} {es:List (List UInt8)} {m:Nat} (hm:es.length≤m):Zab d i (es.drop m)=(d,i):=by
 rw[List.drop_eq_nil_of_le hm,Zab]
theorem Zfh:∀(es:List (List UInt8)) (d:TDb) (i:Nat),i≤(Zab d i es).2∧(Zab d i es).2≤i+es.length
 | [],d,i=>by simp[Zab]
 | e::es,d,i=>by
  rw[Zab]
  cases (ZW e).2 with
  | false=>simp
  | true =>
   have h:=Zfh es (Zba d (ZW e).1).1 (i+1)
   simp only[cond_true,List.length_cons]
   omega
theorem Zdz:∀(es:List (List UInt8)) {d:TDb} (i:Nat),Zbl d→Zbl (Zab d i es).1
 | [],d,i,h=>by simpa [Zab] using h
 | e::es,d,i,h=>by
  rw[Zab]
  cases (ZW e).2 with
  | false=>exact h
  | true=>exact Zdz es (i+1) (Zet h)
theorem Zmi {w:World} {A:Option Addr} {n cp k:Nat} {es:List (List UInt8)} {F:List Nat} (h:cUSS.rep w [.slice A n cp] es F) (hk:k<es.length):∃g o A3 c3 F3,A=some ⟨g,o,none⟩∧g∈F∧g<w.heap.size∧w.cell? ⟨g,o+k,none⟩=some (.slice A3 es[k].length c3)∧cUS.rep w [.slice A3 es[k].length c3] es[k] F3∧(∀b,b∈F3→b∈F):=by
 obtain⟨g,o,vs,F1,rfl,hg,hx,hs,hc⟩:=ZN (hw:=by decide) (hw2:=by decide) h hk
 obtain⟨v3,e3⟩:∃v3,vs=[v3]:=by obtain⟨A3,c3,hv,-⟩:=hx;exact⟨_,hv⟩
 subst e3;obtain⟨A3,c3,rfl⟩:=Zb hx;refine⟨g,o,A3,c3,F1,rfl,hg,Cod.lt _ h g hg,?_,hx,hs⟩
 have h9:=(hc 0 _ rfl).1
 rw[show (cUS).wd=1 from rfl,Nat.mul_one,Nat.add_zero] at h9
 exact h9
def ZpK (w:World) (r:TDb×Nat) (e:Ending) (w':World):Prop:=∃vs F,e=.returned (.tuple #[.agg vs,.int .i64 r.2])∧Below w.heap.size w w'∧cDb.rep w' vs.toList r.1 F∧Lo w.heap.size F
def ZoI (w:World) (r:TDb×Nat) (e:Ending) (w':World):Prop:=∃vs F,e=.returned (.tuple #[.agg vs,.int .i64 r.2])∧Below w.heap.size w w'∧cDb.rep w' vs.toList r.1 F∧Fresh w.heap.size F
theorem Zhg (vs:Array Value) (k:TDisk) (F:List Nat) (w:World) (h:cDisk.rep w vs.toList k F) (hsz:cDisk.sz k≤1048576) :
  Calls Tryz.prog 36 #[.agg vs] w (ZaT cDisk w k):=by
 obtain⟨i0,hi0,iz0,iz1,iz2⟩:=info_parts Zcs;obtain⟨hsm,hlg⟩:=Zcj hsz;obtain⟨v2,v3,v4,F2,F3,F4,rfl,rfl,hok,m2,m3,m4⟩:=TDisk.outA h;obtain⟨A,cp,rfl⟩:=Zb m2;obtain⟨U,cu,rfl⟩:=Zb m3;obtain⟨L,cl,rfl⟩:=Zb m4;have hbok:k.base.Ok:=⟨hok.h0,hok.h1⟩
 go_enter Tryz.func36,Tryz.ntmps36
 go_wp2_with fail;generalize hV_:World.alloc _ _=V
 have hbV:Below w.heap.size w V:=by rw[← hV_];exact bl
 have hVs:V.heap.size=w.heap.size+2:=by rw[← hV_];clear hV_;simp
 have hVq:w.heap.size+1<V.heap.size:=by omega
 have a0:V.cell? ⟨w.heap.size,0,none⟩=some (.string k.base.name):=by rw[← hV_];clear hV_;go_simp
 have a1:V.cell? ⟨w.heap.size,1,none⟩=some (.int .i64 k.base.ver):=by rw[← hV_];clear hV_;go_simp
 have a2:V.cell? ⟨w.heap.size,2,none⟩=some (.slice A k.base.stores.length cp):=by rw[← hV_];clear hV_;go_simp
 have a3:V.cell? ⟨w.heap.size,3,none⟩=some (.slice U k.base.uniq.length cu):=by rw[← hV_];clear hV_;go_simp
 have a4:V.cell? ⟨w.heap.size,4,none⟩=some (.slice L k.log.length cl):=by rw[← hV_];clear hV_;go_simp
 have a5:V.cell? ⟨w.heap.size,5,none⟩=some (.int .i64 k.count):=by rw[← hV_];clear hV_;go_simp
 have q0:V.cell? ⟨w.heap.size+1,0,none⟩=some (.string ⟨#[]⟩):=by rw[← hV_];clear hV_;go_simp
 have fq0:V.frozen? ⟨w.heap.size+1,0,none⟩=false:=by rw[← hV_];clear hV_;go_simp
 have q1:V.cell? ⟨w.heap.size+1,1,none⟩=some (.int .i64 0):=by rw[← hV_];clear hV_;go_simp
 have fq1:V.frozen? ⟨w.heap.size+1,1,none⟩=false:=by rw[← hV_];clear hV_;go_simp
 have q2:V.cell? ⟨w.heap.size+1,2,none⟩=some (.slice none 0 0):=by rw[← hV_];clear hV_;go_simp
 have fq2:V.frozen? ⟨w.heap.size+1,2,none⟩=false:=by rw[← hV_];clear hV_;go_simp
 have q3:V.cell? ⟨w.heap.size+1,3,none⟩=some (.slice none 0 0):=by rw[← hV_];clear hV_;go_simp
 have fq3:V.frozen? ⟨w.heap.size+1,3,none⟩=false:=by rw[← hV_];clear hV_;go_simp
 have q4:V.cell? ⟨w.heap.size+1,4,none⟩=some (.slice none 0 0):=by rw[← hV_];clear hV_;go_simp
 have fq4:V.frozen? ⟨w.heap.size+1,4,none⟩=false:=by rw[← hV_];clear hV_;go_simp
 have q5:V.cell? ⟨w.heap.size+1,5,none⟩=some (.int .i64 0):=by rw[← hV_];clear hV_;go_simp
 have fq5:V.frozen? ⟨w.heap.size+1,5,none⟩=false:=by rw[← hV_];clear hV_;go_simp
 clear hV_;have hVV:Below V.heap.size V V:=Below.refl _ _
 have hVC:Below (w.heap.size+1) V V:=Below.refl _ _
 have hVb:w.heap.size<w.heap.size+1:=Nat.lt_succ_self _
 have hS:∀w9,Below (w.heap.size+1) V w9→Below (w.heap.size+1) V w9∧w9.cell? ⟨w.heap.size,0,none⟩=some (.string k.base.name)∧w9.cell? ⟨w.heap.size,1,none⟩=some (.int .i64 k.base.ver)∧w9.cell? ⟨w.heap.size,2,none⟩=some (.slice A k.base.stores.length cp)∧w9.cell? ⟨w.heap.size,3,none⟩=some (.slice U k.base.uniq.length cu)∧w9.cell? ⟨w.heap.size,4,none⟩=some (.slice L k.log.length cl)∧w9.cell? ⟨w.heap.size,5,none⟩=some (.int .i64 k.count) :=
  λw9 hb=>⟨hb,(World.cell?_of_block (a:=⟨w.heap.size,0,none⟩) (hb.block w.heap.size hVb)).trans a0,(World.cell?_of_block (a:=⟨w.heap.size,1,none⟩) (hb.block w.heap.size hVb)).trans a1,(World.cell?_of_block (a:=⟨w.heap.size,2,none⟩) (hb.block w.heap.size hVb)).trans a2,(World.cell?_of_block (a:=⟨w.heap.size,3,none⟩) (hb.block w.heap.size hVb)).trans a3,(World.cell?_of_block (a:=⟨w.heap.size,4,none⟩) (hb.block w.heap.size hVb)).trans a4,(World.cell?_of_block (a:=⟨w.heap.size,5,none⟩) (hb.block w.heap.size hVb)).trans a5⟩
 refine wp_region_held_drew (S:=(λw9=>Below (w.heap.size+1) V w9∧w9.cell? ⟨w.heap.size,0,none⟩=some (.string k.base.name)∧w9.cell? ⟨w.heap.size,1,none⟩=some (.int .i64 k.base.ver)∧w9.cell? ⟨w.heap.size,2,none⟩=some (.slice A k.base.stores.length cp)∧w9.cell? ⟨w.heap.size,3,none⟩=some (.slice U k.base.uniq.length cu)∧w9.cell? ⟨w.heap.size,4,none⟩=some (.slice L k.log.length cl)∧w9.cell? ⟨w.heap.size,5,none⟩=some (.int .i64 k.count))) (by kernel_rfl) (by (try dsimp only);exact hS _ (by repeat (first|with_reducible exact Below.refl _ _|with_reducible assumption|with_reducible refine Zat (by first|assumption|omega) ?_ _|with_reducible refine Zel ?_|with_reducible refine Zqr ?_ _|with_reducible refine ZcN (by first|exact Nat.le_refl _|(show _≤_;simp;done)|(show _≤_;simp;omega)|(show _≤_;omega)) ?_ _))) (λhHeld=>?_)
 refine zrd (i:=0) 3 ?_;refine zrd (i:=1) 4 ?_;refine zrd (i:=3) 6 ?_;refine zrd (i:=4) 7 ?_;(try simp only[Act.put,zp0,zp1,zp2]);refine zrd (i:=6) 9 ?_;refine zrd (i:=7) 10 ?_;(try simp only[Act.put,zp0,zp1,zp2]);refine zst 2 (λK hK=>?_)
 go_simp
 (first|(go_at_call 50;refine(ZaF #[_,_,_,_] k.base _ _ (by exact TDb.mk_ hbok (zb m2 (Za hbV bl)) (zb m3 (Za hbV bl))) hsm).mono ?_;intro e w1 hcr;obtain⟨B1,c1,FB,V1,cv1,GU,rfl,hb1,-,hr1,hl1,hu1,hm1,hnd1⟩:=dbF hcr;have hB1:=zt (w:=V) hb1;have hC1:Below (w.heap.size+1) V w1:=hB1.mono (by omega);have hz1:=hB1.size;have hlt1:∀b,b∈FB++GU→b<w1.heap.size:=(λb hb=>(List.mem_append.1 hb).elim (Cod.lt _ hr1 b) (Cod.lt _ hu1 b));have HF1:=zh (show Fresh V.heap.size (FB++GU) from ⟨λb hb=>by have h8:=(List.mem_append.1 hb).elim (hl1 b) (hm1 b);(try simp at h8);omega,hnd1⟩);have HP1:=zh (And.intro hr1 (And.intro hu1 hlt1));clear hcr hl1 hm1 hnd1)|(go_at_call 71;refine(Zam _ k.log F4 _ (by exact zb m4 (Za hbV bl)) (by omega)).mono ?_;rintro e w2 ⟨v2,rfl,hb2,ho2⟩;obtain⟨B2,c2,e9⟩:=ho2.slice;subst e9;have hB2:=zt (w:=V) hb2;have hC2:Below (w.heap.size+1) V w2:=hB2.mono (by omega);have hbw2:Below w.heap.size w w2:=Za hbV hB2;have hb12:=zt (w:=w1) hb2;obtain⟨FL,hrL,hfL,-⟩:=ho2.fresh (hw:=by decide) (hw2:=by decide);have hz2:=hB2.size;have hzw2:w.heap.size+1<w2.heap.size:=(by omega);have HX:=zh (show cStoreS.rep w2 [.slice B1 k.base.stores.length c1] k.base.stores FB∧cIdxS.rep w2 [.slice V1 k.base.uniq.length cv1] k.base.uniq GU∧cUS.rep w2 [.slice B2 k.log.length c2] k.log FL∧(∀b,b∈FL→V.heap.size≤b)∧Fresh w.heap.size (FB++GU++FL) from ⟨zb HP1.out.1 hb12,zb HP1.out.2.1 hb12,hrL,λb hb=>by have h9:=hfL.1 b hb;(try simp at h9);omega,Fresh.app (C:=w1.heap.size) (HF1.out.mono (by omega)) HP1.out.2.2 (hfL.mono (by (try simp);(try omega))) (by omega)⟩);clear ho2 hrL hfL;have p0:w2.cell? ⟨w.heap.size+1,0,none⟩=_:=zcl hB2 q0;have fp0:w2.frozen? ⟨w.heap.size+1,0,none⟩=false:=zcf hB2 fq0;have p1:w2.cell? ⟨w.heap.size+1,1,none⟩=_:=zcl hB2 q1;have fp1:w2.frozen? ⟨w.heap.size+1,1,none⟩=false:=zcf hB2 fq1;have p2:w2.cell? ⟨w.heap.size+1,2,none⟩=_:=zcl hB2 q2;have fp2:w2.frozen? ⟨w.heap.size+1,2,none⟩=false:=zcf hB2 fq2;have p3:w2.cell? ⟨w.heap.size+1,3,none⟩=_:=zcl hB2 q3;have fp3:w2.frozen? ⟨w.heap.size+1,3,none⟩=false:=zcf hB2 fq3;have p4:w2.cell? ⟨w.heap.size+1,4,none⟩=_:=zcl hB2 q4;have fp4:w2.frozen? ⟨w.heap.size+1,4,none⟩=false:=zcf hB2 fq4;have p5:w2.cell? ⟨w.heap.size+1,5,none⟩=_:=zcl hB2 q5;have fp5:w2.frozen? ⟨w.heap.size+1,5,none⟩=false:=zcf hB2 fq5))
 try go_wp2_with fail
 refine hK.out _ _ ?_ (λhHeld=>?_)
 ·(try dsimp only)
  exact hS _ (by repeat (first|with_reducible exact Below.refl _ _|with_reducible assumption|with_reducible refine Zat (by first|assumption|omega) ?_ _|with_reducible refine Zel ?_|with_reducible refine Zqr ?_ _|with_reducible refine ZcN (by first|exact Nat.le_refl _|(show _≤_;simp;done)|(show _≤_;simp;omega)|(show _≤_;omega)) ?_ _))
 clear hK K;(try simp only[Act.put,zp0,zp1,zp2]);refine zst 5 (λK hK=>?_)
 go_simp
 (first|(go_at_call 50;refine(ZaF #[_,_,_,_] k.base _ _ (by exact TDb.mk_ hbok (zb m2 (Za hbV bl)) (zb m3 (Za hbV bl))) hsm).mono ?_;intro e w1 hcr;obtain⟨B1,c1,FB,V1,cv1,GU,rfl,hb1,-,hr1,hl1,hu1,hm1,hnd1⟩:=dbF hcr;have hB1:=zt (w:=V) hb1;have hC1:Below (w.heap.size+1) V w1:=hB1.mono (by omega);have hz1:=hB1.size;have hlt1:∀b,b∈FB++GU→b<w1.heap.size:=(λb hb=>(List.mem_append.1 hb).elim (Cod.lt _ hr1 b) (Cod.lt _ hu1 b));have HF1:=zh (show Fresh V.heap.size (FB++GU) from ⟨λb hb=>by have h8:=(List.mem_append.1 hb).elim (hl1 b) (hm1 b);(try simp at h8);omega,hnd1⟩);have HP1:=zh (And.intro hr1 (And.intro hu1 hlt1));clear hcr hl1 hm1 hnd1)|(go_at_call 71;refine(Zam _ k.log F4 _ (by exact zb m4 (Za hbV bl)) (by omega)).mono ?_;rintro e w2 ⟨v2,rfl,hb2,ho2⟩;obtain⟨B2,c2,e9⟩:=ho2.slice;subst e9;have hB2:=zt (w:=V) hb2;have hC2:Below (w.heap.size+1) V w2:=hB2.mono (by omega);have hbw2:Below w.heap.size w w2:=Za hbV hB2;have hb12:=zt (w:=w1) hb2;obtain⟨FL,hrL,hfL,-⟩:=ho2.fresh (hw:=by decide) (hw2:=by decide);have hz2:=hB2.size;have hzw2:w.heap.size+1<w2.heap.size:=(by omega);have HX:=zh (show cStoreS.rep w2 [.slice B1 k.base.stores.length c1] k.base.stores FB∧cIdxS.rep w2 [.slice V1 k.base.uniq.length cv1] k.base.uniq GU∧cUS.rep w2 [.slice B2 k.log.length c2] k.log FL∧(∀b,b∈FL→V.heap.size≤b)∧Fresh w.heap.size (FB++GU++FL) from ⟨zb HP1.out.1 hb12,zb HP1.out.2.1 hb12,hrL,λb hb=>by have h9:=hfL.1 b hb;(try simp at h9);omega,Fresh.app (C:=w1.heap.size) (HF1.out.mono (by omega)) HP1.out.2.2 (hfL.mono (by (try simp);(try omega))) (by omega)⟩);clear ho2 hrL hfL;have p0:w2.cell? ⟨w.heap.size+1,0,none⟩=_:=zcl hB2 q0;have fp0:w2.frozen? ⟨w.heap.size+1,0,none⟩=false:=zcf hB2 fq0;have p1:w2.cell? ⟨w.heap.size+1,1,none⟩=_:=zcl hB2 q1;have fp1:w2.frozen? ⟨w.heap.size+1,1,none⟩=false:=zcf hB2 fq1;have p2:w2.cell? ⟨w.heap.size+1,2,none⟩=_:=zcl hB2 q2;have fp2:w2.frozen? ⟨w.heap.size+1,2,none⟩=false:=zcf hB2 fq2;have p3:w2.cell? ⟨w.heap.size+1,3,none⟩=_:=zcl hB2 q3;have fp3:w2.frozen? ⟨w.heap.size+1,3,none⟩=false:=zcf hB2 fq3;have p4:w2.cell? ⟨w.heap.size+1,4,none⟩=_:=zcl hB2 q4;have fp4:w2.frozen? ⟨w.heap.size+1,4,none⟩=false:=zcf hB2 fq4;have p5:w2.cell? ⟨w.heap.size+1,5,none⟩=_:=zcl hB2 q5;have fp5:w2.frozen? ⟨w.heap.size+1,5,none⟩=false:=zcf hB2 fq5))
 try go_wp2_with fail
 refine hK.out _ _ ?_ (λhHeld=>?_)
 ·(try dsimp only)
  exact hS _ (by repeat (first|with_reducible exact Below.refl _ _|with_reducible assumption|with_reducible refine Zat (by first|assumption|omega) ?_ _|with_reducible refine Zel ?_|with_reducible refine Zqr ?_ _|with_reducible refine ZcN (by first|exact Nat.le_refl _|(show _≤_;simp;done)|(show _≤_;simp;omega)|(show _≤_;omega)) ?_ _))
 clear hK K;refine zrd (i:=8) 11 ?_;(try simp only[Act.put,zp0,zp1,zp2]);refine zst 9 (λK hK=>?_)
 first|(first|(go_at_call 50;refine(ZaF #[_,_,_,_] k.base _ _ (by exact TDb.mk_ hbok (zb m2 (Za hbV bl)) (zb m3 (Za hbV bl))) hsm).mono ?_;intro e w1 hcr;obtain⟨B1,c1,FB,V1,cv1,GU,rfl,hb1,-,hr1,hl1,hu1,hm1,hnd1⟩:=dbF hcr;have hB1:=zt (w:=V) hb1;have hC1:Below (w.heap.size+1) V w1:=hB1.mono (by omega);have hz1:=hB1.size;have hlt1:∀b,b∈FB++GU→b<w1.heap.size:=(λb hb=>(List.mem_append.1 hb).elim (Cod.lt _ hr1 b) (Cod.lt _ hu1 b));have HF1:=zh (show Fresh V.heap.size (FB++GU) from ⟨λb hb=>by have h8:=(List.mem_append.1 hb).elim (hl1 b) (hm1 b);(try simp at h8);omega,hnd1⟩);have HP1:=zh (And.intro hr1 (And.intro hu1 hlt1));clear hcr hl1 hm1 hnd1)|(go_at_call 71;refine(Zam _ k.log F4 _ (by exact zb m4 (Za hbV bl)) (by omega)).mono ?_;rintro e w2 ⟨v2,rfl,hb2,ho2⟩;obtain⟨B2,c2,e9⟩:=ho2.slice;subst e9;have hB2:=zt (w:=V) hb2;have hC2:Below (w.heap.size+1) V w2:=hB2.mono (by omega);have hbw2:Below w.heap.size w w2:=Za hbV hB2;have hb12:=zt (w:=w1) hb2;obtain⟨FL,hrL,hfL,-⟩:=ho2.fresh (hw:=by decide) (hw2:=by decide);have hz2:=hB2.size;have hzw2:w.heap.size+1<w2.heap.size:=(by omega);have HX:=zh (show cStoreS.rep w2 [.slice B1 k.base.stores.length c1] k.base.stores FB∧cIdxS.rep w2 [.slice V1 k.base.uniq.length cv1] k.base.uniq GU∧cUS.rep w2 [.slice B2 k.log.length c2] k.log FL∧(∀b,b∈FL→V.heap.size≤b)∧Fresh w.heap.size (FB++GU++FL) from ⟨zb HP1.out.1 hb12,zb HP1.out.2.1 hb12,hrL,λb hb=>by have h9:=hfL.1 b hb;(try simp at h9);omega,Fresh.app (C:=w1.heap.size) (HF1.out.mono (by omega)) HP1.out.2.2 (hfL.mono (by (try simp);(try omega))) (by omega)⟩);clear ho2 hrL hfL;have p0:w2.cell? ⟨w.heap.size+1,0,none⟩=_:=zcl hB2 q0;have fp0:w2.frozen? ⟨w.heap.size+1,0,none⟩=false:=zcf hB2 fq0;have p1:w2.cell? ⟨w.heap.size+1,1,none⟩=_:=zcl hB2 q1;have fp1:w2.frozen? ⟨w.heap.size+1,1,none⟩=false:=zcf hB2 fq1;have p2:w2.cell? ⟨w.heap.size+1,2,none⟩=_:=zcl hB2 q2;have fp2:w2.frozen? ⟨w.heap.size+1,2,none⟩=false:=zcf hB2 fq2;have p3:w2.cell? ⟨w.heap.size+1,3,none⟩=_:=zcl hB2 q3;have fp3:w2.frozen? ⟨w.heap.size+1,3,none⟩=false:=zcf hB2 fq3;have p4:w2.cell? ⟨w.heap.size+1,4,none⟩=_:=zcl hB2 q4;have fp4:w2.frozen? ⟨w.heap.size+1,4,none⟩=false:=zcf hB2 fq4;have p5:w2.cell? ⟨w.heap.size+1,5,none⟩=_:=zcl hB2 q5;have fp5:w2.frozen? ⟨w.heap.size+1,5,none⟩=false:=zcf hB2 fq5))|go_simp
 refine hK.out _ _ ?_ (λhHeld=>?_)
 ·(try dsimp only)
  exact hS _ (by repeat (first|with_reducible exact Below.refl _ _|with_reducible assumption|with_reducible refine Zat (by first|assumption|omega) ?_ _|with_reducible refine Zel ?_|with_reducible refine Zqr ?_ _|with_reducible refine ZcN (by first|exact Nat.le_refl _|(show _≤_;simp;done)|(show _≤_;simp;omega)|(show _≤_;omega)) ?_ _))
 clear hK K;(try simp only[Act.put,zp0,zp1,zp2]);refine wpAnyH_done (by kernel_rfl) ?_ _
 (go_wp2_with fail;refine bodyPost_ret (v:=.agg #[.string k.base.name,.int .i64 k.base.ver,.slice B1 k.base.stores.length c1,.slice V1 k.base.uniq.length cv1,.slice B2 k.log.length c2,.int .i64 k.count]) (by simp[results,Tryz.results36,go_sem, *]) rfl ?_;exact⟨_,FB++GU++FL,rfl,bl,TDisk.mk_ hok (show cStoreS.rep _ _ k.base.stores FB from (by have hx:=HX.out.1;have hl9:∀b,b∈FB→w.heap.size+2≤b:=(λb hb=>by have h9:=HF1.out.1 b (by simp[hb]);omega);exact(zks hx hl9))) (show cIdxS.rep _ _ k.base.uniq GU from (by have hx:=HX.out.2.1;have hl9:∀b,b∈GU→w.heap.size+2≤b:=(λb hb=>by have h9:=HF1.out.1 b (by simp[hb]);omega);exact(zks hx hl9))) (show cUS.rep _ _ k.log FL from (by have hx:=HX.out.2.2.1;have hl9:∀b,b∈FL→w.heap.size+2≤b:=(λb hb=>by have h9:=HX.out.2.2.2.1 b hb;omega);exact(zks hx hl9))),HX.out.2.2.2.2⟩)
theorem Zhj (vs:Array Value) (k:TDisk) (F:List Nat) (w:World) (h:cDisk.rep w vs.toList k F) (hsz:cDisk.sz k≤1048576) :
  Calls Tryz.prog 31 #[.agg vs] w (ZaT cDisk w k):=by
 obtain⟨i0,hi0,iz0,iz1,iz2⟩:=info_parts Zcs;obtain⟨hsm,hlg⟩:=Zcj hsz;obtain⟨v2,v3,v4,F2,F3,F4,rfl,rfl,hok,m2,m3,m4⟩:=TDisk.outA h;obtain⟨A,cp,rfl⟩:=Zb m2;obtain⟨U,cu,rfl⟩:=Zb m3;obtain⟨L,cl,rfl⟩:=Zb m4;have hbok:k.base.Ok:=⟨hok.h0,hok.h1⟩
 go_enter Tryz.func31,Tryz.ntmps31
 go_wp2_with fail;generalize hV_:World.alloc _ _=V
 have hbV:Below w.heap.size w V:=by rw[← hV_];exact bl
 have hVs:V.heap.size=w.heap.size+2:=by rw[← hV_];clear hV_;simp
 have hVq:w.heap.size+1<V.heap.size:=by omega
 have a0:V.cell? ⟨w.heap.size,0,none⟩=some (.string k.base.name):=by rw[← hV_];clear hV_;go_simp
 have a1:V.cell? ⟨w.heap.size,1,none⟩=some (.int .i64 k.base.ver):=by rw[← hV_];clear hV_;go_simp
 have a2:V.cell? ⟨w.heap.size,2,none⟩=some (.slice A k.base.stores.length cp):=by rw[← hV_];clear hV_;go_simp
 have a3:V.cell? ⟨w.heap.size,3,none⟩=some (.slice U k.base.uniq.length cu):=by rw[← hV_];clear hV_;go_simp
 have a4:V.cell? ⟨w.heap.size,4,none⟩=some (.slice L k.log.length cl):=by rw[← hV_];clear hV_;go_simp
 have a5:V.cell? ⟨w.heap.size,5,none⟩=some (.int .i64 k.count):=by rw[← hV_];clear hV_;go_simp
 have q0:V.cell? ⟨w.heap.size+1,0,none⟩=some (.string ⟨#[]⟩):=by rw[← hV_];clear hV_;go_simp
 have fq0:V.frozen? ⟨w.heap.size+1,0,none⟩=false:=by rw[← hV_];clear hV_;go_simp
 have q1:V.cell? ⟨w.heap.size+1,1,none⟩=some (.int .i64 0):=by rw[← hV_];clear hV_;go_simp
 have fq1:V.frozen? ⟨w.heap.size+1,1,none⟩=false:=by rw[← hV_];clear hV_;go_simp
 have q2:V.cell? ⟨w.heap.size+1,2,none⟩=some (.slice none 0 0):=by rw[← hV_];clear hV_;go_simp
 have fq2:V.frozen? ⟨w.heap.size+1,2,none⟩=false:=by rw[← hV_];clear hV_;go_simp
 have q3:V.cell? ⟨w.heap.size+1,3,none⟩=some (.slice none 0 0):=by rw[← hV_];clear hV_;go_simp
 have fq3:V.frozen? ⟨w.heap.size+1,3,none⟩=false:=by rw[← hV_];clear hV_;go_simp
 have q4:V.cell? ⟨w.heap.size+1,4,none⟩=some (.slice none 0 0):=by rw[← hV_];clear hV_;go_simp
 have fq4:V.frozen? ⟨w.heap.size+1,4,none⟩=false:=by rw[← hV_];clear hV_;go_simp
 have q5:V.cell? ⟨w.heap.size+1,5,none⟩=some (.int .i64 0):=by rw[← hV_];clear hV_;go_simp
 have fq5:V.frozen? ⟨w.heap.size+1,5,none⟩=false:=by rw[← hV_];clear hV_;go_simp
 clear hV_;have hVV:Below V.heap.size V V:=Below.refl _ _
 have hVC:Below (w.heap.size+1) V V:=Below.refl _ _
 have hVb:w.heap.size<w.heap.size+1:=Nat.lt_succ_self _
 have hS:∀w9,Below (w.heap.size+1) V w9→Below (w.heap.size+1) V w9∧w9.cell? ⟨w.heap.size,0,none⟩=some (.string k.base.name)∧w9.cell? ⟨w.heap.size,1,none⟩=some (.int .i64 k.base.ver)∧w9.cell? ⟨w.heap.size,2,none⟩=some (.slice A k.base.stores.length cp)∧w9.cell? ⟨w.heap.size,3,none⟩=some (.slice U k.base.uniq.length cu)∧w9.cell? ⟨w.heap.size,4,none⟩=some (.slice L k.log.length cl)∧w9.cell? ⟨w.heap.size,5,none⟩=some (.int .i64 k.count) :=
  λw9 hb=>⟨hb,(World.cell?_of_block (a:=⟨w.heap.size,0,none⟩) (hb.block w.heap.size hVb)).trans a0,(World.cell?_of_block (a:=⟨w.heap.size,1,none⟩) (hb.block w.heap.size hVb)).trans a1,(World.cell?_of_block (a:=⟨w.heap.size,2,none⟩) (hb.block w.heap.size hVb)).trans a2,(World.cell?_of_block (a:=⟨w.heap.size,3,none⟩) (hb.block w.heap.size hVb)).trans a3,(World.cell?_of_block (a:=⟨w.heap.size,4,none⟩) (hb.block w.heap.size hVb)).trans a4,(World.cell?_of_block (a:=⟨w.heap.size,5,none⟩) (hb.block w.heap.size hVb)).trans a5⟩
 go_region_held3 (λw9=>Below (w.heap.size+1) V w9∧w9.cell? ⟨w.heap.size,0,none⟩=some (.string k.base.name)∧w9.cell? ⟨w.heap.size,1,none⟩=some (.int .i64 k.base.ver)∧w9.cell? ⟨w.heap.size,2,none⟩=some (.slice A k.base.stores.length cp)∧w9.cell? ⟨w.heap.size,3,none⟩=some (.slice U k.base.uniq.length cu)∧w9.cell? ⟨w.heap.size,4,none⟩=some (.slice L k.log.length cl)∧w9.cell? ⟨w.heap.size,5,none⟩=some (.int .i64 k.count)) (exact hS _ (by repeat (first|with_reducible exact Below.refl _ _|with_reducible assumption|with_reducible refine Zat (by first|assumption|omega) ?_ _|with_reducible refine Zel ?_|with_reducible refine Zqr ?_ _|with_reducible refine ZcN (by first|exact Nat.le_refl _|(show _≤_;simp;done)|(show _≤_;simp;omega)|(show _≤_;omega)) ?_ _)))
  (first|(go_at_call 45;refine(Zbd #[_,_,_,_] k.base _ _ (by exact TDb.mk_ hbok (zb m2 (Za hbV bl)) (zb m3 (Za hbV bl))) hsm).mono ?_;intro e w1 hcr;obtain⟨B1,c1,FB,V1,cv1,GU,rfl,hb1,-,hr1,hl1,hu1,hm1,hnd1⟩:=dbF hcr;have hB1:=zt (w:=V) hb1;have hC1:Below (w.heap.size+1) V w1:=hB1.mono (by omega);have hbw1:Below w.heap.size w w1:=Za hbV hB1;(try have hb21:=zt (w:=w2) hb1);have hz1:=hB1.size;have hzw1:w.heap.size+1<w1.heap.size:=(by omega);have HP1:=zh (show cStoreS.rep w1 [.slice B1 k.base.stores.length c1] k.base.stores FB∧cIdxS.rep w1 [.slice V1 k.base.uniq.length cv1] k.base.uniq GU∧(∀b,b∈FB++GU→_≤b∧b<w1.heap.size)∧(FB++GU).Nodup from ⟨hr1,hu1,λb hb=>⟨(List.mem_append.1 hb).elim (hl1 b) (hm1 b),(List.mem_append.1 hb).elim (Cod.lt _ hr1 b) (Cod.lt _ hu1 b)⟩,hnd1⟩);have hz1b:=hb1.size;(try simp at hz1b);have p0:w1.cell? ⟨w.heap.size+1,0,none⟩=_:=zcl hB1 q0;have fp0:w1.frozen? ⟨w.heap.size+1,0,none⟩=false:=zcf hB1 fq0;have p1:w1.cell? ⟨w.heap.size+1,1,none⟩=_:=zcl hB1 q1;have fp1:w1.frozen? ⟨w.heap.size+1,1,none⟩=false:=zcf hB1 fq1;have p2:w1.cell? ⟨w.heap.size+1,2,none⟩=_:=zcl hB1 q2;have fp2:w1.frozen? ⟨w.heap.size+1,2,none⟩=false:=zcf hB1 fq2;have p3:w1.cell? ⟨w.heap.size+1,3,none⟩=_:=zcl hB1 q3;have fp3:w1.frozen? ⟨w.heap.size+1,3,none⟩=false:=zcf hB1 fq3;have p4:w1.cell? ⟨w.heap.size+1,4,none⟩=_:=zcl hB1 q4;have fp4:w1.frozen? ⟨w.heap.size+1,4,none⟩=false:=zcf hB1 fq4;have p5:w1.cell? ⟨w.heap.size+1,5,none⟩=_:=zcl hB1 q5;have fp5:w1.frozen? ⟨w.heap.size+1,5,none⟩=false:=zcf hB1 fq5;clear hcr hl1 hm1 hnd1 hr1 hu1)|(refine ZcA (c:=cU) (B:=_) (xs:=[]) (ys:=k.log) (Fi:=[]) (Fy:=[]) _ rfl _ _ _ rfl i0 _ _ Tryz.underlying26 hi0 iz0 iz1 iz2 rfl (by decide) (v:=.slice (some _) 0 0) rfl (Own.empty _) (.slice L k.log.length cl) rfl (AppSrc.flat (hw:=by decide) (hw2:=by decide) ZeN (zb m4 (Za hbV bl))) (by unfold maxLen;simp;omega) (by simp;omega) (Nat.le_refl _) (by simp[Zac]) ?_;intro v2 w2 ho2 hg2 hat2;replace ho2:Own cU 5 _ w2 v2 k.log []:=ho2;obtain⟨B2,c2,e9⟩:=ho2.slice;subst e9;have hB2:Below V.heap.size V w2:=Below.grown (show Below V.heap.size V _ from bl) hg2 (show Below V.heap.size V _ from bl).size (λg hg=>by simp[Zac] at hg);have hC2:Below (w.heap.size+1) V w2:=hB2.mono (by omega);have hbw2:Below w.heap.size w w2:=Za hbV hB2;(try have hb12:Below w1.heap.size w1 w2:=Below.grown (show Below w1.heap.size w1 _ from bl) hg2 (show Below w1.heap.size w1 _ from bl).size (λg hg=>by simp[Zac] at hg));have hz2:=hB2.size;have hz2b:=hg2.size;(try simp at hz2b);have hzw2:w.heap.size+1<w2.heap.size:=(by omega);obtain⟨FL,hrL,hfL,-⟩:=ho2.fresh (hw:=by decide) (hw2:=by decide);have HL2:=zh (show cUS.rep w2 [.slice B2 k.log.length c2] k.log FL∧(∀b,b∈FL→_≤b∧b<w2.heap.size)∧FL.Nodup from ⟨hrL,λb hb=>⟨hfL.1 b hb,Cod.lt _ hrL b hb⟩,hfL.2⟩);have p0:w2.cell? ⟨w.heap.size+1,0,none⟩=_:=zcl hB2 q0;have fp0:w2.frozen? ⟨w.heap.size+1,0,none⟩=false:=zcf hB2 fq0;have p1:w2.cell? ⟨w.heap.size+1,1,none⟩=_:=zcl hB2 q1;have fp1:w2.frozen? ⟨w.heap.size+1,1,none⟩=false:=zcf hB2 fq1;have p2:w2.cell? ⟨w.heap.size+1,2,none⟩=_:=zcl hB2 q2;have fp2:w2.frozen? ⟨w.heap.size+1,2,none⟩=false:=zcf hB2 fq2;have p3:w2.cell? ⟨w.heap.size+1,3,none⟩=_:=zcl hB2 q3;have fp3:w2.frozen? ⟨w.heap.size+1,3,none⟩=false:=zcf hB2 fq3;have p4:w2.cell? ⟨w.heap.size+1,4,none⟩=_:=zcl hB2 q4;have fp4:w2.frozen? ⟨w.heap.size+1,4,none⟩=false:=zcf hB2 fq4;have p5:w2.cell? ⟨w.heap.size+1,5,none⟩=_:=zcl hB2 q5;have fp5:w2.frozen? ⟨w.heap.size+1,5,none⟩=false:=zcf hB2 fq5;clear ho2 hg2 hat2 hrL hfL))
 all_goals
  (go_wp2_with fail;refine bodyPost_ret (v:=.agg #[.string k.base.name,.int .i64 k.base.ver,.slice B1 k.base.stores.length c1,.slice V1 k.base.uniq.length cv1,.slice B2 k.log.length c2,.int .i64 k.count]) (by simp[results,Tryz.results31,go_sem, *]) rfl ?_;have hlB:∀b,b∈FB++GU→w.heap.size+2≤b:=(λb hb=>by have h9:=(HP1.out.2.2.1 b hb).1;(try simp at h9);omega);have hlL:∀b,b∈FL→w.heap.size+2≤b:=(λb hb=>by have h9:=(HL2.out.2.1 b hb).1;(try simp at h9);omega);have hx1:=HP1.out.1;have hx2:=HP1.out.2.1;have hx3:=HL2.out.1;(try replace hx1:=zb hx1 hb12);(try replace hx2:=zb hx2 hb12);(try replace hx3:=zb hx3 hb21);exact⟨_,FB++GU++FL,rfl,bl,TDisk.mk_ hok (show cStoreS.rep _ _ k.base.stores FB from (by have hl9:∀b,b∈FB→w.heap.size+2≤b:=(λb hb=>hlB b (by simp[hb]));exact(zks hx1 hl9))) (show cIdxS.rep _ _ k.base.uniq GU from (by have hl9:∀b,b∈GU→w.heap.size+2≤b:=(λb hb=>hlB b (by simp[hb]));exact(zks hx2 hl9))) (show cUS.rep _ _ k.log FL from (by exact(zks hx3 hlL))),⟨λb hb=>(List.mem_append.1 hb).elim (λh9=>by have h8:=hlB b h9;omega) (λh9=>by have h8:=hlL b h9;omega),List.nodup_append.2 ⟨HP1.out.2.2.2,HL2.out.2.2,λa ha b hb e=>by have h1:=HP1.out.2.2.1 a ha;have h3:=HL2.out.2.1 b hb;(try simp at h1);(try simp at h3);omega⟩⟩⟩)
theorem Zlh {α:Type} (c:Cod α) (B:Nat):∀xs:List α,(∀x,x∈xs→c.sz x≤B)→c.szs xs≤(B+1)*xs.length
 | [],_=>Nat.zero_le _
 | x::xs,h=>by
  have h1:=h x (by simp)
  have h2:=Zlh c B xs λy hy=>h y (by simp[hy])
  have e:c.szs (x::xs)=1+c.sz x+c.szs xs∨c.szs (x::xs)=c.sz x+1+c.szs xs∨c.szs (x::xs)=1+(c.sz x+c.szs xs)∨c.szs (x::xs)=c.sz x+c.szs xs+1:=by
   simp only[Cod.szs];omega
  rw[List.length_cons,Nat.mul_succ]
  omega
theorem Zqj {r:TRec} (h:Ze r=true):cFieldS.sz r.fields≤54:=by
 obtain⟨h1,-,h3⟩:=(Zbm r).1 h
 have h4:=Zlh cField 8 r.fields λf hf=>by
  have h5:=(Zbr (h1 f hf).1).2
  show f.name.size+0≤8
  omega
 show cField.szs r.fields≤54
 omega
theorem Zph {s:TStore} (h:Zs s=true):cStore.sz s≤1080:=by
 obtain⟨h1,h2,h3,-⟩:=(ZbW s).1 h
 have h4:=(Zbr h2).2
 have h5:=Zlh cItem 66 s.items λx hx=>by
  have h6:=(Zep (h1.ok x hx).1).2.2.2
  have h7:=Zqj (h1.ok x hx).2
  show 0+(0+(x.key.text.size+cFieldS.sz x.rcd.fields))≤66
  omega
 have e:cStore.sz s=s.name.size+(cItem.szs s.items+0):=rfl
 omega
theorem Znq {a b:ByteArray} (h:Zaz a b=true):a.size=b.size:=by rw[strEq_iff.1 h]
theorem db_sz {d:TDb} (h:Zi d=true):cDb.sz d≤5000:=by
 obtain⟨h1,h2,h3,h4,h5⟩:=ZjM h;have hn:=(Zbr h1).2
 have hs:=Zlh cStore 1080 d.stores λs hs=>by
  obtain⟨k,hk,rfl⟩:=List.getElem_of_mem hs;exact Zph (Zew h hk)
 have hu:=Zlh cIdx 16 d.uniq λu hu=>by
  obtain⟨k,hk,rfl⟩:=List.getElem_of_mem hu;have h6:=ZdB h5 hk
  unfold Zdm at h6
  rw[List.getElem?_eq_getElem hk] at h6
  simp only[Bool.and_eq_true,decide_eq_true_eq] at h6
  obtain⟨⟨⟨h7,h8⟩,-⟩,-⟩:=h6;have h9:=(Zbr h8).2
  rcases ZhK (λs:TStore=>Zaz s.name d.uniq[k].store) d.stores with ⟨h10,-⟩|⟨j,hj,-,h11,-⟩
  ·unfold Zap at h7
   rw[h10] at h7
   omega
  ·have h12:=Znq h11;have h13:d.stores[j].name.size≤8:=(Zbr ((ZbW _).1 (Zew h hj)).2.1).2
   show (d.uniq[k]).store.size+(d.uniq[k]).field.size≤16
   omega
 have e:cDb.sz d=d.name.size+(0+(cStore.szs d.stores+cIdx.szs d.uniq)):=rfl
 omega
theorem Zqm (d:TDb) (o:TOp):(ZaR d o).1=d∨Zi (ZaR d o).1=true:=by
 cases h1:(Zi d&&ZdR o&&decide (0≤Zap d o.store)) with
 | false=>exact .inl (by rw[Zdk h1])
 | true =>
  unfold ZaR
  rw[h1]
  show (Zla d _ o).1=d∨Zi (Zla d _ o).1=true
  unfold Zla
  split
  ·cases h2:((ZdO _ o).2.2&&Zi (ZaA d _ (ZdO _ o).1)) with
   | false=>exact .inl rfl
   | true=>simp only[Bool.and_eq_true] at h2;exact .inr h2.2
  ·exact .inl rfl
theorem ZkY:∀(l:List TOp) {d e:TDb},ZaV d l=some e→e=d∨Zi e=true
 | [],d,e,h=>by simp only[ZaV,Option.some.injEq] at h;exact .inl h.symm
 | o::l,d,e,h=>by
  simp only[ZaV] at h
  cases h2:(ZaR d o).2.2 with
  | false=>rw[h2] at h;simp at h
  | true =>
   rw[h2] at h
   rcases ZkY l h with h3|h3
   ·rcases Zqm d o with h4|h4
    ·exact .inl (h3.trans h4)
    ·exact .inr (by rw[h3];exact h4)
   ·exact .inr h3
theorem Zoq (d:TDb) (l:List TOp):(Zba d l).1=d∨Zi (Zba d l).1=true:=by
 unfold Zba
 cases Zi d&&decide ((l.length:Int)≤6) with
 | false=>exact .inl rfl
 | true =>
  simp only[cond_true]
  cases h1:ZaV d l with
  | none=>exact .inl rfl
  | some e=>exact ZkY l h1
theorem Zoj:∀(es:List (List UInt8)) (d:TDb) (i:Nat),(Zab d i es).1=d∨Zi (Zab d i es).1=true
 | [],d,i=>.inl rfl
 | e::es,d,i=>by
  rw[Zab]
  cases (ZW e).2 with
  | false=>exact .inl rfl
  | true =>
   simp only[cond_true]
   rcases Zoj es (Zba d (ZW e).1).1 (i+1) with h3|h3
   ·rcases Zoq d (ZW e).1 with h4|h4
    ·exact .inl (h3.trans h4)
    ·exact .inr (by rw[h3];exact h4)
   ·exact .inr h3
theorem ZjN (k:TDisk):cDisk.sz k=cDb.sz k.base+k.log.length:=by
 have hsz:cDisk.sz k=k.base.name.size+(0+(cStoreS.sz k.base.stores+(cIdxS.sz k.base.uniq+(cUS.sz k.log+0)))):=rfl
 have e:cDb.sz k.base=k.base.name.size+(0+(cStoreS.sz k.base.stores+cIdxS.sz k.base.uniq)):=rfl
 have h3:=Zlj k.log
 omega
theorem ZjK (k:TDisk):cDisk.sz (ZaK k)≤cDisk.sz k+5000:=by
 rw[ZjN,ZjN]
 show cDb.sz (ZQ k).1+0≤_
 rcases Zoj (Zak k.log) k.base 0 with h|h
 ·rw[show (ZQ k).1=k.base from h];omega
 ·have:=db_sz (show Zi (ZQ k).1=true from h);omega
theorem ZjL (k:TDisk) (l:List TOp):cDisk.sz (ZH k l).1≤cDisk.sz k+4000:=by
 unfold ZH
 cases h:((Zba (ZQ k).1 l).2&&!(Zn l).isEmpty&&decide (((ZQ k).2:Int)=k.count)&&(Zao k.log k.count (Zn l)).2) with
 | false=>show cDisk.sz k≤_;omega
 | true =>
  simp only[Bool.and_eq_true] at h
  have h2:=h.2
  show cDisk.sz ⟨k.base,(Zao k.log k.count (Zn l)).1,k.count+1⟩≤_
  rw[ZjN,ZjN]
  unfold Zao at h2⊢
  split at h2
  ·cases h2
  ·rename_i h3
   rw[if_neg h3]
   show cDb.sz k.base+(k.log++ZB (Zn l)++ZJ (ZU k.count (Zn l)).toNat).length≤_
   have h4:¬4000<(k.log++ZB (Zn l)++ZJ (ZU k.count (Zn l)).toNat).length:=λh9=>h3 (.inr h9)
   omega
end Go.Proofs.YtghndifnohkokaaGreat
