import Derived.Test.YtghndifnohkokaaGreatZOpenDI
import Derived.Test.YtghndifnohkokaaGreatZOpenDS
namespace Go.Proofs.YtghndifnohkokaaGreat
open Go.ChangeShapes Go.WideShapes Go.RowKit
set_option linter.unusedVariables false
set_option linter.unusedSimpArgs false
set_option maxRecDepth 100000
set_option maxHeartbeats 16000000
theorem Zdq (vs:Array Value) (k:TDisk) (F:List Nat) (w:World) (h:cDisk.rep w vs.toList k F) (hsz:cDisk.sz k≤1048576) :
  Calls Tryz.prog 8 #[.agg vs] w (ZaT cDisk w (ZaK k)):=by
 obtain⟨hsm,hlg⟩:=Zcj hsz;have hdr:=h;obtain⟨v2,v3,v4,F2,F3,F4,rfl,rfl,hok,m2,m3,m4⟩:=TDisk.outA h;obtain⟨A,cp,rfl⟩:=Zb m2;obtain⟨U,cu,rfl⟩:=Zb m3;obtain⟨L,cl,rfl⟩:=Zb m4;have HDR:=zh hdr;clear hdr;go_enter Tryz.func8,Tryz.ntmps8
 go_wp2_with fail;generalize hV_:World.alloc _ _=V
 have hbV:Below w.heap.size w V:=by rw[← hV_];exact bl
 have hVs:V.heap.size=w.heap.size+2:=by rw[← hV_];clear hV_;simp
 have hVq:w.heap.size+1<V.heap.size:=by omega
 have q0:V.cell? ⟨w.heap.size+1,0,none⟩=some (.string ⟨#[]⟩):=by rw[← hV_];clear hV_;go_simp
 have fq0:V.frozen? ⟨w.heap.size+1,0,none⟩=false:=by rw[← hV_];clear hV_;go_simp
 have q1:V.cell? ⟨w.heap.size+1,1,none⟩=some (.int .i64 0):=by rw[← hV_];clear hV_;go_simp
 have fq1:V.frozen? ⟨w.heap.size+1,1,none⟩=false:=by rw[← hV_];clear hV_;go_simp
 have q2:V.cell? ⟨w.heap.size+1,2,none⟩=some (.slice none 0 0):=by rw[← hV_];clear hV_;go_simp
 have fq2:V.frozen? ⟨w.heap.size+1,2,none⟩=false:=by rw[← hV_];clear hV_;go_simp
 have q3:V.cell? ⟨w.heap.size+1,3,none⟩=some (.slice none 0 0):=by rw[← hV_];clear hV_;go_simp
 have fq3:V.frozen? ⟨w.heap.size+1,3,none⟩=false:=by rw[← hV_];clear hV_;go_simp
 have q4:V.cell? ⟨w.heap.size+1,4,none⟩=some (.slice none 0 0):=by rw[← hV_];clear hV_;go_simp
 have fq4:V.frozen? ⟨w.heap.size+1,4,none⟩=false:=by rw[← hV_];clear hV_;go_simp
 have q5:V.cell? ⟨w.heap.size+1,5,none⟩=some (.int .i64 0):=by rw[← hV_];clear hV_;go_simp
 have fq5:V.frozen? ⟨w.heap.size+1,5,none⟩=false:=by rw[← hV_];clear hV_;go_simp
 clear hV_;refine(Zea #[_,_,_,_,_,_] k _ _ (by exact zb HDR.out hbV) hsz).mono ?_
 have HE:=zh (show ZaK k=⟨(ZQ k).1,[],0⟩ from rfl)
 generalize ZQ k=r at *
 obtain⟨y,yn⟩:=r;rintro e w1 ⟨vs1,F1,rfl,hb1,hr1,hl1⟩;obtain⟨u2,u3,G2,G3,rfl,rfl,hok1,k2,k3⟩:=TDb.outA hr1;obtain⟨B,c,e9⟩:=Zb k2;subst e9;obtain⟨V1,cv,e9⟩:=Zb k3;subst e9;simp only at HE k2 k3⊢
 have hbw1:Below w.heap.size w w1:=Za hbV hb1
 have hz1:=hb1.size;have hw1:w.heap.size+1<w1.heap.size:=by omega
 have p0:=zcl hb1 q0;have fp0:=zcf hb1 fq0;have p1:=zcl hb1 q1;have fp1:=zcf hb1 fq1;have p2:=zcl hb1 q2;have fp2:=zcf hb1 fq2;have p3:=zcl hb1 q3;have fp3:=zcf hb1 fq3;have p4:=zcl hb1 q4;have fp4:=zcf hb1 fq4;have p5:=zcl hb1 q5;have fp5:=zcf hb1 fq5;have HP:=zh (And.intro k2 (And.intro k3 hl1))
 have hne:¬w.heap.size+1=w1.heap.size:=by omega
 clear hr1 k2 k3 hl1 q0 q1 q2 q3 q4 q5 fq0 fq1 fq2 fq3 fq4 fq5;go_wp2_with fail;refine bodyPost_ret (v:=.agg #[.string y.name,.int .i64 y.ver,.slice B y.stores.length c,.slice V1 y.uniq.length cv,.slice none 0 0,.int .i64 0]) (by simp[results,Tryz.results8,go_sem, *]) rfl ?_
 rw[HE.out]
 have k2:=HP.out.1;have k3:=HP.out.2.1;have hl2:∀b,b∈G2→w.heap.size+2≤b:=λb hb=>by have h9:=HP.out.2.2.1 b (by simp[hb]);omega
 have hl3:∀b,b∈G3→w.heap.size+2≤b:=λb hb=>by have h9:=HP.out.2.2.1 b (by simp[hb]);omega
 exact⟨_,G2++G3++[],rfl,bl,TDisk.mk_ (x:=⟨y,[],0⟩) ⟨hok1.h0,hok1.h1,by show -9223372036854775808≤(0:Int)∧(0:Int)≤9223372036854775807;decide⟩ (zks k2 hl2) (zks k3 hl3) (show cUS.rep _ [.slice none 0 0] [] [] from ⟨none,0,rfl,Nat.le_refl _,by decide,.inl ⟨rfl,rfl⟩⟩),by rw[List.append_nil];exact HP.out.2.2.mono (by omega)⟩
theorem ZfH (vs:Array Value) (k:TDisk) (F:List Nat) (w:World) (h:cDisk.rep w vs.toList k F) (hsz:cDisk.sz k≤1048576) :
  Calls Tryz.prog 6 #[.agg vs] w (Zqc cDisk w (ZaK k)):=by
 obtain⟨hsm,hlg⟩:=Zcj hsz;have hdr:=h;obtain⟨v2,v3,v4,F2,F3,F4,rfl,rfl,hok,m2,m3,m4⟩:=TDisk.outA h;obtain⟨A,cp,rfl⟩:=Zb m2;obtain⟨U,cu,rfl⟩:=Zb m3;obtain⟨L,cl,rfl⟩:=Zb m4;have HDR:=zh hdr;clear hdr;go_enter Tryz.func6,Tryz.ntmps6
 go_wp2_with fail;generalize hV_:World.alloc _ _=V
 have hbV:Below w.heap.size w V:=by rw[← hV_];exact bl
 have hVs:V.heap.size=w.heap.size+2:=by rw[← hV_];clear hV_;simp
 have hVq:w.heap.size+1<V.heap.size:=by omega
 have q0:V.cell? ⟨w.heap.size+1,0,none⟩=some (.string ⟨#[]⟩):=by rw[← hV_];clear hV_;go_simp
 have fq0:V.frozen? ⟨w.heap.size+1,0,none⟩=false:=by rw[← hV_];clear hV_;go_simp
 have q1:V.cell? ⟨w.heap.size+1,1,none⟩=some (.int .i64 0):=by rw[← hV_];clear hV_;go_simp
 have fq1:V.frozen? ⟨w.heap.size+1,1,none⟩=false:=by rw[← hV_];clear hV_;go_simp
 have q2:V.cell? ⟨w.heap.size+1,2,none⟩=some (.slice none 0 0):=by rw[← hV_];clear hV_;go_simp
 have fq2:V.frozen? ⟨w.heap.size+1,2,none⟩=false:=by rw[← hV_];clear hV_;go_simp
 have q3:V.cell? ⟨w.heap.size+1,3,none⟩=some (.slice none 0 0):=by rw[← hV_];clear hV_;go_simp
 have fq3:V.frozen? ⟨w.heap.size+1,3,none⟩=false:=by rw[← hV_];clear hV_;go_simp
 have q4:V.cell? ⟨w.heap.size+1,4,none⟩=some (.slice none 0 0):=by rw[← hV_];clear hV_;go_simp
 have fq4:V.frozen? ⟨w.heap.size+1,4,none⟩=false:=by rw[← hV_];clear hV_;go_simp
 have q5:V.cell? ⟨w.heap.size+1,5,none⟩=some (.int .i64 0):=by rw[← hV_];clear hV_;go_simp
 have fq5:V.frozen? ⟨w.heap.size+1,5,none⟩=false:=by rw[← hV_];clear hV_;go_simp
 clear hV_;refine(Zed #[_,_,_,_,_,_] k _ _ (by exact zb HDR.out hbV) hsz).mono ?_
 have HE:=zh (show ZaK k=⟨(ZQ k).1,[],0⟩ from rfl)
 generalize ZQ k=r at *
 obtain⟨y,yn⟩:=r;rintro e w1 ⟨vs1,F1,rfl,hb1,hr1,hl1⟩;obtain⟨u2,u3,G2,G3,rfl,rfl,hok1,k2,k3⟩:=TDb.outA hr1;obtain⟨B,c,e9⟩:=Zb k2;subst e9;obtain⟨V1,cv,e9⟩:=Zb k3;subst e9;simp only at HE k2 k3⊢
 have hbw1:Below w.heap.size w w1:=Za hbV hb1
 have hz1:=hb1.size;have hw1:w.heap.size+1<w1.heap.size:=by omega
 have p0:=zcl hb1 q0;have fp0:=zcf hb1 fq0;have p1:=zcl hb1 q1;have fp1:=zcf hb1 fq1;have p2:=zcl hb1 q2;have fp2:=zcf hb1 fq2;have p3:=zcl hb1 q3;have fp3:=zcf hb1 fq3;have p4:=zcl hb1 q4;have fp4:=zcf hb1 fq4;have p5:=zcl hb1 q5;have fp5:=zcf hb1 fq5;have HP:=zh (And.intro k2 (And.intro k3 hl1))
 have hne:¬w.heap.size+1=w1.heap.size:=by omega
 clear hr1 k2 k3 hl1 q0 q1 q2 q3 q4 q5 fq0 fq1 fq2 fq3 fq4 fq5;go_wp2_with fail;refine bodyPost_ret (v:=.agg #[.string y.name,.int .i64 y.ver,.slice B y.stores.length c,.slice V1 y.uniq.length cv,.slice none 0 0,.int .i64 0]) (by simp[results,Tryz.results6,go_sem, *]) rfl ?_
 rw[HE.out]
 have k2:=HP.out.1;have k3:=HP.out.2.1;have hl2:∀b,b∈G2→w.heap.size+2≤b:=λb hb=>by have h9:=HP.out.2.2 b (by simp[hb]);omega
 have hl3:∀b,b∈G3→w.heap.size+2≤b:=λb hb=>by have h9:=HP.out.2.2 b (by simp[hb]);omega
 exact⟨_,G2++G3++[],rfl,bl,TDisk.mk_ (x:=⟨y,[],0⟩) ⟨hok1.h0,hok1.h1,by show -9223372036854775808≤(0:Int)∧(0:Int)≤9223372036854775807;decide⟩ (zks k2 hl2) (zks k3 hl3) (show cUS.rep _ [.slice none 0 0] [] [] from ⟨none,0,rfl,Nat.le_refl _,by decide,.inl ⟨rfl,rfl⟩⟩),by rw[List.append_nil];exact HP.out.2.2.mono (by omega)⟩
end Go.Proofs.YtghndifnohkokaaGreat
