/-
  CopyItem of the seat. No conditions but sizes.
-/
import Derived.Test.YtghndifnohkokaaGreatZDbO
import Derived.Test.YtghndifnohkokaaGreatZReadB
import Derived.Test.YtghndifnohkokaaGreatZOpsPlain
namespace Go.Proofs.YtghndifnohkokaaGreat
open Go.ChangeShapes Go.WideShapes Go.RowKit
set_option linter.unusedVariables false
set_option linter.unusedSimpArgs false
set_option maxRecDepth 100000
set_option maxHeartbeats 16000000
theorem Zhq {α:Type} {xs:List α} {k:Nat} (h:k<xs.length):xs.take k++[xs[k]]=xs.take (k+1):=(List.take_succ_eq_append_getElem h).symm
theorem ZcS (vs:Array Value) (x:TItem) (F:List Nat) (w:World) (h:cItem.rep w vs.toList x F) (hn:ZiY x) :
  Calls Tryz.prog 131 #[.agg vs] w (ZaT cItem w x):=by
 obtain⟨v3,F3,rfl,-,hok,hr⟩:=TItem.outA h
 obtain⟨A,c,rfl⟩:=Zb hr
 unfold ZiY at hn
 clear h
 go_enter Tryz.func131,Tryz.ntmps131
 go_wp2_with fail
 generalize hV:World.alloc _ _=V
 have hVs:V.heap.size=w.heap.size+2:=by rw[← hV];clear hV;simp
 have hbV:Below w.heap.size w V:=by rw[← hV];exact bl
 have c0:V.cell? ⟨w.heap.size,0,none⟩=some (.int .i64 x.key.kind):=by rw[← hV];clear hV;go_simp
 have c1:V.cell? ⟨w.heap.size,1,none⟩=some (.int .i64 x.key.n):=by rw[← hV];clear hV;go_simp
 have c2:V.cell? ⟨w.heap.size,2,none⟩=some (.string x.key.text):=by rw[← hV];clear hV;go_simp
 have c3:V.cell? ⟨w.heap.size,3,none⟩=some (.slice A x.rcd.fields.length c):=by rw[← hV];clear hV;go_simp
 have d0:V.cell? ⟨w.heap.size+1,0,none⟩=some (.int .i64 0):=by rw[← hV];clear hV;go_simp
 have d1:V.cell? ⟨w.heap.size+1,1,none⟩=some (.int .i64 0):=by rw[← hV];clear hV;go_simp
 have d2:V.cell? ⟨w.heap.size+1,2,none⟩=some (.string ⟨#[]⟩):=by rw[← hV];clear hV;go_simp
 have d3:V.cell? ⟨w.heap.size+1,3,none⟩=some (.slice none 0 0):=by rw[← hV];clear hV;go_simp
 have f0:V.frozen? ⟨w.heap.size+1,0,none⟩=false:=by rw[← hV];clear hV;go_simp
 have f1:V.frozen? ⟨w.heap.size+1,1,none⟩=false:=by rw[← hV];clear hV;go_simp
 have f2:V.frozen? ⟨w.heap.size+1,2,none⟩=false:=by rw[← hV];clear hV;go_simp
 have f3:V.frozen? ⟨w.heap.size+1,3,none⟩=false:=by rw[← hV];clear hV;go_simp
 clear hV
 have hS:=λw9 (hb:Below V.heap.size V w9)=>zn5 hb (zcl hb c0) (zcl hb c1) (zcl hb c2) (zcl hb c3)
 refine ZaE (S:=(λw9=>Below V.heap.size V w9∧w9.cell? ⟨w.heap.size,0,none⟩=some (.int .i64 x.key.kind)∧w9.cell? ⟨w.heap.size,1,none⟩=some (.int .i64 x.key.n)∧w9.cell? ⟨w.heap.size,2,none⟩=some (.string x.key.text)∧w9.cell? ⟨w.heap.size,3,none⟩=some (.slice A x.rcd.fields.length c))) [6] (by kernel_rfl) (by (try dsimp only);exact hS _ bl) (λhHeld=>?_)
 refine zrdT (i:=0) 7 3 ?_
 refine zrdT (i:=1) 7 4 ?_
 refine zrdT (i:=2) 7 5 ?_
 refine zrdT (i:=3) 7 6 ?_
 try simp only[Act.put,zp0,zp1,zp2]
 refine ZdW 4 (by kernel_rfl) rfl (λK hK=>?_)
 go_simp
 (go_at_call 166;refine(ZY _ x.rcd.fields F3 _ (by exact zb hr (Za hbV bl)) (by omega)).mono ?_;rintro e w1 ⟨v1,rfl,hb1,ho1⟩;have hbV1:=zt (w:=V) hb1;obtain⟨B1,e1,e9⟩:=ho1.slice;subst e9;have hz1:=hbV1.size;have hs1:w.heap.size+1<w1.heap.size:=(by omega);have t0:=zcl hbV1 d0;have t1:=zcl hbV1 d1;have t2:=zcl hbV1 d2;have t3:=zcl hbV1 d3;have u0:=zcf hbV1 f0;have u1:=zcf hbV1 f1;have u2:=zcf hbV1 f2;have u3:=zcf hbV1 f3)
 try go_wp2_with fail
 refine hK.out _ _ ?_ (λhHeld=>?_)
 ·(try dsimp only)
  exact hS _ bl
 clear hK K
 refine zrdT (i:=5) 7 8 ?_
 refine ZT 6 (by kernel_rfl) rfl (by kernel_rfl) (λK hK=>?_)
 go_simp
 refine hK.out _ _ ?_
 clear hK K
 refine Zfa (by kernel_rfl) ?_ _
 have hbw1:Below w.heap.size w w1:=Za hbV hbV1
 have hlo:=ho1.lt
 obtain⟨F9,hr9,hf9,hw9⟩:=ho1.fresh (hw:=by decide) (hw2:=by decide)
 have hlow:∀b,b∈F9→w.heap.size+2≤b:=λb hb=>by have h9:=hf9.1 b hb;(try simp at h9);omega
 have H9:=zh (And.intro hr9 hf9)
 clear ho1 hr9 hf9 hw9 hlo
 go_wp2_with fail
 refine bodyPost_ret (v:=.agg #[.int .i64 x.key.kind,.int .i64 x.key.n,.string x.key.text,.slice B1 x.rcd.fields.length e1]) (by simp[results,Tryz.results131,go_sem, *]) rfl ?_
 have hfin:cFieldS.rep w1 [.slice B1 x.rcd.fields.length e1] x.rcd.fields F9:=H9.out.1
 exact⟨_,F9,rfl,bl,TItem.mk_ hok (zks hfin hlow),H9.out.2.mono (by (try simp);(try omega))⟩
theorem ZbD (vs:Array Value) (x:TItem) (F:List Nat) (w:World) (h:cItem.rep w vs.toList x F) (hn:ZiY x) :
  Calls Tryz.prog 127 #[.agg vs] w (ZaT cItem w x):=by
 obtain⟨v3,F3,rfl,-,hok,hr⟩:=TItem.outA h
 obtain⟨A,c,rfl⟩:=Zb hr
 unfold ZiY at hn
 clear h
 go_enter Tryz.func127,Tryz.ntmps127
 go_wp2_with fail
 generalize hV:World.alloc _ _=V
 have hVs:V.heap.size=w.heap.size+2:=by rw[← hV];clear hV;simp
 have hbV:Below w.heap.size w V:=by rw[← hV];exact bl
 have c0:V.cell? ⟨w.heap.size,0,none⟩=some (.int .i64 x.key.kind):=by rw[← hV];clear hV;go_simp
 have c1:V.cell? ⟨w.heap.size,1,none⟩=some (.int .i64 x.key.n):=by rw[← hV];clear hV;go_simp
 have c2:V.cell? ⟨w.heap.size,2,none⟩=some (.string x.key.text):=by rw[← hV];clear hV;go_simp
 have c3:V.cell? ⟨w.heap.size,3,none⟩=some (.slice A x.rcd.fields.length c):=by rw[← hV];clear hV;go_simp
 have d0:V.cell? ⟨w.heap.size+1,0,none⟩=some (.int .i64 0):=by rw[← hV];clear hV;go_simp
 have d1:V.cell? ⟨w.heap.size+1,1,none⟩=some (.int .i64 0):=by rw[← hV];clear hV;go_simp
 have d2:V.cell? ⟨w.heap.size+1,2,none⟩=some (.string ⟨#[]⟩):=by rw[← hV];clear hV;go_simp
 have d3:V.cell? ⟨w.heap.size+1,3,none⟩=some (.slice none 0 0):=by rw[← hV];clear hV;go_simp
 have f0:V.frozen? ⟨w.heap.size+1,0,none⟩=false:=by rw[← hV];clear hV;go_simp
 have f1:V.frozen? ⟨w.heap.size+1,1,none⟩=false:=by rw[← hV];clear hV;go_simp
 have f2:V.frozen? ⟨w.heap.size+1,2,none⟩=false:=by rw[← hV];clear hV;go_simp
 have f3:V.frozen? ⟨w.heap.size+1,3,none⟩=false:=by rw[← hV];clear hV;go_simp
 clear hV
 have hS:=λw9 (hb:Below V.heap.size V w9)=>zn5 hb (zcl hb c0) (zcl hb c1) (zcl hb c2) (zcl hb c3)
 refine ZaE (S:=(λw9=>Below V.heap.size V w9∧w9.cell? ⟨w.heap.size,0,none⟩=some (.int .i64 x.key.kind)∧w9.cell? ⟨w.heap.size,1,none⟩=some (.int .i64 x.key.n)∧w9.cell? ⟨w.heap.size,2,none⟩=some (.string x.key.text)∧w9.cell? ⟨w.heap.size,3,none⟩=some (.slice A x.rcd.fields.length c))) [6] (by kernel_rfl) (by (try dsimp only);exact hS _ bl) (λhHeld=>?_)
 refine zrdT (i:=0) 7 3 ?_
 refine zrdT (i:=1) 7 4 ?_
 refine zrdT (i:=2) 7 5 ?_
 refine zrdT (i:=3) 7 6 ?_
 try simp only[Act.put,zp0,zp1,zp2]
 refine ZdW 4 (by kernel_rfl) rfl (λK hK=>?_)
 go_simp
 (go_at_call 163;refine(Zai _ x.rcd.fields F3 _ (by exact zb hr (Za hbV bl)) (by omega)).mono ?_;rintro e w1 ⟨v1,rfl,hb1,ho1⟩;have hbV1:=zt (w:=V) hb1;obtain⟨B1,e1,e9⟩:=ho1.slice;subst e9;have hz1:=hbV1.size;have hs1:w.heap.size+1<w1.heap.size:=(by omega);have t0:=zcl hbV1 d0;have t1:=zcl hbV1 d1;have t2:=zcl hbV1 d2;have t3:=zcl hbV1 d3;have u0:=zcf hbV1 f0;have u1:=zcf hbV1 f1;have u2:=zcf hbV1 f2;have u3:=zcf hbV1 f3)
 try go_wp2_with fail
 refine hK.out _ _ ?_ (λhHeld=>?_)
 ·(try dsimp only)
  exact hS _ bl
 clear hK K
 refine zrdT (i:=5) 7 8 ?_
 refine ZT 6 (by kernel_rfl) rfl (by kernel_rfl) (λK hK=>?_)
 go_simp
 refine hK.out _ _ ?_
 clear hK K
 refine Zfa (by kernel_rfl) ?_ _
 have hbw1:Below w.heap.size w w1:=Za hbV hbV1
 have hlo:=ho1.lt
 obtain⟨F9,hr9,hf9,hw9⟩:=ho1.fresh (hw:=by decide) (hw2:=by decide)
 have hlow:∀b,b∈F9→w.heap.size+2≤b:=λb hb=>by have h9:=hf9.1 b hb;(try simp at h9);omega
 have H9:=zh (And.intro hr9 hf9)
 clear ho1 hr9 hf9 hw9 hlo
 go_wp2_with fail
 refine bodyPost_ret (v:=.agg #[.int .i64 x.key.kind,.int .i64 x.key.n,.string x.key.text,.slice B1 x.rcd.fields.length e1]) (by simp[results,Tryz.results127,go_sem, *]) rfl ?_
 have hfin:cFieldS.rep w1 [.slice B1 x.rcd.fields.length e1] x.rcd.fields F9:=H9.out.1
 exact⟨_,F9,rfl,bl,TItem.mk_ hok (zks hfin hlow),H9.out.2.mono (by (try simp);(try omega))⟩
end Go.Proofs.YtghndifnohkokaaGreat
