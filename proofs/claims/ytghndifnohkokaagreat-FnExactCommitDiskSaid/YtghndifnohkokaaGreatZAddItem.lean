import Derived.Test.YtghndifnohkokaaGreatZPutS
import Derived.Test.YtghndifnohkokaaGreatZPutI
namespace Go.Proofs.YtghndifnohkokaaGreat
open Go.ChangeShapes Go.WideShapes Go.RowKit
set_option linter.unusedVariables false
set_option linter.unusedSimpArgs false
set_option maxRecDepth 100000
set_option maxHeartbeats 16000000
theorem ZnC {s:TStore} {k:TKey} {r:TRec} (h:ZF s k=-1):Zcd s k r=ZO s k r:=by unfold Zcd;rw[h,if_neg (by omega)]
theorem ZnB {s:TStore} {k:TKey} {r:TRec} {j:Nat} (h:ZF s k=j):Zcd s k r=(s,false):=by unfold Zcd;rw[h,if_pos (by omega)]
theorem ZhL (v vr:Value) (s:TStore) (k:TKey) (r:TRec) (F FR:List Nat) (w:World) (h:cItemS.rep w [v] s.items F) (hr:cFieldS.rep w [vr] r.fields FR) (hok:s.Ok) (hkk:k.Ok) (hsm:ZcE s) (hrl:r.fields.length≤1000000) :
  Calls Tryz.prog 156 #[.agg #[.string s.name,v,.int .i64 s.auto],.agg #[.int .i64 k.kind,.int .i64 k.n,.string k.text],.agg #[vr]] w (GivesR2 cStore w (Zcd s k r).1 (.bool (Zcd s k r).2)):=by
 obtain⟨A,cp,rfl⟩:=Zb h;obtain⟨R,cr,rfl⟩:=Zb hr;go_enter Tryz.func156,Tryz.ntmps156
 go_wp2_with fail;refine(ZcT _ s k F _ (by exact zb h)).mono ?_
 rintro e w1 ⟨he,hb1⟩
 rcases ZbF s k with hfn|⟨j,hj,hfn⟩
 ·rw[hfn] at he
  subst he;have HE:=zh (ZnC (r:=r) hfn)
  obtain⟨hc_w1,hf_w1,hz_w1⟩:=Zc hb1
  try simp at hz_w1
  obtain⟨ha0_w1,ha1_w1,ha2_w1,ha3_w1⟩:=zg4 w.heap.size w1.heap.size;have hb_w1:=zt (w:=w) hb1
  go_wp2_with fail;refine(Zcr _ _ s k r F FR _ (by exact zb h) (by exact zb hr) hok hkk hsm hrl).mono ?_
  rw[HE.out]
  generalize ZO s k r=q at *
  obtain⟨y,ok⟩:=q;rintro e w2 ⟨vs2,F2,rfl,hb2,hr2,hl2⟩;simp only at *
  obtain⟨v3,_,rfl,rfl,hok2,hr3⟩:=TStore.outA hr2;obtain⟨B2,c2,rfl⟩:=Zb hr3;obtain⟨hc_w2,hf_w2,hz_w2⟩:=Zc hb2
  try simp at hz_w2
  obtain⟨ha0_w2,ha1_w2,ha2_w2,ha3_w2⟩:=zg4 w.heap.size w2.heap.size;have hb_w2:=zt (w:=w) hb2
  have HP:=zh (And.intro hr3 hl2)
  have hlow:∀b,b∈F2→w.heap.size+4≤b:=λb hb=>by have h9:=hl2.1 b hb;(try simp at h9);omega
  clear hr2 hr3 hl2;go_wp2_with fail;refine bodyPost_ret (v:=.tuple #[.agg #[.string y.name,.slice B2 y.items.length c2,.int .i64 y.auto],.bool ok]) (by simp[results,Tryz.results156,go_sem, *]) rfl ?_
  rw[HE.out]
  have hfin:cItemS.rep w2 [.slice B2 y.items.length c2] y.items F2:=HP.out.1
  exact⟨_,F2,rfl,bl,TStore.mk_ hok2 (zks hfin hlow),⟨Lo.mono hlow (by omega),HP.out.2.2⟩⟩
 ·rw[hfn] at he
  subst he;have HE:=zh (ZnB (r:=r) hfn)
  obtain⟨hc_w1,hf_w1,hz_w1⟩:=Zc hb1
  try simp at hz_w1
  obtain⟨ha0_w1,ha1_w1,ha2_w1,ha3_w1⟩:=zg4 w.heap.size w1.heap.size;have hb_w1:=zt (w:=w) hb1
  have hj0:(0:Int)≤(j:Int):=by omega
  go_wp2_with fail;refine(ZI #[_,_,_] s F _ (by exact TStore.mk_ hok (zb h)) hsm).mono ?_
  intro e w2 hcr;obtain⟨B2,c2,F2,rfl,hb2,-,hr2,hl2⟩:=ZgT hcr;clear hcr;obtain⟨hc_w2,hf_w2,hz_w2⟩:=Zc hb2
  try simp at hz_w2
  obtain⟨ha0_w2,ha1_w2,ha2_w2,ha3_w2⟩:=zg4 w.heap.size w2.heap.size;have hb_w2:=zt (w:=w) hb2
  have HP:=zh (And.intro hr2 hl2)
  have hlow:∀b,b∈F2→w.heap.size+4≤b:=λb hb=>by have h9:=hl2.1 b hb;(try simp at h9);omega
  go_wp2_with fail;refine bodyPost_ret (v:=.tuple #[.agg #[.string s.name,.slice B2 s.items.length c2,.int .i64 s.auto],.bool false]) (by simp[results,Tryz.results156,go_sem, *]) rfl ?_
  rw[HE.out]
  have hfin:cItemS.rep w2 [.slice B2 s.items.length c2] s.items F2:=HP.out.1
  exact⟨_,F2,rfl,bl,TStore.mk_ hok (zks hfin hlow),⟨Lo.mono hlow (by omega),HP.out.2.2⟩⟩
theorem Zit (v vr:Value) (s:TStore) (k:TKey) (r:TRec) (F FR:List Nat) (w:World) (h:cItemS.rep w [v] s.items F) (hr:cFieldS.rep w [vr] r.fields FR) (hok:s.Ok) (hkk:k.Ok) (hsm:ZcE s) (hrl:r.fields.length≤1000000) :
  Calls Tryz.prog 140 #[.agg #[.string s.name,v,.int .i64 s.auto],.agg #[.int .i64 k.kind,.int .i64 k.n,.string k.text],.agg #[vr]] w (Zlr cStore w (Zcd s k r).1 (.bool (Zcd s k r).2)):=by
 obtain⟨A,cp,rfl⟩:=Zb h;obtain⟨R,cr,rfl⟩:=Zb hr;go_enter Tryz.func140,Tryz.ntmps140
 go_wp2_with fail;refine(Zcc _ s k F _ (by exact zb h)).mono ?_
 rintro e w1 ⟨he,hb1⟩
 rcases ZbF s k with hfn|⟨j,hj,hfn⟩
 ·rw[hfn] at he
  subst he;have HE:=zh (ZnC (r:=r) hfn)
  obtain⟨hc_w1,hf_w1,hz_w1⟩:=Zc hb1
  try simp at hz_w1
  obtain⟨ha0_w1,ha1_w1,ha2_w1,ha3_w1⟩:=zg4 w.heap.size w1.heap.size;have hb_w1:=zt (w:=w) hb1
  go_wp2_with fail;refine(Zcz _ _ s k r F FR _ (by exact zb h) (by exact zb hr) hok hkk hsm hrl).mono ?_
  rw[HE.out]
  generalize ZO s k r=q at *
  obtain⟨y,ok⟩:=q;rintro e w2 ⟨vs2,F2,rfl,hb2,hr2,hl2⟩;simp only at *
  obtain⟨v3,_,rfl,rfl,hok2,hr3⟩:=TStore.outA hr2;obtain⟨B2,c2,rfl⟩:=Zb hr3;obtain⟨hc_w2,hf_w2,hz_w2⟩:=Zc hb2
  try simp at hz_w2
  obtain⟨ha0_w2,ha1_w2,ha2_w2,ha3_w2⟩:=zg4 w.heap.size w2.heap.size;have hb_w2:=zt (w:=w) hb2
  have HP:=zh (And.intro hr3 hl2)
  have hlow:∀b,b∈F2→w.heap.size+4≤b:=λb hb=>by have h9:=hl2 b hb;(try simp at h9);omega
  clear hr2 hr3 hl2;go_wp2_with fail;refine bodyPost_ret (v:=.tuple #[.agg #[.string y.name,.slice B2 y.items.length c2,.int .i64 y.auto],.bool ok]) (by simp[results,Tryz.results140,go_sem, *]) rfl ?_
  rw[HE.out]
  have hfin:cItemS.rep w2 [.slice B2 y.items.length c2] y.items F2:=HP.out.1
  exact⟨_,F2,rfl,bl,TStore.mk_ hok2 (zks hfin hlow),Lo.mono hlow (by omega)⟩
 ·rw[hfn] at he
  subst he;have HE:=zh (ZnB (r:=r) hfn)
  obtain⟨hc_w1,hf_w1,hz_w1⟩:=Zc hb1
  try simp at hz_w1
  obtain⟨ha0_w1,ha1_w1,ha2_w1,ha3_w1⟩:=zg4 w.heap.size w1.heap.size;have hb_w1:=zt (w:=w) hb1
  have hj0:(0:Int)≤(j:Int):=by omega
  go_wp2_with fail;refine(ZP #[_,_,_] s F _ (by exact TStore.mk_ hok (zb h)) hsm).mono ?_
  intro e w2 hcr;obtain⟨B2,c2,F2,rfl,hb2,-,hr2,hl2⟩:=ZgW hcr;clear hcr;obtain⟨hc_w2,hf_w2,hz_w2⟩:=Zc hb2
  try simp at hz_w2
  obtain⟨ha0_w2,ha1_w2,ha2_w2,ha3_w2⟩:=zg4 w.heap.size w2.heap.size;have hb_w2:=zt (w:=w) hb2
  have HP:=zh (And.intro hr2 hl2)
  have hlow:∀b,b∈F2→w.heap.size+4≤b:=λb hb=>by have h9:=hl2 b hb;(try simp at h9);omega
  go_wp2_with fail;refine bodyPost_ret (v:=.tuple #[.agg #[.string s.name,.slice B2 s.items.length c2,.int .i64 s.auto],.bool false]) (by simp[results,Tryz.results140,go_sem, *]) rfl ?_
  rw[HE.out]
  have hfin:cItemS.rep w2 [.slice B2 s.items.length c2] s.items F2:=HP.out.1
  exact⟨_,F2,rfl,bl,TStore.mk_ hok (zks hfin hlow),Lo.mono hlow (by omega)⟩
end Go.Proofs.YtghndifnohkokaaGreat
