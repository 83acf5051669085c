import Derived.Test.YtghndifnohkokaaGreatZIsStore
namespace Go.Proofs.YtghndifnohkokaaGreat
open Go.ChangeShapes Go.WideShapes Go.RowKit
set_option linter.unusedVariables false
set_option linter.unusedSimpArgs false
set_option maxRecDepth 100000
set_option maxHeartbeats 16000000
theorem Zpz {f:ByteArray} {a b:TItem} (h:ZX a f<ZX b f):Zdu f a b=true:=by unfold Zdu;simp[h]
theorem ZpA {f:ByteArray} {a b:TItem} (h:¬ZX a f<ZX b f) (h2:(ZX a f==ZX b f)=false):Zdu f a b=false:=by unfold Zdu;simp[h,h2]
theorem ZpB {f:ByteArray} {a b:TItem} (h:¬ZX a f<ZX b f) (h2:(ZX a f==ZX b f)=true):Zdu f a b=decide (Zf a.key b.key<0):=by unfold Zdu;simp[h,h2]
theorem ZeO (v1 v2:Value) (a b:TItem) (f:ByteArray) (F1 F2:List Nat) (w:World) (h1:cFieldS.rep w [v1] a.rcd.fields F1) (h2:cFieldS.rep w [v2] b.rcd.fields F2) (ha:a.Ok) (hb:b.Ok) :
  Calls Tryz.prog 174 #[.agg #[.int .i64 a.key.kind,.int .i64 a.key.n,.string a.key.text,v1],.agg #[.int .i64 b.key.kind,.int .i64 b.key.n,.string b.key.text,v2],.string f] w (ZL w (.bool (Zdu f a b))):=by
 obtain⟨A1,c1,rfl⟩:=Zb h1;obtain⟨A2,c2,rfl⟩:=Zb h2;go_enter Tryz.func174,Tryz.ntmps174
 go_wp2_with fail;refine(ZaN _ a.rcd.fields f _ _ (by exact zb h1)).mono ?_
 rintro e w1 ⟨rfl,hb1⟩;obtain⟨hc_w1,hf_w1,hz_w1⟩:=Zc hb1
 try simp at hz_w1
 obtain⟨ha0_w1,ha1_w1⟩:=zg2 w.heap.size w1.heap.size;have hb_w1:=zt (w:=w) hb1
 go_wp2_with fail;refine(ZaN _ b.rcd.fields f _ _ (by exact zb h2)).mono ?_
 rintro e w2 ⟨rfl,hb2⟩;obtain⟨hc_w2,hf_w2,hz_w2⟩:=Zc hb2
 try simp at hz_w2
 obtain⟨ha0_w2,ha1_w2⟩:=zg2 w.heap.size w2.heap.size;have hb_w2:=zt (w:=w) hb2
 have hx:(Zk ⟨a.rcd.fields⟩ f).1=ZX a f:=rfl
 have hy:(Zk ⟨b.rcd.fields⟩ f).1=ZX b f:=rfl
 rw[hx,hy]
 by_cases g1:ZX a f<ZX b f
 ·have HE:=zh (Zpz g1)
  go_wp2_with fail;go_ret
  exact⟨Zd (by (try rw[HE.out]);(try simp);(try (intros;omega))),bl⟩
 ·cases g2:(ZX a f==ZX b f)
  ·have HE:=zh (ZpA g1 g2)
   go_wp2_with fail;go_ret
   exact⟨Zd (by (try rw[HE.out]);(try simp);(try (intros;omega))),bl⟩
  ·have HE:=zh (ZpB g1 g2)
   go_wp2_with fail;refine(Zz a.key b.key _ ha.h2 hb.h2).mono ?_
   rintro e w3 ⟨rfl,hb3⟩;obtain⟨hc_w3,hf_w3,hz_w3⟩:=Zc hb3
   try simp at hz_w3
   obtain⟨ha0_w3,ha1_w3⟩:=zg2 w.heap.size w3.heap.size;have hb_w3:=zt (w:=w) hb3
   go_wp2_with fail;go_ret
   exact⟨Zd (by (try rw[HE.out]);(try simp);(try (intros;omega))),bl⟩
theorem ZeU (v1 v2:Value) (a b:TItem) (f:ByteArray) (F1 F2:List Nat) (w:World) (h1:cFieldS.rep w [v1] a.rcd.fields F1) (h2:cFieldS.rep w [v2] b.rcd.fields F2) (ha:a.Ok) (hb:b.Ok) :
  Calls Tryz.prog 169 #[.agg #[.int .i64 a.key.kind,.int .i64 a.key.n,.string a.key.text,v1],.agg #[.int .i64 b.key.kind,.int .i64 b.key.n,.string b.key.text,v2],.string f] w (ZL w (.bool (Zdu f a b))):=by
 obtain⟨A1,c1,rfl⟩:=Zb h1;obtain⟨A2,c2,rfl⟩:=Zb h2;go_enter Tryz.func169,Tryz.ntmps169
 go_wp2_with fail;refine(ZaP _ a.rcd.fields f _ _ (by exact zb h1)).mono ?_
 rintro e w1 ⟨rfl,hb1⟩;obtain⟨hc_w1,hf_w1,hz_w1⟩:=Zc hb1
 try simp at hz_w1
 obtain⟨ha0_w1,ha1_w1⟩:=zg2 w.heap.size w1.heap.size;have hb_w1:=zt (w:=w) hb1
 go_wp2_with fail;refine(ZaP _ b.rcd.fields f _ _ (by exact zb h2)).mono ?_
 rintro e w2 ⟨rfl,hb2⟩;obtain⟨hc_w2,hf_w2,hz_w2⟩:=Zc hb2
 try simp at hz_w2
 obtain⟨ha0_w2,ha1_w2⟩:=zg2 w.heap.size w2.heap.size;have hb_w2:=zt (w:=w) hb2
 have hx:(Zk ⟨a.rcd.fields⟩ f).1=ZX a f:=rfl
 have hy:(Zk ⟨b.rcd.fields⟩ f).1=ZX b f:=rfl
 rw[hx,hy]
 by_cases g1:ZX a f<ZX b f
 ·have HE:=zh (Zpz g1)
  go_wp2_with fail;go_ret
  exact⟨Zd (by (try rw[HE.out]);(try simp);(try (intros;omega))),bl⟩
 ·cases g2:(ZX a f==ZX b f)
  ·have HE:=zh (ZpA g1 g2)
   go_wp2_with fail;go_ret
   exact⟨Zd (by (try rw[HE.out]);(try simp);(try (intros;omega))),bl⟩
  ·have HE:=zh (ZpB g1 g2)
   go_wp2_with fail;refine(ZA a.key b.key _ ha.h2 hb.h2).mono ?_
   rintro e w3 ⟨rfl,hb3⟩;obtain⟨hc_w3,hf_w3,hz_w3⟩:=Zc hb3
   try simp at hz_w3
   obtain⟨ha0_w3,ha1_w3⟩:=zg2 w.heap.size w3.heap.size;have hb_w3:=zt (w:=w) hb3
   go_wp2_with fail;go_ret
   exact⟨Zd (by (try rw[HE.out]);(try simp);(try (intros;omega))),bl⟩
end Go.Proofs.YtghndifnohkokaaGreat
