import Derived.Test.YtghndifnohkokaaGreatZCommitI
import Derived.Test.YtghndifnohkokaaGreatZCommitS
import Derived.Test.YtghndifnohkokaaGreatZEqSItem
namespace Go.Proofs.YtghndifnohkokaaGreat
open Go.ChangeShapes Go.WideShapes Go.RowKit
set_option linter.unusedVariables false
set_option linter.unusedSimpArgs false
set_option maxRecDepth 100000
set_option maxHeartbeats 16000000
section
open Go.ChangeMaps (open_string shut_string)
theorem Zge (a0:Array Value) (p0:TDisk) (F0:List Nat) (a1:Value) (p1:List TOp) (F1:List Nat) (w:World) (h0:cDisk.rep w a0.toList p0 F0) (h1:cOpS.rep w [a1] p1 F1) :
  Calls Tryz.prog 4 #[.agg a0,a1] w (ZL w (.bool true)):=by
 have r0:=h0;obtain⟨v0_2,v0_3,v0_4,E0_2,E0_3,E0_4,rfl,-,-,m0_2,m0_3,m0_4⟩:=TDisk.outA r0;obtain⟨A0_2,c0_2,e0_2⟩:=Zb m0_2;subst e0_2;obtain⟨A0_3,c0_3,e0_3⟩:=Zb m0_3;subst e0_3;obtain⟨A0_4,c0_4,e0_4⟩:=Zb m0_4;subst e0_4;clear m0_2 m0_3 m0_4;clear r0;obtain⟨A1,c1,e1⟩:=Zb h1;subst e1;go_enter Tryz.func4,Tryz.ntmps4
 go_wp2_with fail
 by_cases l0:(1048576-(cDisk.sz p0:Nat):Int)<0
 ·have HV:=zh (Zj l0)
  refine(ZeF _ p0 _ _ _ (by exact zb h0) (by omega) (by omega)).mono ?_
  rintro e w1 ⟨rfl,hbw1⟩;rw[HV.out]
  have hBw1:=zt (w:=w) hbw1
  go_wp2_with fail;go_ret
  exact⟨rfl,hBw1⟩
 ·have HV:=zh (Zw l0)
  have pz0:0≤(1048576-(cDisk.sz p0:Nat):Int):=by omega
  have z0:cDisk.sz p0≤1048576:=by omega
  refine(ZeF _ p0 _ _ _ (by exact zb h0) (by omega) (by omega)).mono ?_
  rintro e w1 ⟨rfl,hbw1⟩;rw[HV.out]
  clear HV;have hsw1:=hbw1.size;(try simp at hsw1)
  have hzw1_0:w.heap.size<w1.heap.size:=by omega
  have hBw1:=zt (w:=w) hbw1
  obtain⟨hcw1,hfzw1,-⟩:=Zc hbw1;clear hbw1;go_wp2_with fail
  by_cases l1:(1048576-(cDisk.sz p0:Nat)-(cOpS.sz p1:Nat):Int)<0
  ·have HV:=zh (Zj l1)
   refine(Zli _ p1 _ _ _ (by exact zb h1) (by omega) (by omega)).mono ?_
   rintro e w2 ⟨rfl,hbw2⟩;rw[HV.out]
   have hBw2:=zt (w:=w) hbw2
   go_wp2_with fail;go_ret
   exact⟨rfl,hBw2⟩
  ·have HV:=zh (Zw l1)
   have pz1:0≤(1048576-(cDisk.sz p0:Nat)-(cOpS.sz p1:Nat):Int):=by omega
   have z1:cOpS.sz p1≤1048576:=by omega
   refine(Zli _ p1 _ _ _ (by exact zb h1) (by omega) (by omega)).mono ?_
   rintro e w2 ⟨rfl,hbw2⟩;rw[HV.out]
   clear HV;have hsw2:=hbw2.size;(try simp at hsw2)
   have hzw2_0:w.heap.size<w2.heap.size:=by omega
   have hBw2:=zt (w:=w) hbw2
   obtain⟨hcw2,hfzw2,-⟩:=Zc hbw2;clear hbw2;go_wp2_with fail;refine(Zck _ p0 _ _ (by exact zb h0) z0).mono ?_
   rintro e w3 ⟨uw3,Gw3,rfl,hbw3,hrw3,hfw3⟩;have drw3:=hrw3;obtain⟨vrw3_2,vrw3_3,vrw3_4,Erw3_2,Erw3_3,Erw3_4,rfl,-,-,mrw3_2,mrw3_3,mrw3_4⟩:=TDisk.outA drw3;obtain⟨Arw3_2,crw3_2,erw3_2⟩:=Zb mrw3_2;subst erw3_2;obtain⟨Arw3_3,crw3_3,erw3_3⟩:=Zb mrw3_3;subst erw3_3;obtain⟨Arw3_4,crw3_4,erw3_4⟩:=Zb mrw3_4;subst erw3_4;clear mrw3_2 mrw3_3 mrw3_4 drw3;have hsw3:=hbw3.size;(try simp at hsw3)
   have hzw3_0:w.heap.size<w3.heap.size:=by omega
   have hBw3:=zt (w:=w) hbw3
   have hlrw3:∀b,b∈Gw3→b<w3.heap.size:=λb hb=>Cod.lt _ hrw3 b hb
   obtain⟨hcw3,hfzw3,-⟩:=Zc hbw3;clear hbw3;go_wp2_with fail;refine(ZfP _ p1 _ _ (by exact zb h1) z1).mono ?_
   rintro e w4 ⟨uw4,Gw4,rfl,hbw4,hrw4,hfw4⟩;obtain⟨Arw4,crw4,erw4⟩:=Zb hrw4;subst erw4;have hsw4:=hbw4.size;(try simp at hsw4)
   have hzw4_0:w.heap.size<w4.heap.size:=by omega
   have hBw4:=zt (w:=w) hbw4
   replace hrw3:=zb hrw3 (zt hbw4)
   have hlrw4:∀b,b∈Gw4→b<w4.heap.size:=λb hb=>Cod.lt _ hrw4 b hb
   obtain⟨hcw4,hfzw4,-⟩:=Zc hbw4;clear hbw4;go_wp2_with fail;refine(ZfI _ p0 _ _ p1 _ _ (by exact zb hrw3) z0 (by exact zb hrw4) z1).mono ?_
   rintro e w5 ⟨uw5,Gw5,rfl,hbw5,hrw5,hfw5⟩;have drw5:=hrw5;obtain⟨vrw5_2,vrw5_3,vrw5_4,Erw5_2,Erw5_3,Erw5_4,rfl,-,-,mrw5_2,mrw5_3,mrw5_4⟩:=TDisk.outA drw5;obtain⟨Arw5_2,crw5_2,erw5_2⟩:=Zb mrw5_2;subst erw5_2;obtain⟨Arw5_3,crw5_3,erw5_3⟩:=Zb mrw5_3;subst erw5_3;obtain⟨Arw5_4,crw5_4,erw5_4⟩:=Zb mrw5_4;subst erw5_4;clear mrw5_2 mrw5_3 mrw5_4 drw5;have hsw5:=hbw5.size;(try simp at hsw5)
   have hzw5_0:w.heap.size<w5.heap.size:=by omega
   have hBw5:=zt (w:=w) hbw5
   replace hrw3:=zb hrw3 (zt hbw5)
   replace hrw4:=zb hrw4 (zt hbw5)
   have hlrw5:∀b,b∈Gw5→b<w5.heap.size:=λb hb=>Cod.lt _ hrw5 b hb
   obtain⟨hcw5,hfzw5,-⟩:=Zc hbw5;clear hbw5;go_wp2_with fail;refine(Zck _ p0 _ _ (by exact zb h0) z0).mono ?_
   rintro e w6 ⟨uw6,Gw6,rfl,hbw6,hrw6,hfw6⟩;have drw6:=hrw6;obtain⟨vrw6_2,vrw6_3,vrw6_4,Erw6_2,Erw6_3,Erw6_4,rfl,-,-,mrw6_2,mrw6_3,mrw6_4⟩:=TDisk.outA drw6;obtain⟨Arw6_2,crw6_2,erw6_2⟩:=Zb mrw6_2;subst erw6_2;obtain⟨Arw6_3,crw6_3,erw6_3⟩:=Zb mrw6_3;subst erw6_3;obtain⟨Arw6_4,crw6_4,erw6_4⟩:=Zb mrw6_4;subst erw6_4;clear mrw6_2 mrw6_3 mrw6_4 drw6;have hsw6:=hbw6.size;(try simp at hsw6)
   have hzw6_0:w.heap.size<w6.heap.size:=by omega
   have hzw6_1:w5.heap.size<w6.heap.size:=by omega
   have hBw6:=zt (w:=w) hbw6
   replace hrw3:=zb hrw3 (zt hbw6)
   replace hrw4:=zb hrw4 (zt hbw6)
   replace hrw5:=zb hrw5 (zt hbw6)
   have hlrw6:∀b,b∈Gw6→b<w6.heap.size:=λb hb=>Cod.lt _ hrw6 b hb
   obtain⟨hcw6,hfzw6,-⟩:=Zc hbw6;clear hbw6;go_wp2_with fail;refine(ZfP _ p1 _ _ (by exact zb h1) z1).mono ?_
   rintro e w7 ⟨uw7,Gw7,rfl,hbw7,hrw7,hfw7⟩;obtain⟨Arw7,crw7,erw7⟩:=Zb hrw7;subst erw7;have hsw7:=hbw7.size;(try simp at hsw7)
   have hzw7_0:w.heap.size<w7.heap.size:=by omega
   have hzw7_1:w5.heap.size<w7.heap.size:=by omega
   have hzw7_2:w6.heap.size<w7.heap.size:=by omega
   have hBw7:=zt (w:=w) hbw7
   replace hrw3:=zb hrw3 (zt hbw7)
   replace hrw4:=zb hrw4 (zt hbw7)
   replace hrw5:=zb hrw5 (zt hbw7)
   replace hrw6:=zb hrw6 (zt hbw7)
   have hlrw7:∀b,b∈Gw7→b<w7.heap.size:=λb hb=>Cod.lt _ hrw7 b hb
   obtain⟨hcw7,hfzw7,-⟩:=Zc hbw7;clear hbw7;go_wp2_with fail;refine(Zdr _ p0 _ _ p1 _ _ (by exact zb hrw6) z0 (by exact zb hrw7) z1).mono ?_
   rintro e w8 ⟨uw8,Gw8,rfl,hbw8,hrw8,hfw8⟩;have drw8:=hrw8;obtain⟨vrw8_2,vrw8_3,vrw8_4,Erw8_2,Erw8_3,Erw8_4,rfl,-,-,mrw8_2,mrw8_3,mrw8_4⟩:=TDisk.outA drw8;obtain⟨Arw8_2,crw8_2,erw8_2⟩:=Zb mrw8_2;subst erw8_2;obtain⟨Arw8_3,crw8_3,erw8_3⟩:=Zb mrw8_3;subst erw8_3;obtain⟨Arw8_4,crw8_4,erw8_4⟩:=Zb mrw8_4;subst erw8_4;clear mrw8_2 mrw8_3 mrw8_4 drw8;have hsw8:=hbw8.size;(try simp at hsw8)
   have hzw8_0:w.heap.size<w8.heap.size:=by omega
   have hzw8_1:w5.heap.size<w8.heap.size:=by omega
   have hzw8_2:w6.heap.size<w8.heap.size:=by omega
   have hBw8:=zt (w:=w) hbw8
   replace hrw3:=zb hrw3 (zt hbw8)
   replace hrw4:=zb hrw4 (zt hbw8)
   replace hrw5:=zb hrw5 (zt hbw8)
   replace hrw6:=zb hrw6 (zt hbw8)
   replace hrw7:=zb hrw7 (zt hbw8)
   have hlrw8:∀b,b∈Gw8→b<w8.heap.size:=λb hb=>Cod.lt _ hrw8 b hb
   have zr:cDisk.sz ((ZH p0 p1).1)≤8000000:=(by have h:=ZjL p0 p1;have:=z0;omega)
   obtain⟨hcw8,hfzw8,-⟩:=Zc hbw8;clear hbw8;go_wp2_with fail;refine(Zch _ _ ((ZH p0 p1).1) _ _ _ (by exact zb hrw8) (by exact zb hrw5)).mono ?_
   rintro e w9 ⟨rfl,hbw9⟩;have hsw9:=hbw9.size;(try simp at hsw9)
   have hzw9_0:w.heap.size<w9.heap.size:=by omega
   have hzw9_1:w5.heap.size<w9.heap.size:=by omega
   have hzw9_2:w6.heap.size<w9.heap.size:=by omega
   have hzw9_3:w8.heap.size<w9.heap.size:=by omega
   have hBw9:=zt (w:=w) hbw9
   replace hrw3:=zb hrw3 (zt hbw9)
   replace hrw4:=zb hrw4 (zt hbw9)
   replace hrw5:=zb hrw5 (zt hbw9)
   replace hrw6:=zb hrw6 (zt hbw9)
   replace hrw7:=zb hrw7 (zt hbw9)
   replace hrw8:=zb hrw8 (zt hbw9)
   obtain⟨hcw9,hfzw9,-⟩:=Zc hbw9;clear hbw9;go_wp2_with fail;have kw11_0:w9.cell? ⟨w6.heap.size,0,none⟩=some (.string p0.base.name):=by go_simp
   have kw11_1:w9.cell? ⟨w6.heap.size,1,none⟩=some (.int .i64 p0.base.ver):=by go_simp
   have kw11_2:w9.cell? ⟨w6.heap.size,2,none⟩=some (.slice Arw6_2 p0.base.stores.length crw6_2):=by go_simp
   have kw11_3:w9.cell? ⟨w6.heap.size,3,none⟩=some (.slice Arw6_3 p0.base.uniq.length crw6_3):=by go_simp
   have kw11_4:w9.cell? ⟨w6.heap.size,4,none⟩=some (.slice Arw6_4 p0.log.length crw6_4):=by go_simp
   have kw11_5:w9.cell? ⟨w6.heap.size,5,none⟩=some (.int .i64 p0.count):=by go_simp
   have kw11_6:w9.cell? ⟨w.heap.size,0,none⟩=some (.string p0.base.name):=by go_simp
   have kw11_7:w9.cell? ⟨w.heap.size,1,none⟩=some (.int .i64 p0.base.ver):=by go_simp
   have kw11_8:w9.cell? ⟨w.heap.size,2,none⟩=some (.slice A0_2 p0.base.stores.length c0_2):=by go_simp
   have kw11_9:w9.cell? ⟨w.heap.size,3,none⟩=some (.slice A0_3 p0.base.uniq.length c0_3):=by go_simp
   have kw11_10:w9.cell? ⟨w.heap.size,4,none⟩=some (.slice A0_4 p0.log.length c0_4):=by go_simp
   have kw11_11:w9.cell? ⟨w.heap.size,5,none⟩=some (.int .i64 p0.count):=by go_simp
   have hS:=λwS (hb:Below w9.heap.size w9 wS)=>zn13 hb (zcl hb kw11_0) (zcl hb kw11_1) (zcl hb kw11_2) (zcl hb kw11_3) (zcl hb kw11_4) (zcl hb kw11_5) (zcl hb kw11_6) (zcl hb kw11_7) (zcl hb kw11_8) (zcl hb kw11_9) (zcl hb kw11_10) (zcl hb kw11_11)
   have hwb:Below w9.heap.size w9 w9:=Below.refl _ _
   clear kw11_0 kw11_1 kw11_2 kw11_3 kw11_4 kw11_5 kw11_6 kw11_7 kw11_8 kw11_9 kw11_10 kw11_11
   go_region_held3 (λwS=>Below w9.heap.size w9 wS∧wS.cell? ⟨w6.heap.size,0,none⟩=some (.string p0.base.name)∧wS.cell? ⟨w6.heap.size,1,none⟩=some (.int .i64 p0.base.ver)∧wS.cell? ⟨w6.heap.size,2,none⟩=some (.slice Arw6_2 p0.base.stores.length crw6_2)∧wS.cell? ⟨w6.heap.size,3,none⟩=some (.slice Arw6_3 p0.base.uniq.length crw6_3)∧wS.cell? ⟨w6.heap.size,4,none⟩=some (.slice Arw6_4 p0.log.length crw6_4)∧wS.cell? ⟨w6.heap.size,5,none⟩=some (.int .i64 p0.count)∧wS.cell? ⟨w.heap.size,0,none⟩=some (.string p0.base.name)∧wS.cell? ⟨w.heap.size,1,none⟩=some (.int .i64 p0.base.ver)∧wS.cell? ⟨w.heap.size,2,none⟩=some (.slice A0_2 p0.base.stores.length c0_2)∧wS.cell? ⟨w.heap.size,3,none⟩=some (.slice A0_3 p0.base.uniq.length c0_3)∧wS.cell? ⟨w.heap.size,4,none⟩=some (.slice A0_4 p0.log.length c0_4)∧wS.cell? ⟨w.heap.size,5,none⟩=some (.int .i64 p0.count)) (exact hS _ bl) (first|(go_at_call 7;refine(Zck _ p0 _ _ (by exact zb h0 (Za hBw9 bl)) z0).mono ?_;rintro e w10 ⟨uw10,Gw10,rfl,hbw10,hrw10,hfw10⟩;have hbww10:=zt (w:=w9) hbw10;clear hfw10)|(go_at_call 9;refine(Zch _ _ p0 _ _ _ (by exact zb hrw6) (by exact zb hrw10)).mono ?_;rintro e w11 ⟨rfl,hbw11⟩;have hbww11:=zt (w:=w9) hbw11))
   have hbZw11:=hbww11;have hsw11:=hbZw11.size;(try simp at hsw11)
   have hzw11_0:w.heap.size<w11.heap.size:=by omega
   have hzw11_1:w5.heap.size<w11.heap.size:=by omega
   have hzw11_2:w6.heap.size<w11.heap.size:=by omega
   have hzw11_3:w8.heap.size<w11.heap.size:=by omega
   have hBw11:=zt (w:=w) hbZw11
   replace hrw3:=zb hrw3 (zt hbZw11)
   replace hrw4:=zb hrw4 (zt hbZw11)
   replace hrw5:=zb hrw5 (zt hbZw11)
   replace hrw6:=zb hrw6 (zt hbZw11)
   replace hrw7:=zb hrw7 (zt hbZw11)
   replace hrw8:=zb hrw8 (zt hbZw11)
   obtain⟨hcw11,hfzw11,-⟩:=Zc hbZw11;clear hbZw11;go_wp2_with fail;refine(ZfP _ p1 _ _ (by exact zb h1) z1).mono ?_
   rintro e w12 ⟨uw12,Gw12,rfl,hbw12,hrw12,hfw12⟩;obtain⟨Arw12,crw12,erw12⟩:=Zb hrw12;subst erw12;have hsw12:=hbw12.size;(try simp at hsw12)
   have hzw12_0:w.heap.size<w12.heap.size:=by omega
   have hzw12_1:w5.heap.size<w12.heap.size:=by omega
   have hzw12_2:w6.heap.size<w12.heap.size:=by omega
   have hzw12_3:w8.heap.size<w12.heap.size:=by omega
   have hBw12:=zt (w:=w) hbw12
   replace hrw3:=zb hrw3 (zt hbw12)
   replace hrw4:=zb hrw4 (zt hbw12)
   replace hrw5:=zb hrw5 (zt hbw12)
   replace hrw6:=zb hrw6 (zt hbw12)
   replace hrw7:=zb hrw7 (zt hbw12)
   replace hrw8:=zb hrw8 (zt hbw12)
   have hlrw12:∀b,b∈Gw12→b<w12.heap.size:=λb hb=>Cod.lt _ hrw12 b hb
   obtain⟨hcw12,hfzw12,-⟩:=Zc hbw12;clear hbw12;go_wp2_with fail;refine(ZnP _ _ p1 _ _ _ (by exact zb hrw7) (by exact zb hrw12)).mono ?_
   rintro e w13 ⟨rfl,hbw13⟩;have hsw13:=hbw13.size;(try simp at hsw13)
   have hzw13_0:w.heap.size<w13.heap.size:=by omega
   have hzw13_1:w5.heap.size<w13.heap.size:=by omega
   have hzw13_2:w6.heap.size<w13.heap.size:=by omega
   have hzw13_3:w8.heap.size<w13.heap.size:=by omega
   have hBw13:=zt (w:=w) hbw13
   replace hrw3:=zb hrw3 (zt hbw13)
   replace hrw4:=zb hrw4 (zt hbw13)
   replace hrw5:=zb hrw5 (zt hbw13)
   replace hrw6:=zb hrw6 (zt hbw13)
   replace hrw7:=zb hrw7 (zt hbw13)
   replace hrw8:=zb hrw8 (zt hbw13)
   replace hrw12:=zb hrw12 (zt hbw13)
   obtain⟨hcw13,hfzw13,-⟩:=Zc hbw13;clear hbw13;go_wp2_with fail;have ctw14:((TDisk.tcn p0:Nat):Int)≤449999999:=(by have h1:=TDisk.tcn_le p0;have h2:=z0;omega)
   refine(Zdv _ p0 _ _ _ (by exact zb hrw6) hfw6.2 (by omega) (by omega)).mono ?_
   rintro e w14 ⟨rfl,how14,hmw14⟩;have hsw14:=how14.size;(try simp at hsw14)
   have hzw14_0:w.heap.size<w14.heap.size:=by omega
   have hzw14_1:w5.heap.size<w14.heap.size:=by omega
   have hzw14_2:w6.heap.size<w14.heap.size:=by omega
   have hzw14_3:w8.heap.size<w14.heap.size:=by omega
   have hnw14_0:w.heap.size∉Gw6:=λhm=>by have h1:=hfw6.1 _ hm;have h2:=hlrw6 _ hm;(try simp at h1);omega
   have hcw14_0:∀o:Nat,w14.cell? ⟨w.heap.size,o,none⟩=_:=λo=>World.cell?_of_block (a:=⟨w.heap.size,o,none⟩) (how14.block (w.heap.size) (by (try simp);(try omega)) hnw14_0)
   clear hnw14_0;have hnw14_1:w5.heap.size∉Gw6:=λhm=>by have h1:=hfw6.1 _ hm;have h2:=hlrw6 _ hm;(try simp at h1);omega
   have hcw14_1:∀o:Nat,w14.cell? ⟨w5.heap.size,o,none⟩=_:=λo=>World.cell?_of_block (a:=⟨w5.heap.size,o,none⟩) (how14.block (w5.heap.size) (by (try simp);(try omega)) hnw14_1)
   clear hnw14_1;have hnw14_2:w6.heap.size∉Gw6:=λhm=>by have h1:=hfw6.1 _ hm;have h2:=hlrw6 _ hm;(try simp at h1);omega
   have hcw14_2:∀o:Nat,w14.cell? ⟨w6.heap.size,o,none⟩=_:=λo=>World.cell?_of_block (a:=⟨w6.heap.size,o,none⟩) (how14.block (w6.heap.size) (by (try simp);(try omega)) hnw14_2)
   clear hnw14_2;have hnw14_3:w8.heap.size∉Gw6:=λhm=>by have h1:=hfw6.1 _ hm;have h2:=hlrw6 _ hm;(try simp at h1);omega
   have hcw14_3:∀o:Nat,w14.cell? ⟨w8.heap.size,o,none⟩=_:=λo=>World.cell?_of_block (a:=⟨w8.heap.size,o,none⟩) (how14.block (w8.heap.size) (by (try simp);(try omega)) hnw14_3)
   clear hnw14_3;have hBw14:Below w.heap.size w w14:=Below.trans (show Below w.heap.size w _ from bl) (how14.bel _ (by have:=hBw13.size;(try simp);(try omega)) (λb hb=>by have h1:=hfw6.1 _ hb;have:=hBw13.size;(try simp at h1);omega))
   replace hrw3:=Cod.only (zb hrw3) how14 (λb h1 h2=>by have e1:=hlrw3 b h1;have e2:=hfw6.1 b h2;(try simp at e2);omega)
   replace hrw4:=Cod.only (zb hrw4) how14 (λb h1 h2=>by have e1:=hlrw4 b h1;have e2:=hfw6.1 b h2;(try simp at e2);omega)
   replace hrw5:=Cod.only (zb hrw5) how14 (λb h1 h2=>by have e1:=hlrw5 b h1;have e2:=hfw6.1 b h2;(try simp at e2);omega)
   replace hrw7:=Cod.only (zb hrw7) how14 (λb h1 h2=>by have e1:=hlrw6 b h2;have e2:=hfw7.1 b h1;(try simp at e2);omega)
   replace hrw8:=Cod.only (zb hrw8) how14 (λb h1 h2=>by have e1:=hlrw6 b h2;have e2:=hfw8.1 b h1;(try simp at e2);omega)
   replace hrw12:=Cod.only (zb hrw12) how14 (λb h1 h2=>by have e1:=hlrw6 b h2;have e2:=hfw12.1 b h1;(try simp at e2);omega)
   clear hrw6;have hrw6:=hmw14;clear how14;go_wp2_with fail;have ctw15:((cOpS.cn p1:Nat):Int)≤449999999:=(by have h1:=Cod.cns_le cOp (by decide) p1;have h2:=z1;have h3:cOpS.cn p1=Cod.cns cOp p1:=rfl;have h4:cOpS.sz p1=Cod.szs cOp p1:=rfl;omega)
   refine(ZlC _ p1 _ _ _ (by exact zb hrw7) hfw7.2 (by omega) (by omega)).mono ?_
   rintro e w15 ⟨rfl,how15,hmw15⟩;have hsw15:=how15.size;(try simp at hsw15)
   have hzw15_0:w.heap.size<w15.heap.size:=by omega
   have hzw15_1:w5.heap.size<w15.heap.size:=by omega
   have hzw15_2:w6.heap.size<w15.heap.size:=by omega
   have hzw15_3:w8.heap.size<w15.heap.size:=by omega
   have hnw15_0:w.heap.size∉Gw7:=λhm=>by have h1:=hfw7.1 _ hm;have h2:=hlrw7 _ hm;(try simp at h1);omega
   have hcw15_0:∀o:Nat,w15.cell? ⟨w.heap.size,o,none⟩=_:=λo=>World.cell?_of_block (a:=⟨w.heap.size,o,none⟩) (how15.block (w.heap.size) (by (try simp);(try omega)) hnw15_0)
   clear hnw15_0;have hnw15_1:w5.heap.size∉Gw7:=λhm=>by have h1:=hfw7.1 _ hm;have h2:=hlrw7 _ hm;(try simp at h1);omega
   have hcw15_1:∀o:Nat,w15.cell? ⟨w5.heap.size,o,none⟩=_:=λo=>World.cell?_of_block (a:=⟨w5.heap.size,o,none⟩) (how15.block (w5.heap.size) (by (try simp);(try omega)) hnw15_1)
   clear hnw15_1;have hnw15_2:w6.heap.size∉Gw7:=λhm=>by have h1:=hfw7.1 _ hm;have h2:=hlrw7 _ hm;(try simp at h1);omega
   have hcw15_2:∀o:Nat,w15.cell? ⟨w6.heap.size,o,none⟩=_:=λo=>World.cell?_of_block (a:=⟨w6.heap.size,o,none⟩) (how15.block (w6.heap.size) (by (try simp);(try omega)) hnw15_2)
   clear hnw15_2;have hnw15_3:w8.heap.size∉Gw7:=λhm=>by have h1:=hfw7.1 _ hm;have h2:=hlrw7 _ hm;(try simp at h1);omega
   have hcw15_3:∀o:Nat,w15.cell? ⟨w8.heap.size,o,none⟩=_:=λo=>World.cell?_of_block (a:=⟨w8.heap.size,o,none⟩) (how15.block (w8.heap.size) (by (try simp);(try omega)) hnw15_3)
   clear hnw15_3;have hBw15:Below w.heap.size w w15:=Below.trans (show Below w.heap.size w _ from bl) (how15.bel _ (by have:=hBw14.size;(try simp);(try omega)) (λb hb=>by have h1:=hfw7.1 _ hb;have:=hBw14.size;(try simp at h1);omega))
   replace hrw3:=Cod.only (zb hrw3) how15 (λb h1 h2=>by have e1:=hlrw3 b h1;have e2:=hfw7.1 b h2;(try simp at e2);omega)
   replace hrw4:=Cod.only (zb hrw4) how15 (λb h1 h2=>by have e1:=hlrw4 b h1;have e2:=hfw7.1 b h2;(try simp at e2);omega)
   replace hrw5:=Cod.only (zb hrw5) how15 (λb h1 h2=>by have e1:=hlrw5 b h1;have e2:=hfw7.1 b h2;(try simp at e2);omega)
   replace hrw6:=Cod.only (zb hrw6) how15 (λb h1 h2=>by have e1:=hlrw6 b h1;have e2:=hfw7.1 b h2;(try simp at e2);omega)
   replace hrw8:=Cod.only (zb hrw8) how15 (λb h1 h2=>by have e1:=hlrw7 b h2;have e2:=hfw8.1 b h1;(try simp at e2);omega)
   replace hrw12:=Cod.only (zb hrw12) how15 (λb h1 h2=>by have e1:=hlrw7 b h2;have e2:=hfw12.1 b h1;(try simp at e2);omega)
   clear hrw7;have hrw7:=hmw15;clear how15;go_wp2_with fail;refine(Zch _ _ ((ZH p0 p1).1) _ _ _ (by exact zb hrw8) (by exact zb hrw5)).mono ?_
   rintro e w16 ⟨rfl,hbw16⟩;have hsw16:=hbw16.size;(try simp at hsw16)
   have hzw16_0:w.heap.size<w16.heap.size:=by omega
   have hzw16_1:w5.heap.size<w16.heap.size:=by omega
   have hzw16_2:w6.heap.size<w16.heap.size:=by omega
   have hzw16_3:w8.heap.size<w16.heap.size:=by omega
   have hBw16:=zt (w:=w) hbw16
   replace hrw3:=zb hrw3 (zt hbw16)
   replace hrw4:=zb hrw4 (zt hbw16)
   replace hrw5:=zb hrw5 (zt hbw16)
   replace hrw6:=zb hrw6 (zt hbw16)
   replace hrw7:=zb hrw7 (zt hbw16)
   replace hrw8:=zb hrw8 (zt hbw16)
   replace hrw12:=zb hrw12 (zt hbw16)
   obtain⟨hcw16,hfzw16,-⟩:=Zc hbw16;clear hbw16;go_wp2_with fail;have ctw17:((TDisk.tcn ((ZH p0 p1).1):Nat):Int)≤449999999:=(by have h1:=TDisk.tcn_le ((ZH p0 p1).1);have h2:=zr;omega)
   refine(Zdv _ ((ZH p0 p1).1) _ _ _ (by exact zb hrw8) hfw8.2 (by omega) (by omega)).mono ?_
   rintro e w17 ⟨rfl,how17,hmw17⟩;have hsw17:=how17.size;(try simp at hsw17)
   have hzw17_0:w.heap.size<w17.heap.size:=by omega
   have hzw17_1:w5.heap.size<w17.heap.size:=by omega
   have hzw17_2:w6.heap.size<w17.heap.size:=by omega
   have hzw17_3:w8.heap.size<w17.heap.size:=by omega
   have hnw17_0:w.heap.size∉Gw8:=λhm=>by have h1:=hfw8.1 _ hm;have h2:=hlrw8 _ hm;(try simp at h1);omega
   have hcw17_0:∀o:Nat,w17.cell? ⟨w.heap.size,o,none⟩=_:=λo=>World.cell?_of_block (a:=⟨w.heap.size,o,none⟩) (how17.block (w.heap.size) (by (try simp);(try omega)) hnw17_0)
   clear hnw17_0;have hnw17_1:w5.heap.size∉Gw8:=λhm=>by have h1:=hfw8.1 _ hm;have h2:=hlrw8 _ hm;(try simp at h1);omega
   have hcw17_1:∀o:Nat,w17.cell? ⟨w5.heap.size,o,none⟩=_:=λo=>World.cell?_of_block (a:=⟨w5.heap.size,o,none⟩) (how17.block (w5.heap.size) (by (try simp);(try omega)) hnw17_1)
   clear hnw17_1;have hnw17_2:w6.heap.size∉Gw8:=λhm=>by have h1:=hfw8.1 _ hm;have h2:=hlrw8 _ hm;(try simp at h1);omega
   have hcw17_2:∀o:Nat,w17.cell? ⟨w6.heap.size,o,none⟩=_:=λo=>World.cell?_of_block (a:=⟨w6.heap.size,o,none⟩) (how17.block (w6.heap.size) (by (try simp);(try omega)) hnw17_2)
   clear hnw17_2;have hnw17_3:w8.heap.size∉Gw8:=λhm=>by have h1:=hfw8.1 _ hm;have h2:=hlrw8 _ hm;(try simp at h1);omega
   have hcw17_3:∀o:Nat,w17.cell? ⟨w8.heap.size,o,none⟩=_:=λo=>World.cell?_of_block (a:=⟨w8.heap.size,o,none⟩) (how17.block (w8.heap.size) (by (try simp);(try omega)) hnw17_3)
   clear hnw17_3;have hBw17:Below w.heap.size w w17:=Below.trans (show Below w.heap.size w _ from bl) (how17.bel _ (by have:=hBw16.size;(try simp);(try omega)) (λb hb=>by have h1:=hfw8.1 _ hb;have:=hBw16.size;(try simp at h1);omega))
   replace hrw3:=Cod.only (zb hrw3) how17 (λb h1 h2=>by have e1:=hlrw3 b h1;have e2:=hfw8.1 b h2;(try simp at e2);omega)
   replace hrw4:=Cod.only (zb hrw4) how17 (λb h1 h2=>by have e1:=hlrw4 b h1;have e2:=hfw8.1 b h2;(try simp at e2);omega)
   replace hrw5:=Cod.only (zb hrw5) how17 (λb h1 h2=>by have e1:=hlrw5 b h1;have e2:=hfw8.1 b h2;(try simp at e2);omega)
   replace hrw6:=Cod.only (zb hrw6) how17 (λb h1 h2=>by have e1:=hlrw6 b h1;have e2:=hfw8.1 b h2;(try simp at e2);omega)
   replace hrw7:=Cod.only (zb hrw7) how17 (λb h1 h2=>by have e1:=hlrw7 b h1;have e2:=hfw8.1 b h2;(try simp at e2);omega)
   replace hrw12:=Cod.only (zb hrw12) how17 (λb h1 h2=>by have e1:=hlrw8 b h2;have e2:=hfw12.1 b h1;(try simp at e2);omega)
   clear hrw8;have hrw8:=hmw17;clear how17;go_wp2_with fail;refine(Zdp _ ((ZH p0 p1).1) _ _ _ (by exact zb hrw8) (by omega) (by omega)).mono ?_
   rintro e w18 ⟨rfl,hbw18⟩;have hsw18:=hbw18.size;(try simp at hsw18)
   have hzw18_0:w.heap.size<w18.heap.size:=by omega
   have hzw18_1:w5.heap.size<w18.heap.size:=by omega
   have hzw18_2:w6.heap.size<w18.heap.size:=by omega
   have hzw18_3:w8.heap.size<w18.heap.size:=by omega
   have hBw18:=zt (w:=w) hbw18
   replace hrw3:=zb hrw3 (zt hbw18)
   replace hrw4:=zb hrw4 (zt hbw18)
   replace hrw5:=zb hrw5 (zt hbw18)
   replace hrw6:=zb hrw6 (zt hbw18)
   replace hrw7:=zb hrw7 (zt hbw18)
   replace hrw8:=zb hrw8 (zt hbw18)
   replace hrw12:=zb hrw12 (zt hbw18)
   obtain⟨hcw18,hfzw18,-⟩:=Zc hbw18;clear hbw18;go_wp2_with fail;refine(Zck _ p0 _ _ (by exact zb h0) z0).mono ?_
   rintro e w19 ⟨uw19,Gw19,rfl,hbw19,hrw19,hfw19⟩;have drw19:=hrw19;obtain⟨vrw19_2,vrw19_3,vrw19_4,Erw19_2,Erw19_3,Erw19_4,rfl,-,-,mrw19_2,mrw19_3,mrw19_4⟩:=TDisk.outA drw19;obtain⟨Arw19_2,crw19_2,erw19_2⟩:=Zb mrw19_2;subst erw19_2;obtain⟨Arw19_3,crw19_3,erw19_3⟩:=Zb mrw19_3;subst erw19_3;obtain⟨Arw19_4,crw19_4,erw19_4⟩:=Zb mrw19_4;subst erw19_4;clear mrw19_2 mrw19_3 mrw19_4 drw19;have hsw19:=hbw19.size;(try simp at hsw19)
   have hzw19_0:w.heap.size<w19.heap.size:=by omega
   have hzw19_1:w5.heap.size<w19.heap.size:=by omega
   have hzw19_2:w6.heap.size<w19.heap.size:=by omega
   have hzw19_3:w8.heap.size<w19.heap.size:=by omega
   have hBw19:=zt (w:=w) hbw19
   replace hrw3:=zb hrw3 (zt hbw19)
   replace hrw4:=zb hrw4 (zt hbw19)
   replace hrw5:=zb hrw5 (zt hbw19)
   replace hrw6:=zb hrw6 (zt hbw19)
   replace hrw7:=zb hrw7 (zt hbw19)
   replace hrw8:=zb hrw8 (zt hbw19)
   replace hrw12:=zb hrw12 (zt hbw19)
   have hlrw19:∀b,b∈Gw19→b<w19.heap.size:=λb hb=>Cod.lt _ hrw19 b hb
   obtain⟨hcw19,hfzw19,-⟩:=Zc hbw19;clear hbw19;go_wp2_with fail;refine(ZfP _ p1 _ _ (by exact zb h1) z1).mono ?_
   rintro e w20 ⟨uw20,Gw20,rfl,hbw20,hrw20,hfw20⟩;obtain⟨Arw20,crw20,erw20⟩:=Zb hrw20;subst erw20;have hsw20:=hbw20.size;(try simp at hsw20)
   have hzw20_0:w.heap.size<w20.heap.size:=by omega
   have hzw20_1:w5.heap.size<w20.heap.size:=by omega
   have hzw20_2:w6.heap.size<w20.heap.size:=by omega
   have hzw20_3:w8.heap.size<w20.heap.size:=by omega
   have hBw20:=zt (w:=w) hbw20
   replace hrw3:=zb hrw3 (zt hbw20)
   replace hrw4:=zb hrw4 (zt hbw20)
   replace hrw5:=zb hrw5 (zt hbw20)
   replace hrw6:=zb hrw6 (zt hbw20)
   replace hrw7:=zb hrw7 (zt hbw20)
   replace hrw8:=zb hrw8 (zt hbw20)
   replace hrw12:=zb hrw12 (zt hbw20)
   replace hrw19:=zb hrw19 (zt hbw20)
   have hlrw20:∀b,b∈Gw20→b<w20.heap.size:=λb hb=>Cod.lt _ hrw20 b hb
   obtain⟨hcw20,hfzw20,-⟩:=Zc hbw20;clear hbw20;go_wp2_with fail;refine(Zdr _ p0 _ _ p1 _ _ (by exact zb hrw19) z0 (by exact zb hrw20) z1).mono ?_
   rintro e w21 ⟨uw21,Gw21,rfl,hbw21,hrw21,hfw21⟩;have drw21:=hrw21;obtain⟨vrw21_2,vrw21_3,vrw21_4,Erw21_2,Erw21_3,Erw21_4,rfl,-,-,mrw21_2,mrw21_3,mrw21_4⟩:=TDisk.outA drw21;obtain⟨Arw21_2,crw21_2,erw21_2⟩:=Zb mrw21_2;subst erw21_2;obtain⟨Arw21_3,crw21_3,erw21_3⟩:=Zb mrw21_3;subst erw21_3;obtain⟨Arw21_4,crw21_4,erw21_4⟩:=Zb mrw21_4;subst erw21_4;clear mrw21_2 mrw21_3 mrw21_4 drw21;have hsw21:=hbw21.size;(try simp at hsw21)
   have hzw21_0:w.heap.size<w21.heap.size:=by omega
   have hzw21_1:w5.heap.size<w21.heap.size:=by omega
   have hzw21_2:w6.heap.size<w21.heap.size:=by omega
   have hzw21_3:w8.heap.size<w21.heap.size:=by omega
   have hBw21:=zt (w:=w) hbw21
   replace hrw3:=zb hrw3 (zt hbw21)
   replace hrw4:=zb hrw4 (zt hbw21)
   replace hrw5:=zb hrw5 (zt hbw21)
   replace hrw6:=zb hrw6 (zt hbw21)
   replace hrw7:=zb hrw7 (zt hbw21)
   replace hrw8:=zb hrw8 (zt hbw21)
   replace hrw12:=zb hrw12 (zt hbw21)
   replace hrw19:=zb hrw19 (zt hbw21)
   replace hrw20:=zb hrw20 (zt hbw21)
   have hlrw21:∀b,b∈Gw21→b<w21.heap.size:=λb hb=>Cod.lt _ hrw21 b hb
   obtain⟨hcw21,hfzw21,-⟩:=Zc hbw21;clear hbw21;go_wp2_with fail;refine(Zch _ _ ((ZH p0 p1).1) _ _ _ (by exact zb hrw21) (by exact zb hrw5)).mono ?_
   rintro e w22 ⟨rfl,hbw22⟩;have hsw22:=hbw22.size;(try simp at hsw22)
   have hzw22_0:w.heap.size<w22.heap.size:=by omega
   have hzw22_1:w5.heap.size<w22.heap.size:=by omega
   have hzw22_2:w6.heap.size<w22.heap.size:=by omega
   have hzw22_3:w8.heap.size<w22.heap.size:=by omega
   have hzw22_4:w21.heap.size<w22.heap.size:=by omega
   have hBw22:=zt (w:=w) hbw22
   replace hrw3:=zb hrw3 (zt hbw22)
   replace hrw4:=zb hrw4 (zt hbw22)
   replace hrw5:=zb hrw5 (zt hbw22)
   replace hrw6:=zb hrw6 (zt hbw22)
   replace hrw7:=zb hrw7 (zt hbw22)
   replace hrw8:=zb hrw8 (zt hbw22)
   replace hrw12:=zb hrw12 (zt hbw22)
   replace hrw19:=zb hrw19 (zt hbw22)
   replace hrw20:=zb hrw20 (zt hbw22)
   replace hrw21:=zb hrw21 (zt hbw22)
   obtain⟨hcw22,hfzw22,-⟩:=Zc hbw22;clear hbw22;go_wp2_with fail;refine(Zdp _ ((ZH p0 p1).1) _ _ _ (by exact zb hrw8) (by omega) (by omega)).mono ?_
   rintro e w23 ⟨rfl,hbw23⟩;have hsw23:=hbw23.size;(try simp at hsw23)
   have hzw23_0:w.heap.size<w23.heap.size:=by omega
   have hzw23_1:w5.heap.size<w23.heap.size:=by omega
   have hzw23_2:w6.heap.size<w23.heap.size:=by omega
   have hzw23_3:w8.heap.size<w23.heap.size:=by omega
   have hzw23_4:w21.heap.size<w23.heap.size:=by omega
   have hBw23:=zt (w:=w) hbw23
   replace hrw3:=zb hrw3 (zt hbw23)
   replace hrw4:=zb hrw4 (zt hbw23)
   replace hrw5:=zb hrw5 (zt hbw23)
   replace hrw6:=zb hrw6 (zt hbw23)
   replace hrw7:=zb hrw7 (zt hbw23)
   replace hrw8:=zb hrw8 (zt hbw23)
   replace hrw12:=zb hrw12 (zt hbw23)
   replace hrw19:=zb hrw19 (zt hbw23)
   replace hrw20:=zb hrw20 (zt hbw23)
   replace hrw21:=zb hrw21 (zt hbw23)
   obtain⟨hcw23,hfzw23,-⟩:=Zc hbw23;clear hbw23;go_wp2_with fail;go_ret
   exact⟨rfl,bl⟩
theorem Zfx (H:Type) (enc:TypeId×Value→H) (W:World) (base:Nat) (args:Array Value) (ds:List (DataW H)) (p:List MemPlace)
  (hval:∀(j:Nat) t v,Tryz.f4.params[j]?=some t→args[j]?=some v→Value.okWide Tryz.prog W .any base t v)
  (hA:DataW.TrodAll enc Tryz.prog W 0 (λ_=>true) true Tryz.f4.params.toList args.toList ds p) (hf:W.noneFrozen p) :
  Calls Tryz.prog 4 args W (ZL W (.bool true)):=by
 rw[Tryz.params4] at hA hval
 obtain⟨v0,vs0,d0,ds0,q0,s0,hargs,rfl,rfl,k0,t0⟩:=trodAll_cons hA;obtain⟨v1,vs1,d1,ds1,q1,s1,rfl,rfl,rfl,k1,t1⟩:=trodAll_cons t0;obtain⟨rfl,rfl,rfl⟩:=trodAll_nil t1;obtain rfl:args=#[v0,v1]:=by cases args;simp_all
 obtain⟨cs0,x0,F0,rfl,hx0⟩:=opens_lDisk.struct_ Tryz.underlying28 (hval 0 _ _ rfl rfl) k0 (ZaI hf λy hy=>by simp[hy])
 obtain⟨x1,F1,hx1⟩:=opens_lOpS.slice_ Tryz.underlying41 (hval 1 _ _ rfl rfl) k1 (ZaI hf λy hy=>by simp[hy])
 exact Zge cs0 x0 F0 v1 x1 F1 W hx0 hx1
theorem ZeI (os:Os) (started:os.Started) (H:Type) (enc:TypeId×Value→H) :
  ReturnsInHanded {} Tryz.checked os 4 .any (Rows.fnExactCommitDiskSpec.pre6 enc Tryz.prog Tryz.f4 Rows.fnExactCommitDiskRow.domain false) (Rows.fnExactCommitDiskSpec.post enc Tryz.prog Tryz.f4 false true false false):=by
 refine returnsInHanded_of_change (C:=Tryz.checked) (by kernel_rfl) started (by kernel_rfl) Tryz.func4
  (ChangeSpec.witness6 (enc:=enc) (C:=Tryz.checked) false ⟨#[],#[.agg #[.string ByteArray.empty,.int .i64 0,.slice none 0 0,.slice none 0 0,.slice none 0 0,.int .i64 0],.slice none 0 0],[]⟩ 16 (by kernel_rfl) (by kernel_rfl) (by kernel_rfl) (by kernel_rfl)) ?_
 intro W base args ds gs before hval hW _ _;have hW':=hW;obtain⟨p,q,hA,hV,rfl,hfz,hnd⟩:=hW;refine(Zfx H enc W base args ds p hval hA (ZaI hfz λy hy=>by simp[hy])).mono λe W' ⟨he,hb⟩=>⟨_,he,?_⟩
 exact Zmv (by kernel_rfl) rfl (by kernel_rfl) Tryz.underlying4 (by kernel_rfl) (λds h=>by
  match ds,h with
  | [d0,d1],_=>exact⟨rfl,rfl,rfl⟩) hW' hb
theorem Zfw:Rows.fnExactCommitDiskRow.holds Tryz.pinned (OpenSpec.ofChange Rows.fnExactCommitDiskSpec) :=
 OpenClaim.holds_of_wide 4 Tryz.f4 rfl rfl rfl rfl rfl rfl rfl ⟨rfl,rfl,rfl,rfl,rfl⟩ rfl rfl rfl rfl rfl (by kernel_rfl) Tryz.func4 (by kernel_rfl)
  (of_decide_eq_true (by kernel_rfl)) (by unfold Func.isWrapper;rw[if_neg (of_decide_eq_false (by kernel_rfl))];exact⟨rfl,rfl⟩)
  (λos started H enc _=>ZeI os started H enc)
theorem lawCommitDisk_holds:Rows.FnExactCommitDiskSaid:=Zfw
end
end Go.Proofs.YtghndifnohkokaaGreat
