import Derived.Test.YtghndifnohkokaaGreatZCkpt
import Derived.Test.YtghndifnohkokaaGreatZEqSItem
namespace Go.Proofs.YtghndifnohkokaaGreat
open Go.ChangeShapes Go.WideShapes Go.RowKit
set_option linter.unusedVariables false
set_option linter.unusedSimpArgs false
set_option maxRecDepth 100000
set_option maxHeartbeats 16000000
section
open Go.ChangeMaps (open_string shut_string)
theorem Zgd (a0:Array Value) (p0:TDisk) (F0:List Nat) (w:World) (h0:cDisk.rep w a0.toList p0 F0) :
  Calls Tryz.prog 3 #[.agg a0] w (ZL w (.bool true)):=by
 have r0:=h0;obtain⟨v0_2,v0_3,v0_4,E0_2,E0_3,E0_4,rfl,-,-,m0_2,m0_3,m0_4⟩:=TDisk.outA r0;obtain⟨A0_2,c0_2,e0_2⟩:=Zb m0_2;subst e0_2;obtain⟨A0_3,c0_3,e0_3⟩:=Zb m0_3;subst e0_3;obtain⟨A0_4,c0_4,e0_4⟩:=Zb m0_4;subst e0_4;clear m0_2 m0_3 m0_4;clear r0;go_enter Tryz.func3,Tryz.ntmps3
 go_wp2_with fail
 by_cases l0:(1048576-(cDisk.sz p0:Nat):Int)<0
 ·have HV:=zh (Zj l0)
  refine(ZeF _ p0 _ _ _ (by exact zb h0) (by omega) (by omega)).mono ?_
  rintro e w1 ⟨rfl,hbw1⟩;rw[HV.out]
  have hBw1:=zt (w:=w) hbw1
  go_wp2_with fail;go_ret
  exact⟨rfl,hBw1⟩
 ·have HV:=zh (Zw l0)
  have pz0:0≤(1048576-(cDisk.sz p0:Nat):Int):=by omega
  have z0:cDisk.sz p0≤1048576:=by omega
  refine(ZeF _ p0 _ _ _ (by exact zb h0) (by omega) (by omega)).mono ?_
  rintro e w1 ⟨rfl,hbw1⟩;rw[HV.out]
  clear HV;have hsw1:=hbw1.size;(try simp at hsw1)
  have hzw1_0:w.heap.size<w1.heap.size:=by omega
  have hBw1:=zt (w:=w) hbw1
  obtain⟨hcw1,hfzw1,-⟩:=Zc hbw1;clear hbw1;go_wp2_with fail;refine(Zck _ p0 _ _ (by exact zb h0) z0).mono ?_
  rintro e w2 ⟨uw2,Gw2,rfl,hbw2,hrw2,hfw2⟩;have drw2:=hrw2;obtain⟨vrw2_2,vrw2_3,vrw2_4,Erw2_2,Erw2_3,Erw2_4,rfl,-,-,mrw2_2,mrw2_3,mrw2_4⟩:=TDisk.outA drw2;obtain⟨Arw2_2,crw2_2,erw2_2⟩:=Zb mrw2_2;subst erw2_2;obtain⟨Arw2_3,crw2_3,erw2_3⟩:=Zb mrw2_3;subst erw2_3;obtain⟨Arw2_4,crw2_4,erw2_4⟩:=Zb mrw2_4;subst erw2_4;clear mrw2_2 mrw2_3 mrw2_4 drw2;have hsw2:=hbw2.size;(try simp at hsw2)
  have hzw2_0:w.heap.size<w2.heap.size:=by omega
  have hBw2:=zt (w:=w) hbw2
  have hlrw2:∀b,b∈Gw2→b<w2.heap.size:=λb hb=>Cod.lt _ hrw2 b hb
  obtain⟨hcw2,hfzw2,-⟩:=Zc hbw2;clear hbw2;go_wp2_with fail;refine(ZfH _ p0 _ _ (by exact zb hrw2) z0).mono ?_
  rintro e w3 ⟨uw3,Gw3,rfl,hbw3,hrw3,hfw3⟩;have drw3:=hrw3;obtain⟨vrw3_2,vrw3_3,vrw3_4,Erw3_2,Erw3_3,Erw3_4,rfl,-,-,mrw3_2,mrw3_3,mrw3_4⟩:=TDisk.outA drw3;obtain⟨Arw3_2,crw3_2,erw3_2⟩:=Zb mrw3_2;subst erw3_2;obtain⟨Arw3_3,crw3_3,erw3_3⟩:=Zb mrw3_3;subst erw3_3;obtain⟨Arw3_4,crw3_4,erw3_4⟩:=Zb mrw3_4;subst erw3_4;clear mrw3_2 mrw3_3 mrw3_4 drw3;have hsw3:=hbw3.size;(try simp at hsw3)
  have hzw3_0:w.heap.size<w3.heap.size:=by omega
  have hBw3:=zt (w:=w) hbw3
  replace hrw2:=zb hrw2 (zt hbw3)
  have hlrw3:∀b,b∈Gw3→b<w3.heap.size:=λb hb=>Cod.lt _ hrw3 b hb
  obtain⟨hcw3,hfzw3,-⟩:=Zc hbw3;clear hbw3;go_wp2_with fail;refine(Zck _ p0 _ _ (by exact zb h0) z0).mono ?_
  rintro e w4 ⟨uw4,Gw4,rfl,hbw4,hrw4,hfw4⟩;have drw4:=hrw4;obtain⟨vrw4_2,vrw4_3,vrw4_4,Erw4_2,Erw4_3,Erw4_4,rfl,-,-,mrw4_2,mrw4_3,mrw4_4⟩:=TDisk.outA drw4;obtain⟨Arw4_2,crw4_2,erw4_2⟩:=Zb mrw4_2;subst erw4_2;obtain⟨Arw4_3,crw4_3,erw4_3⟩:=Zb mrw4_3;subst erw4_3;obtain⟨Arw4_4,crw4_4,erw4_4⟩:=Zb mrw4_4;subst erw4_4;clear mrw4_2 mrw4_3 mrw4_4 drw4;have hsw4:=hbw4.size;(try simp at hsw4)
  have hzw4_0:w.heap.size<w4.heap.size:=by omega
  have hzw4_1:w3.heap.size<w4.heap.size:=by omega
  have hBw4:=zt (w:=w) hbw4
  replace hrw2:=zb hrw2 (zt hbw4)
  replace hrw3:=zb hrw3 (zt hbw4)
  have hlrw4:∀b,b∈Gw4→b<w4.heap.size:=λb hb=>Cod.lt _ hrw4 b hb
  obtain⟨hcw4,hfzw4,-⟩:=Zc hbw4;clear hbw4;go_wp2_with fail;refine(Zdq _ p0 _ _ (by exact zb hrw4) z0).mono ?_
  rintro e w5 ⟨uw5,Gw5,rfl,hbw5,hrw5,hfw5⟩;have drw5:=hrw5;obtain⟨vrw5_2,vrw5_3,vrw5_4,Erw5_2,Erw5_3,Erw5_4,rfl,-,-,mrw5_2,mrw5_3,mrw5_4⟩:=TDisk.outA drw5;obtain⟨Arw5_2,crw5_2,erw5_2⟩:=Zb mrw5_2;subst erw5_2;obtain⟨Arw5_3,crw5_3,erw5_3⟩:=Zb mrw5_3;subst erw5_3;obtain⟨Arw5_4,crw5_4,erw5_4⟩:=Zb mrw5_4;subst erw5_4;clear mrw5_2 mrw5_3 mrw5_4 drw5;have hsw5:=hbw5.size;(try simp at hsw5)
  have hzw5_0:w.heap.size<w5.heap.size:=by omega
  have hzw5_1:w3.heap.size<w5.heap.size:=by omega
  have hzw5_2:w4.heap.size<w5.heap.size:=by omega
  have hBw5:=zt (w:=w) hbw5
  replace hrw2:=zb hrw2 (zt hbw5)
  replace hrw3:=zb hrw3 (zt hbw5)
  replace hrw4:=zb hrw4 (zt hbw5)
  have hlrw5:∀b,b∈Gw5→b<w5.heap.size:=λb hb=>Cod.lt _ hrw5 b hb
  have zr:cDisk.sz ((ZaK p0))≤8000000:=(by have h:=ZjK p0;have:=z0;omega)
  obtain⟨hcw5,hfzw5,-⟩:=Zc hbw5;clear hbw5;go_wp2_with fail;refine(Zch _ _ ((ZaK p0)) _ _ _ (by exact zb hrw5) (by exact zb hrw3)).mono ?_
  rintro e w6 ⟨rfl,hbw6⟩;have hsw6:=hbw6.size;(try simp at hsw6)
  have hzw6_0:w.heap.size<w6.heap.size:=by omega
  have hzw6_1:w3.heap.size<w6.heap.size:=by omega
  have hzw6_2:w4.heap.size<w6.heap.size:=by omega
  have hzw6_3:w5.heap.size<w6.heap.size:=by omega
  have hBw6:=zt (w:=w) hbw6
  replace hrw2:=zb hrw2 (zt hbw6)
  replace hrw3:=zb hrw3 (zt hbw6)
  replace hrw4:=zb hrw4 (zt hbw6)
  replace hrw5:=zb hrw5 (zt hbw6)
  obtain⟨hcw6,hfzw6,-⟩:=Zc hbw6;clear hbw6;go_wp2_with fail;have kw8_0:w6.cell? ⟨w4.heap.size,0,none⟩=some (.string p0.base.name):=by go_simp
  have kw8_1:w6.cell? ⟨w4.heap.size,1,none⟩=some (.int .i64 p0.base.ver):=by go_simp
  have kw8_2:w6.cell? ⟨w4.heap.size,2,none⟩=some (.slice Arw4_2 p0.base.stores.length crw4_2):=by go_simp
  have kw8_3:w6.cell? ⟨w4.heap.size,3,none⟩=some (.slice Arw4_3 p0.base.uniq.length crw4_3):=by go_simp
  have kw8_4:w6.cell? ⟨w4.heap.size,4,none⟩=some (.slice Arw4_4 p0.log.length crw4_4):=by go_simp
  have kw8_5:w6.cell? ⟨w4.heap.size,5,none⟩=some (.int .i64 p0.count):=by go_simp
  have kw8_6:w6.cell? ⟨w.heap.size,0,none⟩=some (.string p0.base.name):=by go_simp
  have kw8_7:w6.cell? ⟨w.heap.size,1,none⟩=some (.int .i64 p0.base.ver):=by go_simp
  have kw8_8:w6.cell? ⟨w.heap.size,2,none⟩=some (.slice A0_2 p0.base.stores.length c0_2):=by go_simp
  have kw8_9:w6.cell? ⟨w.heap.size,3,none⟩=some (.slice A0_3 p0.base.uniq.length c0_3):=by go_simp
  have kw8_10:w6.cell? ⟨w.heap.size,4,none⟩=some (.slice A0_4 p0.log.length c0_4):=by go_simp
  have kw8_11:w6.cell? ⟨w.heap.size,5,none⟩=some (.int .i64 p0.count):=by go_simp
  have hS:=λwS (hb:Below w6.heap.size w6 wS)=>zn13 hb (zcl hb kw8_0) (zcl hb kw8_1) (zcl hb kw8_2) (zcl hb kw8_3) (zcl hb kw8_4) (zcl hb kw8_5) (zcl hb kw8_6) (zcl hb kw8_7) (zcl hb kw8_8) (zcl hb kw8_9) (zcl hb kw8_10) (zcl hb kw8_11)
  have hwb:Below w6.heap.size w6 w6:=Below.refl _ _
  clear kw8_0 kw8_1 kw8_2 kw8_3 kw8_4 kw8_5 kw8_6 kw8_7 kw8_8 kw8_9 kw8_10 kw8_11
  go_region_held3 (λwS=>Below w6.heap.size w6 wS∧wS.cell? ⟨w4.heap.size,0,none⟩=some (.string p0.base.name)∧wS.cell? ⟨w4.heap.size,1,none⟩=some (.int .i64 p0.base.ver)∧wS.cell? ⟨w4.heap.size,2,none⟩=some (.slice Arw4_2 p0.base.stores.length crw4_2)∧wS.cell? ⟨w4.heap.size,3,none⟩=some (.slice Arw4_3 p0.base.uniq.length crw4_3)∧wS.cell? ⟨w4.heap.size,4,none⟩=some (.slice Arw4_4 p0.log.length crw4_4)∧wS.cell? ⟨w4.heap.size,5,none⟩=some (.int .i64 p0.count)∧wS.cell? ⟨w.heap.size,0,none⟩=some (.string p0.base.name)∧wS.cell? ⟨w.heap.size,1,none⟩=some (.int .i64 p0.base.ver)∧wS.cell? ⟨w.heap.size,2,none⟩=some (.slice A0_2 p0.base.stores.length c0_2)∧wS.cell? ⟨w.heap.size,3,none⟩=some (.slice A0_3 p0.base.uniq.length c0_3)∧wS.cell? ⟨w.heap.size,4,none⟩=some (.slice A0_4 p0.log.length c0_4)∧wS.cell? ⟨w.heap.size,5,none⟩=some (.int .i64 p0.count)) (exact hS _ bl) (first|(go_at_call 7;refine(Zck _ p0 _ _ (by exact zb h0 (Za hBw6 bl)) z0).mono ?_;rintro e w7 ⟨uw7,Gw7,rfl,hbw7,hrw7,hfw7⟩;have hbww7:=zt (w:=w6) hbw7;clear hfw7)|(go_at_call 9;refine(Zch _ _ p0 _ _ _ (by exact zb hrw4) (by exact zb hrw7)).mono ?_;rintro e w8 ⟨rfl,hbw8⟩;have hbww8:=zt (w:=w6) hbw8))
  have hbZw8:=hbww8;have hsw8:=hbZw8.size;(try simp at hsw8)
  have hzw8_0:w.heap.size<w8.heap.size:=by omega
  have hzw8_1:w3.heap.size<w8.heap.size:=by omega
  have hzw8_2:w4.heap.size<w8.heap.size:=by omega
  have hzw8_3:w5.heap.size<w8.heap.size:=by omega
  have hBw8:=zt (w:=w) hbZw8
  replace hrw2:=zb hrw2 (zt hbZw8)
  replace hrw3:=zb hrw3 (zt hbZw8)
  replace hrw4:=zb hrw4 (zt hbZw8)
  replace hrw5:=zb hrw5 (zt hbZw8)
  obtain⟨hcw8,hfzw8,-⟩:=Zc hbZw8;clear hbZw8;go_wp2_with fail;have ctw9:((TDisk.tcn p0:Nat):Int)≤449999999:=(by have h1:=TDisk.tcn_le p0;have h2:=z0;omega)
  refine(Zdv _ p0 _ _ _ (by exact zb hrw4) hfw4.2 (by omega) (by omega)).mono ?_
  rintro e w9 ⟨rfl,how9,hmw9⟩;have hsw9:=how9.size;(try simp at hsw9)
  have hzw9_0:w.heap.size<w9.heap.size:=by omega
  have hzw9_1:w3.heap.size<w9.heap.size:=by omega
  have hzw9_2:w4.heap.size<w9.heap.size:=by omega
  have hzw9_3:w5.heap.size<w9.heap.size:=by omega
  have hnw9_0:w.heap.size∉Gw4:=λhm=>by have h1:=hfw4.1 _ hm;have h2:=hlrw4 _ hm;(try simp at h1);omega
  have hcw9_0:∀o:Nat,w9.cell? ⟨w.heap.size,o,none⟩=_:=λo=>World.cell?_of_block (a:=⟨w.heap.size,o,none⟩) (how9.block (w.heap.size) (by (try simp);(try omega)) hnw9_0)
  clear hnw9_0;have hnw9_1:w3.heap.size∉Gw4:=λhm=>by have h1:=hfw4.1 _ hm;have h2:=hlrw4 _ hm;(try simp at h1);omega
  have hcw9_1:∀o:Nat,w9.cell? ⟨w3.heap.size,o,none⟩=_:=λo=>World.cell?_of_block (a:=⟨w3.heap.size,o,none⟩) (how9.block (w3.heap.size) (by (try simp);(try omega)) hnw9_1)
  clear hnw9_1;have hnw9_2:w4.heap.size∉Gw4:=λhm=>by have h1:=hfw4.1 _ hm;have h2:=hlrw4 _ hm;(try simp at h1);omega
  have hcw9_2:∀o:Nat,w9.cell? ⟨w4.heap.size,o,none⟩=_:=λo=>World.cell?_of_block (a:=⟨w4.heap.size,o,none⟩) (how9.block (w4.heap.size) (by (try simp);(try omega)) hnw9_2)
  clear hnw9_2;have hnw9_3:w5.heap.size∉Gw4:=λhm=>by have h1:=hfw4.1 _ hm;have h2:=hlrw4 _ hm;(try simp at h1);omega
  have hcw9_3:∀o:Nat,w9.cell? ⟨w5.heap.size,o,none⟩=_:=λo=>World.cell?_of_block (a:=⟨w5.heap.size,o,none⟩) (how9.block (w5.heap.size) (by (try simp);(try omega)) hnw9_3)
  clear hnw9_3;have hBw9:Below w.heap.size w w9:=Below.trans (show Below w.heap.size w _ from bl) (how9.bel _ (by have:=hBw8.size;(try simp);(try omega)) (λb hb=>by have h1:=hfw4.1 _ hb;have:=hBw8.size;(try simp at h1);omega))
  replace hrw2:=Cod.only (zb hrw2) how9 (λb h1 h2=>by have e1:=hlrw2 b h1;have e2:=hfw4.1 b h2;(try simp at e2);omega)
  replace hrw3:=Cod.only (zb hrw3) how9 (λb h1 h2=>by have e1:=hlrw3 b h1;have e2:=hfw4.1 b h2;(try simp at e2);omega)
  replace hrw5:=Cod.only (zb hrw5) how9 (λb h1 h2=>by have e1:=hlrw4 b h2;have e2:=hfw5.1 b h1;(try simp at e2);omega)
  clear hrw4;have hrw4:=hmw9;clear how9;go_wp2_with fail;refine(Zch _ _ ((ZaK p0)) _ _ _ (by exact zb hrw5) (by exact zb hrw3)).mono ?_
  rintro e w10 ⟨rfl,hbw10⟩;have hsw10:=hbw10.size;(try simp at hsw10)
  have hzw10_0:w.heap.size<w10.heap.size:=by omega
  have hzw10_1:w3.heap.size<w10.heap.size:=by omega
  have hzw10_2:w4.heap.size<w10.heap.size:=by omega
  have hzw10_3:w5.heap.size<w10.heap.size:=by omega
  have hBw10:=zt (w:=w) hbw10
  replace hrw2:=zb hrw2 (zt hbw10)
  replace hrw3:=zb hrw3 (zt hbw10)
  replace hrw4:=zb hrw4 (zt hbw10)
  replace hrw5:=zb hrw5 (zt hbw10)
  obtain⟨hcw10,hfzw10,-⟩:=Zc hbw10;clear hbw10;go_wp2_with fail;have ctw11:((TDisk.tcn ((ZaK p0)):Nat):Int)≤449999999:=(by have h1:=TDisk.tcn_le ((ZaK p0));have h2:=zr;omega)
  refine(Zdv _ ((ZaK p0)) _ _ _ (by exact zb hrw5) hfw5.2 (by omega) (by omega)).mono ?_
  rintro e w11 ⟨rfl,how11,hmw11⟩;have hsw11:=how11.size;(try simp at hsw11)
  have hzw11_0:w.heap.size<w11.heap.size:=by omega
  have hzw11_1:w3.heap.size<w11.heap.size:=by omega
  have hzw11_2:w4.heap.size<w11.heap.size:=by omega
  have hzw11_3:w5.heap.size<w11.heap.size:=by omega
  have hnw11_0:w.heap.size∉Gw5:=λhm=>by have h1:=hfw5.1 _ hm;have h2:=hlrw5 _ hm;(try simp at h1);omega
  have hcw11_0:∀o:Nat,w11.cell? ⟨w.heap.size,o,none⟩=_:=λo=>World.cell?_of_block (a:=⟨w.heap.size,o,none⟩) (how11.block (w.heap.size) (by (try simp);(try omega)) hnw11_0)
  clear hnw11_0;have hnw11_1:w3.heap.size∉Gw5:=λhm=>by have h1:=hfw5.1 _ hm;have h2:=hlrw5 _ hm;(try simp at h1);omega
  have hcw11_1:∀o:Nat,w11.cell? ⟨w3.heap.size,o,none⟩=_:=λo=>World.cell?_of_block (a:=⟨w3.heap.size,o,none⟩) (how11.block (w3.heap.size) (by (try simp);(try omega)) hnw11_1)
  clear hnw11_1;have hnw11_2:w4.heap.size∉Gw5:=λhm=>by have h1:=hfw5.1 _ hm;have h2:=hlrw5 _ hm;(try simp at h1);omega
  have hcw11_2:∀o:Nat,w11.cell? ⟨w4.heap.size,o,none⟩=_:=λo=>World.cell?_of_block (a:=⟨w4.heap.size,o,none⟩) (how11.block (w4.heap.size) (by (try simp);(try omega)) hnw11_2)
  clear hnw11_2;have hnw11_3:w5.heap.size∉Gw5:=λhm=>by have h1:=hfw5.1 _ hm;have h2:=hlrw5 _ hm;(try simp at h1);omega
  have hcw11_3:∀o:Nat,w11.cell? ⟨w5.heap.size,o,none⟩=_:=λo=>World.cell?_of_block (a:=⟨w5.heap.size,o,none⟩) (how11.block (w5.heap.size) (by (try simp);(try omega)) hnw11_3)
  clear hnw11_3;have hBw11:Below w.heap.size w w11:=Below.trans (show Below w.heap.size w _ from bl) (how11.bel _ (by have:=hBw10.size;(try simp);(try omega)) (λb hb=>by have h1:=hfw5.1 _ hb;have:=hBw10.size;(try simp at h1);omega))
  replace hrw2:=Cod.only (zb hrw2) how11 (λb h1 h2=>by have e1:=hlrw2 b h1;have e2:=hfw5.1 b h2;(try simp at e2);omega)
  replace hrw3:=Cod.only (zb hrw3) how11 (λb h1 h2=>by have e1:=hlrw3 b h1;have e2:=hfw5.1 b h2;(try simp at e2);omega)
  replace hrw4:=Cod.only (zb hrw4) how11 (λb h1 h2=>by have e1:=hlrw4 b h1;have e2:=hfw5.1 b h2;(try simp at e2);omega)
  clear hrw5;have hrw5:=hmw11;clear how11;go_wp2_with fail;refine(Zdp _ ((ZaK p0)) _ _ _ (by exact zb hrw5) (by omega) (by omega)).mono ?_
  rintro e w12 ⟨rfl,hbw12⟩;have hsw12:=hbw12.size;(try simp at hsw12)
  have hzw12_0:w.heap.size<w12.heap.size:=by omega
  have hzw12_1:w3.heap.size<w12.heap.size:=by omega
  have hzw12_2:w4.heap.size<w12.heap.size:=by omega
  have hzw12_3:w5.heap.size<w12.heap.size:=by omega
  have hBw12:=zt (w:=w) hbw12
  replace hrw2:=zb hrw2 (zt hbw12)
  replace hrw3:=zb hrw3 (zt hbw12)
  replace hrw4:=zb hrw4 (zt hbw12)
  replace hrw5:=zb hrw5 (zt hbw12)
  obtain⟨hcw12,hfzw12,-⟩:=Zc hbw12;clear hbw12;go_wp2_with fail;refine(Zck _ p0 _ _ (by exact zb h0) z0).mono ?_
  rintro e w13 ⟨uw13,Gw13,rfl,hbw13,hrw13,hfw13⟩;have drw13:=hrw13;obtain⟨vrw13_2,vrw13_3,vrw13_4,Erw13_2,Erw13_3,Erw13_4,rfl,-,-,mrw13_2,mrw13_3,mrw13_4⟩:=TDisk.outA drw13;obtain⟨Arw13_2,crw13_2,erw13_2⟩:=Zb mrw13_2;subst erw13_2;obtain⟨Arw13_3,crw13_3,erw13_3⟩:=Zb mrw13_3;subst erw13_3;obtain⟨Arw13_4,crw13_4,erw13_4⟩:=Zb mrw13_4;subst erw13_4;clear mrw13_2 mrw13_3 mrw13_4 drw13;have hsw13:=hbw13.size;(try simp at hsw13)
  have hzw13_0:w.heap.size<w13.heap.size:=by omega
  have hzw13_1:w3.heap.size<w13.heap.size:=by omega
  have hzw13_2:w4.heap.size<w13.heap.size:=by omega
  have hzw13_3:w5.heap.size<w13.heap.size:=by omega
  have hBw13:=zt (w:=w) hbw13
  replace hrw2:=zb hrw2 (zt hbw13)
  replace hrw3:=zb hrw3 (zt hbw13)
  replace hrw4:=zb hrw4 (zt hbw13)
  replace hrw5:=zb hrw5 (zt hbw13)
  have hlrw13:∀b,b∈Gw13→b<w13.heap.size:=λb hb=>Cod.lt _ hrw13 b hb
  obtain⟨hcw13,hfzw13,-⟩:=Zc hbw13;clear hbw13;go_wp2_with fail;refine(Zdq _ p0 _ _ (by exact zb hrw13) z0).mono ?_
  rintro e w14 ⟨uw14,Gw14,rfl,hbw14,hrw14,hfw14⟩;have drw14:=hrw14;obtain⟨vrw14_2,vrw14_3,vrw14_4,Erw14_2,Erw14_3,Erw14_4,rfl,-,-,mrw14_2,mrw14_3,mrw14_4⟩:=TDisk.outA drw14;obtain⟨Arw14_2,crw14_2,erw14_2⟩:=Zb mrw14_2;subst erw14_2;obtain⟨Arw14_3,crw14_3,erw14_3⟩:=Zb mrw14_3;subst erw14_3;obtain⟨Arw14_4,crw14_4,erw14_4⟩:=Zb mrw14_4;subst erw14_4;clear mrw14_2 mrw14_3 mrw14_4 drw14;have hsw14:=hbw14.size;(try simp at hsw14)
  have hzw14_0:w.heap.size<w14.heap.size:=by omega
  have hzw14_1:w3.heap.size<w14.heap.size:=by omega
  have hzw14_2:w4.heap.size<w14.heap.size:=by omega
  have hzw14_3:w5.heap.size<w14.heap.size:=by omega
  have hBw14:=zt (w:=w) hbw14
  replace hrw2:=zb hrw2 (zt hbw14)
  replace hrw3:=zb hrw3 (zt hbw14)
  replace hrw4:=zb hrw4 (zt hbw14)
  replace hrw5:=zb hrw5 (zt hbw14)
  replace hrw13:=zb hrw13 (zt hbw14)
  have hlrw14:∀b,b∈Gw14→b<w14.heap.size:=λb hb=>Cod.lt _ hrw14 b hb
  obtain⟨hcw14,hfzw14,-⟩:=Zc hbw14;clear hbw14;go_wp2_with fail;refine(Zch _ _ ((ZaK p0)) _ _ _ (by exact zb hrw14) (by exact zb hrw3)).mono ?_
  rintro e w15 ⟨rfl,hbw15⟩;have hsw15:=hbw15.size;(try simp at hsw15)
  have hzw15_0:w.heap.size<w15.heap.size:=by omega
  have hzw15_1:w3.heap.size<w15.heap.size:=by omega
  have hzw15_2:w4.heap.size<w15.heap.size:=by omega
  have hzw15_3:w5.heap.size<w15.heap.size:=by omega
  have hzw15_4:w14.heap.size<w15.heap.size:=by omega
  have hBw15:=zt (w:=w) hbw15
  replace hrw2:=zb hrw2 (zt hbw15)
  replace hrw3:=zb hrw3 (zt hbw15)
  replace hrw4:=zb hrw4 (zt hbw15)
  replace hrw5:=zb hrw5 (zt hbw15)
  replace hrw13:=zb hrw13 (zt hbw15)
  replace hrw14:=zb hrw14 (zt hbw15)
  obtain⟨hcw15,hfzw15,-⟩:=Zc hbw15;clear hbw15;go_wp2_with fail;refine(Zdp _ ((ZaK p0)) _ _ _ (by exact zb hrw5) (by omega) (by omega)).mono ?_
  rintro e w16 ⟨rfl,hbw16⟩;have hsw16:=hbw16.size;(try simp at hsw16)
  have hzw16_0:w.heap.size<w16.heap.size:=by omega
  have hzw16_1:w3.heap.size<w16.heap.size:=by omega
  have hzw16_2:w4.heap.size<w16.heap.size:=by omega
  have hzw16_3:w5.heap.size<w16.heap.size:=by omega
  have hzw16_4:w14.heap.size<w16.heap.size:=by omega
  have hBw16:=zt (w:=w) hbw16
  replace hrw2:=zb hrw2 (zt hbw16)
  replace hrw3:=zb hrw3 (zt hbw16)
  replace hrw4:=zb hrw4 (zt hbw16)
  replace hrw5:=zb hrw5 (zt hbw16)
  replace hrw13:=zb hrw13 (zt hbw16)
  replace hrw14:=zb hrw14 (zt hbw16)
  obtain⟨hcw16,hfzw16,-⟩:=Zc hbw16;clear hbw16;go_wp2_with fail;go_ret
  exact⟨rfl,bl⟩
theorem Zfv (H:Type) (enc:TypeId×Value→H) (W:World) (base:Nat) (args:Array Value) (ds:List (DataW H)) (p:List MemPlace)
  (hval:∀(j:Nat) t v,Tryz.f3.params[j]?=some t→args[j]?=some v→Value.okWide Tryz.prog W .any base t v)
  (hA:DataW.TrodAll enc Tryz.prog W 0 (λ_=>true) true Tryz.f3.params.toList args.toList ds p) (hf:W.noneFrozen p) :
  Calls Tryz.prog 3 args W (ZL W (.bool true)):=by
 rw[Tryz.params3] at hA hval
 obtain⟨v0,vs0,d0,ds0,q0,s0,hargs,rfl,rfl,k0,t0⟩:=trodAll_cons hA;obtain⟨rfl,rfl,rfl⟩:=trodAll_nil t0;obtain rfl:args=#[v0]:=by cases args;simp_all
 obtain⟨cs0,x0,F0,rfl,hx0⟩:=opens_lDisk.struct_ Tryz.underlying28 (hval 0 _ _ rfl rfl) k0 (ZaI hf λy hy=>by simp[hy])
 exact Zgd cs0 x0 F0 W hx0
theorem ZeH (os:Os) (started:os.Started) (H:Type) (enc:TypeId×Value→H) :
  ReturnsInHanded {} Tryz.checked os 3 .any (Rows.fnExactCheckpointSpec.pre6 enc Tryz.prog Tryz.f3 Rows.fnExactCheckpointRow.domain false) (Rows.fnExactCheckpointSpec.post enc Tryz.prog Tryz.f3 false true false false):=by
 refine returnsInHanded_of_change (C:=Tryz.checked) (by kernel_rfl) started (by kernel_rfl) Tryz.func3
  (ChangeSpec.witness6 (enc:=enc) (C:=Tryz.checked) false ⟨#[],#[.agg #[.string ByteArray.empty,.int .i64 0,.slice none 0 0,.slice none 0 0,.slice none 0 0,.int .i64 0]],[]⟩ 16 (by kernel_rfl) (by kernel_rfl) (by kernel_rfl) (by kernel_rfl)) ?_
 intro W base args ds gs before hval hW _ _;have hW':=hW;obtain⟨p,q,hA,hV,rfl,hfz,hnd⟩:=hW;refine(Zfv H enc W base args ds p hval hA (ZaI hfz λy hy=>by simp[hy])).mono λe W' ⟨he,hb⟩=>⟨_,he,?_⟩
 exact Zmv (by kernel_rfl) rfl (by kernel_rfl) Tryz.underlying4 (by kernel_rfl) (λds h=>by
  match ds,h with
  | [d0],_=>exact⟨rfl,rfl,rfl⟩) hW' hb
theorem Zfu:Rows.fnExactCheckpointRow.holds Tryz.pinned (OpenSpec.ofChange Rows.fnExactCheckpointSpec) :=
 OpenClaim.holds_of_wide 3 Tryz.f3 rfl rfl rfl rfl rfl rfl rfl ⟨rfl,rfl,rfl,rfl,rfl⟩ rfl rfl rfl rfl rfl (by kernel_rfl) Tryz.func3 (by kernel_rfl)
  (of_decide_eq_true (by kernel_rfl)) (by unfold Func.isWrapper;rw[if_neg (of_decide_eq_false (by kernel_rfl))];exact⟨rfl,rfl⟩)
  (λos started H enc _=>ZeH os started H enc)
theorem lawCheckpoint_holds:Rows.FnExactCheckpointSaid:=Zfu
end
end Go.Proofs.YtghndifnohkokaaGreat
