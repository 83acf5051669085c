/-
  DecKey of the seat. No conditions but sizes.
-/
import Derived.Test.YtghndifnohkokaaGreatZEncKey
import Derived.Test.YtghndifnohkokaaGreatZReadB
import Derived.Test.YtghndifnohkokaaGreatZBase
namespace Go.Proofs.YtghndifnohkokaaGreat
open Go.ChangeShapes Go.WideShapes Go.RowKit
set_option linter.unusedVariables false
set_option linter.unusedSimpArgs false
set_option maxRecDepth 100000
set_option maxHeartbeats 16000000
theorem Zia {r:List UInt8} {k:Nat} (h:k<r.length):Zhi (r.take (k+1))=Zhi (r.take k)*256+r[k].toNat:=by
 unfold Zhi
 rw[List.take_succ_eq_append_getElem h,List.foldl_append];rfl
theorem Zoh:∀(k:Nat) (r:List UInt8),r.length=k→Zhi r<256 ^ k:=by
 intro k
 induction k with
 | zero=>intro r h;rw[List.eq_nil_of_length_eq_zero h];simp[Zhi]
 | succ k ih =>
  intro r h
  have h2:=Zia (r:=r) (k:=k) (by omega)
  rw[List.take_of_length_le (by omega)] at h2
  have h3:=ih (r.take k) (by rw[List.length_take];omega)
  have h4:=(r[k]'(by omega)).toNat_lt
  rw[h2,Nat.pow_succ]
  have h5:Zhi (r.take k)*256+256≤256 ^ k*256:=by
   have:(Zhi (r.take k)+1)*256≤256 ^ k*256:=Nat.mul_le_mul_right _ h3
   omega
  omega
theorem ZkL {r:List UInt8} {k:Nat} (hk:k≤6) (h:k≤r.length):Zhi (r.take k)<281474976710656:=by
 have h1:=Zoh k (r.take k) (by rw[List.length_take];omega)
 have h2:256 ^ k≤256 ^ 6:=Nat.pow_le_pow_right (by omega) hk
 have h3:(256:Nat) ^ 6=281474976710656:=by decide
 omega
theorem Zjq {r:List UInt8} {k:Nat} (hk:k<6) (h:k≤r.length):Zhi (r.take k)<1099511627776:=by
 have h1:=Zoh k (r.take k) (by rw[List.length_take];omega)
 have h2:256 ^ k≤256 ^ 5:=Nat.pow_le_pow_right (by omega) (by omega)
 have h3:(256:Nat) ^ 5=1099511627776:=by decide
 omega
theorem Zoo {c:UInt8} {r:List UInt8} (h:((c.toNat:Int)==2)=true):ZcF (c::r)=some ⟨c.toNat,0,Zg r⟩:=by simp only[ZcF,h,cond_true]
theorem ZmD {c:UInt8} {r:List UInt8} (h:((c.toNat:Int)==2)=false) (h6:r.length<6):ZcF (c::r)=none:=by simp only[ZcF,h,cond_false];rw[if_pos h6]
theorem ZmE {c:UInt8} {r:List UInt8} (h:((c.toNat:Int)==2)=false) (h6:¬r.length<6):ZcF (c::r)=some ⟨c.toNat,(Zhi (r.take 6):Int)-1000000000000,Zg (r.drop 6)⟩:=by simp only[ZcF,h,cond_false];rw[if_neg h6]
theorem Zhm {b:List UInt8} (h:ZcF b=none):Zv b=(noKey,false):=by unfold Zv;rw[h]
theorem ZgA {b:List UInt8} {k:TKey} (h:ZcF b=some k) (hk:ZG k=true):Zv b=(k,true):=by unfold Zv;rw[h];simp only[hk,cond_true]
theorem Zem {b:List UInt8} {k:TKey} (h:ZcF b=some k) (hk:ZG k=false):Zv b=(noKey,false):=by unfold Zv;rw[h];simp only[hk,cond_false]
theorem ZaD (b:List UInt8):(Zg b).size=b.length:=by simp[Zg,ByteArray.size]
theorem or256 {n x:Nat} (hn:n<1099511627776) (hx:x<256):bits .or .i64 ((n:Int)*256) (x:Int)=(n:Int)*256+(x:Int):=by
 have h1:(BitVec.ofInt 64 ((n:Int)*256) ||| BitVec.ofInt 64 (x:Int)).toNat=n*256+x:=by
  rw[BitVec.toNat_or,BitVec.toNat_ofInt,BitVec.toNat_ofInt]
  rw[show (((n:Int)*256) % ((2 ^ 64:Nat):Int)).toNat=n*2 ^ 8 by omega,show ((x:Int) % ((2 ^ 64:Nat):Int)).toNat=x by omega]
  rw[Nat.mul_comm,← Nat.two_pow_add_eq_or_of_lt (by omega:x<2 ^ 8) n]
 show IntKind.i64.wrap ((BitVec.ofInt 64 ((n:Int)*256) ||| BitVec.ofInt 64 (x:Int)).toNat:Nat)=_
 rw[h1,IntKind.wrap_i64]
 omega
theorem ZfY (v:Value) (b:List UInt8) (F:List Nat) (w:World) (h:cUS.rep w [v] b F) (hb:b.length≤1000000000) :
  Calls Tryz.prog 94 #[v] w (ZL w (.tuple #[.agg #[.int .i64 (Zv b).1.kind,.int .i64 (Zv b).1.n,.string (Zv b).1.text],.bool (Zv b).2])):=by
 obtain⟨A,cp,rfl⟩:=Zb h
 obtain⟨-,hcp,hm⟩:=Zq h
 unfold maxLen at hm
 cases b with
 | nil =>
  have HD:=zh (Zhm (show ZcF []=none from rfl))
  go_enter Tryz.func94,Tryz.ntmps94
  go_wp2_with fail
  refine bodyPost_ret (v:=.tuple #[.agg #[.int .i64 0,.int .i64 0,.string (⟨#[]⟩:ByteArray)],.bool false]) (by simp[results,Tryz.results94,go_sem, *]) rfl ?_
  rw[HD.out]
  exact⟨rfl,bl⟩
 | cons c r =>
  have hrl:(c::r).length=r.length+1:=rfl
  obtain⟨n,hn⟩:∃n,r.length=n:=⟨_,rfl⟩
  have hh:=h
  rw[hrl,hn] at h hcp hb⊢
  obtain⟨g,o,rfl,hgF,hgw,q0⟩:=ZjJ hh (k:=0) (by simp)
  replace q0:w.cell? ⟨g,o,none⟩=some (.int .u8 (c.toNat:Int)):=by simpa using q0
  have hc8:c.toNat<256:=c.toNat_lt
  have hwc:IntKind.i64.wrap (c.toNat:Int)=(c.toNat:Int):=IntWalk.i64_in _ (by omega)
  have hk2:((c.toNat:Int) !=2)=!((c.toNat:Int)==2):=rfl
  have hgn0:¬g=w.heap.size:=by omega
  have hgn1:¬g=w.heap.size+1:=by omega
  obtain⟨G1,hr1,-,-⟩:=Zgx h 1 (by omega)
  rw[show 1*cU.wd=1 from rfl,List.drop_one,List.tail_cons,Nat.add_sub_cancel] at hr1
  cases e2:((c.toNat:Int)==2)
  case true =>
   rw[e2,Bool.not_true] at hk2
   have HR:=zh (Zoo (r:=r) e2)
   by_cases hc1:cp=1
   ·subst hc1
    obtain rfl:n=0:=by omega
    simp only[if_true,Nat.sub_self] at hr1
    have hcv:=fun (W:World) (hb:Below w.heap.size w W)=>ZaX (zb hr1 hb)
    go_enter Tryz.func94,Tryz.ntmps94
    go_wp2_with fail
    rw[ZaX (xs:=r) (F:=G1)]
    rotate_left
    ·exact zb hr1
    simp only[Result.andThen]
    rw[Oper.upon_value]
    go_wp2_with fail
    refine(Zbh ⟨(c.toNat:Int),0,Zg r⟩ _ (by show (Zg _).size≤maxLen;rw[ZaD];(try rw[List.length_drop]);unfold maxLen;omega)).mono ?_
    rintro e w5 ⟨v5,rfl,hb5,ho5⟩
    obtain⟨F5,hr5,-,-⟩:=ho5.fresh (hw:=by decide) (hw2:=by decide)
    obtain⟨hc_w5,hf_w5,hz_w5⟩:=Zc hb5
    try simp at hz_w5
    obtain⟨ha0_w5,ha1_w5⟩:=zg2 w.heap.size w5.heap.size
    have hb_w5:=zt (w:=w) hb5
    go_wp2_with fail
    refine(ZaL _ _ (ZE ⟨(c.toNat:Int),0,Zg r⟩) (c::r) _ _ _ (by exact hr5) (by exact zb h)).mono ?_
    rw[ZbR,Zfs HR.out]
    cases e9:ZG ⟨(c.toNat:Int),0,Zg r⟩
    ·have HD:=zh (Zem HR.out e9)
     rintro e w6 ⟨rfl,hb6⟩
     obtain⟨hc_w6,hf_w6,hz_w6⟩:=Zc hb6
     try simp at hz_w6
     obtain⟨ha0_w6,ha1_w6⟩:=zg2 w.heap.size w6.heap.size
     have hb_w6:=zt (w:=w) hb6
     have y0:w6.cell? ⟨w.heap.size,0,none⟩=some (.int .i64 0):=by go_simp
     have y1:w6.cell? ⟨w.heap.size,1,none⟩=some (.int .i64 0):=by go_simp
     have y2:w6.cell? ⟨w.heap.size,2,none⟩=some (.string (⟨#[]⟩:ByteArray)):=by go_simp
     have z0:w6.cell? ⟨w.heap.size+1,0,none⟩=some (.int .i64 (⟨(c.toNat:Int),0,Zg r⟩:TKey).kind):=by go_simp
     have z1:w6.cell? ⟨w.heap.size+1,1,none⟩=some (.int .i64 (⟨(c.toNat:Int),0,Zg r⟩:TKey).n):=by go_simp
     have z2:w6.cell? ⟨w.heap.size+1,2,none⟩=some (.string (⟨(c.toNat:Int),0,Zg r⟩:TKey).text):=by go_simp
     have fy0:w6.frozen? ⟨w.heap.size,0,none⟩=false:=by go_simp
     have fy1:w6.frozen? ⟨w.heap.size,1,none⟩=false:=by go_simp
     have fy2:w6.frozen? ⟨w.heap.size,2,none⟩=false:=by go_simp
     simp only at z0 z1 z2
     clear hc_w6 hf_w6 hb6
     go_wp2_with fail
     refine bodyPost_ret (v:=.tuple #[.agg #[.int .i64 0,.int .i64 0,.string (⟨#[]⟩:ByteArray)],.bool false]) (by simp[results,Tryz.results94,go_sem, *]) rfl ?_
     rw[HD.out]
     exact⟨rfl,bl⟩
    ·have HD:=zh (ZgA HR.out e9)
     rintro e w6 ⟨rfl,hb6⟩
     obtain⟨hc_w6,hf_w6,hz_w6⟩:=Zc hb6
     try simp at hz_w6
     obtain⟨ha0_w6,ha1_w6⟩:=zg2 w.heap.size w6.heap.size
     have hb_w6:=zt (w:=w) hb6
     have y0:w6.cell? ⟨w.heap.size,0,none⟩=some (.int .i64 0):=by go_simp
     have y1:w6.cell? ⟨w.heap.size,1,none⟩=some (.int .i64 0):=by go_simp
     have y2:w6.cell? ⟨w.heap.size,2,none⟩=some (.string (⟨#[]⟩:ByteArray)):=by go_simp
     have z0:w6.cell? ⟨w.heap.size+1,0,none⟩=some (.int .i64 (⟨(c.toNat:Int),0,Zg r⟩:TKey).kind):=by go_simp
     have z1:w6.cell? ⟨w.heap.size+1,1,none⟩=some (.int .i64 (⟨(c.toNat:Int),0,Zg r⟩:TKey).n):=by go_simp
     have z2:w6.cell? ⟨w.heap.size+1,2,none⟩=some (.string (⟨(c.toNat:Int),0,Zg r⟩:TKey).text):=by go_simp
     have fy0:w6.frozen? ⟨w.heap.size,0,none⟩=false:=by go_simp
     have fy1:w6.frozen? ⟨w.heap.size,1,none⟩=false:=by go_simp
     have fy2:w6.frozen? ⟨w.heap.size,2,none⟩=false:=by go_simp
     simp only at z0 z1 z2
     clear hc_w6 hf_w6 hb6
     go_wp2_with fail
     refine bodyPost_ret (v:=.tuple #[.agg #[.int .i64 (⟨(c.toNat:Int),0,Zg r⟩:TKey).kind,.int .i64 (⟨(c.toNat:Int),0,Zg r⟩:TKey).n,.string (⟨(c.toNat:Int),0,Zg r⟩:TKey).text],.bool true]) (by simp[results,Tryz.results94,go_sem, *]) rfl ?_
     rw[HD.out]
     exact⟨rfl,bl⟩
   ·rw[if_neg hc1] at hr1
    simp only[Option.map_some,Addr.add_lit] at hr1
    go_enter Tryz.func94,Tryz.ntmps94
    go_wp2_with fail
    rw[ZaX (xs:=r) (F:=G1)]
    rotate_left
    ·exact zb hr1
    simp only[Result.andThen]
    rw[Oper.upon_value]
    go_wp2_with fail
    refine(Zbh ⟨(c.toNat:Int),0,Zg r⟩ _ (by show (Zg _).size≤maxLen;rw[ZaD];(try rw[List.length_drop]);unfold maxLen;omega)).mono ?_
    rintro e w5 ⟨v5,rfl,hb5,ho5⟩
    obtain⟨F5,hr5,-,-⟩:=ho5.fresh (hw:=by decide) (hw2:=by decide)
    obtain⟨hc_w5,hf_w5,hz_w5⟩:=Zc hb5
    try simp at hz_w5
    obtain⟨ha0_w5,ha1_w5⟩:=zg2 w.heap.size w5.heap.size
    have hb_w5:=zt (w:=w) hb5
    go_wp2_with fail
    refine(ZaL _ _ (ZE ⟨(c.toNat:Int),0,Zg r⟩) (c::r) _ _ _ (by exact hr5) (by exact zb h)).mono ?_
    rw[ZbR,Zfs HR.out]
    cases e9:ZG ⟨(c.toNat:Int),0,Zg r⟩
    ·have HD:=zh (Zem HR.out e9)
     rintro e w6 ⟨rfl,hb6⟩
     obtain⟨hc_w6,hf_w6,hz_w6⟩:=Zc hb6
     try simp at hz_w6
     obtain⟨ha0_w6,ha1_w6⟩:=zg2 w.heap.size w6.heap.size
     have hb_w6:=zt (w:=w) hb6
     have y0:w6.cell? ⟨w.heap.size,0,none⟩=some (.int .i64 0):=by go_simp
     have y1:w6.cell? ⟨w.heap.size,1,none⟩=some (.int .i64 0):=by go_simp
     have y2:w6.cell? ⟨w.heap.size,2,none⟩=some (.string (⟨#[]⟩:ByteArray)):=by go_simp
     have z0:w6.cell? ⟨w.heap.size+1,0,none⟩=some (.int .i64 (⟨(c.toNat:Int),0,Zg r⟩:TKey).kind):=by go_simp
     have z1:w6.cell? ⟨w.heap.size+1,1,none⟩=some (.int .i64 (⟨(c.toNat:Int),0,Zg r⟩:TKey).n):=by go_simp
     have z2:w6.cell? ⟨w.heap.size+1,2,none⟩=some (.string (⟨(c.toNat:Int),0,Zg r⟩:TKey).text):=by go_simp
     have fy0:w6.frozen? ⟨w.heap.size,0,none⟩=false:=by go_simp
     have fy1:w6.frozen? ⟨w.heap.size,1,none⟩=false:=by go_simp
     have fy2:w6.frozen? ⟨w.heap.size,2,none⟩=false:=by go_simp
     simp only at z0 z1 z2
     clear hc_w6 hf_w6 hb6
     go_wp2_with fail
     refine bodyPost_ret (v:=.tuple #[.agg #[.int .i64 0,.int .i64 0,.string (⟨#[]⟩:ByteArray)],.bool false]) (by simp[results,Tryz.results94,go_sem, *]) rfl ?_
     rw[HD.out]
     exact⟨rfl,bl⟩
    ·have HD:=zh (ZgA HR.out e9)
     rintro e w6 ⟨rfl,hb6⟩
     obtain⟨hc_w6,hf_w6,hz_w6⟩:=Zc hb6
     try simp at hz_w6
     obtain⟨ha0_w6,ha1_w6⟩:=zg2 w.heap.size w6.heap.size
     have hb_w6:=zt (w:=w) hb6
     have y0:w6.cell? ⟨w.heap.size,0,none⟩=some (.int .i64 0):=by go_simp
     have y1:w6.cell? ⟨w.heap.size,1,none⟩=some (.int .i64 0):=by go_simp
     have y2:w6.cell? ⟨w.heap.size,2,none⟩=some (.string (⟨#[]⟩:ByteArray)):=by go_simp
     have z0:w6.cell? ⟨w.heap.size+1,0,none⟩=some (.int .i64 (⟨(c.toNat:Int),0,Zg r⟩:TKey).kind):=by go_simp
     have z1:w6.cell? ⟨w.heap.size+1,1,none⟩=some (.int .i64 (⟨(c.toNat:Int),0,Zg r⟩:TKey).n):=by go_simp
     have z2:w6.cell? ⟨w.heap.size+1,2,none⟩=some (.string (⟨(c.toNat:Int),0,Zg r⟩:TKey).text):=by go_simp
     have fy0:w6.frozen? ⟨w.heap.size,0,none⟩=false:=by go_simp
     have fy1:w6.frozen? ⟨w.heap.size,1,none⟩=false:=by go_simp
     have fy2:w6.frozen? ⟨w.heap.size,2,none⟩=false:=by go_simp
     simp only at z0 z1 z2
     clear hc_w6 hf_w6 hb6
     go_wp2_with fail
     refine bodyPost_ret (v:=.tuple #[.agg #[.int .i64 (⟨(c.toNat:Int),0,Zg r⟩:TKey).kind,.int .i64 (⟨(c.toNat:Int),0,Zg r⟩:TKey).n,.string (⟨(c.toNat:Int),0,Zg r⟩:TKey).text],.bool true]) (by simp[results,Tryz.results94,go_sem, *]) rfl ?_
     rw[HD.out]
     exact⟨rfl,bl⟩
  case false =>
   rw[e2,Bool.not_false] at hk2
   by_cases h6:n<6
   ·have HD:=zh (Zhm (ZmD e2 (by rw[hn];exact h6)))
    have h6i:(n:Int)<6:=by omega
    by_cases hc1:cp=1
    ·subst hc1
     obtain rfl:n=0:=by omega
     go_enter Tryz.func94,Tryz.ntmps94
     go_wp2_with fail
     refine bodyPost_ret (v:=.tuple #[.agg #[.int .i64 0,.int .i64 0,.string (⟨#[]⟩:ByteArray)],.bool false]) (by simp[results,Tryz.results94,go_sem, *]) rfl ?_
     rw[HD.out]
     exact⟨rfl,bl⟩
    ·go_enter Tryz.func94,Tryz.ntmps94
     go_wp2_with fail
     refine bodyPost_ret (v:=.tuple #[.agg #[.int .i64 0,.int .i64 0,.string (⟨#[]⟩:ByteArray)],.bool false]) (by simp[results,Tryz.results94,go_sem, *]) rfl ?_
     rw[HD.out]
     exact⟨rfl,bl⟩
   ·have HR:=zh (ZmE e2 (by rw[hn];exact h6))
    have h6i:¬(n:Int)<6:=by omega
    have hc1:¬cp=1:=by omega
    rw[if_neg hc1] at hr1
    simp only[Option.map_some,Addr.add_lit] at hr1
    go_enter Tryz.func94,Tryz.ntmps94
    go_wp2_with fail
    go_loop [30,6] (λi acc=>∃k:Nat,k≤6∧i=.int .i64 k∧acc=.int .i64 (Zhi (r.take k):Int)) (λi _=>6-(intOf i).toNat)
    case atStart=>exact⟨0,by omega,rfl,rfl⟩
    case round =>
     obtain⟨k,hk,rfl,rfl⟩:=hrel
     by_cases hlt:k<6
     ·have hkx:k<r.length:=by omega
      obtain⟨g',o',eA,-,-,q1⟩:=ZjJ hr1 hkx
      injection eA with eA
      injection eA with e8 e9
      subst e8
      subst e9
      have hN:=Zjq hlt (show k≤r.length by omega)
      have HS:=zh (Zia hkx)
      have hx8:r[k].toNat<256:=r[k].toNat_lt
      have hgl:g<w.heap.size+1+1:=by omega
      generalize hN9:Zhi (r.take k)=N at *
      generalize hx9:r[k].toNat=x at *
      have hki:(k:Int)<6:=by omega
      go_wp2_with fail
      go_round
      case rel=>exact⟨k+1,by omega,by go_num,by rw[HS.out];first|rfl|(push_cast;rfl)⟩
      case measure=>simp[intOf];omega
     ·obtain rfl:k=6:=by omega
      have hN:=ZkL (r:=r) (k:=6) (by omega) (by omega)
      obtain⟨G6,hr6,-,-⟩:=Zgx hr1 6 (by omega)
      rw[show 6*cU.wd=6 from rfl] at hr6
      by_cases hc6:cp-1=6
      ·have hc7:cp=7:=by omega
       subst hc7
       obtain rfl:n=6:=by omega
       simp only[if_true,Nat.sub_self] at hr6
       generalize hN9:Zhi (r.take 6)=N at *
       go_wp2_with fail
       rw[ZaX (xs:=r.drop 6) (F:=G6)]
       rotate_left
       ·exact zb hr6
       simp only[Result.andThen]
       rw[Oper.upon_value]
       go_wp2_with fail
       refine(Zbh ⟨(c.toNat:Int),(N:Int)-1000000000000,Zg (r.drop 6)⟩ _ (by show (Zg _).size≤maxLen;rw[ZaD];(try rw[List.length_drop]);unfold maxLen;omega)).mono ?_
       rintro e w5 ⟨v5,rfl,hb5,ho5⟩
       obtain⟨F5,hr5,-,-⟩:=ho5.fresh (hw:=by decide) (hw2:=by decide)
       obtain⟨hc_w5,hf_w5,hz_w5⟩:=Zc hb5
       try simp at hz_w5
       obtain⟨ha0_w5,ha1_w5⟩:=zg2 w.heap.size w5.heap.size
       have hb_w5:=zt (w:=w) hb5
       go_wp2_with fail
       refine(ZaL _ _ (ZE ⟨(c.toNat:Int),(N:Int)-1000000000000,Zg (r.drop 6)⟩) (c::r) _ _ _ (by exact hr5) (by exact zb h)).mono ?_
       rw[ZbR,Zfs HR.out]
       cases e9:ZG ⟨(c.toNat:Int),(N:Int)-1000000000000,Zg (r.drop 6)⟩
       ·have HD:=zh (Zem HR.out e9)
        rintro e w6 ⟨rfl,hb6⟩
        obtain⟨hc_w6,hf_w6,hz_w6⟩:=Zc hb6
        try simp at hz_w6
        obtain⟨ha0_w6,ha1_w6⟩:=zg2 w.heap.size w6.heap.size
        have hb_w6:=zt (w:=w) hb6
        have y0:w6.cell? ⟨w.heap.size,0,none⟩=some (.int .i64 0):=by go_simp
        have y1:w6.cell? ⟨w.heap.size,1,none⟩=some (.int .i64 0):=by go_simp
        have y2:w6.cell? ⟨w.heap.size,2,none⟩=some (.string (⟨#[]⟩:ByteArray)):=by go_simp
        have z0:w6.cell? ⟨w.heap.size+1,0,none⟩=some (.int .i64 (⟨(c.toNat:Int),(N:Int)-1000000000000,Zg (r.drop 6)⟩:TKey).kind):=by go_simp
        have z1:w6.cell? ⟨w.heap.size+1,1,none⟩=some (.int .i64 (⟨(c.toNat:Int),(N:Int)-1000000000000,Zg (r.drop 6)⟩:TKey).n):=by go_simp
        have z2:w6.cell? ⟨w.heap.size+1,2,none⟩=some (.string (⟨(c.toNat:Int),(N:Int)-1000000000000,Zg (r.drop 6)⟩:TKey).text):=by go_simp
        have fy0:w6.frozen? ⟨w.heap.size,0,none⟩=false:=by go_simp
        have fy1:w6.frozen? ⟨w.heap.size,1,none⟩=false:=by go_simp
        have fy2:w6.frozen? ⟨w.heap.size,2,none⟩=false:=by go_simp
        simp only at z0 z1 z2
        clear hc_w6 hf_w6 hb6
        go_wp2_with fail
        refine bodyPost_ret (v:=.tuple #[.agg #[.int .i64 0,.int .i64 0,.string (⟨#[]⟩:ByteArray)],.bool false]) (by simp[results,Tryz.results94,go_sem, *]) rfl ?_
        rw[HD.out]
        exact⟨rfl,bl⟩
       ·have HD:=zh (ZgA HR.out e9)
        rintro e w6 ⟨rfl,hb6⟩
        obtain⟨hc_w6,hf_w6,hz_w6⟩:=Zc hb6
        try simp at hz_w6
        obtain⟨ha0_w6,ha1_w6⟩:=zg2 w.heap.size w6.heap.size
        have hb_w6:=zt (w:=w) hb6
        have y0:w6.cell? ⟨w.heap.size,0,none⟩=some (.int .i64 0):=by go_simp
        have y1:w6.cell? ⟨w.heap.size,1,none⟩=some (.int .i64 0):=by go_simp
        have y2:w6.cell? ⟨w.heap.size,2,none⟩=some (.string (⟨#[]⟩:ByteArray)):=by go_simp
        have z0:w6.cell? ⟨w.heap.size+1,0,none⟩=some (.int .i64 (⟨(c.toNat:Int),(N:Int)-1000000000000,Zg (r.drop 6)⟩:TKey).kind):=by go_simp
        have z1:w6.cell? ⟨w.heap.size+1,1,none⟩=some (.int .i64 (⟨(c.toNat:Int),(N:Int)-1000000000000,Zg (r.drop 6)⟩:TKey).n):=by go_simp
        have z2:w6.cell? ⟨w.heap.size+1,2,none⟩=some (.string (⟨(c.toNat:Int),(N:Int)-1000000000000,Zg (r.drop 6)⟩:TKey).text):=by go_simp
        have fy0:w6.frozen? ⟨w.heap.size,0,none⟩=false:=by go_simp
        have fy1:w6.frozen? ⟨w.heap.size,1,none⟩=false:=by go_simp
        have fy2:w6.frozen? ⟨w.heap.size,2,none⟩=false:=by go_simp
        simp only at z0 z1 z2
        clear hc_w6 hf_w6 hb6
        go_wp2_with fail
        refine bodyPost_ret (v:=.tuple #[.agg #[.int .i64 (⟨(c.toNat:Int),(N:Int)-1000000000000,Zg (r.drop 6)⟩:TKey).kind,.int .i64 (⟨(c.toNat:Int),(N:Int)-1000000000000,Zg (r.drop 6)⟩:TKey).n,.string (⟨(c.toNat:Int),(N:Int)-1000000000000,Zg (r.drop 6)⟩:TKey).text],.bool true]) (by simp[results,Tryz.results94,go_sem, *]) rfl ?_
        rw[HD.out]
        exact⟨rfl,bl⟩
      ·rw[if_neg hc6] at hr6
       simp only[Option.map_some,Addr.add_lit] at hr6
       generalize hN9:Zhi (r.take 6)=N at *
       go_wp2_with fail
       rw[ZaX (xs:=r.drop 6) (F:=G6)]
       rotate_left
       ·exact zb hr6
       simp only[Result.andThen]
       rw[Oper.upon_value]
       go_wp2_with fail
       refine(Zbh ⟨(c.toNat:Int),(N:Int)-1000000000000,Zg (r.drop 6)⟩ _ (by show (Zg _).size≤maxLen;rw[ZaD];(try rw[List.length_drop]);unfold maxLen;omega)).mono ?_
       rintro e w5 ⟨v5,rfl,hb5,ho5⟩
       obtain⟨F5,hr5,-,-⟩:=ho5.fresh (hw:=by decide) (hw2:=by decide)
       obtain⟨hc_w5,hf_w5,hz_w5⟩:=Zc hb5
       try simp at hz_w5
       obtain⟨ha0_w5,ha1_w5⟩:=zg2 w.heap.size w5.heap.size
       have hb_w5:=zt (w:=w) hb5
       go_wp2_with fail
       refine(ZaL _ _ (ZE ⟨(c.toNat:Int),(N:Int)-1000000000000,Zg (r.drop 6)⟩) (c::r) _ _ _ (by exact hr5) (by exact zb h)).mono ?_
       rw[ZbR,Zfs HR.out]
       cases e9:ZG ⟨(c.toNat:Int),(N:Int)-1000000000000,Zg (r.drop 6)⟩
       ·have HD:=zh (Zem HR.out e9)
        rintro e w6 ⟨rfl,hb6⟩
        obtain⟨hc_w6,hf_w6,hz_w6⟩:=Zc hb6
        try simp at hz_w6
        obtain⟨ha0_w6,ha1_w6⟩:=zg2 w.heap.size w6.heap.size
        have hb_w6:=zt (w:=w) hb6
        have y0:w6.cell? ⟨w.heap.size,0,none⟩=some (.int .i64 0):=by go_simp
        have y1:w6.cell? ⟨w.heap.size,1,none⟩=some (.int .i64 0):=by go_simp
        have y2:w6.cell? ⟨w.heap.size,2,none⟩=some (.string (⟨#[]⟩:ByteArray)):=by go_simp
        have z0:w6.cell? ⟨w.heap.size+1,0,none⟩=some (.int .i64 (⟨(c.toNat:Int),(N:Int)-1000000000000,Zg (r.drop 6)⟩:TKey).kind):=by go_simp
        have z1:w6.cell? ⟨w.heap.size+1,1,none⟩=some (.int .i64 (⟨(c.toNat:Int),(N:Int)-1000000000000,Zg (r.drop 6)⟩:TKey).n):=by go_simp
        have z2:w6.cell? ⟨w.heap.size+1,2,none⟩=some (.string (⟨(c.toNat:Int),(N:Int)-1000000000000,Zg (r.drop 6)⟩:TKey).text):=by go_simp
        have fy0:w6.frozen? ⟨w.heap.size,0,none⟩=false:=by go_simp
        have fy1:w6.frozen? ⟨w.heap.size,1,none⟩=false:=by go_simp
        have fy2:w6.frozen? ⟨w.heap.size,2,none⟩=false:=by go_simp
        simp only at z0 z1 z2
        clear hc_w6 hf_w6 hb6
        go_wp2_with fail
        refine bodyPost_ret (v:=.tuple #[.agg #[.int .i64 0,.int .i64 0,.string (⟨#[]⟩:ByteArray)],.bool false]) (by simp[results,Tryz.results94,go_sem, *]) rfl ?_
        rw[HD.out]
        exact⟨rfl,bl⟩
       ·have HD:=zh (ZgA HR.out e9)
        rintro e w6 ⟨rfl,hb6⟩
        obtain⟨hc_w6,hf_w6,hz_w6⟩:=Zc hb6
        try simp at hz_w6
        obtain⟨ha0_w6,ha1_w6⟩:=zg2 w.heap.size w6.heap.size
        have hb_w6:=zt (w:=w) hb6
        have y0:w6.cell? ⟨w.heap.size,0,none⟩=some (.int .i64 0):=by go_simp
        have y1:w6.cell? ⟨w.heap.size,1,none⟩=some (.int .i64 0):=by go_simp
        have y2:w6.cell? ⟨w.heap.size,2,none⟩=some (.string (⟨#[]⟩:ByteArray)):=by go_simp
        have z0:w6.cell? ⟨w.heap.size+1,0,none⟩=some (.int .i64 (⟨(c.toNat:Int),(N:Int)-1000000000000,Zg (r.drop 6)⟩:TKey).kind):=by go_simp
        have z1:w6.cell? ⟨w.heap.size+1,1,none⟩=some (.int .i64 (⟨(c.toNat:Int),(N:Int)-1000000000000,Zg (r.drop 6)⟩:TKey).n):=by go_simp
        have z2:w6.cell? ⟨w.heap.size+1,2,none⟩=some (.string (⟨(c.toNat:Int),(N:Int)-1000000000000,Zg (r.drop 6)⟩:TKey).text):=by go_simp
        have fy0:w6.frozen? ⟨w.heap.size,0,none⟩=false:=by go_simp
        have fy1:w6.frozen? ⟨w.heap.size,1,none⟩=false:=by go_simp
        have fy2:w6.frozen? ⟨w.heap.size,2,none⟩=false:=by go_simp
        simp only at z0 z1 z2
        clear hc_w6 hf_w6 hb6
        go_wp2_with fail
        refine bodyPost_ret (v:=.tuple #[.agg #[.int .i64 (⟨(c.toNat:Int),(N:Int)-1000000000000,Zg (r.drop 6)⟩:TKey).kind,.int .i64 (⟨(c.toNat:Int),(N:Int)-1000000000000,Zg (r.drop 6)⟩:TKey).n,.string (⟨(c.toNat:Int),(N:Int)-1000000000000,Zg (r.drop 6)⟩:TKey).text],.bool true]) (by simp[results,Tryz.results94,go_sem, *]) rfl ?_
        rw[HD.out]
        exact⟨rfl,bl⟩
theorem Zgn (v:Value) (b:List UInt8) (F:List Nat) (w:World) (h:cUS.rep w [v] b F) (hb:b.length≤1000000000) :
  Calls Tryz.prog 128 #[v] w (ZL w (.tuple #[.agg #[.int .i64 (Zv b).1.kind,.int .i64 (Zv b).1.n,.string (Zv b).1.text],.bool (Zv b).2])):=by
 obtain⟨A,cp,rfl⟩:=Zb h
 obtain⟨-,hcp,hm⟩:=Zq h
 unfold maxLen at hm
 cases b with
 | nil =>
  have HD:=zh (Zhm (show ZcF []=none from rfl))
  go_enter Tryz.func128,Tryz.ntmps128
  go_wp2_with fail
  refine bodyPost_ret (v:=.tuple #[.agg #[.int .i64 0,.int .i64 0,.string (⟨#[]⟩:ByteArray)],.bool false]) (by simp[results,Tryz.results128,go_sem, *]) rfl ?_
  rw[HD.out]
  exact⟨rfl,bl⟩
 | cons c r =>
  have hrl:(c::r).length=r.length+1:=rfl
  obtain⟨n,hn⟩:∃n,r.length=n:=⟨_,rfl⟩
  have hh:=h
  rw[hrl,hn] at h hcp hb⊢
  obtain⟨g,o,rfl,hgF,hgw,q0⟩:=ZjJ hh (k:=0) (by simp)
  replace q0:w.cell? ⟨g,o,none⟩=some (.int .u8 (c.toNat:Int)):=by simpa using q0
  have hc8:c.toNat<256:=c.toNat_lt
  have hwc:IntKind.i64.wrap (c.toNat:Int)=(c.toNat:Int):=IntWalk.i64_in _ (by omega)
  have hk2:((c.toNat:Int) !=2)=!((c.toNat:Int)==2):=rfl
  have hgn0:¬g=w.heap.size:=by omega
  have hgn1:¬g=w.heap.size+1:=by omega
  obtain⟨G1,hr1,-,-⟩:=Zgx h 1 (by omega)
  rw[show 1*cU.wd=1 from rfl,List.drop_one,List.tail_cons,Nat.add_sub_cancel] at hr1
  cases e2:((c.toNat:Int)==2)
  case true =>
   rw[e2,Bool.not_true] at hk2
   have HR:=zh (Zoo (r:=r) e2)
   by_cases hc1:cp=1
   ·subst hc1
    obtain rfl:n=0:=by omega
    simp only[if_true,Nat.sub_self] at hr1
    have hcv:=fun (W:World) (hb:Below w.heap.size w W)=>ZaX (zb hr1 hb)
    go_enter Tryz.func128,Tryz.ntmps128
    go_wp2_with fail
    rw[ZaX (xs:=r) (F:=G1)]
    rotate_left
    ·exact zb hr1
    simp only[Result.andThen]
    rw[Oper.upon_value]
    go_wp2_with fail
    refine(Zm ⟨(c.toNat:Int),0,Zg r⟩ _ (by show (Zg _).size≤maxLen;rw[ZaD];(try rw[List.length_drop]);unfold maxLen;omega)).mono ?_
    cases e9:ZG ⟨(c.toNat:Int),0,Zg r⟩
    ·have HD:=zh (Zem HR.out e9)
     rintro e w6 ⟨rfl,hb6⟩
     obtain⟨hc_w6,hf_w6,hz_w6⟩:=Zc hb6
     try simp at hz_w6
     obtain⟨ha0_w6,ha1_w6⟩:=zg2 w.heap.size w6.heap.size
     have hb_w6:=zt (w:=w) hb6
     have y0:w6.cell? ⟨w.heap.size,0,none⟩=some (.int .i64 0):=by go_simp
     have y1:w6.cell? ⟨w.heap.size,1,none⟩=some (.int .i64 0):=by go_simp
     have y2:w6.cell? ⟨w.heap.size,2,none⟩=some (.string (⟨#[]⟩:ByteArray)):=by go_simp
     have z0:w6.cell? ⟨w.heap.size+1,0,none⟩=some (.int .i64 (⟨(c.toNat:Int),0,Zg r⟩:TKey).kind):=by go_simp
     have z1:w6.cell? ⟨w.heap.size+1,1,none⟩=some (.int .i64 (⟨(c.toNat:Int),0,Zg r⟩:TKey).n):=by go_simp
     have z2:w6.cell? ⟨w.heap.size+1,2,none⟩=some (.string (⟨(c.toNat:Int),0,Zg r⟩:TKey).text):=by go_simp
     have fy0:w6.frozen? ⟨w.heap.size,0,none⟩=false:=by go_simp
     have fy1:w6.frozen? ⟨w.heap.size,1,none⟩=false:=by go_simp
     have fy2:w6.frozen? ⟨w.heap.size,2,none⟩=false:=by go_simp
     simp only at z0 z1 z2
     clear hc_w6 hf_w6 hb6
     go_wp2_with fail
     refine bodyPost_ret (v:=.tuple #[.agg #[.int .i64 0,.int .i64 0,.string (⟨#[]⟩:ByteArray)],.bool false]) (by simp[results,Tryz.results128,go_sem, *]) rfl ?_
     rw[HD.out]
     exact⟨rfl,bl⟩
    ·have HD:=zh (ZgA HR.out e9)
     rintro e w6 ⟨rfl,hb6⟩
     obtain⟨hc_w6,hf_w6,hz_w6⟩:=Zc hb6
     try simp at hz_w6
     obtain⟨ha0_w6,ha1_w6⟩:=zg2 w.heap.size w6.heap.size
     have hb_w6:=zt (w:=w) hb6
     have y0:w6.cell? ⟨w.heap.size,0,none⟩=some (.int .i64 0):=by go_simp
     have y1:w6.cell? ⟨w.heap.size,1,none⟩=some (.int .i64 0):=by go_simp
     have y2:w6.cell? ⟨w.heap.size,2,none⟩=some (.string (⟨#[]⟩:ByteArray)):=by go_simp
     have z0:w6.cell? ⟨w.heap.size+1,0,none⟩=some (.int .i64 (⟨(c.toNat:Int),0,Zg r⟩:TKey).kind):=by go_simp
     have z1:w6.cell? ⟨w.heap.size+1,1,none⟩=some (.int .i64 (⟨(c.toNat:Int),0,Zg r⟩:TKey).n):=by go_simp
     have z2:w6.cell? ⟨w.heap.size+1,2,none⟩=some (.string (⟨(c.toNat:Int),0,Zg r⟩:TKey).text):=by go_simp
     have fy0:w6.frozen? ⟨w.heap.size,0,none⟩=false:=by go_simp
     have fy1:w6.frozen? ⟨w.heap.size,1,none⟩=false:=by go_simp
     have fy2:w6.frozen? ⟨w.heap.size,2,none⟩=false:=by go_simp
     simp only at z0 z1 z2
     clear hc_w6 hf_w6 hb6
     go_wp2_with fail
     refine bodyPost_ret (v:=.tuple #[.agg #[.int .i64 (⟨(c.toNat:Int),0,Zg r⟩:TKey).kind,.int .i64 (⟨(c.toNat:Int),0,Zg r⟩:TKey).n,.string (⟨(c.toNat:Int),0,Zg r⟩:TKey).text],.bool true]) (by simp[results,Tryz.results128,go_sem, *]) rfl ?_
     rw[HD.out]
     exact⟨rfl,bl⟩
   ·rw[if_neg hc1] at hr1
    simp only[Option.map_some,Addr.add_lit] at hr1
    go_enter Tryz.func128,Tryz.ntmps128
    go_wp2_with fail
    rw[ZaX (xs:=r) (F:=G1)]
    rotate_left
    ·exact zb hr1
    simp only[Result.andThen]
    rw[Oper.upon_value]
    go_wp2_with fail
    refine(Zm ⟨(c.toNat:Int),0,Zg r⟩ _ (by show (Zg _).size≤maxLen;rw[ZaD];(try rw[List.length_drop]);unfold maxLen;omega)).mono ?_
    cases e9:ZG ⟨(c.toNat:Int),0,Zg r⟩
    ·have HD:=zh (Zem HR.out e9)
     rintro e w6 ⟨rfl,hb6⟩
     obtain⟨hc_w6,hf_w6,hz_w6⟩:=Zc hb6
     try simp at hz_w6
     obtain⟨ha0_w6,ha1_w6⟩:=zg2 w.heap.size w6.heap.size
     have hb_w6:=zt (w:=w) hb6
     have y0:w6.cell? ⟨w.heap.size,0,none⟩=some (.int .i64 0):=by go_simp
     have y1:w6.cell? ⟨w.heap.size,1,none⟩=some (.int .i64 0):=by go_simp
     have y2:w6.cell? ⟨w.heap.size,2,none⟩=some (.string (⟨#[]⟩:ByteArray)):=by go_simp
     have z0:w6.cell? ⟨w.heap.size+1,0,none⟩=some (.int .i64 (⟨(c.toNat:Int),0,Zg r⟩:TKey).kind):=by go_simp
     have z1:w6.cell? ⟨w.heap.size+1,1,none⟩=some (.int .i64 (⟨(c.toNat:Int),0,Zg r⟩:TKey).n):=by go_simp
     have z2:w6.cell? ⟨w.heap.size+1,2,none⟩=some (.string (⟨(c.toNat:Int),0,Zg r⟩:TKey).text):=by go_simp
     have fy0:w6.frozen? ⟨w.heap.size,0,none⟩=false:=by go_simp
     have fy1:w6.frozen? ⟨w.heap.size,1,none⟩=false:=by go_simp
     have fy2:w6.frozen? ⟨w.heap.size,2,none⟩=false:=by go_simp
     simp only at z0 z1 z2
     clear hc_w6 hf_w6 hb6
     go_wp2_with fail
     refine bodyPost_ret (v:=.tuple #[.agg #[.int .i64 0,.int .i64 0,.string (⟨#[]⟩:ByteArray)],.bool false]) (by simp[results,Tryz.results128,go_sem, *]) rfl ?_
     rw[HD.out]
     exact⟨rfl,bl⟩
    ·have HD:=zh (ZgA HR.out e9)
     rintro e w6 ⟨rfl,hb6⟩
     obtain⟨hc_w6,hf_w6,hz_w6⟩:=Zc hb6
     try simp at hz_w6
     obtain⟨ha0_w6,ha1_w6⟩:=zg2 w.heap.size w6.heap.size
     have hb_w6:=zt (w:=w) hb6
     have y0:w6.cell? ⟨w.heap.size,0,none⟩=some (.int .i64 0):=by go_simp
     have y1:w6.cell? ⟨w.heap.size,1,none⟩=some (.int .i64 0):=by go_simp
     have y2:w6.cell? ⟨w.heap.size,2,none⟩=some (.string (⟨#[]⟩:ByteArray)):=by go_simp
     have z0:w6.cell? ⟨w.heap.size+1,0,none⟩=some (.int .i64 (⟨(c.toNat:Int),0,Zg r⟩:TKey).kind):=by go_simp
     have z1:w6.cell? ⟨w.heap.size+1,1,none⟩=some (.int .i64 (⟨(c.toNat:Int),0,Zg r⟩:TKey).n):=by go_simp
     have z2:w6.cell? ⟨w.heap.size+1,2,none⟩=some (.string (⟨(c.toNat:Int),0,Zg r⟩:TKey).text):=by go_simp
     have fy0:w6.frozen? ⟨w.heap.size,0,none⟩=false:=by go_simp
     have fy1:w6.frozen? ⟨w.heap.size,1,none⟩=false:=by go_simp
     have fy2:w6.frozen? ⟨w.heap.size,2,none⟩=false:=by go_simp
     simp only at z0 z1 z2
     clear hc_w6 hf_w6 hb6
     go_wp2_with fail
     refine bodyPost_ret (v:=.tuple #[.agg #[.int .i64 (⟨(c.toNat:Int),0,Zg r⟩:TKey).kind,.int .i64 (⟨(c.toNat:Int),0,Zg r⟩:TKey).n,.string (⟨(c.toNat:Int),0,Zg r⟩:TKey).text],.bool true]) (by simp[results,Tryz.results128,go_sem, *]) rfl ?_
     rw[HD.out]
     exact⟨rfl,bl⟩
  case false =>
   rw[e2,Bool.not_false] at hk2
   by_cases h6:n<6
   ·have HD:=zh (Zhm (ZmD e2 (by rw[hn];exact h6)))
    have h6i:(n:Int)<6:=by omega
    by_cases hc1:cp=1
    ·subst hc1
     obtain rfl:n=0:=by omega
     go_enter Tryz.func128,Tryz.ntmps128
     go_wp2_with fail
     refine bodyPost_ret (v:=.tuple #[.agg #[.int .i64 0,.int .i64 0,.string (⟨#[]⟩:ByteArray)],.bool false]) (by simp[results,Tryz.results128,go_sem, *]) rfl ?_
     rw[HD.out]
     exact⟨rfl,bl⟩
    ·go_enter Tryz.func128,Tryz.ntmps128
     go_wp2_with fail
     refine bodyPost_ret (v:=.tuple #[.agg #[.int .i64 0,.int .i64 0,.string (⟨#[]⟩:ByteArray)],.bool false]) (by simp[results,Tryz.results128,go_sem, *]) rfl ?_
     rw[HD.out]
     exact⟨rfl,bl⟩
   ·have HR:=zh (ZmE e2 (by rw[hn];exact h6))
    have h6i:¬(n:Int)<6:=by omega
    have hc1:¬cp=1:=by omega
    rw[if_neg hc1] at hr1
    simp only[Option.map_some,Addr.add_lit] at hr1
    go_enter Tryz.func128,Tryz.ntmps128
    go_wp2_with fail
    go_loop [6,7] (λacc i=>∃k:Nat,k≤6∧i=.int .i64 (((k+1:Nat)):Int)∧acc=.int .i64 (Zhi (r.take k):Int)) (λ_ i=>7-(intOf i).toNat)
    case atStart=>exact⟨0,by omega,rfl,rfl⟩
    case round =>
     obtain⟨k,hk,rfl,rfl⟩:=hrel
     by_cases hlt:k<6
     ·have hkx:k<r.length:=by omega
      obtain⟨g',o',eA,-,-,q1⟩:=ZjJ hh (k:=k+1) (by rw[hrl];omega)
      injection eA with eA
      injection eA with e8 e9
      subst e8
      subst e9
      simp only[List.getElem_cons_succ] at q1
      have hN:=Zjq hlt (show k≤r.length by omega)
      have HS:=zh (Zia hkx)
      have hx8:r[k].toNat<256:=r[k].toNat_lt
      have hor:=or256 hN hx8
      generalize hN9:Zhi (r.take k)=N at *
      generalize hx9:r[k].toNat=x at *
      have hki:((k+1:Nat):Int)<7:=by omega
      obtain⟨j,hj⟩:∃j,k+1=j:=⟨_,rfl⟩
      have hjn:(j:Int)<(n:Int)+1:=by omega
      rw[hj] at q1 hki⊢
      go_wp2_with fail
      go_round
      case rel=>exact⟨k+1,by omega,by rw[← hj];go_num,by rw[HS.out];first|rfl|(push_cast;rfl)⟩
      case measure=>simp[intOf];omega
     ·obtain rfl:k=6:=by omega
      have hN:=ZkL (r:=r) (k:=6) (by omega) (by omega)
      obtain⟨G6,hr6,-,-⟩:=Zgx h 7 (by omega)
      rw[show 7*cU.wd=7 from rfl,List.drop_succ_cons] at hr6
      by_cases hc6:cp=7
      ·subst hc6
       obtain rfl:n=6:=by omega
       simp only[if_true,Nat.sub_self] at hr6
       generalize hN9:Zhi (r.take 6)=N at *
       go_wp2_with fail
       rw[ZaX (xs:=r.drop 6) (F:=G6)]
       rotate_left
       ·exact zb hr6
       simp only[Result.andThen]
       rw[Oper.upon_value]
       go_wp2_with fail
       refine(Zm ⟨(c.toNat:Int),(N:Int)-1000000000000,Zg (r.drop 6)⟩ _ (by show (Zg _).size≤maxLen;rw[ZaD];(try rw[List.length_drop]);unfold maxLen;omega)).mono ?_
       cases e9:ZG ⟨(c.toNat:Int),(N:Int)-1000000000000,Zg (r.drop 6)⟩
       ·have HD:=zh (Zem HR.out e9)
        rintro e w6 ⟨rfl,hb6⟩
        obtain⟨hc_w6,hf_w6,hz_w6⟩:=Zc hb6
        try simp at hz_w6
        obtain⟨ha0_w6,ha1_w6⟩:=zg2 w.heap.size w6.heap.size
        have hb_w6:=zt (w:=w) hb6
        have y0:w6.cell? ⟨w.heap.size,0,none⟩=some (.int .i64 0):=by go_simp
        have y1:w6.cell? ⟨w.heap.size,1,none⟩=some (.int .i64 0):=by go_simp
        have y2:w6.cell? ⟨w.heap.size,2,none⟩=some (.string (⟨#[]⟩:ByteArray)):=by go_simp
        have z0:w6.cell? ⟨w.heap.size+1,0,none⟩=some (.int .i64 (⟨(c.toNat:Int),(N:Int)-1000000000000,Zg (r.drop 6)⟩:TKey).kind):=by go_simp
        have z1:w6.cell? ⟨w.heap.size+1,1,none⟩=some (.int .i64 (⟨(c.toNat:Int),(N:Int)-1000000000000,Zg (r.drop 6)⟩:TKey).n):=by go_simp
        have z2:w6.cell? ⟨w.heap.size+1,2,none⟩=some (.string (⟨(c.toNat:Int),(N:Int)-1000000000000,Zg (r.drop 6)⟩:TKey).text):=by go_simp
        have fy0:w6.frozen? ⟨w.heap.size,0,none⟩=false:=by go_simp
        have fy1:w6.frozen? ⟨w.heap.size,1,none⟩=false:=by go_simp
        have fy2:w6.frozen? ⟨w.heap.size,2,none⟩=false:=by go_simp
        simp only at z0 z1 z2
        clear hc_w6 hf_w6 hb6
        go_wp2_with fail
        refine bodyPost_ret (v:=.tuple #[.agg #[.int .i64 0,.int .i64 0,.string (⟨#[]⟩:ByteArray)],.bool false]) (by simp[results,Tryz.results128,go_sem, *]) rfl ?_
        rw[HD.out]
        exact⟨rfl,bl⟩
       ·have HD:=zh (ZgA HR.out e9)
        rintro e w6 ⟨rfl,hb6⟩
        obtain⟨hc_w6,hf_w6,hz_w6⟩:=Zc hb6
        try simp at hz_w6
        obtain⟨ha0_w6,ha1_w6⟩:=zg2 w.heap.size w6.heap.size
        have hb_w6:=zt (w:=w) hb6
        have y0:w6.cell? ⟨w.heap.size,0,none⟩=some (.int .i64 0):=by go_simp
        have y1:w6.cell? ⟨w.heap.size,1,none⟩=some (.int .i64 0):=by go_simp
        have y2:w6.cell? ⟨w.heap.size,2,none⟩=some (.string (⟨#[]⟩:ByteArray)):=by go_simp
        have z0:w6.cell? ⟨w.heap.size+1,0,none⟩=some (.int .i64 (⟨(c.toNat:Int),(N:Int)-1000000000000,Zg (r.drop 6)⟩:TKey).kind):=by go_simp
        have z1:w6.cell? ⟨w.heap.size+1,1,none⟩=some (.int .i64 (⟨(c.toNat:Int),(N:Int)-1000000000000,Zg (r.drop 6)⟩:TKey).n):=by go_simp
        have z2:w6.cell? ⟨w.heap.size+1,2,none⟩=some (.string (⟨(c.toNat:Int),(N:Int)-1000000000000,Zg (r.drop 6)⟩:TKey).text):=by go_simp
        have fy0:w6.frozen? ⟨w.heap.size,0,none⟩=false:=by go_simp
        have fy1:w6.frozen? ⟨w.heap.size,1,none⟩=false:=by go_simp
        have fy2:w6.frozen? ⟨w.heap.size,2,none⟩=false:=by go_simp
        simp only at z0 z1 z2
        clear hc_w6 hf_w6 hb6
        go_wp2_with fail
        refine bodyPost_ret (v:=.tuple #[.agg #[.int .i64 (⟨(c.toNat:Int),(N:Int)-1000000000000,Zg (r.drop 6)⟩:TKey).kind,.int .i64 (⟨(c.toNat:Int),(N:Int)-1000000000000,Zg (r.drop 6)⟩:TKey).n,.string (⟨(c.toNat:Int),(N:Int)-1000000000000,Zg (r.drop 6)⟩:TKey).text],.bool true]) (by simp[results,Tryz.results128,go_sem, *]) rfl ?_
        rw[HD.out]
        exact⟨rfl,bl⟩
      ·rw[if_neg hc6] at hr6
       simp only[Option.map_some,Addr.add_lit] at hr6
       generalize hN9:Zhi (r.take 6)=N at *
       go_wp2_with fail
       rw[ZaX (xs:=r.drop 6) (F:=G6)]
       rotate_left
       ·exact zb hr6
       simp only[Result.andThen]
       rw[Oper.upon_value]
       go_wp2_with fail
       refine(Zm ⟨(c.toNat:Int),(N:Int)-1000000000000,Zg (r.drop 6)⟩ _ (by show (Zg _).size≤maxLen;rw[ZaD];(try rw[List.length_drop]);unfold maxLen;omega)).mono ?_
       cases e9:ZG ⟨(c.toNat:Int),(N:Int)-1000000000000,Zg (r.drop 6)⟩
       ·have HD:=zh (Zem HR.out e9)
        rintro e w6 ⟨rfl,hb6⟩
        obtain⟨hc_w6,hf_w6,hz_w6⟩:=Zc hb6
        try simp at hz_w6
        obtain⟨ha0_w6,ha1_w6⟩:=zg2 w.heap.size w6.heap.size
        have hb_w6:=zt (w:=w) hb6
        have y0:w6.cell? ⟨w.heap.size,0,none⟩=some (.int .i64 0):=by go_simp
        have y1:w6.cell? ⟨w.heap.size,1,none⟩=some (.int .i64 0):=by go_simp
        have y2:w6.cell? ⟨w.heap.size,2,none⟩=some (.string (⟨#[]⟩:ByteArray)):=by go_simp
        have z0:w6.cell? ⟨w.heap.size+1,0,none⟩=some (.int .i64 (⟨(c.toNat:Int),(N:Int)-1000000000000,Zg (r.drop 6)⟩:TKey).kind):=by go_simp
        have z1:w6.cell? ⟨w.heap.size+1,1,none⟩=some (.int .i64 (⟨(c.toNat:Int),(N:Int)-1000000000000,Zg (r.drop 6)⟩:TKey).n):=by go_simp
        have z2:w6.cell? ⟨w.heap.size+1,2,none⟩=some (.string (⟨(c.toNat:Int),(N:Int)-1000000000000,Zg (r.drop 6)⟩:TKey).text):=by go_simp
        have fy0:w6.frozen? ⟨w.heap.size,0,none⟩=false:=by go_simp
        have fy1:w6.frozen? ⟨w.heap.size,1,none⟩=false:=by go_simp
        have fy2:w6.frozen? ⟨w.heap.size,2,none⟩=false:=by go_simp
        simp only at z0 z1 z2
        clear hc_w6 hf_w6 hb6
        go_wp2_with fail
        refine bodyPost_ret (v:=.tuple #[.agg #[.int .i64 0,.int .i64 0,.string (⟨#[]⟩:ByteArray)],.bool false]) (by simp[results,Tryz.results128,go_sem, *]) rfl ?_
        rw[HD.out]
        exact⟨rfl,bl⟩
       ·have HD:=zh (ZgA HR.out e9)
        rintro e w6 ⟨rfl,hb6⟩
        obtain⟨hc_w6,hf_w6,hz_w6⟩:=Zc hb6
        try simp at hz_w6
        obtain⟨ha0_w6,ha1_w6⟩:=zg2 w.heap.size w6.heap.size
        have hb_w6:=zt (w:=w) hb6
        have y0:w6.cell? ⟨w.heap.size,0,none⟩=some (.int .i64 0):=by go_simp
        have y1:w6.cell? ⟨w.heap.size,1,none⟩=some (.int .i64 0):=by go_simp
        have y2:w6.cell? ⟨w.heap.size,2,none⟩=some (.string (⟨#[]⟩:ByteArray)):=by go_simp
        have z0:w6.cell? ⟨w.heap.size+1,0,none⟩=some (.int .i64 (⟨(c.toNat:Int),(N:Int)-1000000000000,Zg (r.drop 6)⟩:TKey).kind):=by go_simp
        have z1:w6.cell? ⟨w.heap.size+1,1,none⟩=some (.int .i64 (⟨(c.toNat:Int),(N:Int)-1000000000000,Zg (r.drop 6)⟩:TKey).n):=by go_simp
        have z2:w6.cell? ⟨w.heap.size+1,2,none⟩=some (.string (⟨(c.toNat:Int),(N:Int)-1000000000000,Zg (r.drop 6)⟩:TKey).text):=by go_simp
        have fy0:w6.frozen? ⟨w.heap.size,0,none⟩=false:=by go_simp
        have fy1:w6.frozen? ⟨w.heap.size,1,none⟩=false:=by go_simp
        have fy2:w6.frozen? ⟨w.heap.size,2,none⟩=false:=by go_simp
        simp only at z0 z1 z2
        clear hc_w6 hf_w6 hb6
        go_wp2_with fail
        refine bodyPost_ret (v:=.tuple #[.agg #[.int .i64 (⟨(c.toNat:Int),(N:Int)-1000000000000,Zg (r.drop 6)⟩:TKey).kind,.int .i64 (⟨(c.toNat:Int),(N:Int)-1000000000000,Zg (r.drop 6)⟩:TKey).n,.string (⟨(c.toNat:Int),(N:Int)-1000000000000,Zg (r.drop 6)⟩:TKey).text],.bool true]) (by simp[results,Tryz.results128,go_sem, *]) rfl ?_
        rw[HD.out]
        exact⟨rfl,bl⟩
end Go.Proofs.YtghndifnohkokaaGreat
