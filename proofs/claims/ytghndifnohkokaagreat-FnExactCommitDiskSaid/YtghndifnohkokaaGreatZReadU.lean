/-
  ReadU of the seat. No conditions but sizes.
-/
import Derived.Test.YtghndifnohkokaaGreatZOpsPlain
namespace Go.Proofs.YtghndifnohkokaaGreat
open Go.ChangeShapes Go.WideShapes Go.RowKit
set_option linter.unusedVariables false
set_option linter.unusedSimpArgs false
set_option maxRecDepth 100000
set_option maxHeartbeats 16000000
def rdU (b:List UInt8) (a:Int):Int×Int×Bool:=if a<0 then (0,0,false) else match Zbj b a.toNat with|some (n,nx)=>((n:Int),(nx:Int),true)|none=>(0,0,false)
def Zny (w:World) (r:Int×Int×Bool) (e:Ending) (w':World):Prop:=e=.returned (.tuple #[.int .i64 r.1,.int .i64 r.2.1,.bool r.2.2])∧Below w.heap.size w w'
theorem Zaf {b:List UInt8} {a:Nat} (h:Zbj b a=none):rdU b (a:Int)=(0,0,false):=by
 unfold rdU;rw[if_neg (by omega),show ((a:Int)).toNat=a from rfl,h]
theorem ZbT {b:List UInt8} {a n nx:Nat} (h:Zbj b a=some (n,nx)):rdU b (a:Int)=((n:Int),(nx:Int),true):=by
 unfold rdU;rw[if_neg (by omega),show ((a:Int)).toNat=a from rfl,h]
theorem ZbB {b:List UInt8} {a f k n:Nat} (h:¬a+k<b.length):ZdJ b a f k n=none:=by
 cases f with
 | zero=>rfl
 | succ f=>unfold ZdJ;rw[List.getElem?_eq_none (by omega)]
theorem Zcb {b:List UInt8} {a f k n:Nat} (h:a+k<b.length) (hx:¬b[a+k].toNat<128):ZdJ b a (f+1) k n=ZdJ b a f (k+1) (n+b[a+k].toNat % 128*128 ^ k):=by
 rw[ZdJ,List.getElem?_eq_getElem h];simp only;rw[if_neg hx]
theorem ZbA {b:List UInt8} {a f k n:Nat} (h:a+k<b.length) (hx:b[a+k].toNat<128) (hb:(0<k∧b[a+k].toNat=0)∨1000000000000<n+b[a+k].toNat % 128*128 ^ k):ZdJ b a (f+1) k n=none:=by
 rw[ZdJ,List.getElem?_eq_getElem h];simp only;rw[if_pos hx,if_pos hb]
theorem ZbC {b:List UInt8} {a f k n:Nat} (h:a+k<b.length) (hx:b[a+k].toNat<128) (hb:¬((0<k∧b[a+k].toNat=0)∨1000000000000<n+b[a+k].toNat % 128*128 ^ k)):ZdJ b a (f+1) k n=some (n+b[a+k].toNat % 128*128 ^ k,a+k+1):=by
 rw[ZdJ,List.getElem?_eq_getElem h];simp only;rw[if_pos hx,if_neg hb]
theorem Zar (v:Value) (b:List UInt8) (a:Int) (F:List Nat) (w:World) (h:cUS.rep w [v] b F) (hb:b.length≤1000000000) (ha:-9223372036854775808≤a∧a≤9223372036854775807) :
  Calls Tryz.prog 93 #[v,.int .i64 a] w (Zny w (rdU b a)):=by
 obtain⟨A,c,rfl⟩:=Zb h
 obtain⟨-,hcp,hm⟩:=Zq h
 obtain⟨n,hxn⟩:∃n,b.length=n:=⟨_,rfl⟩
 have HN:=zh hxn
 rw[hxn] at hcp hb⊢
 clear hxn
 unfold maxLen at hm
 by_cases h0:a<0
 ·have HE:=zh (show rdU b a=(0,0,false) by unfold rdU;rw[if_pos h0])
  go_enter Tryz.func93,Tryz.ntmps93
  go_wp2_with fail
  refine bodyPost_ret (v:=.tuple #[.int .i64 0,.int .i64 0,.bool false]) (by simp[results,Tryz.results93,go_sem]) rfl ⟨by rw[HE.out],Below.refl _ _⟩
 ·obtain⟨t,rfl⟩:∃t:Nat,a=t:=⟨a.toNat,by omega⟩
  have ht0:¬(t:Int)<0:=by omega
  clear ha h0
  by_cases h1:t<n
  ·have h1i:(t:Int)<(n:Int):=by omega
   go_enter Tryz.func93,Tryz.ntmps93
   go_wp2_with fail
   go_loopw [7,8] (λacc i wr=>∃k N:Nat,acc=.int .i64 N∧i=.int .i64 k∧k≤6∧N<128 ^ k∧Zbj b t=ZdJ b t (6-k) k N∧Below w.heap.size w wr) (λ_ i _=>6-(intOf i).toNat)
   case atStart=>exact⟨0,0,rfl,rfl,by omega,by simp,rfl,Below.refl _ _⟩
   case round =>
    obtain⟨k,N,rfl,rfl,hk,hN,hrd,hB⟩:=hrel
    have HRD:=zh hrd
    clear hrd
    rcases (by omega:k=0∨k=1∨k=2∨k=3∨k=4∨k=5∨k=6) with rfl|rfl|rfl|rfl|rfl|rfl|rfl
    ·by_cases hkn:t+0<n
     ·have hkx:t+0<b.length:=by rw[HN.out];exact hkn
      obtain⟨g,o,vs,G1,rfl,hg,hx,-,hc⟩:=ZN (hw:=by decide) (hw2:=by decide) (zb h hB) hkx
      obtain⟨rfl,-⟩:=hx
      have q0:wr.cell? ⟨g,o+t,none⟩=some (.int .u8 (b[t+0].toNat:Int)):=(by have h1:=(hc 0 _ rfl).1;rwa [show (cU).wd=1 from rfl,Nat.mul_one,Nat.add_zero] at h1)
      clear hc hg
      have hx8:b[t+0].toNat<256:=b[t+0].toNat_lt
      have hgo:=λhx=>Zcb (b:=b) (a:=t) (f:=5) (k:=0) (n:=N) hkx hx
      have hbad:=λhx hy=>ZbA (b:=b) (a:=t) (f:=5) (k:=0) (n:=N) hkx hx hy
      have hhit:=λhx hy=>ZbC (b:=b) (a:=t) (f:=5) (k:=0) (n:=N) hkx hx hy
      have HS:=zh (And.intro hgo (And.intro hbad hhit))
      clear hgo hbad hhit
      generalize b[t+0].toNat=x at *
      clear hkx
      have hki:(t:Int)+0<(n:Int):=by omega
      have hNb:N<1:=by have:=hN;omega
      by_cases hlt:x<128
      ·have hli:(x:Int)<128:=by omega
       by_cases hbig:1000000000000<N+x % 128*1
       ·have hbi:(1000000000000:Int)<(N:Int)+(x:Int) % 128*1:=by omega
        exact absurd hbig (by omega)
       ·have hbi:¬(1000000000000:Int)<(N:Int)+(x:Int) % 128*1:=by omega
        have HE:=zh (show rdU b (t:Int)=((N:Int)+(x:Int) % 128*1,(t:Int)+0+1,true) from by
         rw[ZbT (HRD.out.trans (HS.out.2.2 hlt (by omega)))]
         refine Prod.ext (by simp only;omega) (Prod.ext (by simp only;omega) rfl))
        go_wp2_with fail
        refine bodyPost_ret (v:=.tuple #[.int .i64 ((N:Int)+(x:Int) % 128*1),.int .i64 ((t:Int)+0+1),.bool true]) (by simp[results,Tryz.results93,go_sem]) rfl ⟨by rw[HE.out],hB⟩
      ·have hli:¬(x:Int)<128:=by omega
       go_wp2_with fail
       go_roundw
       case rel=>exact⟨1,N+x % 128*1,by exact congrArg (Value.int .i64) (by omega),by go_num,by omega,by omega,HRD.out.trans (HS.out.1 hlt),hB⟩
       case measure=>simp[intOf]
     ·exact absurd h1 (by omega)
    ·by_cases hkn:t+1<n
     ·have hkx:t+1<b.length:=by rw[HN.out];exact hkn
      obtain⟨g,o,vs,G1,rfl,hg,hx,-,hc⟩:=ZN (hw:=by decide) (hw2:=by decide) (zb h hB) hkx
      obtain⟨rfl,-⟩:=hx
      have q0:wr.cell? ⟨g,o+(t+1),none⟩=some (.int .u8 (b[t+1].toNat:Int)):=(by have h1:=(hc 0 _ rfl).1;rwa [show (cU).wd=1 from rfl,Nat.mul_one,Nat.add_zero] at h1)
      clear hc hg
      have hx8:b[t+1].toNat<256:=b[t+1].toNat_lt
      have hgo:=λhx=>Zcb (b:=b) (a:=t) (f:=4) (k:=1) (n:=N) hkx hx
      have hbad:=λhx hy=>ZbA (b:=b) (a:=t) (f:=4) (k:=1) (n:=N) hkx hx hy
      have hhit:=λhx hy=>ZbC (b:=b) (a:=t) (f:=4) (k:=1) (n:=N) hkx hx hy
      have HS:=zh (And.intro hgo (And.intro hbad hhit))
      clear hgo hbad hhit
      generalize b[t+1].toNat=x at *
      clear hkx
      have hki:(t:Int)+1<(n:Int):=by omega
      have hNb:N<128:=by have:=hN;omega
      by_cases hlt:x<128
      ·have hli:(x:Int)<128:=by omega
       by_cases hbig:1000000000000<N+x % 128*128
       ·have hbi:(1000000000000:Int)<(N:Int)+(x:Int) % 128*128:=by omega
        exact absurd hbig (by omega)
       ·have hbi:¬(1000000000000:Int)<(N:Int)+(x:Int) % 128*128:=by omega
        cases hzi:((x:Int)==0)
        case true =>
         have HE:=zh (show rdU b (t:Int)=(0,0,false) from Zaf (HRD.out.trans (HS.out.2.1 hlt (.inl ⟨by omega,by have h9:=beq_iff_eq.1 hzi;omega⟩))))
         go_wp2_with fail
         refine bodyPost_ret (v:=.tuple #[.int .i64 0,.int .i64 0,.bool false]) (by simp[results,Tryz.results93,go_sem]) rfl ⟨by rw[HE.out],hB⟩
        case false =>
         have hz:¬x=0:=λe=>by rw[e] at hzi;simp at hzi
         have HE:=zh (show rdU b (t:Int)=((N:Int)+(x:Int) % 128*128,(t:Int)+1+1,true) from by
          rw[ZbT (HRD.out.trans (HS.out.2.2 hlt (by omega)))]
          refine Prod.ext (by simp only;omega) (Prod.ext (by simp only;omega) rfl))
         go_wp2_with fail
         refine bodyPost_ret (v:=.tuple #[.int .i64 ((N:Int)+(x:Int) % 128*128),.int .i64 ((t:Int)+1+1),.bool true]) (by simp[results,Tryz.results93,go_sem]) rfl ⟨by rw[HE.out],hB⟩
      ·have hli:¬(x:Int)<128:=by omega
       go_wp2_with fail
       go_roundw
       case rel=>exact⟨2,N+x % 128*128,by exact congrArg (Value.int .i64) (by omega),by go_num,by omega,by omega,HRD.out.trans (HS.out.1 hlt),hB⟩
       case measure=>simp[intOf]
     ·have hki:¬(t:Int)+1<(n:Int):=by omega
      have HE:=zh (show rdU b (t:Int)=(0,0,false) from Zaf (HRD.out.trans (ZbB (by rw[HN.out];omega))))
      go_wp2_with fail
      refine bodyPost_ret (v:=.tuple #[.int .i64 0,.int .i64 0,.bool false]) (by simp[results,Tryz.results93,go_sem]) rfl ⟨by rw[HE.out],hB⟩
    ·by_cases hkn:t+2<n
     ·have hkx:t+2<b.length:=by rw[HN.out];exact hkn
      obtain⟨g,o,vs,G1,rfl,hg,hx,-,hc⟩:=ZN (hw:=by decide) (hw2:=by decide) (zb h hB) hkx
      obtain⟨rfl,-⟩:=hx
      have q0:wr.cell? ⟨g,o+(t+2),none⟩=some (.int .u8 (b[t+2].toNat:Int)):=(by have h1:=(hc 0 _ rfl).1;rwa [show (cU).wd=1 from rfl,Nat.mul_one,Nat.add_zero] at h1)
      clear hc hg
      have hx8:b[t+2].toNat<256:=b[t+2].toNat_lt
      have hgo:=λhx=>Zcb (b:=b) (a:=t) (f:=3) (k:=2) (n:=N) hkx hx
      have hbad:=λhx hy=>ZbA (b:=b) (a:=t) (f:=3) (k:=2) (n:=N) hkx hx hy
      have hhit:=λhx hy=>ZbC (b:=b) (a:=t) (f:=3) (k:=2) (n:=N) hkx hx hy
      have HS:=zh (And.intro hgo (And.intro hbad hhit))
      clear hgo hbad hhit
      generalize b[t+2].toNat=x at *
      clear hkx
      have hki:(t:Int)+2<(n:Int):=by omega
      have hNb:N<16384:=by have:=hN;omega
      by_cases hlt:x<128
      ·have hli:(x:Int)<128:=by omega
       by_cases hbig:1000000000000<N+x % 128*16384
       ·have hbi:(1000000000000:Int)<(N:Int)+(x:Int) % 128*16384:=by omega
        exact absurd hbig (by omega)
       ·have hbi:¬(1000000000000:Int)<(N:Int)+(x:Int) % 128*16384:=by omega
        cases hzi:((x:Int)==0)
        case true =>
         have HE:=zh (show rdU b (t:Int)=(0,0,false) from Zaf (HRD.out.trans (HS.out.2.1 hlt (.inl ⟨by omega,by have h9:=beq_iff_eq.1 hzi;omega⟩))))
         go_wp2_with fail
         refine bodyPost_ret (v:=.tuple #[.int .i64 0,.int .i64 0,.bool false]) (by simp[results,Tryz.results93,go_sem]) rfl ⟨by rw[HE.out],hB⟩
        case false =>
         have hz:¬x=0:=λe=>by rw[e] at hzi;simp at hzi
         have HE:=zh (show rdU b (t:Int)=((N:Int)+(x:Int) % 128*16384,(t:Int)+2+1,true) from by
          rw[ZbT (HRD.out.trans (HS.out.2.2 hlt (by omega)))]
          refine Prod.ext (by simp only;omega) (Prod.ext (by simp only;omega) rfl))
         go_wp2_with fail
         refine bodyPost_ret (v:=.tuple #[.int .i64 ((N:Int)+(x:Int) % 128*16384),.int .i64 ((t:Int)+2+1),.bool true]) (by simp[results,Tryz.results93,go_sem]) rfl ⟨by rw[HE.out],hB⟩
      ·have hli:¬(x:Int)<128:=by omega
       go_wp2_with fail
       go_roundw
       case rel=>exact⟨3,N+x % 128*16384,by exact congrArg (Value.int .i64) (by omega),by go_num,by omega,by omega,HRD.out.trans (HS.out.1 hlt),hB⟩
       case measure=>simp[intOf]
     ·have hki:¬(t:Int)+2<(n:Int):=by omega
      have HE:=zh (show rdU b (t:Int)=(0,0,false) from Zaf (HRD.out.trans (ZbB (by rw[HN.out];omega))))
      go_wp2_with fail
      refine bodyPost_ret (v:=.tuple #[.int .i64 0,.int .i64 0,.bool false]) (by simp[results,Tryz.results93,go_sem]) rfl ⟨by rw[HE.out],hB⟩
    ·by_cases hkn:t+3<n
     ·have hkx:t+3<b.length:=by rw[HN.out];exact hkn
      obtain⟨g,o,vs,G1,rfl,hg,hx,-,hc⟩:=ZN (hw:=by decide) (hw2:=by decide) (zb h hB) hkx
      obtain⟨rfl,-⟩:=hx
      have q0:wr.cell? ⟨g,o+(t+3),none⟩=some (.int .u8 (b[t+3].toNat:Int)):=(by have h1:=(hc 0 _ rfl).1;rwa [show (cU).wd=1 from rfl,Nat.mul_one,Nat.add_zero] at h1)
      clear hc hg
      have hx8:b[t+3].toNat<256:=b[t+3].toNat_lt
      have hgo:=λhx=>Zcb (b:=b) (a:=t) (f:=2) (k:=3) (n:=N) hkx hx
      have hbad:=λhx hy=>ZbA (b:=b) (a:=t) (f:=2) (k:=3) (n:=N) hkx hx hy
      have hhit:=λhx hy=>ZbC (b:=b) (a:=t) (f:=2) (k:=3) (n:=N) hkx hx hy
      have HS:=zh (And.intro hgo (And.intro hbad hhit))
      clear hgo hbad hhit
      generalize b[t+3].toNat=x at *
      clear hkx
      have hki:(t:Int)+3<(n:Int):=by omega
      have hNb:N<2097152:=by have:=hN;omega
      by_cases hlt:x<128
      ·have hli:(x:Int)<128:=by omega
       by_cases hbig:1000000000000<N+x % 128*2097152
       ·have hbi:(1000000000000:Int)<(N:Int)+(x:Int) % 128*2097152:=by omega
        exact absurd hbig (by omega)
       ·have hbi:¬(1000000000000:Int)<(N:Int)+(x:Int) % 128*2097152:=by omega
        cases hzi:((x:Int)==0)
        case true =>
         have HE:=zh (show rdU b (t:Int)=(0,0,false) from Zaf (HRD.out.trans (HS.out.2.1 hlt (.inl ⟨by omega,by have h9:=beq_iff_eq.1 hzi;omega⟩))))
         go_wp2_with fail
         refine bodyPost_ret (v:=.tuple #[.int .i64 0,.int .i64 0,.bool false]) (by simp[results,Tryz.results93,go_sem]) rfl ⟨by rw[HE.out],hB⟩
        case false =>
         have hz:¬x=0:=λe=>by rw[e] at hzi;simp at hzi
         have HE:=zh (show rdU b (t:Int)=((N:Int)+(x:Int) % 128*2097152,(t:Int)+3+1,true) from by
          rw[ZbT (HRD.out.trans (HS.out.2.2 hlt (by omega)))]
          refine Prod.ext (by simp only;omega) (Prod.ext (by simp only;omega) rfl))
         go_wp2_with fail
         refine bodyPost_ret (v:=.tuple #[.int .i64 ((N:Int)+(x:Int) % 128*2097152),.int .i64 ((t:Int)+3+1),.bool true]) (by simp[results,Tryz.results93,go_sem]) rfl ⟨by rw[HE.out],hB⟩
      ·have hli:¬(x:Int)<128:=by omega
       go_wp2_with fail
       go_roundw
       case rel=>exact⟨4,N+x % 128*2097152,by exact congrArg (Value.int .i64) (by omega),by go_num,by omega,by omega,HRD.out.trans (HS.out.1 hlt),hB⟩
       case measure=>simp[intOf]
     ·have hki:¬(t:Int)+3<(n:Int):=by omega
      have HE:=zh (show rdU b (t:Int)=(0,0,false) from Zaf (HRD.out.trans (ZbB (by rw[HN.out];omega))))
      go_wp2_with fail
      refine bodyPost_ret (v:=.tuple #[.int .i64 0,.int .i64 0,.bool false]) (by simp[results,Tryz.results93,go_sem]) rfl ⟨by rw[HE.out],hB⟩
    ·by_cases hkn:t+4<n
     ·have hkx:t+4<b.length:=by rw[HN.out];exact hkn
      obtain⟨g,o,vs,G1,rfl,hg,hx,-,hc⟩:=ZN (hw:=by decide) (hw2:=by decide) (zb h hB) hkx
      obtain⟨rfl,-⟩:=hx
      have q0:wr.cell? ⟨g,o+(t+4),none⟩=some (.int .u8 (b[t+4].toNat:Int)):=(by have h1:=(hc 0 _ rfl).1;rwa [show (cU).wd=1 from rfl,Nat.mul_one,Nat.add_zero] at h1)
      clear hc hg
      have hx8:b[t+4].toNat<256:=b[t+4].toNat_lt
      have hgo:=λhx=>Zcb (b:=b) (a:=t) (f:=1) (k:=4) (n:=N) hkx hx
      have hbad:=λhx hy=>ZbA (b:=b) (a:=t) (f:=1) (k:=4) (n:=N) hkx hx hy
      have hhit:=λhx hy=>ZbC (b:=b) (a:=t) (f:=1) (k:=4) (n:=N) hkx hx hy
      have HS:=zh (And.intro hgo (And.intro hbad hhit))
      clear hgo hbad hhit
      generalize b[t+4].toNat=x at *
      clear hkx
      have hki:(t:Int)+4<(n:Int):=by omega
      have hNb:N<268435456:=by have:=hN;omega
      by_cases hlt:x<128
      ·have hli:(x:Int)<128:=by omega
       by_cases hbig:1000000000000<N+x % 128*268435456
       ·have hbi:(1000000000000:Int)<(N:Int)+(x:Int) % 128*268435456:=by omega
        exact absurd hbig (by omega)
       ·have hbi:¬(1000000000000:Int)<(N:Int)+(x:Int) % 128*268435456:=by omega
        cases hzi:((x:Int)==0)
        case true =>
         have HE:=zh (show rdU b (t:Int)=(0,0,false) from Zaf (HRD.out.trans (HS.out.2.1 hlt (.inl ⟨by omega,by have h9:=beq_iff_eq.1 hzi;omega⟩))))
         go_wp2_with fail
         refine bodyPost_ret (v:=.tuple #[.int .i64 0,.int .i64 0,.bool false]) (by simp[results,Tryz.results93,go_sem]) rfl ⟨by rw[HE.out],hB⟩
        case false =>
         have hz:¬x=0:=λe=>by rw[e] at hzi;simp at hzi
         have HE:=zh (show rdU b (t:Int)=((N:Int)+(x:Int) % 128*268435456,(t:Int)+4+1,true) from by
          rw[ZbT (HRD.out.trans (HS.out.2.2 hlt (by omega)))]
          refine Prod.ext (by simp only;omega) (Prod.ext (by simp only;omega) rfl))
         go_wp2_with fail
         refine bodyPost_ret (v:=.tuple #[.int .i64 ((N:Int)+(x:Int) % 128*268435456),.int .i64 ((t:Int)+4+1),.bool true]) (by simp[results,Tryz.results93,go_sem]) rfl ⟨by rw[HE.out],hB⟩
      ·have hli:¬(x:Int)<128:=by omega
       go_wp2_with fail
       go_roundw
       case rel=>exact⟨5,N+x % 128*268435456,by exact congrArg (Value.int .i64) (by omega),by go_num,by omega,by omega,HRD.out.trans (HS.out.1 hlt),hB⟩
       case measure=>simp[intOf]
     ·have hki:¬(t:Int)+4<(n:Int):=by omega
      have HE:=zh (show rdU b (t:Int)=(0,0,false) from Zaf (HRD.out.trans (ZbB (by rw[HN.out];omega))))
      go_wp2_with fail
      refine bodyPost_ret (v:=.tuple #[.int .i64 0,.int .i64 0,.bool false]) (by simp[results,Tryz.results93,go_sem]) rfl ⟨by rw[HE.out],hB⟩
    ·by_cases hkn:t+5<n
     ·have hkx:t+5<b.length:=by rw[HN.out];exact hkn
      obtain⟨g,o,vs,G1,rfl,hg,hx,-,hc⟩:=ZN (hw:=by decide) (hw2:=by decide) (zb h hB) hkx
      obtain⟨rfl,-⟩:=hx
      have q0:wr.cell? ⟨g,o+(t+5),none⟩=some (.int .u8 (b[t+5].toNat:Int)):=(by have h1:=(hc 0 _ rfl).1;rwa [show (cU).wd=1 from rfl,Nat.mul_one,Nat.add_zero] at h1)
      clear hc hg
      have hx8:b[t+5].toNat<256:=b[t+5].toNat_lt
      have hgo:=λhx=>Zcb (b:=b) (a:=t) (f:=0) (k:=5) (n:=N) hkx hx
      have hbad:=λhx hy=>ZbA (b:=b) (a:=t) (f:=0) (k:=5) (n:=N) hkx hx hy
      have hhit:=λhx hy=>ZbC (b:=b) (a:=t) (f:=0) (k:=5) (n:=N) hkx hx hy
      have HS:=zh (And.intro hgo (And.intro hbad hhit))
      clear hgo hbad hhit
      generalize b[t+5].toNat=x at *
      clear hkx
      have hki:(t:Int)+5<(n:Int):=by omega
      have hNb:N<34359738368:=by have:=hN;omega
      by_cases hlt:x<128
      ·have hli:(x:Int)<128:=by omega
       by_cases hbig:1000000000000<N+x % 128*34359738368
       ·have hbi:(1000000000000:Int)<(N:Int)+(x:Int) % 128*34359738368:=by omega
        cases hzi:((x:Int)==0)
        case true =>
         have HE:=zh (show rdU b (t:Int)=(0,0,false) from Zaf (HRD.out.trans (HS.out.2.1 hlt (.inr hbig))))
         go_wp2_with fail
         refine bodyPost_ret (v:=.tuple #[.int .i64 0,.int .i64 0,.bool false]) (by simp[results,Tryz.results93,go_sem]) rfl ⟨by rw[HE.out],hB⟩
        case false =>
         have HE:=zh (show rdU b (t:Int)=(0,0,false) from Zaf (HRD.out.trans (HS.out.2.1 hlt (.inr hbig))))
         go_wp2_with fail
         refine bodyPost_ret (v:=.tuple #[.int .i64 0,.int .i64 0,.bool false]) (by simp[results,Tryz.results93,go_sem]) rfl ⟨by rw[HE.out],hB⟩
       ·have hbi:¬(1000000000000:Int)<(N:Int)+(x:Int) % 128*34359738368:=by omega
        cases hzi:((x:Int)==0)
        case true =>
         have HE:=zh (show rdU b (t:Int)=(0,0,false) from Zaf (HRD.out.trans (HS.out.2.1 hlt (.inl ⟨by omega,by have h9:=beq_iff_eq.1 hzi;omega⟩))))
         go_wp2_with fail
         refine bodyPost_ret (v:=.tuple #[.int .i64 0,.int .i64 0,.bool false]) (by simp[results,Tryz.results93,go_sem]) rfl ⟨by rw[HE.out],hB⟩
        case false =>
         have hz:¬x=0:=λe=>by rw[e] at hzi;simp at hzi
         have HE:=zh (show rdU b (t:Int)=((N:Int)+(x:Int) % 128*34359738368,(t:Int)+5+1,true) from by
          rw[ZbT (HRD.out.trans (HS.out.2.2 hlt (by omega)))]
          refine Prod.ext (by simp only;omega) (Prod.ext (by simp only;omega) rfl))
         go_wp2_with fail
         refine bodyPost_ret (v:=.tuple #[.int .i64 ((N:Int)+(x:Int) % 128*34359738368),.int .i64 ((t:Int)+5+1),.bool true]) (by simp[results,Tryz.results93,go_sem]) rfl ⟨by rw[HE.out],hB⟩
      ·have hli:¬(x:Int)<128:=by omega
       go_wp2_with fail
       go_roundw
       case rel=>exact⟨6,N+x % 128*34359738368,by exact congrArg (Value.int .i64) (by omega),by go_num,by omega,by omega,HRD.out.trans (HS.out.1 hlt),hB⟩
       case measure=>simp[intOf]
     ·have hki:¬(t:Int)+5<(n:Int):=by omega
      have HE:=zh (show rdU b (t:Int)=(0,0,false) from Zaf (HRD.out.trans (ZbB (by rw[HN.out];omega))))
      go_wp2_with fail
      refine bodyPost_ret (v:=.tuple #[.int .i64 0,.int .i64 0,.bool false]) (by simp[results,Tryz.results93,go_sem]) rfl ⟨by rw[HE.out],hB⟩
    ·have HE:=zh (show rdU b (t:Int)=(0,0,false) from Zaf (HRD.out.trans rfl))
     go_wp2_with fail
     refine bodyPost_ret (v:=.tuple #[.int .i64 0,.int .i64 0,.bool false]) (by simp[results,Tryz.results93,go_sem]) rfl ⟨by rw[HE.out],hB⟩
  ·have h1i:¬(t:Int)<(n:Int):=by omega
   have HE:=zh (show rdU b (t:Int)=(0,0,false) from Zaf (ZbB (by rw[HN.out];omega)))
   go_enter Tryz.func93,Tryz.ntmps93
   go_wp2_with fail
   refine bodyPost_ret (v:=.tuple #[.int .i64 0,.int .i64 0,.bool false]) (by simp[results,Tryz.results93,go_sem]) rfl ⟨by rw[HE.out],Below.refl _ _⟩
theorem ZaC (v:Value) (b:List UInt8) (a:Int) (F:List Nat) (w:World) (h:cUS.rep w [v] b F) (hb:b.length≤1000000000) (ha:-9223372036854775808≤a∧a≤9223372036854775807) :
  Calls Tryz.prog 86 #[v,.int .i64 a] w (Zny w (rdU b a)):=by
 obtain⟨A,c,rfl⟩:=Zb h
 obtain⟨-,hcp,hm⟩:=Zq h
 obtain⟨n,hxn⟩:∃n,b.length=n:=⟨_,rfl⟩
 have HN:=zh hxn
 rw[hxn] at hcp hb⊢
 clear hxn
 unfold maxLen at hm
 by_cases h0:a<0
 ·have HE:=zh (show rdU b a=(0,0,false) by unfold rdU;rw[if_pos h0])
  go_enter Tryz.func86,Tryz.ntmps86
  go_wp2_with fail
  go_loopw [7,8] (λacc i wr=>acc=.int .i64 0∧i=.int .i64 0∧Below w.heap.size w wr) (λ_ i _=>6-(intOf i).toNat)
  case atStart=>exact⟨rfl,rfl,Below.refl _ _⟩
  case round =>
   obtain⟨rfl,rfl,hB⟩:=hrel
   go_wp2_with fail
   refine bodyPost_ret (v:=.tuple #[.int .i64 0,.int .i64 0,.bool false]) (by simp[results,Tryz.results86,go_sem]) rfl ⟨by rw[HE.out],hB⟩
 ·obtain⟨t,rfl⟩:∃t:Nat,a=t:=⟨a.toNat,by omega⟩
  have ht0:¬(t:Int)<0:=by omega
  clear ha h0
  by_cases h1:t<n
  ·have h1i:(t:Int)<(n:Int):=by omega
   go_enter Tryz.func86,Tryz.ntmps86
   go_wp2_with fail
   go_loopw [7,8] (λacc i wr=>∃k N:Nat,acc=.int .i64 N∧i=.int .i64 k∧k≤6∧N<128 ^ k∧Zbj b t=ZdJ b t (6-k) k N∧Below w.heap.size w wr) (λ_ i _=>6-(intOf i).toNat)
   case atStart=>exact⟨0,0,rfl,rfl,by omega,by simp,rfl,Below.refl _ _⟩
   case round =>
    obtain⟨k,N,rfl,rfl,hk,hN,hrd,hB⟩:=hrel
    have HRD:=zh hrd
    clear hrd
    rcases (by omega:k=0∨k=1∨k=2∨k=3∨k=4∨k=5∨k=6) with rfl|rfl|rfl|rfl|rfl|rfl|rfl
    ·by_cases hkn:t+0<n
     ·have hkx:t+0<b.length:=by rw[HN.out];exact hkn
      obtain⟨g,o,vs,G1,rfl,hg,hx,-,hc⟩:=ZN (hw:=by decide) (hw2:=by decide) (zb h hB) hkx
      obtain⟨rfl,-⟩:=hx
      have q0:wr.cell? ⟨g,o+t,none⟩=some (.int .u8 (b[t+0].toNat:Int)):=(by have h1:=(hc 0 _ rfl).1;rwa [show (cU).wd=1 from rfl,Nat.mul_one,Nat.add_zero] at h1)
      clear hc hg
      have hx8:b[t+0].toNat<256:=b[t+0].toNat_lt
      have hgo:=λhx=>Zcb (b:=b) (a:=t) (f:=5) (k:=0) (n:=N) hkx hx
      have hbad:=λhx hy=>ZbA (b:=b) (a:=t) (f:=5) (k:=0) (n:=N) hkx hx hy
      have hhit:=λhx hy=>ZbC (b:=b) (a:=t) (f:=5) (k:=0) (n:=N) hkx hx hy
      have HS:=zh (And.intro hgo (And.intro hbad hhit))
      clear hgo hbad hhit
      generalize b[t+0].toNat=x at *
      clear hkx
      have hki:(t:Int)+0<(n:Int):=by omega
      have hNb:N<1:=by have:=hN;omega
      have hand:bits .and .i64 (x:Int) 127=(x:Int) % 128:=Zhx _
      have hor:bits .or .i64 (N:Int) ((x:Int) % 128)=(N:Int)+(x:Int) % 128*1:=by have h9:=Zid (n:=N) (m:=x % 128) (i:=0) (by omega) (by omega);rw[show ((x % 128*2 ^ 0:Nat):Int)=(x:Int) % 128*1 by omega] at h9;rw[show (x:Int) % 128=(x:Int) % 128*1 by omega];rw[h9];omega
      by_cases hlt:x<128
      ·have hli:(x:Int)<128:=by omega
       by_cases hbig:1000000000000<N+x % 128*1
       ·have hbi:(1000000000000:Int)<(N:Int)+(x:Int) % 128*1:=by omega
        exact absurd hbig (by omega)
       ·have hbi:¬(1000000000000:Int)<(N:Int)+(x:Int) % 128*1:=by omega
        cases hzi:((x:Int)==0)
        case true =>
         have HE:=zh (show rdU b (t:Int)=((N:Int)+(x:Int) % 128*1,(t:Int)+0+1,true) from by
          rw[ZbT (HRD.out.trans (HS.out.2.2 hlt (by omega)))]
          refine Prod.ext (by simp only;omega) (Prod.ext (by simp only;omega) rfl))
         go_wp2_with fail
         refine bodyPost_ret (v:=.tuple #[.int .i64 ((N:Int)+(x:Int) % 128*1),.int .i64 ((t:Int)+0+1),.bool true]) (by simp[results,Tryz.results86,go_sem]) rfl ⟨by rw[HE.out],hB⟩
        case false =>
         have HE:=zh (show rdU b (t:Int)=((N:Int)+(x:Int) % 128*1,(t:Int)+0+1,true) from by
          rw[ZbT (HRD.out.trans (HS.out.2.2 hlt (by omega)))]
          refine Prod.ext (by simp only;omega) (Prod.ext (by simp only;omega) rfl))
         go_wp2_with fail
         refine bodyPost_ret (v:=.tuple #[.int .i64 ((N:Int)+(x:Int) % 128*1),.int .i64 ((t:Int)+0+1),.bool true]) (by simp[results,Tryz.results86,go_sem]) rfl ⟨by rw[HE.out],hB⟩
      ·have hli:¬(x:Int)<128:=by omega
       go_wp2_with fail
       go_roundw
       case rel=>exact⟨1,N+x % 128*1,by exact congrArg (Value.int .i64) (by omega),by go_num,by omega,by omega,HRD.out.trans (HS.out.1 hlt),hB⟩
       case measure=>simp[intOf]
     ·exact absurd h1 (by omega)
    ·by_cases hkn:t+1<n
     ·have hkx:t+1<b.length:=by rw[HN.out];exact hkn
      obtain⟨g,o,vs,G1,rfl,hg,hx,-,hc⟩:=ZN (hw:=by decide) (hw2:=by decide) (zb h hB) hkx
      obtain⟨rfl,-⟩:=hx
      have q0:wr.cell? ⟨g,o+(t+1),none⟩=some (.int .u8 (b[t+1].toNat:Int)):=(by have h1:=(hc 0 _ rfl).1;rwa [show (cU).wd=1 from rfl,Nat.mul_one,Nat.add_zero] at h1)
      clear hc hg
      have hx8:b[t+1].toNat<256:=b[t+1].toNat_lt
      have hgo:=λhx=>Zcb (b:=b) (a:=t) (f:=4) (k:=1) (n:=N) hkx hx
      have hbad:=λhx hy=>ZbA (b:=b) (a:=t) (f:=4) (k:=1) (n:=N) hkx hx hy
      have hhit:=λhx hy=>ZbC (b:=b) (a:=t) (f:=4) (k:=1) (n:=N) hkx hx hy
      have HS:=zh (And.intro hgo (And.intro hbad hhit))
      clear hgo hbad hhit
      generalize b[t+1].toNat=x at *
      clear hkx
      have hki:(t:Int)+1<(n:Int):=by omega
      have hNb:N<128:=by have:=hN;omega
      have hand:bits .and .i64 (x:Int) 127=(x:Int) % 128:=Zhx _
      have hor:bits .or .i64 (N:Int) ((x:Int) % 128*128)=(N:Int)+(x:Int) % 128*128:=by have h9:=Zid (n:=N) (m:=x % 128) (i:=7) (by omega) (by omega);rw[show ((x % 128*2 ^ 7:Nat):Int)=(x:Int) % 128*128 by omega] at h9;rw[h9];omega
      by_cases hlt:x<128
      ·have hli:(x:Int)<128:=by omega
       by_cases hbig:1000000000000<N+x % 128*128
       ·have hbi:(1000000000000:Int)<(N:Int)+(x:Int) % 128*128:=by omega
        exact absurd hbig (by omega)
       ·have hbi:¬(1000000000000:Int)<(N:Int)+(x:Int) % 128*128:=by omega
        cases hzi:((x:Int)==0)
        case true =>
         have HE:=zh (show rdU b (t:Int)=(0,0,false) from Zaf (HRD.out.trans (HS.out.2.1 hlt (.inl ⟨by omega,by have h9:=beq_iff_eq.1 hzi;omega⟩))))
         go_wp2_with fail
         refine bodyPost_ret (v:=.tuple #[.int .i64 0,.int .i64 0,.bool false]) (by simp[results,Tryz.results86,go_sem]) rfl ⟨by rw[HE.out],hB⟩
        case false =>
         have hz:¬x=0:=λe=>by rw[e] at hzi;simp at hzi
         have HE:=zh (show rdU b (t:Int)=((N:Int)+(x:Int) % 128*128,(t:Int)+1+1,true) from by
          rw[ZbT (HRD.out.trans (HS.out.2.2 hlt (by omega)))]
          refine Prod.ext (by simp only;omega) (Prod.ext (by simp only;omega) rfl))
         go_wp2_with fail
         refine bodyPost_ret (v:=.tuple #[.int .i64 ((N:Int)+(x:Int) % 128*128),.int .i64 ((t:Int)+1+1),.bool true]) (by simp[results,Tryz.results86,go_sem]) rfl ⟨by rw[HE.out],hB⟩
      ·have hli:¬(x:Int)<128:=by omega
       go_wp2_with fail
       go_roundw
       case rel=>exact⟨2,N+x % 128*128,by exact congrArg (Value.int .i64) (by omega),by go_num,by omega,by omega,HRD.out.trans (HS.out.1 hlt),hB⟩
       case measure=>simp[intOf]
     ·have hki:¬(t:Int)+1<(n:Int):=by omega
      have HE:=zh (show rdU b (t:Int)=(0,0,false) from Zaf (HRD.out.trans (ZbB (by rw[HN.out];omega))))
      go_wp2_with fail
      refine bodyPost_ret (v:=.tuple #[.int .i64 0,.int .i64 0,.bool false]) (by simp[results,Tryz.results86,go_sem]) rfl ⟨by rw[HE.out],hB⟩
    ·by_cases hkn:t+2<n
     ·have hkx:t+2<b.length:=by rw[HN.out];exact hkn
      obtain⟨g,o,vs,G1,rfl,hg,hx,-,hc⟩:=ZN (hw:=by decide) (hw2:=by decide) (zb h hB) hkx
      obtain⟨rfl,-⟩:=hx
      have q0:wr.cell? ⟨g,o+(t+2),none⟩=some (.int .u8 (b[t+2].toNat:Int)):=(by have h1:=(hc 0 _ rfl).1;rwa [show (cU).wd=1 from rfl,Nat.mul_one,Nat.add_zero] at h1)
      clear hc hg
      have hx8:b[t+2].toNat<256:=b[t+2].toNat_lt
      have hgo:=λhx=>Zcb (b:=b) (a:=t) (f:=3) (k:=2) (n:=N) hkx hx
      have hbad:=λhx hy=>ZbA (b:=b) (a:=t) (f:=3) (k:=2) (n:=N) hkx hx hy
      have hhit:=λhx hy=>ZbC (b:=b) (a:=t) (f:=3) (k:=2) (n:=N) hkx hx hy
      have HS:=zh (And.intro hgo (And.intro hbad hhit))
      clear hgo hbad hhit
      generalize b[t+2].toNat=x at *
      clear hkx
      have hki:(t:Int)+2<(n:Int):=by omega
      have hNb:N<16384:=by have:=hN;omega
      have hand:bits .and .i64 (x:Int) 127=(x:Int) % 128:=Zhx _
      have hor:bits .or .i64 (N:Int) ((x:Int) % 128*16384)=(N:Int)+(x:Int) % 128*16384:=by have h9:=Zid (n:=N) (m:=x % 128) (i:=14) (by omega) (by omega);rw[show ((x % 128*2 ^ 14:Nat):Int)=(x:Int) % 128*16384 by omega] at h9;rw[h9];omega
      by_cases hlt:x<128
      ·have hli:(x:Int)<128:=by omega
       by_cases hbig:1000000000000<N+x % 128*16384
       ·have hbi:(1000000000000:Int)<(N:Int)+(x:Int) % 128*16384:=by omega
        exact absurd hbig (by omega)
       ·have hbi:¬(1000000000000:Int)<(N:Int)+(x:Int) % 128*16384:=by omega
        cases hzi:((x:Int)==0)
        case true =>
         have HE:=zh (show rdU b (t:Int)=(0,0,false) from Zaf (HRD.out.trans (HS.out.2.1 hlt (.inl ⟨by omega,by have h9:=beq_iff_eq.1 hzi;omega⟩))))
         go_wp2_with fail
         refine bodyPost_ret (v:=.tuple #[.int .i64 0,.int .i64 0,.bool false]) (by simp[results,Tryz.results86,go_sem]) rfl ⟨by rw[HE.out],hB⟩
        case false =>
         have hz:¬x=0:=λe=>by rw[e] at hzi;simp at hzi
         have HE:=zh (show rdU b (t:Int)=((N:Int)+(x:Int) % 128*16384,(t:Int)+2+1,true) from by
          rw[ZbT (HRD.out.trans (HS.out.2.2 hlt (by omega)))]
          refine Prod.ext (by simp only;omega) (Prod.ext (by simp only;omega) rfl))
         go_wp2_with fail
         refine bodyPost_ret (v:=.tuple #[.int .i64 ((N:Int)+(x:Int) % 128*16384),.int .i64 ((t:Int)+2+1),.bool true]) (by simp[results,Tryz.results86,go_sem]) rfl ⟨by rw[HE.out],hB⟩
      ·have hli:¬(x:Int)<128:=by omega
       go_wp2_with fail
       go_roundw
       case rel=>exact⟨3,N+x % 128*16384,by exact congrArg (Value.int .i64) (by omega),by go_num,by omega,by omega,HRD.out.trans (HS.out.1 hlt),hB⟩
       case measure=>simp[intOf]
     ·have hki:¬(t:Int)+2<(n:Int):=by omega
      have HE:=zh (show rdU b (t:Int)=(0,0,false) from Zaf (HRD.out.trans (ZbB (by rw[HN.out];omega))))
      go_wp2_with fail
      refine bodyPost_ret (v:=.tuple #[.int .i64 0,.int .i64 0,.bool false]) (by simp[results,Tryz.results86,go_sem]) rfl ⟨by rw[HE.out],hB⟩
    ·by_cases hkn:t+3<n
     ·have hkx:t+3<b.length:=by rw[HN.out];exact hkn
      obtain⟨g,o,vs,G1,rfl,hg,hx,-,hc⟩:=ZN (hw:=by decide) (hw2:=by decide) (zb h hB) hkx
      obtain⟨rfl,-⟩:=hx
      have q0:wr.cell? ⟨g,o+(t+3),none⟩=some (.int .u8 (b[t+3].toNat:Int)):=(by have h1:=(hc 0 _ rfl).1;rwa [show (cU).wd=1 from rfl,Nat.mul_one,Nat.add_zero] at h1)
      clear hc hg
      have hx8:b[t+3].toNat<256:=b[t+3].toNat_lt
      have hgo:=λhx=>Zcb (b:=b) (a:=t) (f:=2) (k:=3) (n:=N) hkx hx
      have hbad:=λhx hy=>ZbA (b:=b) (a:=t) (f:=2) (k:=3) (n:=N) hkx hx hy
      have hhit:=λhx hy=>ZbC (b:=b) (a:=t) (f:=2) (k:=3) (n:=N) hkx hx hy
      have HS:=zh (And.intro hgo (And.intro hbad hhit))
      clear hgo hbad hhit
      generalize b[t+3].toNat=x at *
      clear hkx
      have hki:(t:Int)+3<(n:Int):=by omega
      have hNb:N<2097152:=by have:=hN;omega
      have hand:bits .and .i64 (x:Int) 127=(x:Int) % 128:=Zhx _
      have hor:bits .or .i64 (N:Int) ((x:Int) % 128*2097152)=(N:Int)+(x:Int) % 128*2097152:=by have h9:=Zid (n:=N) (m:=x % 128) (i:=21) (by omega) (by omega);rw[show ((x % 128*2 ^ 21:Nat):Int)=(x:Int) % 128*2097152 by omega] at h9;rw[h9];omega
      by_cases hlt:x<128
      ·have hli:(x:Int)<128:=by omega
       by_cases hbig:1000000000000<N+x % 128*2097152
       ·have hbi:(1000000000000:Int)<(N:Int)+(x:Int) % 128*2097152:=by omega
        exact absurd hbig (by omega)
       ·have hbi:¬(1000000000000:Int)<(N:Int)+(x:Int) % 128*2097152:=by omega
        cases hzi:((x:Int)==0)
        case true =>
         have HE:=zh (show rdU b (t:Int)=(0,0,false) from Zaf (HRD.out.trans (HS.out.2.1 hlt (.inl ⟨by omega,by have h9:=beq_iff_eq.1 hzi;omega⟩))))
         go_wp2_with fail
         refine bodyPost_ret (v:=.tuple #[.int .i64 0,.int .i64 0,.bool false]) (by simp[results,Tryz.results86,go_sem]) rfl ⟨by rw[HE.out],hB⟩
        case false =>
         have hz:¬x=0:=λe=>by rw[e] at hzi;simp at hzi
         have HE:=zh (show rdU b (t:Int)=((N:Int)+(x:Int) % 128*2097152,(t:Int)+3+1,true) from by
          rw[ZbT (HRD.out.trans (HS.out.2.2 hlt (by omega)))]
          refine Prod.ext (by simp only;omega) (Prod.ext (by simp only;omega) rfl))
         go_wp2_with fail
         refine bodyPost_ret (v:=.tuple #[.int .i64 ((N:Int)+(x:Int) % 128*2097152),.int .i64 ((t:Int)+3+1),.bool true]) (by simp[results,Tryz.results86,go_sem]) rfl ⟨by rw[HE.out],hB⟩
      ·have hli:¬(x:Int)<128:=by omega
       go_wp2_with fail
       go_roundw
       case rel=>exact⟨4,N+x % 128*2097152,by exact congrArg (Value.int .i64) (by omega),by go_num,by omega,by omega,HRD.out.trans (HS.out.1 hlt),hB⟩
       case measure=>simp[intOf]
     ·have hki:¬(t:Int)+3<(n:Int):=by omega
      have HE:=zh (show rdU b (t:Int)=(0,0,false) from Zaf (HRD.out.trans (ZbB (by rw[HN.out];omega))))
      go_wp2_with fail
      refine bodyPost_ret (v:=.tuple #[.int .i64 0,.int .i64 0,.bool false]) (by simp[results,Tryz.results86,go_sem]) rfl ⟨by rw[HE.out],hB⟩
    ·by_cases hkn:t+4<n
     ·have hkx:t+4<b.length:=by rw[HN.out];exact hkn
      obtain⟨g,o,vs,G1,rfl,hg,hx,-,hc⟩:=ZN (hw:=by decide) (hw2:=by decide) (zb h hB) hkx
      obtain⟨rfl,-⟩:=hx
      have q0:wr.cell? ⟨g,o+(t+4),none⟩=some (.int .u8 (b[t+4].toNat:Int)):=(by have h1:=(hc 0 _ rfl).1;rwa [show (cU).wd=1 from rfl,Nat.mul_one,Nat.add_zero] at h1)
      clear hc hg
      have hx8:b[t+4].toNat<256:=b[t+4].toNat_lt
      have hgo:=λhx=>Zcb (b:=b) (a:=t) (f:=1) (k:=4) (n:=N) hkx hx
      have hbad:=λhx hy=>ZbA (b:=b) (a:=t) (f:=1) (k:=4) (n:=N) hkx hx hy
      have hhit:=λhx hy=>ZbC (b:=b) (a:=t) (f:=1) (k:=4) (n:=N) hkx hx hy
      have HS:=zh (And.intro hgo (And.intro hbad hhit))
      clear hgo hbad hhit
      generalize b[t+4].toNat=x at *
      clear hkx
      have hki:(t:Int)+4<(n:Int):=by omega
      have hNb:N<268435456:=by have:=hN;omega
      have hand:bits .and .i64 (x:Int) 127=(x:Int) % 128:=Zhx _
      have hor:bits .or .i64 (N:Int) ((x:Int) % 128*268435456)=(N:Int)+(x:Int) % 128*268435456:=by have h9:=Zid (n:=N) (m:=x % 128) (i:=28) (by omega) (by omega);rw[show ((x % 128*2 ^ 28:Nat):Int)=(x:Int) % 128*268435456 by omega] at h9;rw[h9];omega
      by_cases hlt:x<128
      ·have hli:(x:Int)<128:=by omega
       by_cases hbig:1000000000000<N+x % 128*268435456
       ·have hbi:(1000000000000:Int)<(N:Int)+(x:Int) % 128*268435456:=by omega
        exact absurd hbig (by omega)
       ·have hbi:¬(1000000000000:Int)<(N:Int)+(x:Int) % 128*268435456:=by omega
        cases hzi:((x:Int)==0)
        case true =>
         have HE:=zh (show rdU b (t:Int)=(0,0,false) from Zaf (HRD.out.trans (HS.out.2.1 hlt (.inl ⟨by omega,by have h9:=beq_iff_eq.1 hzi;omega⟩))))
         go_wp2_with fail
         refine bodyPost_ret (v:=.tuple #[.int .i64 0,.int .i64 0,.bool false]) (by simp[results,Tryz.results86,go_sem]) rfl ⟨by rw[HE.out],hB⟩
        case false =>
         have hz:¬x=0:=λe=>by rw[e] at hzi;simp at hzi
         have HE:=zh (show rdU b (t:Int)=((N:Int)+(x:Int) % 128*268435456,(t:Int)+4+1,true) from by
          rw[ZbT (HRD.out.trans (HS.out.2.2 hlt (by omega)))]
          refine Prod.ext (by simp only;omega) (Prod.ext (by simp only;omega) rfl))
         go_wp2_with fail
         refine bodyPost_ret (v:=.tuple #[.int .i64 ((N:Int)+(x:Int) % 128*268435456),.int .i64 ((t:Int)+4+1),.bool true]) (by simp[results,Tryz.results86,go_sem]) rfl ⟨by rw[HE.out],hB⟩
      ·have hli:¬(x:Int)<128:=by omega
       go_wp2_with fail
       go_roundw
       case rel=>exact⟨5,N+x % 128*268435456,by exact congrArg (Value.int .i64) (by omega),by go_num,by omega,by omega,HRD.out.trans (HS.out.1 hlt),hB⟩
       case measure=>simp[intOf]
     ·have hki:¬(t:Int)+4<(n:Int):=by omega
      have HE:=zh (show rdU b (t:Int)=(0,0,false) from Zaf (HRD.out.trans (ZbB (by rw[HN.out];omega))))
      go_wp2_with fail
      refine bodyPost_ret (v:=.tuple #[.int .i64 0,.int .i64 0,.bool false]) (by simp[results,Tryz.results86,go_sem]) rfl ⟨by rw[HE.out],hB⟩
    ·by_cases hkn:t+5<n
     ·have hkx:t+5<b.length:=by rw[HN.out];exact hkn
      obtain⟨g,o,vs,G1,rfl,hg,hx,-,hc⟩:=ZN (hw:=by decide) (hw2:=by decide) (zb h hB) hkx
      obtain⟨rfl,-⟩:=hx
      have q0:wr.cell? ⟨g,o+(t+5),none⟩=some (.int .u8 (b[t+5].toNat:Int)):=(by have h1:=(hc 0 _ rfl).1;rwa [show (cU).wd=1 from rfl,Nat.mul_one,Nat.add_zero] at h1)
      clear hc hg
      have hx8:b[t+5].toNat<256:=b[t+5].toNat_lt
      have hgo:=λhx=>Zcb (b:=b) (a:=t) (f:=0) (k:=5) (n:=N) hkx hx
      have hbad:=λhx hy=>ZbA (b:=b) (a:=t) (f:=0) (k:=5) (n:=N) hkx hx hy
      have hhit:=λhx hy=>ZbC (b:=b) (a:=t) (f:=0) (k:=5) (n:=N) hkx hx hy
      have HS:=zh (And.intro hgo (And.intro hbad hhit))
      clear hgo hbad hhit
      generalize b[t+5].toNat=x at *
      clear hkx
      have hki:(t:Int)+5<(n:Int):=by omega
      have hNb:N<34359738368:=by have:=hN;omega
      have hand:bits .and .i64 (x:Int) 127=(x:Int) % 128:=Zhx _
      have hor:bits .or .i64 (N:Int) ((x:Int) % 128*34359738368)=(N:Int)+(x:Int) % 128*34359738368:=by have h9:=Zid (n:=N) (m:=x % 128) (i:=35) (by omega) (by omega);rw[show ((x % 128*2 ^ 35:Nat):Int)=(x:Int) % 128*34359738368 by omega] at h9;rw[h9];omega
      by_cases hlt:x<128
      ·have hli:(x:Int)<128:=by omega
       by_cases hbig:1000000000000<N+x % 128*34359738368
       ·have hbi:(1000000000000:Int)<(N:Int)+(x:Int) % 128*34359738368:=by omega
        cases hzi:((x:Int)==0)
        case true =>
         have HE:=zh (show rdU b (t:Int)=(0,0,false) from Zaf (HRD.out.trans (HS.out.2.1 hlt (.inr hbig))))
         go_wp2_with fail
         refine bodyPost_ret (v:=.tuple #[.int .i64 0,.int .i64 0,.bool false]) (by simp[results,Tryz.results86,go_sem]) rfl ⟨by rw[HE.out],hB⟩
        case false =>
         have HE:=zh (show rdU b (t:Int)=(0,0,false) from Zaf (HRD.out.trans (HS.out.2.1 hlt (.inr hbig))))
         go_wp2_with fail
         refine bodyPost_ret (v:=.tuple #[.int .i64 0,.int .i64 0,.bool false]) (by simp[results,Tryz.results86,go_sem]) rfl ⟨by rw[HE.out],hB⟩
       ·have hbi:¬(1000000000000:Int)<(N:Int)+(x:Int) % 128*34359738368:=by omega
        cases hzi:((x:Int)==0)
        case true =>
         have HE:=zh (show rdU b (t:Int)=(0,0,false) from Zaf (HRD.out.trans (HS.out.2.1 hlt (.inl ⟨by omega,by have h9:=beq_iff_eq.1 hzi;omega⟩))))
         go_wp2_with fail
         refine bodyPost_ret (v:=.tuple #[.int .i64 0,.int .i64 0,.bool false]) (by simp[results,Tryz.results86,go_sem]) rfl ⟨by rw[HE.out],hB⟩
        case false =>
         have hz:¬x=0:=λe=>by rw[e] at hzi;simp at hzi
         have HE:=zh (show rdU b (t:Int)=((N:Int)+(x:Int) % 128*34359738368,(t:Int)+5+1,true) from by
          rw[ZbT (HRD.out.trans (HS.out.2.2 hlt (by omega)))]
          refine Prod.ext (by simp only;omega) (Prod.ext (by simp only;omega) rfl))
         go_wp2_with fail
         refine bodyPost_ret (v:=.tuple #[.int .i64 ((N:Int)+(x:Int) % 128*34359738368),.int .i64 ((t:Int)+5+1),.bool true]) (by simp[results,Tryz.results86,go_sem]) rfl ⟨by rw[HE.out],hB⟩
      ·have hli:¬(x:Int)<128:=by omega
       go_wp2_with fail
       go_roundw
       case rel=>exact⟨6,N+x % 128*34359738368,by exact congrArg (Value.int .i64) (by omega),by go_num,by omega,by omega,HRD.out.trans (HS.out.1 hlt),hB⟩
       case measure=>simp[intOf]
     ·have hki:¬(t:Int)+5<(n:Int):=by omega
      have HE:=zh (show rdU b (t:Int)=(0,0,false) from Zaf (HRD.out.trans (ZbB (by rw[HN.out];omega))))
      go_wp2_with fail
      refine bodyPost_ret (v:=.tuple #[.int .i64 0,.int .i64 0,.bool false]) (by simp[results,Tryz.results86,go_sem]) rfl ⟨by rw[HE.out],hB⟩
    ·have HE:=zh (show rdU b (t:Int)=(0,0,false) from Zaf (HRD.out.trans rfl))
     go_wp2_with fail
     refine bodyPost_ret (v:=.tuple #[.int .i64 0,.int .i64 0,.bool false]) (by simp[results,Tryz.results86,go_sem]) rfl ⟨by rw[HE.out],hB⟩
  ·have h1i:¬(t:Int)<(n:Int):=by omega
   have HE:=zh (show rdU b (t:Int)=(0,0,false) from Zaf (ZbB (by rw[HN.out];omega)))
   go_enter Tryz.func86,Tryz.ntmps86
   go_wp2_with fail
   go_loopw [7,8] (λacc i wr=>acc=.int .i64 0∧i=.int .i64 0∧Below w.heap.size w wr) (λ_ i _=>6-(intOf i).toNat)
   case atStart=>exact⟨rfl,rfl,Below.refl _ _⟩
   case round =>
    obtain⟨rfl,rfl,hB⟩:=hrel
    go_wp2_with fail
    refine bodyPost_ret (v:=.tuple #[.int .i64 0,.int .i64 0,.bool false]) (by simp[results,Tryz.results86,go_sem]) rfl ⟨by rw[HE.out],hB⟩
end Go.Proofs.YtghndifnohkokaaGreat
