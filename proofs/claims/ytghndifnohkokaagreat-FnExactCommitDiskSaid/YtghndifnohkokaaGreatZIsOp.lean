/-
  IsOp of the seat. No conditions but sizes.
-/
import Derived.Test.YtghndifnohkokaaGreatZBase
import Derived.Test.YtghndifnohkokaaGreatZIsKey
import Derived.Test.YtghndifnohkokaaGreatZIsRec
namespace Go.Proofs.YtghndifnohkokaaGreat
open Go.ChangeShapes Go.WideShapes Go.RowKit
set_option linter.unusedVariables false
set_option linter.unusedSimpArgs false
set_option maxRecDepth 100000
set_option maxHeartbeats 16000000
theorem ZgI (v:Value) (o:TOp) (F:List Nat) (w:World) (h:cFieldS.rep w [v] o.rcd.fields F) (hok:o.Ok) :
  Calls Tryz.prog 119 #[.agg #[.int .i64 o.kind,.string o.store,.int .i64 o.key.kind,.int .i64 o.key.n,.string o.key.text,v,.string o.field]] w (ZL w (.bool (ZdR o))):=by
 obtain⟨A,cp,rfl⟩:=Zb h
 have HE:=zh (show ZdR o=(inR o.kind 1 6&&Zaj o.store&&(o.kind==5||ZG o.key)&&Ze o.rcd&&(bif o.kind==6 then Zaj o.field else ZeR o.field)) from rfl)
 have hk5:(o.kind !=5)=!(o.kind==5):=rfl
 have hk6:(o.kind !=6)=!(o.kind==6):=rfl
 go_enter Tryz.func119,Tryz.ntmps119
 cases e1:inR o.kind 1 6
 ·go_wp2_with (first|(go_at_call 114;refine(ZV o.kind 1 6 _).mono ?_;rw[e1];rintro e w9 ⟨rfl,rfl⟩))
  go_ret
  exact⟨Zd (by rw[HE.out];simp[*]),bl⟩
 cases e2:Zaj o.store
 ·go_wp2_with (first|(go_at_call 114;refine(ZV o.kind 1 6 _).mono ?_;rw[e1];rintro e w9 ⟨rfl,rfl⟩)|(go_at_call 113;refine(ZK o.store _ hok.h1).mono ?_;rw[e2];rintro e w9 ⟨rfl,rfl⟩))
  go_ret
  exact⟨Zd (by rw[HE.out];simp[*]),bl⟩
 cases e3:(o.kind==5)
 ·rw[e3] at hk5
  go_wp2_with (first|(go_at_call 114;refine(ZV o.kind 1 6 _).mono ?_;rw[e1];rintro e w9 ⟨rfl,rfl⟩)|(go_at_call 113;refine(ZK o.store _ hok.h1).mono ?_;rw[e2];rintro e w9 ⟨rfl,rfl⟩))
  refine(Zr o.key _ hok.h4).mono ?_
  cases e4:ZG o.key
  ·rintro e w1 ⟨rfl,hb1⟩
   obtain⟨hc_w1,hf_w1,hz_w1⟩:=Zc hb1
   try simp at hz_w1
   have ha0_w1:w.heap.size<w1.heap.size:=by omega
   have hb_w1:=zt (w:=w) hb1
   go_wp2_with fail
   go_ret
   exact⟨Zd (by rw[HE.out];simp[*]),bl⟩
  ·rintro e w1 ⟨rfl,hb1⟩
   obtain⟨hc_w1,hf_w1,hz_w1⟩:=Zc hb1
   try simp at hz_w1
   have ha0_w1:w.heap.size<w1.heap.size:=by omega
   have hb_w1:=zt (w:=w) hb1
   go_wp2_with fail
   refine(Zt _ o.rcd.fields F _ (by exact zb h)).mono ?_
   cases e5:Ze ⟨o.rcd.fields⟩
   ·have e5':Ze o.rcd=false:=e5
    rintro e w2 ⟨rfl,hb2⟩
    obtain⟨hc_w2,hf_w2,hz_w2⟩:=Zc hb2
    try simp at hz_w2
    have ha0_w2:w.heap.size<w2.heap.size:=by omega
    have hb_w2:=zt (w:=w) hb2
    go_wp2_with fail
    go_ret
    exact⟨Zd (by rw[HE.out];simp[*]),bl⟩
   ·have e5':Ze o.rcd=true:=e5
    rintro e w2 ⟨rfl,hb2⟩
    obtain⟨hc_w2,hf_w2,hz_w2⟩:=Zc hb2
    try simp at hz_w2
    have ha0_w2:w.heap.size<w2.heap.size:=by omega
    have hb_w2:=zt (w:=w) hb2
    cases e6:(o.kind==6)
    ·rw[e6] at hk6
     cases e8:(o.field.toList==(⟨#[]⟩:ByteArray).toList)
     all_goals
      have e9:=e8
      (try simp at e9)
      go_wp2_with fail
      go_ret
      exact⟨Zd (by rw[HE.out,show ZeR o.field=(o.field.toList==(⟨#[]⟩:ByteArray).toList) from rfl,e8,e6];simp[*]),bl⟩
    ·rw[e6] at hk6
     cases e7:Zaj o.field
     all_goals
      go_wp2_with (first|(go_at_call 113;refine(ZK o.field _ hok.h6).mono ?_;rw[e7];rintro e w9 ⟨rfl,rfl⟩))
      go_ret
      exact⟨Zd (by rw[HE.out];simp[*]),bl⟩
 ·rw[e3] at hk5
  go_wp2_with (first|(go_at_call 114;refine(ZV o.kind 1 6 _).mono ?_;rw[e1];rintro e w9 ⟨rfl,rfl⟩)|(go_at_call 113;refine(ZK o.store _ hok.h1).mono ?_;rw[e2];rintro e w9 ⟨rfl,rfl⟩))
  refine(Zt _ o.rcd.fields F _ (by exact zb h)).mono ?_
  cases e5:Ze ⟨o.rcd.fields⟩
  ·have e5':Ze o.rcd=false:=e5
   rintro e w1 ⟨rfl,hb1⟩
   obtain⟨hc_w1,hf_w1,hz_w1⟩:=Zc hb1
   try simp at hz_w1
   have ha0_w1:w.heap.size<w1.heap.size:=by omega
   have hb_w1:=zt (w:=w) hb1
   go_wp2_with fail
   go_ret
   exact⟨Zd (by rw[HE.out];simp[*]),bl⟩
  ·have e5':Ze o.rcd=true:=e5
   rintro e w1 ⟨rfl,hb1⟩
   obtain⟨hc_w1,hf_w1,hz_w1⟩:=Zc hb1
   try simp at hz_w1
   have ha0_w1:w.heap.size<w1.heap.size:=by omega
   have hb_w1:=zt (w:=w) hb1
   cases e6:(o.kind==6)
   ·rw[e6] at hk6
    cases e8:(o.field.toList==(⟨#[]⟩:ByteArray).toList)
    all_goals
     have e9:=e8
     (try simp at e9)
     go_wp2_with fail
     go_ret
     exact⟨Zd (by rw[HE.out,show ZeR o.field=(o.field.toList==(⟨#[]⟩:ByteArray).toList) from rfl,e8,e6];simp[*]),bl⟩
   ·rw[e6] at hk6
    cases e7:Zaj o.field
    all_goals
     go_wp2_with (first|(go_at_call 113;refine(ZK o.field _ hok.h6).mono ?_;rw[e7];rintro e w9 ⟨rfl,rfl⟩))
     go_ret
     exact⟨Zd (by rw[HE.out];simp[*]),bl⟩
theorem ZgS (v:Value) (o:TOp) (F:List Nat) (w:World) (h:cFieldS.rep w [v] o.rcd.fields F) (hok:o.Ok) :
  Calls Tryz.prog 64 #[.agg #[.int .i64 o.kind,.string o.store,.int .i64 o.key.kind,.int .i64 o.key.n,.string o.key.text,v,.string o.field]] w (ZL w (.bool (ZdR o))):=by
 obtain⟨A,cp,rfl⟩:=Zb h
 have HE:=zh (show ZdR o=(inR o.kind 1 6&&Zaj o.store&&(o.kind==5||ZG o.key)&&Ze o.rcd&&(bif o.kind==6 then Zaj o.field else ZeR o.field)) from rfl)
 have hk5:(o.kind !=5)=!(o.kind==5):=rfl
 have hk6:(o.kind !=6)=!(o.kind==6):=rfl
 go_enter Tryz.func64,Tryz.ntmps64
 cases e1:inR o.kind 1 6
 ·go_wp2_with (first|(go_at_call 106;refine(Zbf o.kind 1 6 _).mono ?_;rw[e1];rintro e w9 ⟨rfl,rfl⟩))
  go_ret
  exact⟨Zd (by rw[HE.out];simp[*]),bl⟩
 cases e2:Zaj o.store
 ·go_wp2_with (first|(go_at_call 106;refine(Zbf o.kind 1 6 _).mono ?_;rw[e1];rintro e w9 ⟨rfl,rfl⟩)|(go_at_call 104;refine(Zaa o.store _ hok.h1).mono ?_;rw[e2];rintro e w9 ⟨rfl,rfl⟩))
  go_ret
  exact⟨Zd (by rw[HE.out];simp[*]),bl⟩
 cases e3:(o.kind==5)
 ·rw[e3] at hk5
  go_wp2_with (first|(go_at_call 106;refine(Zbf o.kind 1 6 _).mono ?_;rw[e1];rintro e w9 ⟨rfl,rfl⟩)|(go_at_call 104;refine(Zaa o.store _ hok.h1).mono ?_;rw[e2];rintro e w9 ⟨rfl,rfl⟩))
  refine(Zm o.key _ hok.h4).mono ?_
  cases e4:ZG o.key
  ·rintro e w1 ⟨rfl,hb1⟩
   obtain⟨hc_w1,hf_w1,hz_w1⟩:=Zc hb1
   try simp at hz_w1
   have ha0_w1:w.heap.size<w1.heap.size:=by omega
   have hb_w1:=zt (w:=w) hb1
   go_wp2_with fail
   go_ret
   exact⟨Zd (by rw[HE.out];simp[*]),bl⟩
  ·rintro e w1 ⟨rfl,hb1⟩
   obtain⟨hc_w1,hf_w1,hz_w1⟩:=Zc hb1
   try simp at hz_w1
   have ha0_w1:w.heap.size<w1.heap.size:=by omega
   have hb_w1:=zt (w:=w) hb1
   go_wp2_with fail
   refine(Zo _ o.rcd.fields F _ (by exact zb h)).mono ?_
   cases e5:Ze ⟨o.rcd.fields⟩
   ·have e5':Ze o.rcd=false:=e5
    rintro e w2 ⟨rfl,hb2⟩
    obtain⟨hc_w2,hf_w2,hz_w2⟩:=Zc hb2
    try simp at hz_w2
    have ha0_w2:w.heap.size<w2.heap.size:=by omega
    have hb_w2:=zt (w:=w) hb2
    go_wp2_with fail
    go_ret
    exact⟨Zd (by rw[HE.out];simp[*]),bl⟩
   ·have e5':Ze o.rcd=true:=e5
    rintro e w2 ⟨rfl,hb2⟩
    obtain⟨hc_w2,hf_w2,hz_w2⟩:=Zc hb2
    try simp at hz_w2
    have ha0_w2:w.heap.size<w2.heap.size:=by omega
    have hb_w2:=zt (w:=w) hb2
    cases e6:(o.kind==6)
    ·rw[e6] at hk6
     cases e8:(o.field.toList==(⟨#[]⟩:ByteArray).toList)
     all_goals
      have e9:=e8
      (try simp at e9)
      go_wp2_with fail
      go_ret
      exact⟨Zd (by rw[HE.out,show ZeR o.field=(o.field.toList==(⟨#[]⟩:ByteArray).toList) from rfl,e8,e6];simp[*]),bl⟩
    ·rw[e6] at hk6
     cases e7:Zaj o.field
     all_goals
      go_wp2_with (first|(go_at_call 104;refine(Zaa o.field _ hok.h6).mono ?_;rw[e7];rintro e w9 ⟨rfl,rfl⟩))
      go_ret
      exact⟨Zd (by rw[HE.out];simp[*]),bl⟩
 ·rw[e3] at hk5
  go_wp2_with (first|(go_at_call 106;refine(Zbf o.kind 1 6 _).mono ?_;rw[e1];rintro e w9 ⟨rfl,rfl⟩)|(go_at_call 104;refine(Zaa o.store _ hok.h1).mono ?_;rw[e2];rintro e w9 ⟨rfl,rfl⟩))
  refine(Zo _ o.rcd.fields F _ (by exact zb h)).mono ?_
  cases e5:Ze ⟨o.rcd.fields⟩
  ·have e5':Ze o.rcd=false:=e5
   rintro e w1 ⟨rfl,hb1⟩
   obtain⟨hc_w1,hf_w1,hz_w1⟩:=Zc hb1
   try simp at hz_w1
   have ha0_w1:w.heap.size<w1.heap.size:=by omega
   have hb_w1:=zt (w:=w) hb1
   go_wp2_with fail
   go_ret
   exact⟨Zd (by rw[HE.out];simp[*]),bl⟩
  ·have e5':Ze o.rcd=true:=e5
   rintro e w1 ⟨rfl,hb1⟩
   obtain⟨hc_w1,hf_w1,hz_w1⟩:=Zc hb1
   try simp at hz_w1
   have ha0_w1:w.heap.size<w1.heap.size:=by omega
   have hb_w1:=zt (w:=w) hb1
   cases e6:(o.kind==6)
   ·rw[e6] at hk6
    cases e8:(o.field.toList==(⟨#[]⟩:ByteArray).toList)
    all_goals
     have e9:=e8
     (try simp at e9)
     go_wp2_with fail
     go_ret
     exact⟨Zd (by rw[HE.out,show ZeR o.field=(o.field.toList==(⟨#[]⟩:ByteArray).toList) from rfl,e8,e6];simp[*]),bl⟩
   ·rw[e6] at hk6
    cases e7:Zaj o.field
    all_goals
     go_wp2_with (first|(go_at_call 104;refine(Zaa o.field _ hok.h6).mono ?_;rw[e7];rintro e w9 ⟨rfl,rfl⟩))
     go_ret
     exact⟨Zd (by rw[HE.out];simp[*]),bl⟩
end Go.Proofs.YtghndifnohkokaaGreat
