/-
  CmpKeys of the seat. No conditions but sizes.
-/
import Derived.Test.YtghndifnohkokaaGreatZIsKey
import Derived.Test.YtghndifnohkokaaGreatZOpsPlain
import Derived.Lib.Bytealg
namespace Go.Proofs.YtghndifnohkokaaGreat
open Go.ChangeShapes Go.WideShapes Go.RowKit
set_option linter.unusedVariables false
set_option linter.unusedSimpArgs false
set_option maxRecDepth 100000
set_option maxHeartbeats 16000000
theorem Zme {a b:TKey} (h:ZG a=false):Zf a b=0:=by unfold Zf;rw[h];rfl
theorem Zmf {a b:TKey} (h1:ZG a=true) (h:ZG b=false):Zf a b=0:=by unfold Zf;rw[h,h1];rfl
theorem ZoP {a b:TKey} (h1:ZG a=true) (h:ZG b=true):Zf a b=if (a.kind==b.kind)=false then (if decide (a.kind<b.kind)=true then -1 else if true=true then 1 else 0) else if (a.n==b.n)=false then (if decide (a.n<b.n)=true then -1 else if true=true then 1 else 0) else (if Op.bytesLess a.text.toList b.text.toList=true then -1 else if Op.bytesLess b.text.toList a.text.toList=true then 1 else 0):=by
 rw[Zcg h1 h,ZnG]
theorem ZA (a b:TKey) (w:World) (ha:a.text.size≤maxLen) (hb:b.text.size≤maxLen) :
  Calls Tryz.prog 136 #[.agg #[.int .i64 a.kind,.int .i64 a.n,.string a.text],.agg #[.int .i64 b.kind,.int .i64 b.n,.string b.text]] w (ZL w (.int .i64 (Zf a b))):=by
 obtain⟨k1,n1,t1⟩:=a
 obtain⟨k2,n2,t2⟩:=b
 simp only at ha hb⊢
 cases e1:ZG ⟨k1,n1,t1⟩
 ·rw[Zme e1]
  go_enter Tryz.func136,Tryz.ntmps136
  go_wp2_with (first|(go_at_call 108;refine(Zm ⟨k1,n1,t1⟩ _ ha).mono ?_;rw[e1];rintro e w1 ⟨rfl,hb1⟩;have hB1:=zt (w:=w) hb1))
  go_ret
  exact⟨rfl,bl⟩
 ·cases e2:ZG ⟨k2,n2,t2⟩
  ·rw[Zmf e1 e2]
   go_enter Tryz.func136,Tryz.ntmps136
   go_wp2_with fail
   refine(Zm ⟨k1,n1,t1⟩ _ ha).mono ?_
   rw[e1]
   rintro e w1 ⟨rfl,hb1⟩
   obtain⟨hc_w1,hf_w1,hz_w1⟩:=Zc hb1
   try simp at hz_w1
   obtain⟨ha0_w1,ha1_w1⟩:=zg2 w.heap.size w1.heap.size
   have hb_w1:=zt (w:=w) hb1
   go_wp2_with fail
   refine(Zm ⟨k2,n2,t2⟩ _ hb).mono ?_
   rw[e2]
   rintro e w2 ⟨rfl,hb2⟩
   obtain⟨hc_w2,hf_w2,hz_w2⟩:=Zc hb2
   try simp at hz_w2
   obtain⟨ha0_w2,ha1_w2⟩:=zg2 w.heap.size w2.heap.size
   have hb_w2:=zt (w:=w) hb2
   go_wp2_with fail
   go_ret
   exact⟨rfl,bl⟩
  ·have HS:=zh (ZoP e1 e2)
   simp only at HS
   have hk1:(k1 !=k2)=!(k1==k2):=rfl
   have hn1:(n1 !=n2)=!(n1==n2):=rfl
   go_enter Tryz.func136,Tryz.ntmps136
   go_wp2_with fail
   refine(Zm ⟨k1,n1,t1⟩ _ ha).mono ?_
   rw[e1]
   rintro e w1 ⟨rfl,hb1⟩
   obtain⟨hc_w1,hf_w1,hz_w1⟩:=Zc hb1
   try simp at hz_w1
   obtain⟨ha0_w1,ha1_w1⟩:=zg2 w.heap.size w1.heap.size
   have hb_w1:=zt (w:=w) hb1
   go_wp2_with fail
   refine(Zm ⟨k2,n2,t2⟩ _ hb).mono ?_
   rw[e2]
   rintro e w2 ⟨rfl,hb2⟩
   obtain⟨hc_w2,hf_w2,hz_w2⟩:=Zc hb2
   try simp at hz_w2
   obtain⟨ha0_w2,ha1_w2⟩:=zg2 w.heap.size w2.heap.size
   have hb_w2:=zt (w:=w) hb2
   cases e3:(k1==k2)
   ·rw[e3,Bool.not_false] at hk1
    go_wp2_with (first|(go_at_call 168;refine(ZdH _ _ _).mono ?_;rintro e w1 ⟨rfl,rfl⟩))
    all_goals go_ret
    all_goals exact⟨Zh (by rw[HS.out];simp[*]),bl⟩
   ·rw[e3,Bool.not_true] at hk1
    cases e4:(n1==n2)
    ·rw[e4,Bool.not_false] at hn1
     go_wp2_with (first|(go_at_call 168;refine(ZdH _ _ _).mono ?_;rintro e w1 ⟨rfl,rfl⟩))
     all_goals go_ret
     all_goals exact⟨Zh (by rw[HS.out];simp[*]),bl⟩
    ·rw[e4,Bool.not_true] at hn1
     rcases Zfz t1.toList t2.toList with h9|h9|h9
     ·have h8:=ZeA h9
      have HE:=zh (show Zf ⟨k1,n1,t1⟩ ⟨k2,n2,t2⟩=-1 by rw[HS.out,e3,e4];simp[h9])
      clear HS
      go_wp2_with (first|(go_at_call 168;refine(ZdH _ _ _).mono ?_;rintro e w1 ⟨rfl,rfl⟩))
      all_goals go_ret
      all_goals exact⟨Zh HE.out.symm,bl⟩
     ·have h8:=ZcP t2.toList
      have h7:=ZfO h9
      subst h7
      have HE:=zh (show Zf ⟨k1,n1,t1⟩ ⟨k2,n2,t1⟩=0 by rw[HS.out,e3,e4];simp[h8])
      clear HS
      go_wp2_with (first|(go_at_call 168;refine(ZdH _ _ _).mono ?_;rintro e w1 ⟨rfl,rfl⟩))
      all_goals go_ret
      all_goals exact⟨Zh HE.out.symm,bl⟩
     ·have h8:=ZeA h9
      have h7:(t1.toList==t2.toList)=false:=by
       cases h6:(t1.toList==t2.toList) with
       | false=>rfl
       | true=>rw[beq_iff_eq.1 h6,ZcP] at h9;cases h9
      have HE:=zh (show Zf ⟨k1,n1,t1⟩ ⟨k2,n2,t2⟩=1 by rw[HS.out,e3,e4];simp[h9,h8])
      clear HS
      go_wp2_with (first|(go_at_call 168;refine(ZdH _ _ _).mono ?_;rintro e w1 ⟨rfl,rfl⟩))
      all_goals go_ret
      all_goals exact⟨Zh HE.out.symm,bl⟩
theorem Zz (a b:TKey) (w:World) (ha:a.text.size≤maxLen) (hb:b.text.size≤maxLen) :
  Calls Tryz.prog 148 #[.agg #[.int .i64 a.kind,.int .i64 a.n,.string a.text],.agg #[.int .i64 b.kind,.int .i64 b.n,.string b.text]] w (ZL w (.int .i64 (Zf a b))):=by
 obtain⟨k1,n1,t1⟩:=a
 obtain⟨k2,n2,t2⟩:=b
 simp only at ha hb⊢
 cases e1:ZG ⟨k1,n1,t1⟩
 ·rw[Zme e1]
  go_enter Tryz.func148,Tryz.ntmps148
  go_wp2_with (first|(go_at_call 121;refine(Zr ⟨k1,n1,t1⟩ _ ha).mono ?_;rw[e1];rintro e w1 ⟨rfl,hb1⟩;have hB1:=zt (w:=w) hb1))
  go_ret
  exact⟨rfl,bl⟩
 ·cases e2:ZG ⟨k2,n2,t2⟩
  ·rw[Zmf e1 e2]
   go_enter Tryz.func148,Tryz.ntmps148
   go_wp2_with fail
   refine(Zr ⟨k1,n1,t1⟩ _ ha).mono ?_
   rw[e1]
   rintro e w1 ⟨rfl,hb1⟩
   obtain⟨hc_w1,hf_w1,hz_w1⟩:=Zc hb1
   try simp at hz_w1
   obtain⟨ha0_w1,ha1_w1⟩:=zg2 w.heap.size w1.heap.size
   have hb_w1:=zt (w:=w) hb1
   go_wp2_with fail
   refine(Zr ⟨k2,n2,t2⟩ _ hb).mono ?_
   rw[e2]
   rintro e w2 ⟨rfl,hb2⟩
   obtain⟨hc_w2,hf_w2,hz_w2⟩:=Zc hb2
   try simp at hz_w2
   obtain⟨ha0_w2,ha1_w2⟩:=zg2 w.heap.size w2.heap.size
   have hb_w2:=zt (w:=w) hb2
   go_wp2_with fail
   go_ret
   exact⟨rfl,bl⟩
  ·have HS:=zh (show Zf ⟨k1,n1,t1⟩ ⟨k2,n2,t2⟩=if ZdY k1 k2≠0 then ZdY k1 k2 else if ZdY n1 n2≠0 then ZdY n1 n2 else Zmc t1 t2 from Zcg e1 e2)
   have hk1:(ZdY k1 k2 !=0)=!(ZdY k1 k2==0):=rfl
   have hn1:(ZdY n1 n2 !=0)=!(ZdY n1 n2==0):=rfl
   go_enter Tryz.func148,Tryz.ntmps148
   go_wp2_with fail
   refine(Zr ⟨k1,n1,t1⟩ _ ha).mono ?_
   rw[e1]
   rintro e w1 ⟨rfl,hb1⟩
   obtain⟨hc_w1,hf_w1,hz_w1⟩:=Zc hb1
   try simp at hz_w1
   obtain⟨ha0_w1,ha1_w1⟩:=zg2 w.heap.size w1.heap.size
   have hb_w1:=zt (w:=w) hb1
   go_wp2_with fail
   refine(Zr ⟨k2,n2,t2⟩ _ hb).mono ?_
   rw[e2]
   rintro e w2 ⟨rfl,hb2⟩
   obtain⟨hc_w2,hf_w2,hz_w2⟩:=Zc hb2
   try simp at hz_w2
   obtain⟨ha0_w2,ha1_w2⟩:=zg2 w.heap.size w2.heap.size
   have hb_w2:=zt (w:=w) hb2
   cases e3:(ZdY k1 k2==0)
   ·rw[e3,Bool.not_false] at hk1
    go_wp2_with (first|(go_at_call 172;refine(Zce _ _ _).mono ?_;rintro e w1 ⟨rfl,rfl⟩))
    go_ret
    exact⟨Zh (by rw[HS.out,if_pos (by simpa using e3)]),bl⟩
   ·rw[e3,Bool.not_true] at hk1
    cases e4:(ZdY n1 n2==0)
    ·rw[e4,Bool.not_false] at hn1
     go_wp2_with (first|(go_at_call 172;refine(Zce _ _ _).mono ?_;rintro e w1 ⟨rfl,rfl⟩))
     go_ret
     exact⟨Zh (by rw[HS.out,if_neg (by simpa using e3),if_pos (by simpa using e4)]),bl⟩
    ·rw[e4,Bool.not_true] at hn1
     go_wp2_with (first|(go_at_call 172;refine(Zce _ _ _).mono ?_;rintro e w1 ⟨rfl,rfl⟩)|(go_at_call 173;refine(ZiV _ _ _).mono ?_;rintro e w1 ⟨rfl,rfl⟩))
     go_ret
     exact⟨Zh (by rw[HS.out,if_neg (by simpa using e3),if_neg (by simpa using e4)]),bl⟩
end Go.Proofs.YtghndifnohkokaaGreat
