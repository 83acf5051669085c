/-
  InRangeOf of the seat. No conditions but sizes.
-/
import Derived.Test.YtghndifnohkokaaGreatZCmpKeys
import Derived.Test.YtghndifnohkokaaGreatZBase
namespace Go.Proofs.YtghndifnohkokaaGreat
open Go.ChangeShapes Go.WideShapes Go.RowKit
set_option linter.unusedVariables false
set_option linter.unusedSimpArgs false
set_option maxRecDepth 100000
set_option maxHeartbeats 16000000
theorem Zga (k lo hi:TKey) (hl hh:Bool) (w:World) (h:k.text.size≤maxLen) (h1:lo.text.size≤maxLen) (h2:hi.text.size≤maxLen) :
  Calls Tryz.prog 181 #[.agg #[.int .i64 k.kind,.int .i64 k.n,.string k.text],.agg #[.bool hl,.bool hh,.int .i64 lo.kind,.int .i64 lo.n,.string lo.text,.int .i64 hi.kind,.int .i64 hi.n,.string hi.text]] w (ZL w (.bool (Zu k hl hh lo hi))):=by
 obtain⟨kd,n,t⟩:=k
 obtain⟨k1,n1,t1⟩:=lo
 obtain⟨k2,n2,t2⟩:=hi
 have hs:t.size≤maxLen:=h
 have hs1:t1.size≤maxLen:=h1
 have hs2:t2.size≤maxLen:=h2
 clear h h1 h2
 simp only
 have HE:=zh (show Zu ⟨kd,n,t⟩ hl hh ⟨k1,n1,t1⟩ ⟨k2,n2,t2⟩=(ZG ⟨kd,n,t⟩&&(!hl||ZG ⟨k1,n1,t1⟩)&&(!hh||ZG ⟨k2,n2,t2⟩)&&(!hl||decide (Zf ⟨k1,n1,t1⟩ ⟨kd,n,t⟩≤0))&&(!hh||decide (Zf ⟨kd,n,t⟩ ⟨k2,n2,t2⟩≤0))) from rfl)
 go_enter Tryz.func181,Tryz.ntmps181
 cases hl
 ·cases hh
  ·go_wp2_with fail
   refine(Zr ⟨kd,n,t⟩ _ hs).mono ?_
   cases eK:ZG ⟨kd,n,t⟩
   ·rintro e w1 ⟨rfl,hb1⟩
    obtain⟨hc_w1,hf_w1,hz_w1⟩:=Zc hb1
    try simp at hz_w1
    obtain⟨ha0_w1,ha1_w1⟩:=zg2 w.heap.size w1.heap.size
    have hb_w1:=zt (w:=w) hb1
    go_wp2_with fail
    all_goals go_ret
    all_goals exact⟨Zd (by rw[HE.out];simp[*]<;>(intros;first|assumption|omega)),bl⟩
   ·rintro e w1 ⟨rfl,hb1⟩
    obtain⟨hc_w1,hf_w1,hz_w1⟩:=Zc hb1
    try simp at hz_w1
    obtain⟨ha0_w1,ha1_w1⟩:=zg2 w.heap.size w1.heap.size
    have hb_w1:=zt (w:=w) hb1
    go_wp2_with fail
    all_goals go_ret
    all_goals exact⟨Zd (by rw[HE.out];simp[*]<;>(intros;first|assumption|omega)),bl⟩
  ·go_wp2_with fail
   refine(Zr ⟨kd,n,t⟩ _ hs).mono ?_
   cases eK:ZG ⟨kd,n,t⟩
   ·rintro e w1 ⟨rfl,hb1⟩
    obtain⟨hc_w1,hf_w1,hz_w1⟩:=Zc hb1
    try simp at hz_w1
    obtain⟨ha0_w1,ha1_w1⟩:=zg2 w.heap.size w1.heap.size
    have hb_w1:=zt (w:=w) hb1
    go_wp2_with fail
    all_goals go_ret
    all_goals exact⟨Zd (by rw[HE.out];simp[*]<;>(intros;first|assumption|omega)),bl⟩
   ·rintro e w1 ⟨rfl,hb1⟩
    obtain⟨hc_w1,hf_w1,hz_w1⟩:=Zc hb1
    try simp at hz_w1
    obtain⟨ha0_w1,ha1_w1⟩:=zg2 w.heap.size w1.heap.size
    have hb_w1:=zt (w:=w) hb1
    go_wp2_with fail
    refine(Zr ⟨k2,n2,t2⟩ _ hs2).mono ?_
    cases eH:ZG ⟨k2,n2,t2⟩
    ·rintro e w2 ⟨rfl,hb2⟩
     obtain⟨hc_w2,hf_w2,hz_w2⟩:=Zc hb2
     try simp at hz_w2
     obtain⟨ha0_w2,ha1_w2⟩:=zg2 w.heap.size w2.heap.size
     have hb_w2:=zt (w:=w) hb2
     go_wp2_with fail
     all_goals go_ret
     all_goals exact⟨Zd (by rw[HE.out];simp[*]<;>(intros;first|assumption|omega)),bl⟩
    ·rintro e w2 ⟨rfl,hb2⟩
     obtain⟨hc_w2,hf_w2,hz_w2⟩:=Zc hb2
     try simp at hz_w2
     obtain⟨ha0_w2,ha1_w2⟩:=zg2 w.heap.size w2.heap.size
     have hb_w2:=zt (w:=w) hb2
     go_wp2_with fail
     refine(Zz ⟨kd,n,t⟩ ⟨k2,n2,t2⟩ _ hs hs2).mono ?_
     have hH:(Zf ⟨kd,n,t⟩ ⟨k2,n2,t2⟩≤0)=¬(0<Zf ⟨kd,n,t⟩ ⟨k2,n2,t2⟩):=propext ⟨λh=>by omega,λh=>by omega⟩
     by_cases cH:0<Zf ⟨kd,n,t⟩ ⟨k2,n2,t2⟩
     ·rintro e w3 ⟨rfl,hb3⟩
      obtain⟨hc_w3,hf_w3,hz_w3⟩:=Zc hb3
      try simp at hz_w3
      obtain⟨ha0_w3,ha1_w3⟩:=zg2 w.heap.size w3.heap.size
      have hb_w3:=zt (w:=w) hb3
      go_wp2_with fail
      all_goals go_ret
      all_goals exact⟨Zd (by rw[HE.out];simp[*]<;>(intros;first|assumption|omega)),bl⟩
     ·rintro e w3 ⟨rfl,hb3⟩
      obtain⟨hc_w3,hf_w3,hz_w3⟩:=Zc hb3
      try simp at hz_w3
      obtain⟨ha0_w3,ha1_w3⟩:=zg2 w.heap.size w3.heap.size
      have hb_w3:=zt (w:=w) hb3
      go_wp2_with fail
      all_goals go_ret
      all_goals exact⟨Zd (by rw[HE.out];simp[*]<;>(intros;first|assumption|omega)),bl⟩
 ·cases hh
  ·go_wp2_with fail
   refine(Zr ⟨kd,n,t⟩ _ hs).mono ?_
   cases eK:ZG ⟨kd,n,t⟩
   ·rintro e w1 ⟨rfl,hb1⟩
    obtain⟨hc_w1,hf_w1,hz_w1⟩:=Zc hb1
    try simp at hz_w1
    obtain⟨ha0_w1,ha1_w1⟩:=zg2 w.heap.size w1.heap.size
    have hb_w1:=zt (w:=w) hb1
    go_wp2_with fail
    all_goals go_ret
    all_goals exact⟨Zd (by rw[HE.out];simp[*]<;>(intros;first|assumption|omega)),bl⟩
   ·rintro e w1 ⟨rfl,hb1⟩
    obtain⟨hc_w1,hf_w1,hz_w1⟩:=Zc hb1
    try simp at hz_w1
    obtain⟨ha0_w1,ha1_w1⟩:=zg2 w.heap.size w1.heap.size
    have hb_w1:=zt (w:=w) hb1
    go_wp2_with fail
    refine(Zr ⟨k1,n1,t1⟩ _ hs1).mono ?_
    cases eL:ZG ⟨k1,n1,t1⟩
    ·rintro e w2 ⟨rfl,hb2⟩
     obtain⟨hc_w2,hf_w2,hz_w2⟩:=Zc hb2
     try simp at hz_w2
     obtain⟨ha0_w2,ha1_w2⟩:=zg2 w.heap.size w2.heap.size
     have hb_w2:=zt (w:=w) hb2
     go_wp2_with fail
     all_goals go_ret
     all_goals exact⟨Zd (by rw[HE.out];simp[*]<;>(intros;first|assumption|omega)),bl⟩
    ·rintro e w2 ⟨rfl,hb2⟩
     obtain⟨hc_w2,hf_w2,hz_w2⟩:=Zc hb2
     try simp at hz_w2
     obtain⟨ha0_w2,ha1_w2⟩:=zg2 w.heap.size w2.heap.size
     have hb_w2:=zt (w:=w) hb2
     go_wp2_with fail
     refine(Zz ⟨kd,n,t⟩ ⟨k1,n1,t1⟩ _ hs hs1).mono ?_
     have hL:(Zf ⟨k1,n1,t1⟩ ⟨kd,n,t⟩≤0)=¬(Zf ⟨kd,n,t⟩ ⟨k1,n1,t1⟩<0):=by rw[Zgy ⟨kd,n,t⟩ ⟨k1,n1,t1⟩];exact propext ⟨λh=>by omega,λh=>by omega⟩
     by_cases cL:Zf ⟨kd,n,t⟩ ⟨k1,n1,t1⟩<0
     ·rintro e w3 ⟨rfl,hb3⟩
      obtain⟨hc_w3,hf_w3,hz_w3⟩:=Zc hb3
      try simp at hz_w3
      obtain⟨ha0_w3,ha1_w3⟩:=zg2 w.heap.size w3.heap.size
      have hb_w3:=zt (w:=w) hb3
      go_wp2_with fail
      all_goals go_ret
      all_goals exact⟨Zd (by rw[HE.out];simp[*]<;>(intros;first|assumption|omega)),bl⟩
     ·rintro e w3 ⟨rfl,hb3⟩
      obtain⟨hc_w3,hf_w3,hz_w3⟩:=Zc hb3
      try simp at hz_w3
      obtain⟨ha0_w3,ha1_w3⟩:=zg2 w.heap.size w3.heap.size
      have hb_w3:=zt (w:=w) hb3
      go_wp2_with fail
      all_goals go_ret
      all_goals exact⟨Zd (by rw[HE.out];simp[*]<;>(intros;first|assumption|omega)),bl⟩
  ·go_wp2_with fail
   refine(Zr ⟨kd,n,t⟩ _ hs).mono ?_
   cases eK:ZG ⟨kd,n,t⟩
   ·rintro e w1 ⟨rfl,hb1⟩
    obtain⟨hc_w1,hf_w1,hz_w1⟩:=Zc hb1
    try simp at hz_w1
    obtain⟨ha0_w1,ha1_w1⟩:=zg2 w.heap.size w1.heap.size
    have hb_w1:=zt (w:=w) hb1
    go_wp2_with fail
    all_goals go_ret
    all_goals exact⟨Zd (by rw[HE.out];simp[*]<;>(intros;first|assumption|omega)),bl⟩
   ·rintro e w1 ⟨rfl,hb1⟩
    obtain⟨hc_w1,hf_w1,hz_w1⟩:=Zc hb1
    try simp at hz_w1
    obtain⟨ha0_w1,ha1_w1⟩:=zg2 w.heap.size w1.heap.size
    have hb_w1:=zt (w:=w) hb1
    go_wp2_with fail
    refine(Zr ⟨k1,n1,t1⟩ _ hs1).mono ?_
    cases eL:ZG ⟨k1,n1,t1⟩
    ·rintro e w2 ⟨rfl,hb2⟩
     obtain⟨hc_w2,hf_w2,hz_w2⟩:=Zc hb2
     try simp at hz_w2
     obtain⟨ha0_w2,ha1_w2⟩:=zg2 w.heap.size w2.heap.size
     have hb_w2:=zt (w:=w) hb2
     go_wp2_with fail
     all_goals go_ret
     all_goals exact⟨Zd (by rw[HE.out];simp[*]<;>(intros;first|assumption|omega)),bl⟩
    ·rintro e w2 ⟨rfl,hb2⟩
     obtain⟨hc_w2,hf_w2,hz_w2⟩:=Zc hb2
     try simp at hz_w2
     obtain⟨ha0_w2,ha1_w2⟩:=zg2 w.heap.size w2.heap.size
     have hb_w2:=zt (w:=w) hb2
     go_wp2_with fail
     refine(Zr ⟨k2,n2,t2⟩ _ hs2).mono ?_
     cases eH:ZG ⟨k2,n2,t2⟩
     ·rintro e w3 ⟨rfl,hb3⟩
      obtain⟨hc_w3,hf_w3,hz_w3⟩:=Zc hb3
      try simp at hz_w3
      obtain⟨ha0_w3,ha1_w3⟩:=zg2 w.heap.size w3.heap.size
      have hb_w3:=zt (w:=w) hb3
      go_wp2_with fail
      all_goals go_ret
      all_goals exact⟨Zd (by rw[HE.out];simp[*]<;>(intros;first|assumption|omega)),bl⟩
     ·rintro e w3 ⟨rfl,hb3⟩
      obtain⟨hc_w3,hf_w3,hz_w3⟩:=Zc hb3
      try simp at hz_w3
      obtain⟨ha0_w3,ha1_w3⟩:=zg2 w.heap.size w3.heap.size
      have hb_w3:=zt (w:=w) hb3
      go_wp2_with fail
      refine(Zz ⟨kd,n,t⟩ ⟨k1,n1,t1⟩ _ hs hs1).mono ?_
      have hL:(Zf ⟨k1,n1,t1⟩ ⟨kd,n,t⟩≤0)=¬(Zf ⟨kd,n,t⟩ ⟨k1,n1,t1⟩<0):=by rw[Zgy ⟨kd,n,t⟩ ⟨k1,n1,t1⟩];exact propext ⟨λh=>by omega,λh=>by omega⟩
      by_cases cL:Zf ⟨kd,n,t⟩ ⟨k1,n1,t1⟩<0
      ·rintro e w4 ⟨rfl,hb4⟩
       obtain⟨hc_w4,hf_w4,hz_w4⟩:=Zc hb4
       try simp at hz_w4
       obtain⟨ha0_w4,ha1_w4⟩:=zg2 w.heap.size w4.heap.size
       have hb_w4:=zt (w:=w) hb4
       go_wp2_with fail
       all_goals go_ret
       all_goals exact⟨Zd (by rw[HE.out];simp[*]<;>(intros;first|assumption|omega)),bl⟩
      ·rintro e w4 ⟨rfl,hb4⟩
       obtain⟨hc_w4,hf_w4,hz_w4⟩:=Zc hb4
       try simp at hz_w4
       obtain⟨ha0_w4,ha1_w4⟩:=zg2 w.heap.size w4.heap.size
       have hb_w4:=zt (w:=w) hb4
       go_wp2_with fail
       refine(Zz ⟨kd,n,t⟩ ⟨k2,n2,t2⟩ _ hs hs2).mono ?_
       have hH:(Zf ⟨kd,n,t⟩ ⟨k2,n2,t2⟩≤0)=¬(0<Zf ⟨kd,n,t⟩ ⟨k2,n2,t2⟩):=propext ⟨λh=>by omega,λh=>by omega⟩
       by_cases cH:0<Zf ⟨kd,n,t⟩ ⟨k2,n2,t2⟩
       ·rintro e w5 ⟨rfl,hb5⟩
        obtain⟨hc_w5,hf_w5,hz_w5⟩:=Zc hb5
        try simp at hz_w5
        obtain⟨ha0_w5,ha1_w5⟩:=zg2 w.heap.size w5.heap.size
        have hb_w5:=zt (w:=w) hb5
        go_wp2_with fail
        all_goals go_ret
        all_goals exact⟨Zd (by rw[HE.out];simp[*]<;>(intros;first|assumption|omega)),bl⟩
       ·rintro e w5 ⟨rfl,hb5⟩
        obtain⟨hc_w5,hf_w5,hz_w5⟩:=Zc hb5
        try simp at hz_w5
        obtain⟨ha0_w5,ha1_w5⟩:=zg2 w.heap.size w5.heap.size
        have hb_w5:=zt (w:=w) hb5
        go_wp2_with fail
        all_goals go_ret
        all_goals exact⟨Zd (by rw[HE.out];simp[*]<;>(intros;first|assumption|omega)),bl⟩
theorem ZdM (k lo hi:TKey) (hl hh:Bool) (w:World) (h:k.text.size≤maxLen) (h1:lo.text.size≤maxLen) (h2:hi.text.size≤maxLen) :
  Calls Tryz.prog 170 #[.agg #[.int .i64 k.kind,.int .i64 k.n,.string k.text],.agg #[.bool hl,.bool hh,.int .i64 lo.kind,.int .i64 lo.n,.string lo.text,.int .i64 hi.kind,.int .i64 hi.n,.string hi.text]] w (ZL w (.bool (Zu k hl hh lo hi))):=by
 obtain⟨kd,n,t⟩:=k
 obtain⟨k1,n1,t1⟩:=lo
 obtain⟨k2,n2,t2⟩:=hi
 have hs:t.size≤maxLen:=h
 have hs1:t1.size≤maxLen:=h1
 have hs2:t2.size≤maxLen:=h2
 clear h h1 h2
 simp only
 have HE:=zh (show Zu ⟨kd,n,t⟩ hl hh ⟨k1,n1,t1⟩ ⟨k2,n2,t2⟩=(ZG ⟨kd,n,t⟩&&(!hl||ZG ⟨k1,n1,t1⟩)&&(!hh||ZG ⟨k2,n2,t2⟩)&&(!hl||decide (Zf ⟨k1,n1,t1⟩ ⟨kd,n,t⟩≤0))&&(!hh||decide (Zf ⟨kd,n,t⟩ ⟨k2,n2,t2⟩≤0))) from rfl)
 go_enter Tryz.func170,Tryz.ntmps170
 cases hl
 ·cases hh
  ·go_wp2_with fail
   refine(Zm ⟨kd,n,t⟩ _ hs).mono ?_
   cases eK:ZG ⟨kd,n,t⟩
   ·rintro e w1 ⟨rfl,hb1⟩
    obtain⟨hc_w1,hf_w1,hz_w1⟩:=Zc hb1
    try simp at hz_w1
    obtain⟨ha0_w1,ha1_w1⟩:=zg2 w.heap.size w1.heap.size
    have hb_w1:=zt (w:=w) hb1
    go_wp2_with fail
    all_goals go_ret
    all_goals exact⟨Zd (by rw[HE.out];simp[*]<;>(intros;first|assumption|omega)),bl⟩
   ·rintro e w1 ⟨rfl,hb1⟩
    obtain⟨hc_w1,hf_w1,hz_w1⟩:=Zc hb1
    try simp at hz_w1
    obtain⟨ha0_w1,ha1_w1⟩:=zg2 w.heap.size w1.heap.size
    have hb_w1:=zt (w:=w) hb1
    go_wp2_with fail
    all_goals go_ret
    all_goals exact⟨Zd (by rw[HE.out];simp[*]<;>(intros;first|assumption|omega)),bl⟩
  ·go_wp2_with fail
   refine(Zm ⟨kd,n,t⟩ _ hs).mono ?_
   cases eK:ZG ⟨kd,n,t⟩
   ·rintro e w1 ⟨rfl,hb1⟩
    obtain⟨hc_w1,hf_w1,hz_w1⟩:=Zc hb1
    try simp at hz_w1
    obtain⟨ha0_w1,ha1_w1⟩:=zg2 w.heap.size w1.heap.size
    have hb_w1:=zt (w:=w) hb1
    go_wp2_with fail
    all_goals go_ret
    all_goals exact⟨Zd (by rw[HE.out];simp[*]<;>(intros;first|assumption|omega)),bl⟩
   ·rintro e w1 ⟨rfl,hb1⟩
    obtain⟨hc_w1,hf_w1,hz_w1⟩:=Zc hb1
    try simp at hz_w1
    obtain⟨ha0_w1,ha1_w1⟩:=zg2 w.heap.size w1.heap.size
    have hb_w1:=zt (w:=w) hb1
    go_wp2_with fail
    refine(Zm ⟨k2,n2,t2⟩ _ hs2).mono ?_
    cases eH:ZG ⟨k2,n2,t2⟩
    ·rintro e w2 ⟨rfl,hb2⟩
     obtain⟨hc_w2,hf_w2,hz_w2⟩:=Zc hb2
     try simp at hz_w2
     obtain⟨ha0_w2,ha1_w2⟩:=zg2 w.heap.size w2.heap.size
     have hb_w2:=zt (w:=w) hb2
     go_wp2_with fail
     all_goals go_ret
     all_goals exact⟨Zd (by rw[HE.out];simp[*]<;>(intros;first|assumption|omega)),bl⟩
    ·rintro e w2 ⟨rfl,hb2⟩
     obtain⟨hc_w2,hf_w2,hz_w2⟩:=Zc hb2
     try simp at hz_w2
     obtain⟨ha0_w2,ha1_w2⟩:=zg2 w.heap.size w2.heap.size
     have hb_w2:=zt (w:=w) hb2
     go_wp2_with fail
     refine(ZA ⟨kd,n,t⟩ ⟨k2,n2,t2⟩ _ hs hs2).mono ?_
     by_cases cH:Zf ⟨kd,n,t⟩ ⟨k2,n2,t2⟩≤0
     ·rintro e w3 ⟨rfl,hb3⟩
      obtain⟨hc_w3,hf_w3,hz_w3⟩:=Zc hb3
      try simp at hz_w3
      obtain⟨ha0_w3,ha1_w3⟩:=zg2 w.heap.size w3.heap.size
      have hb_w3:=zt (w:=w) hb3
      go_wp2_with fail
      all_goals go_ret
      all_goals exact⟨Zd (by rw[HE.out];simp[*]<;>(intros;first|assumption|omega)),bl⟩
     ·rintro e w3 ⟨rfl,hb3⟩
      obtain⟨hc_w3,hf_w3,hz_w3⟩:=Zc hb3
      try simp at hz_w3
      obtain⟨ha0_w3,ha1_w3⟩:=zg2 w.heap.size w3.heap.size
      have hb_w3:=zt (w:=w) hb3
      go_wp2_with fail
      all_goals go_ret
      all_goals exact⟨Zd (by rw[HE.out];simp[*]<;>(intros;first|assumption|omega)),bl⟩
 ·cases hh
  ·go_wp2_with fail
   refine(Zm ⟨kd,n,t⟩ _ hs).mono ?_
   cases eK:ZG ⟨kd,n,t⟩
   ·rintro e w1 ⟨rfl,hb1⟩
    obtain⟨hc_w1,hf_w1,hz_w1⟩:=Zc hb1
    try simp at hz_w1
    obtain⟨ha0_w1,ha1_w1⟩:=zg2 w.heap.size w1.heap.size
    have hb_w1:=zt (w:=w) hb1
    go_wp2_with fail
    all_goals go_ret
    all_goals exact⟨Zd (by rw[HE.out];simp[*]<;>(intros;first|assumption|omega)),bl⟩
   ·rintro e w1 ⟨rfl,hb1⟩
    obtain⟨hc_w1,hf_w1,hz_w1⟩:=Zc hb1
    try simp at hz_w1
    obtain⟨ha0_w1,ha1_w1⟩:=zg2 w.heap.size w1.heap.size
    have hb_w1:=zt (w:=w) hb1
    go_wp2_with fail
    refine(Zm ⟨k1,n1,t1⟩ _ hs1).mono ?_
    cases eL:ZG ⟨k1,n1,t1⟩
    ·rintro e w2 ⟨rfl,hb2⟩
     obtain⟨hc_w2,hf_w2,hz_w2⟩:=Zc hb2
     try simp at hz_w2
     obtain⟨ha0_w2,ha1_w2⟩:=zg2 w.heap.size w2.heap.size
     have hb_w2:=zt (w:=w) hb2
     go_wp2_with fail
     all_goals go_ret
     all_goals exact⟨Zd (by rw[HE.out];simp[*]<;>(intros;first|assumption|omega)),bl⟩
    ·rintro e w2 ⟨rfl,hb2⟩
     obtain⟨hc_w2,hf_w2,hz_w2⟩:=Zc hb2
     try simp at hz_w2
     obtain⟨ha0_w2,ha1_w2⟩:=zg2 w.heap.size w2.heap.size
     have hb_w2:=zt (w:=w) hb2
     go_wp2_with fail
     refine(ZA ⟨k1,n1,t1⟩ ⟨kd,n,t⟩ _ hs1 hs).mono ?_
     by_cases cL:Zf ⟨k1,n1,t1⟩ ⟨kd,n,t⟩≤0
     ·rintro e w3 ⟨rfl,hb3⟩
      obtain⟨hc_w3,hf_w3,hz_w3⟩:=Zc hb3
      try simp at hz_w3
      obtain⟨ha0_w3,ha1_w3⟩:=zg2 w.heap.size w3.heap.size
      have hb_w3:=zt (w:=w) hb3
      go_wp2_with fail
      all_goals go_ret
      all_goals exact⟨Zd (by rw[HE.out];simp[*]<;>(intros;first|assumption|omega)),bl⟩
     ·rintro e w3 ⟨rfl,hb3⟩
      obtain⟨hc_w3,hf_w3,hz_w3⟩:=Zc hb3
      try simp at hz_w3
      obtain⟨ha0_w3,ha1_w3⟩:=zg2 w.heap.size w3.heap.size
      have hb_w3:=zt (w:=w) hb3
      go_wp2_with fail
      all_goals go_ret
      all_goals exact⟨Zd (by rw[HE.out];simp[*]<;>(intros;first|assumption|omega)),bl⟩
  ·go_wp2_with fail
   refine(Zm ⟨kd,n,t⟩ _ hs).mono ?_
   cases eK:ZG ⟨kd,n,t⟩
   ·rintro e w1 ⟨rfl,hb1⟩
    obtain⟨hc_w1,hf_w1,hz_w1⟩:=Zc hb1
    try simp at hz_w1
    obtain⟨ha0_w1,ha1_w1⟩:=zg2 w.heap.size w1.heap.size
    have hb_w1:=zt (w:=w) hb1
    go_wp2_with fail
    all_goals go_ret
    all_goals exact⟨Zd (by rw[HE.out];simp[*]<;>(intros;first|assumption|omega)),bl⟩
   ·rintro e w1 ⟨rfl,hb1⟩
    obtain⟨hc_w1,hf_w1,hz_w1⟩:=Zc hb1
    try simp at hz_w1
    obtain⟨ha0_w1,ha1_w1⟩:=zg2 w.heap.size w1.heap.size
    have hb_w1:=zt (w:=w) hb1
    go_wp2_with fail
    refine(Zm ⟨k1,n1,t1⟩ _ hs1).mono ?_
    cases eL:ZG ⟨k1,n1,t1⟩
    ·rintro e w2 ⟨rfl,hb2⟩
     obtain⟨hc_w2,hf_w2,hz_w2⟩:=Zc hb2
     try simp at hz_w2
     obtain⟨ha0_w2,ha1_w2⟩:=zg2 w.heap.size w2.heap.size
     have hb_w2:=zt (w:=w) hb2
     go_wp2_with fail
     all_goals go_ret
     all_goals exact⟨Zd (by rw[HE.out];simp[*]<;>(intros;first|assumption|omega)),bl⟩
    ·rintro e w2 ⟨rfl,hb2⟩
     obtain⟨hc_w2,hf_w2,hz_w2⟩:=Zc hb2
     try simp at hz_w2
     obtain⟨ha0_w2,ha1_w2⟩:=zg2 w.heap.size w2.heap.size
     have hb_w2:=zt (w:=w) hb2
     go_wp2_with fail
     refine(Zm ⟨k2,n2,t2⟩ _ hs2).mono ?_
     cases eH:ZG ⟨k2,n2,t2⟩
     ·rintro e w3 ⟨rfl,hb3⟩
      obtain⟨hc_w3,hf_w3,hz_w3⟩:=Zc hb3
      try simp at hz_w3
      obtain⟨ha0_w3,ha1_w3⟩:=zg2 w.heap.size w3.heap.size
      have hb_w3:=zt (w:=w) hb3
      go_wp2_with fail
      all_goals go_ret
      all_goals exact⟨Zd (by rw[HE.out];simp[*]<;>(intros;first|assumption|omega)),bl⟩
     ·rintro e w3 ⟨rfl,hb3⟩
      obtain⟨hc_w3,hf_w3,hz_w3⟩:=Zc hb3
      try simp at hz_w3
      obtain⟨ha0_w3,ha1_w3⟩:=zg2 w.heap.size w3.heap.size
      have hb_w3:=zt (w:=w) hb3
      go_wp2_with fail
      refine(ZA ⟨k1,n1,t1⟩ ⟨kd,n,t⟩ _ hs1 hs).mono ?_
      by_cases cL:Zf ⟨k1,n1,t1⟩ ⟨kd,n,t⟩≤0
      ·rintro e w4 ⟨rfl,hb4⟩
       obtain⟨hc_w4,hf_w4,hz_w4⟩:=Zc hb4
       try simp at hz_w4
       obtain⟨ha0_w4,ha1_w4⟩:=zg2 w.heap.size w4.heap.size
       have hb_w4:=zt (w:=w) hb4
       go_wp2_with fail
       refine(ZA ⟨kd,n,t⟩ ⟨k2,n2,t2⟩ _ hs hs2).mono ?_
       by_cases cH:Zf ⟨kd,n,t⟩ ⟨k2,n2,t2⟩≤0
       ·rintro e w5 ⟨rfl,hb5⟩
        obtain⟨hc_w5,hf_w5,hz_w5⟩:=Zc hb5
        try simp at hz_w5
        obtain⟨ha0_w5,ha1_w5⟩:=zg2 w.heap.size w5.heap.size
        have hb_w5:=zt (w:=w) hb5
        go_wp2_with fail
        all_goals go_ret
        all_goals exact⟨Zd (by rw[HE.out];simp[*]<;>(intros;first|assumption|omega)),bl⟩
       ·rintro e w5 ⟨rfl,hb5⟩
        obtain⟨hc_w5,hf_w5,hz_w5⟩:=Zc hb5
        try simp at hz_w5
        obtain⟨ha0_w5,ha1_w5⟩:=zg2 w.heap.size w5.heap.size
        have hb_w5:=zt (w:=w) hb5
        go_wp2_with fail
        all_goals go_ret
        all_goals exact⟨Zd (by rw[HE.out];simp[*]<;>(intros;first|assumption|omega)),bl⟩
      ·rintro e w4 ⟨rfl,hb4⟩
       obtain⟨hc_w4,hf_w4,hz_w4⟩:=Zc hb4
       try simp at hz_w4
       obtain⟨ha0_w4,ha1_w4⟩:=zg2 w.heap.size w4.heap.size
       have hb_w4:=zt (w:=w) hb4
       go_wp2_with fail
       all_goals go_ret
       all_goals exact⟨Zd (by rw[HE.out];simp[*]<;>(intros;first|assumption|omega)),bl⟩
end Go.Proofs.YtghndifnohkokaaGreat
