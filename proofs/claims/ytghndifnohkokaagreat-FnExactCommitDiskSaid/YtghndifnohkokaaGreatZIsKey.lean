/-
  IsKey of the seat. No conditions but sizes.
-/
import Derived.Test.YtghndifnohkokaaGreatZOpsPlain
namespace Go.Proofs.YtghndifnohkokaaGreat
open Go.ChangeShapes Go.WideShapes Go.RowKit
set_option linter.unusedVariables false
set_option linter.unusedSimpArgs false
set_option maxRecDepth 100000
set_option maxHeartbeats 16000000
theorem Zr (k:TKey) (w:World) (hs:k.text.size≤maxLen) :
  Calls Tryz.prog 121 #[.agg #[.int .i64 k.kind,.int .i64 k.n,.string k.text]] w (ZL w (.bool (ZG k))):=by
 obtain⟨kd,n,t⟩:=k
 simp only at hs⊢
 have HE:=zh (show ZG ⟨kd,n,t⟩=(inR kd 1 3&&inR n (-1000000000000) 1000000000000&&Zby t&&(kd !=2||n==0)&&(kd !=1||t.toList==(⟨#[]⟩:ByteArray).toList)) from rfl)
 have hn0:(n !=0)=!(n==0):=rfl
 have hk2:(kd !=2)=!(kd==2):=rfl
 have hk1:(kd !=1)=!(kd==1):=rfl
 have htn:(t.toList !=(⟨#[]⟩:ByteArray).toList)=!(t.toList==(⟨#[]⟩:ByteArray).toList):=rfl
 cases e1:inR kd 1 3<;>cases e2:inR n (-1000000000000) 1000000000000<;>cases e3:Zby t<;>cases e4:(kd==2)<;>cases e5:(n==0)<;>cases e6:(kd==1)<;>cases e7:(t.toList==(⟨#[]⟩:ByteArray).toList)
 all_goals (rw[e4] at hk2;rw[e5] at hn0;rw[e6] at hk1;rw[e7] at htn)
 all_goals (go_enter Tryz.func121,Tryz.ntmps121;go_wp2_with (first|(go_at_call 114;refine(ZV _ _ _ _).mono ?_;rintro e w1 ⟨rfl,rfl⟩)|(go_at_call 159;refine(ZhN _ _ hs).mono ?_;rintro e w1 ⟨rfl,rfl⟩)))
 all_goals go_ret
 all_goals exact⟨Zd (by rw[HE.out];simp[*]),bl⟩
theorem Zm (k:TKey) (w:World) (hs:k.text.size≤maxLen) :
  Calls Tryz.prog 108 #[.agg #[.int .i64 k.kind,.int .i64 k.n,.string k.text]] w (ZL w (.bool (ZG k))):=by
 obtain⟨kd,n,t⟩:=k
 simp only at hs⊢
 have HE:=zh (show ZG ⟨kd,n,t⟩=(inR kd 1 3&&inR n (-1000000000000) 1000000000000&&Zby t&&(kd !=2||n==0)&&(kd !=1||t.toList==(⟨#[]⟩:ByteArray).toList)) from rfl)
 have hn0:(n !=0)=!(n==0):=rfl
 have hk2:(kd !=2)=!(kd==2):=rfl
 have hk1:(kd !=1)=!(kd==1):=rfl
 have htn:(t.toList !=(⟨#[]⟩:ByteArray).toList)=!(t.toList==(⟨#[]⟩:ByteArray).toList):=rfl
 cases e1:inR kd 1 3<;>cases e2:inR n (-1000000000000) 1000000000000<;>cases e3:Zby t<;>cases e4:(kd==2)<;>cases e5:(n==0)<;>cases e6:(kd==1)<;>cases e7:(t.toList==(⟨#[]⟩:ByteArray).toList)
 all_goals (rw[e4] at hk2;rw[e5] at hn0;rw[e6] at hk1;rw[e7] at htn)
 all_goals (go_enter Tryz.func108,Tryz.ntmps108;go_wp2_with (first|(go_at_call 106;refine(Zbf _ _ _ _).mono ?_;rintro e w1 ⟨rfl,rfl⟩)|(go_at_call 144;refine(Ziv _ _ hs).mono ?_;rintro e w1 ⟨rfl,rfl⟩)))
 all_goals go_ret
 all_goals exact⟨Zd (by rw[HE.out];simp[*]),bl⟩
end Go.Proofs.YtghndifnohkokaaGreat
