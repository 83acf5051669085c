/-
  IsRec of the seat. No conditions but sizes.
-/
import Derived.Test.YtghndifnohkokaaGreatZBase
import Derived.StillTailTactics
namespace Go.Proofs.YtghndifnohkokaaGreat
open Go.ChangeShapes Go.WideShapes Go.RowKit
set_option linter.unusedVariables false
set_option linter.unusedSimpArgs false
set_option maxRecDepth 100000
set_option maxHeartbeats 16000000
theorem ZgD {fs:List TField} {k:Nat} (h:k<fs.length) (h1:Zaj fs[k].name=false):Zbq fs k=false:=by rw[Zda h,h1];rfl
theorem Zfp {fs:List TField} {k:Nat} (h:k<fs.length) (h1:inR fs[k].n 0 1000000000=false):Zbq fs k=false:=by rw[Zda h,h1];simp
theorem ZgE {fs:List TField} (h:0<fs.length):Zbq fs 0=(Zaj fs[0].name&&inR fs[0].n 0 1000000000):=by rw[Zda h];simp
theorem Zgk {fs:List TField} {k:Nat} (h:k<fs.length) (h1:Zbq fs k=false):Ze ⟨fs⟩=false:=by
 show (Zbo (Zbq fs) fs.length&&_)=false
 rw[Zek h h1];rfl
theorem Zt (v:Value) (fs:List TField) (F:List Nat) (w:World) (h:cFieldS.rep w [v] fs F) :
  Calls Tryz.prog 122 #[.agg #[v]] w (ZL w (.bool (Ze ⟨fs⟩))):=by
 obtain⟨A,cp,rfl⟩:=Zb h
 obtain⟨-,hcp,hm⟩:=Zq h
 have HE:=zh (show Ze ⟨fs⟩=(Zbo (Zbq fs) fs.length&&decide ((fs.length:Int)≤6)) from rfl)
 obtain⟨n,hxn⟩:∃n,fs.length=n:=⟨_,rfl⟩
 have HN:=zh hxn
 rw[hxn] at hcp⊢
 clear hxn
 unfold maxLen at hm
 go_enter Tryz.func122,Tryz.ntmps122
 go_wp2
 generalize hW:World.alloc _ _=W
 have hWs:W.heap.size=w.heap.size+1:=by rw[← hW];clear hW;simp
 have hbW:Below w.heap.size w W:=by rw[← hW];exact bl
 have HK:=zh (show W.cell? ⟨w.heap.size,0,none⟩=some (.slice A n cp) from by (rw[← hW];clear hW;go_simp))
 clear hW
 go_loopw [8] (λi wr=>∃k:Nat,k≤n∧i=.int .i64 k∧Zbo (Zbq fs) k=true∧Below W.heap.size W wr) (λi _=>n-(intOf i).toNat)
 case atStart=>exact⟨0,Nat.zero_le _,rfl,ZbE _,Below.refl _ _⟩
 case round =>
  obtain⟨k,hk,rfl,hno,hB⟩:=hrel
  have HO:=zh hno
  clear hno
  have hws_wr:w.heap.size<wr.heap.size:=by have:=hB.size;omega
  have hbw:Below w.heap.size w wr:=Za hbW hB
  have k0_wr:wr.cell? ⟨w.heap.size,0,none⟩=some (.slice A n cp):=zcl hB HK.out
  by_cases hlt:k<n
  ·have hkx:k<fs.length:=by rw[HN.out];exact hlt
   obtain⟨g,o,rfl,hgF,hgw,⟨hs0,hn0⟩,q0,q1⟩:=ZbS (zb h hbw) hkx
   have hgn:¬g=wr.heap.size:=by omega
   have hki:((k:Int)<(n:Int)):=by omega
   have hcn:=λW:World=>ZK fs[k].name W (by assumption)
   have hin:=λW:World=>ZV fs[k].n 0 1000000000 W
   cases e1:Zaj fs[k].name
   ·rw[e1] at hcn
    have HB:=zh (Zgk hkx (ZgD hkx e1))
    go_wp2_with fail
    go_quiet (first|(go_at_call 113;first|exact Zae (hcn _)|exact Zqq (hcn _))|(go_at_call 114;first|exact Zae (hin _)|exact Zqq (hin _)))
    go_wp2_with fail
    go_ret
    exact⟨Zd HB.out.symm,bl⟩
   ·rw[e1] at hcn
    cases e2:inR fs[k].n 0 1000000000
    ·rw[e2] at hin
     have HB:=zh (Zgk hkx (Zfp hkx e2))
     go_wp2_with fail
     go_quiet (first|(go_at_call 113;first|exact Zae (hcn _)|exact Zqq (hcn _))|(go_at_call 114;first|exact Zae (hin _)|exact Zqq (hin _)))
     go_wp2_with fail
     go_ret
     exact⟨Zd HB.out.symm,bl⟩
    ·rw[e2] at hin
     cases k with
     | zero =>
      have HZ:=zh (show Zbq fs 0=true by rw[ZgE hkx,e1,e2];rfl)
      replace q0:wr.cell? ⟨g,o,none⟩=some (.string fs[0].name):=by simpa using q0
      replace q1:wr.cell? ⟨g,o+1,none⟩=some (.int .i64 fs[0].n):=by simpa using q1
      replace hki:(0:Int)<n:=by omega
      go_wp2_with fail
      go_quiet (first|(go_at_call 113;first|exact Zae (hcn _)|exact Zqq (hcn _))|(go_at_call 114;first|exact Zae (hin _)|exact Zqq (hin _)))
      go_wp2_with fail
      go_roundw
      case rel=>exact⟨1,by omega,by go_num,by rw[Zay,HZ.out];rfl,bl⟩
      case measure=>simp[intOf];omega
     | succ j =>
      have hjx:j<fs.length:=by omega
      obtain⟨g',o',eA,-,-,-,r0,-⟩:=ZbS (zb h hbw) hjx
      injection eA with eA
      injection eA with e8 e9
      subst e8
      subst e9
      have HG:=zh (Zdo hkx hjx)
      have hd1:decide ((0:Int)<(j:Int)+1)=true:=decide_eq_true (by omega)
      have hk0:(0:Int)≤(j:Int)+1:=by omega
      have hjn:((j:Int)<(n:Int)):=by omega
      replace hki:((j:Int)+1<(n:Int)):=by omega
      have htr:=ZgX fs[j+1].name fs[j].name
      cases hl:ZlR fs[j].name fs[j+1].name
      ·rw[hl,Bool.not_false] at htr
       have HB:=zh (Zgk hkx (show Zbq fs (j+1)=false by rw[HG.out,show ZcJ fs[j].name fs[j+1].name=false from hl];simp))
       go_wp2_with fail
       go_quiet (first|(go_at_call 113;first|exact Zae (hcn _)|exact Zqq (hcn _))|(go_at_call 114;first|exact Zae (hin _)|exact Zqq (hin _)))
       go_wp2_with fail
       go_ret
       exact⟨Zd HB.out.symm,bl⟩
      ·rw[hl,Bool.not_true] at htr
       have HZ:=zh (show Zbq fs (j+1)=true by rw[HG.out,e1,e2,show ZcJ fs[j].name fs[j+1].name=true from hl];rfl)
       go_wp2_with fail
       go_quiet (first|(go_at_call 113;first|exact Zae (hcn _)|exact Zqq (hcn _))|(go_at_call 114;first|exact Zae (hin _)|exact Zqq (hin _)))
       go_wp2_with fail
       go_roundw
       case rel=>exact⟨j+2,by omega,by go_num,by rw[Zay,HZ.out,HO.out];rfl,bl⟩
       case measure=>simp[intOf];omega
  ·obtain rfl:k=n:=by omega
   have HH:=zh (show Ze ⟨fs⟩=decide ((k:Int)≤6) by rw[HE.out,HN.out,HO.out];simp)
   go_wp2
   all_goals go_ret
   all_goals exact⟨Zd (by rw[HH.out]),bl⟩
theorem Zo (v:Value) (fs:List TField) (F:List Nat) (w:World) (h:cFieldS.rep w [v] fs F) :
  Calls Tryz.prog 109 #[.agg #[v]] w (ZL w (.bool (Ze ⟨fs⟩))):=by
 obtain⟨A,cp,rfl⟩:=Zb h
 obtain⟨-,hcp,hm⟩:=Zq h
 have HE:=zh (show Ze ⟨fs⟩=(Zbo (Zbq fs) fs.length&&decide ((fs.length:Int)≤6)) from rfl)
 obtain⟨n,hxn⟩:∃n,fs.length=n:=⟨_,rfl⟩
 have HN:=zh hxn
 rw[hxn] at hcp⊢
 clear hxn
 unfold maxLen at hm
 go_enter Tryz.func109,Tryz.ntmps109
 go_wp2
 generalize hW:World.alloc _ _=W
 have hWs:W.heap.size=w.heap.size+1:=by rw[← hW];clear hW;simp
 have hbW:Below w.heap.size w W:=by rw[← hW];exact bl
 have HK:=zh (show W.cell? ⟨w.heap.size,0,none⟩=some (.slice A n cp) from by (rw[← hW];clear hW;go_simp))
 clear hW
 go_loopw [3] (λi wr=>∃k:Nat,k≤n∧i=.int .i64 k∧Zbo (Zbq fs) k=true∧Below W.heap.size W wr) (λi _=>n-(intOf i).toNat)
 case atStart=>exact⟨0,Nat.zero_le _,rfl,ZbE _,Below.refl _ _⟩
 case round =>
  obtain⟨k,hk,rfl,hno,hB⟩:=hrel
  have HO:=zh hno
  clear hno
  have hws_wr:w.heap.size<wr.heap.size:=by have:=hB.size;omega
  have hbw:Below w.heap.size w wr:=Za hbW hB
  have k0_wr:wr.cell? ⟨w.heap.size,0,none⟩=some (.slice A n cp):=zcl hB HK.out
  by_cases hlt:k<n
  ·have hkx:k<fs.length:=by rw[HN.out];exact hlt
   obtain⟨g,o,rfl,hgF,hgw,⟨hs0,hn0⟩,q0,q1⟩:=ZbS (zb h hbw) hkx
   have hgn:¬g=wr.heap.size:=by omega
   have hki:((k:Int)<(n:Int)):=by omega
   have hcn:=λW:World=>Zaa fs[k].name W (by assumption)
   have hin:=λW:World=>Zbf fs[k].n 0 1000000000 W
   cases e1:Zaj fs[k].name
   ·have HB:=zh (Zgk hkx (ZgD hkx e1))
    rw[e1] at hcn
    go_wp2_with fail
    go_quiet (first|(go_at_call 104;first|exact Zae (hcn _)|exact Zqq (hcn _))|(go_at_call 106;first|exact Zae (hin _)|exact Zqq (hin _)))
    go_wp2_with fail
    go_ret
    exact⟨Zd HB.out.symm,bl⟩
   ·rw[e1] at hcn
    cases e2:inR fs[k].n 0 1000000000
    ·have HB:=zh (Zgk hkx (Zfp hkx e2))
     rw[e2] at hin
     go_wp2_with fail
     go_quiet (first|(go_at_call 104;first|exact Zae (hcn _)|exact Zqq (hcn _))|(go_at_call 106;first|exact Zae (hin _)|exact Zqq (hin _)))
     go_wp2_with fail
     go_ret
     exact⟨Zd HB.out.symm,bl⟩
    ·rw[e2] at hin
     cases k with
     | zero =>
      have HZ:=zh (show Zbq fs 0=true by rw[ZgE hkx,e1,e2];rfl)
      replace q0:wr.cell? ⟨g,o,none⟩=some (.string fs[0].name):=by simpa using q0
      replace q1:wr.cell? ⟨g,o+1,none⟩=some (.int .i64 fs[0].n):=by simpa using q1
      replace hki:(0:Int)<n:=by omega
      go_wp2_with fail
      go_quiet (first|(go_at_call 104;first|exact Zae (hcn _)|exact Zqq (hcn _))|(go_at_call 106;first|exact Zae (hin _)|exact Zqq (hin _)))
      go_wp2_with fail
      go_roundw
      case rel=>exact⟨1,by omega,by go_num,by rw[Zay,HZ.out];rfl,bl⟩
      case measure=>simp[intOf];omega
     | succ j =>
      have hjx:j<fs.length:=by omega
      obtain⟨g',o',eA,-,-,-,r0,-⟩:=ZbS (zb h hbw) hjx
      injection eA with eA
      injection eA with e8 e9
      subst e8
      subst e9
      have HG:=zh (Zdo hkx hjx)
      have hd1:decide ((0:Int)<(j:Int)+1)=true:=decide_eq_true (by omega)
      have hk0:(0:Int)≤(j:Int)+1:=by omega
      have hjn:((j:Int)<(n:Int)):=by omega
      replace hki:((j:Int)+1<(n:Int)):=by omega
      cases hl:Op.bytesLess fs[j].name.toList fs[j+1].name.toList
      ·have HB:=zh (Zgk hkx (show Zbq fs (j+1)=false by rw[HG.out,show ZcJ fs[j].name fs[j+1].name=false from hl];simp))
       go_wp2_with fail
       go_quiet (first|(go_at_call 104;first|exact Zae (hcn _)|exact Zqq (hcn _))|(go_at_call 106;first|exact Zae (hin _)|exact Zqq (hin _)))
       go_wp2_with fail
       go_ret
       exact⟨Zd HB.out.symm,bl⟩
      ·have HZ:=zh (show Zbq fs (j+1)=true by rw[HG.out,e1,e2,show ZcJ fs[j].name fs[j+1].name=true from hl];rfl)
       go_wp2_with fail
       go_quiet (first|(go_at_call 104;first|exact Zae (hcn _)|exact Zqq (hcn _))|(go_at_call 106;first|exact Zae (hin _)|exact Zqq (hin _)))
       go_wp2_with fail
       go_roundw
       case rel=>exact⟨j+2,by omega,by go_num,by rw[Zay,HZ.out,HO.out];rfl,bl⟩
       case measure=>simp[intOf];omega
  ·obtain rfl:k=n:=by omega
   have HH:=zh (show Ze ⟨fs⟩=decide ((k:Int)≤6) by rw[HE.out,HN.out,HO.out];simp)
   go_wp2
   all_goals go_ret
   all_goals exact⟨Zd (by rw[HH.out]),bl⟩
end Go.Proofs.YtghndifnohkokaaGreat
