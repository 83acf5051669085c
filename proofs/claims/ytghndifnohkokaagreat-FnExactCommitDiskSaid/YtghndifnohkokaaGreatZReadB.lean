/-
  ReadB, IdxIn of the seat. No conditions but sizes.
-/
import Derived.Test.YtghndifnohkokaaGreatZReadU
import Derived.Test.YtghndifnohkokaaGreatZBase
import Derived.Test.YtghndifnohkokaaGreatZOpsPlain
import Derived.LoopTactic
import Derived.StillTailTactics
namespace Go.Proofs.YtghndifnohkokaaGreat
open Go.ChangeShapes Go.WideShapes Go.RowKit
set_option linter.unusedVariables false
set_option linter.unusedSimpArgs false
set_option maxRecDepth 100000
set_option maxHeartbeats 16000000
def Zqe (p:Prop):Prop:=p
theorem Ziy {p:Prop} (h:Zqe p):p:=h
theorem goB {p:Prop} (h:p):Zqe p:=h
def rdB (b:List UInt8) (a:Int) (most:Nat):List UInt8×Int×Bool:=if a<0 then ([],0,false) else match Zbb b a.toNat most with|some (s,nx)=>(s,(nx:Int),true)|none=>([],0,false)
def Znx (w:World) (r:List UInt8×Int×Bool) (e:Ending) (w':World):Prop:=∃v F,e=.returned (.tuple #[v,.int .i64 r.2.1,.bool r.2.2])∧Below w.heap.size w w'∧cUS.rep w' [v] r.1 F∧Fresh w.heap.size F
theorem ZeB {b:List UInt8} {a:Int} {most:Nat} (h:0≤a→Zbb b a.toNat most=none):rdB b a most=([],0,false):=by
 unfold rdB
 split
 ·rfl
 ·rename_i h0;rw[h (by omega)]
theorem ZfE (b:List UInt8) (a:Int):(rdU b a=(0,0,false)∧(0≤a→Zbj b a.toNat=none))∨∃n nx:Nat,rdU b a=((n:Int),(nx:Int),true)∧0≤a∧Zbj b a.toNat=some (n,nx):=by
 unfold rdU
 by_cases h:a<0
 ·rw[if_pos h];exact .inl ⟨rfl,λh2=>by omega⟩
 ·rw[if_neg h]
  cases hr:Zbj b a.toNat with
  | none=>exact .inl ⟨rfl,λ_=>rfl⟩
  | some r=>exact .inr ⟨r.1,r.2,rfl,by omega,rfl⟩
theorem ZbQ (w:World) (A:Option Addr):cUS.rep w [.slice A 0 0] [] []:=⟨A,0,rfl,Nat.le_refl _,by decide,.inl ⟨rfl,rfl⟩⟩
theorem Zkl {α:Type} {c:Cod α} {hw:0<c.wd} {hw2:c.wd≤32} {w:World} {A:Option Addr} {m cp:Nat} {xs:List α} {F:List Nat}
  (h:(cL c hw hw2).rep w [.slice A m cp] xs F) (n:Nat) (hn:n≤m):∃G,(cL c hw hw2).rep w [.slice A n cp] (xs.take n) G∧∀b,b∈G→b∈F:=by
 obtain⟨A',cp',hv,hl,hm,hr⟩:=h
 simp only[List.cons.injEq,Value.slice.injEq,and_true] at hv
 obtain⟨rfl,rfl,rfl⟩:=hv
 have hlen:(xs.take n).length=n:=by rw[List.length_take];omega
 by_cases hd:xs.take n=[]
 ·exact⟨[],⟨_,_,by rw[hlen],by rw[hlen];omega,by omega,.inl ⟨hd,rfl⟩⟩,by simp⟩
 ·rcases hr with ⟨rfl,-⟩|⟨hne,g,o,Fs,us,rfl,rfl,hc,hr⟩
  ·simp at hd
  ·rw[← List.take_append_drop n xs] at hr
   obtain⟨u1,u2,F1,F2,rfl,rfl,h1,h2⟩:=Cod.reps_cut hr
   refine⟨g::F1,⟨_,_,by rw[hlen],by rw[hlen];omega,by omega,.inr ⟨hd,g,o,F1,u1,rfl,rfl,λj u hu=>hc j u ?_,h1⟩⟩,λb hb=>?_⟩
   ·rw[List.getElem?_append_left (List.getElem?_eq_some_iff.1 hu).1];exact hu
   ·rcases List.mem_cons.1 hb with rfl|hb
    ·simp
    ·simp[hb]
theorem ZlZ {w:World} {A:Option Addr} {c:Nat} {b:List UInt8} {F:List Nat} (h:cUS.rep w [.slice A b.length c] b F) (i n:Nat) (hin:i+n≤b.length):∃G,cUS.rep w [.slice (if c=i then A else A.map (·.add i)) n (c-i)] ((b.drop i).take n) G:=by
 obtain⟨G,hG,-,-⟩:=Zgx h i (by omega)
 rw[show i*cU.wd=i from Nat.mul_one i] at hG
 obtain⟨G2,hG2,-⟩:=Zkl hG n (by omega)
 exact⟨G2,hG2⟩
theorem ZcI (v:Value) (b:List UInt8) (a:Int) (most:Nat) (F:List Nat) (w:World) (h:cUS.rep w [v] b F) (hb:b.length≤1000000000) (ha:-9223372036854775808≤a∧a≤9223372036854775807) (hmo:most≤1000000000) :
  Calls Tryz.prog 92 #[v,.int .i64 a,.int .i64 most] w (Znx w (rdB b a most)):=by
 obtain⟨i0,hi0,hz0,hz1,hz2⟩:=info_parts Zcs
 obtain⟨A,c,rfl⟩:=Zb h
 obtain⟨-,hcp,hm⟩:=Zq h
 unfold maxLen at hm
 go_enter Tryz.func92,Tryz.ntmps92
 go_wp2_with fail
 refine(Zar _ b a _ _ (by exact h) hb ha).mono ?_
 rcases ZfE b a with ⟨hr,hnone⟩|⟨n,nx,hr,h0,hsome⟩
 ·rw[hr]
  have HE:=zh (show rdB b a most=([],0,false) from ZeB λh9=>by unfold Zbb;rw[hnone h9])
  rintro e w1 ⟨rfl,hb1⟩
  go_wp2_with fail
  refine bodyPost_ret (v:=.tuple #[.slice (some ⟨w1.heap.size,0,none⟩) 0 0,.int .i64 0,.bool false]) (by simp[results,Tryz.results92,go_sem]) rfl ?_
  exact⟨_,[],by rw[HE.out],bl,by rw[HE.out];exact ZbQ _ _,Fresh.nil _⟩
 ·rw[hr]
  obtain⟨k1,k2,k3,-⟩:=Zas hsome
  rintro e w1 ⟨rfl,hb1⟩
  simp only
  by_cases hbm:most<n
  ·have hbi:(most:Int)<(n:Int):=by omega
   have HE:=zh (show rdB b a most=([],0,false) from ZeB λh9=>by unfold Zbb;rw[hsome];simp only;rw[if_pos (.inl hbm)])
   go_wp2_with fail
   refine bodyPost_ret (v:=.tuple #[.slice (some ⟨w1.heap.size,0,none⟩) 0 0,.int .i64 0,.bool false]) (by simp[results,Tryz.results92,go_sem]) rfl ?_
   exact⟨_,[],by rw[HE.out],bl,by rw[HE.out];exact ZbQ _ _,Fresh.nil _⟩
  ·have hbi:¬(most:Int)<(n:Int):=by omega
   by_cases hbl:b.length-nx<n
   ·have hbj:(b.length:Int)-(nx:Int)<(n:Int):=by omega
    have HE:=zh (show rdB b a most=([],0,false) from ZeB λh9=>by unfold Zbb;rw[hsome];simp only;rw[if_pos (.inr hbl)])
    go_wp2_with fail
    refine bodyPost_ret (v:=.tuple #[.slice (some ⟨w1.heap.size,0,none⟩) 0 0,.int .i64 0,.bool false]) (by simp[results,Tryz.results92,go_sem]) rfl ?_
    exact⟨_,[],by rw[HE.out],bl,by rw[HE.out];exact ZbQ _ _,Fresh.nil _⟩
   ·have hbj:¬(b.length:Int)-(nx:Int)<(n:Int):=by omega
    have HE:=zh (show rdB b a most=((b.drop nx).take n,((nx+n:Nat):Int),true) by unfold rdB Zbb;rw[if_neg (by omega),hsome];simp only;rw[if_neg (by omega)])
    have hsum:IntKind.i64.wrap ((nx:Int)+(n:Int))=(nx:Int)+(n:Int):=IntWalk.i64_in _ (by omega)
    have hnn:nx+n≤b.length:=by omega
    have hni:(nx:Int)+(n:Int)≤(b.length:Int):=by omega
    have hlen9:((b.drop nx).take n).length=n:=by rw[List.length_take,List.length_drop];omega
    generalize hys:(b.drop nx).take n=ys at *
    have hnl:n≤1000000000:=by omega
    by_cases hcn:c=nx
    ·obtain⟨Gm,hmid⟩:=ZlZ h nx n hnn
     rw[if_pos hcn,hys] at hmid
     have hcn2:=hcn.symm
     subst hcn2
     rw[Nat.sub_self] at hmid
     have HMD:=zh hmid
     clear hmid
     go_wp2_with fail
     refine(Zam _ ys _ _ (by exact zb HMD.out hb1) (by omega)).mono ?_
     rintro e w2 ⟨v2,rfl,hb2,ho2⟩
     have hB2:Below w.heap.size w w2:=Za hb1 hb2
     obtain⟨B2,d2,e2⟩:=ho2.slice
     rw[hlen9] at e2
     subst e2
     obtain⟨G,hrG,hfG,-⟩:=ho2.fresh (hw:=by decide) (hw2:=by decide)
     have HF:=zh (And.intro hrG (hfG.mono hb1.size))
     clear hrG hfG ho2
     go_wp2_with fail
     refine bodyPost_ret (v:=.tuple #[.slice B2 n d2,.int .i64 ((nx:Int)+(n:Int)),.bool true]) (by simp[results,Tryz.results92,go_sem]) rfl ?_
     exact⟨_,G,by rw[HE.out];rfl,hB2,by rw[HE.out];exact HF.out.1,HF.out.2⟩
    ·obtain⟨Gm,hmid⟩:=ZlZ h nx n hnn
     rw[if_neg hcn,hys] at hmid
     have HMD:=zh hmid
     clear hmid
     go_wp2_with fail
     refine(Zam _ ys _ _ (by exact zb HMD.out hb1) (by omega)).mono ?_
     rintro e w2 ⟨v2,rfl,hb2,ho2⟩
     have hB2:Below w.heap.size w w2:=Za hb1 hb2
     obtain⟨B2,d2,e2⟩:=ho2.slice
     rw[hlen9] at e2
     subst e2
     obtain⟨G,hrG,hfG,-⟩:=ho2.fresh (hw:=by decide) (hw2:=by decide)
     have HF:=zh (And.intro hrG (hfG.mono hb1.size))
     clear hrG hfG ho2
     go_wp2_with fail
     refine bodyPost_ret (v:=.tuple #[.slice B2 n d2,.int .i64 ((nx:Int)+(n:Int)),.bool true]) (by simp[results,Tryz.results92,go_sem]) rfl ?_
     exact⟨_,G,by rw[HE.out];rfl,hB2,by rw[HE.out];exact HF.out.1,HF.out.2⟩
theorem ZaS (v:Value) (b:List UInt8) (a:Int) (most:Nat) (F:List Nat) (w:World) (h:cUS.rep w [v] b F) (hb:b.length≤1000000000) (ha:-9223372036854775808≤a∧a≤9223372036854775807) (hmo:most≤1000000000) :
  Calls Tryz.prog 85 #[v,.int .i64 a,.int .i64 most] w (Znx w (rdB b a most)):=by
 obtain⟨i0,hi0,hz0,hz1,hz2⟩:=info_parts Zcs
 obtain⟨A,c,rfl⟩:=Zb h
 obtain⟨-,hcp,hm⟩:=Zq h
 unfold maxLen at hm
 go_enter Tryz.func85,Tryz.ntmps85
 go_wp2_with fail
 refine(ZaC _ b a _ _ (by exact h) hb ha).mono ?_
 rcases ZfE b a with ⟨hr,hnone⟩|⟨n,nx,hr,h0,hsome⟩
 ·rw[hr]
  have HE:=zh (show rdB b a most=([],0,false) from ZeB λh9=>by unfold Zbb;rw[hnone h9])
  rintro e w1 ⟨rfl,hb1⟩
  go_wp2_with fail
  refine bodyPost_ret (v:=.tuple #[.slice (some ⟨w1.heap.size,0,none⟩) 0 0,.int .i64 0,.bool false]) (by simp[results,Tryz.results85,go_sem]) rfl ?_
  exact⟨_,[],by rw[HE.out],bl,by rw[HE.out];exact ZbQ _ _,Fresh.nil _⟩
 ·rw[hr]
  obtain⟨k1,k2,k3,-⟩:=Zas hsome
  rintro e w1 ⟨rfl,hb1⟩
  simp only
  by_cases hbm:most<n
  ·have hbi:(most:Int)<(n:Int):=by omega
   have HE:=zh (show rdB b a most=([],0,false) from ZeB λh9=>by unfold Zbb;rw[hsome];simp only;rw[if_pos (.inl hbm)])
   go_wp2_with fail
   refine bodyPost_ret (v:=.tuple #[.slice (some ⟨w1.heap.size,0,none⟩) 0 0,.int .i64 0,.bool false]) (by simp[results,Tryz.results85,go_sem]) rfl ?_
   exact⟨_,[],by rw[HE.out],bl,by rw[HE.out];exact ZbQ _ _,Fresh.nil _⟩
  ·have hbi:¬(most:Int)<(n:Int):=by omega
   by_cases hbl:b.length-nx<n
   ·have hbj:(b.length:Int)-(nx:Int)<(n:Int):=by omega
    have HE:=zh (show rdB b a most=([],0,false) from ZeB λh9=>by unfold Zbb;rw[hsome];simp only;rw[if_pos (.inr hbl)])
    go_wp2_with fail
    refine bodyPost_ret (v:=.tuple #[.slice (some ⟨w1.heap.size,0,none⟩) 0 0,.int .i64 0,.bool false]) (by simp[results,Tryz.results85,go_sem]) rfl ?_
    exact⟨_,[],by rw[HE.out],bl,by rw[HE.out];exact ZbQ _ _,Fresh.nil _⟩
   ·have hbj:¬(b.length:Int)-(nx:Int)<(n:Int):=by omega
    have HE:=zh (show rdB b a most=((b.drop nx).take n,((nx+n:Nat):Int),true) by unfold rdB Zbb;rw[if_neg (by omega),hsome];simp only;rw[if_neg (by omega)])
    have hsum:IntKind.i64.wrap ((nx:Int)+(n:Int))=(nx:Int)+(n:Int):=IntWalk.i64_in _ (by omega)
    have hnn:nx+n≤b.length:=by omega
    have hni:(nx:Int)+(n:Int)≤(b.length:Int):=by omega
    have hlen9:((b.drop nx).take n).length=n:=by rw[List.length_take,List.length_drop];omega
    generalize hys:(b.drop nx).take n=ys at *
    have hnl:n≤1000000000:=by omega
    by_cases hcn:c=nx
    ·obtain⟨Gm,hmid⟩:=ZlZ h nx n hnn
     rw[if_pos hcn,hys] at hmid
     have hcn2:=hcn.symm
     subst hcn2
     rw[Nat.sub_self] at hmid
     have HMD:=zh hmid
     clear hmid
     go_wp2_with (at_builtin;refine Ziy ?_)
     refine goB ?_
     refine Zl (c:=cU) (xs:=[]) (ys:=ys) (Fi:=[]) (Fy:=[]) _ rfl _ _ _ rfl i0 _ _ Tryz.underlying26 hi0 hz0 hz1 hz2 rfl (by decide) (v:=.slice (some _) 0 0) rfl (Own.empty _) (.slice A n 0) rfl (AppSrc.flat (hw:=by decide) (hw2:=by decide) ZeN (zb HMD.out)) (by unfold maxLen;simp;omega) (by simp;omega) (Nat.le_refl _) (by simp[Zac]) ?_
     intro v2 w2 ho2 hg2 hat2
     replace ho2:Own cU 5 _ w2 v2 ys []:=ho2
     have hb2:Below _ _ w2:=(Below.refl _ _).grown hg2 (Nat.le_refl _) (by simp[Zac])
     have hB2:Below w.heap.size w w2:=Za hb1 (Za (ZM (Below.refl _ _) _) hb2)
     obtain⟨B2,d2,e2⟩:=ho2.slice
     rw[hlen9] at e2
     subst e2
     obtain⟨G,hrG,hfG,-⟩:=ho2.fresh (hw:=by decide) (hw2:=by decide)
     have HF:=zh (And.intro hrG (hfG.mono (show w.heap.size≤_ by have:=hb1.size;simp;omega)))
     clear hrG hfG ho2 hg2 hat2 hb2
     go_wp2_with fail
     refine bodyPost_ret (v:=.tuple #[.slice B2 n d2,.int .i64 ((nx:Int)+(n:Int)),.bool true]) (by simp[results,Tryz.results85,go_sem]) rfl ?_
     exact⟨_,G,by rw[HE.out];rfl,hB2,by rw[HE.out];exact HF.out.1,HF.out.2⟩
    ·obtain⟨Gm,hmid⟩:=ZlZ h nx n hnn
     rw[if_neg hcn,hys] at hmid
     have HMD:=zh hmid
     clear hmid
     go_wp2_with (at_builtin;refine Ziy ?_)
     refine goB ?_
     refine Zl (c:=cU) (xs:=[]) (ys:=ys) (Fi:=[]) (Fy:=[]) _ rfl _ _ _ rfl i0 _ _ Tryz.underlying26 hi0 hz0 hz1 hz2 rfl (by decide) (v:=.slice (some _) 0 0) rfl (Own.empty _) (.slice (A.map (·.add nx)) n (c-nx)) rfl (AppSrc.flat (hw:=by decide) (hw2:=by decide) ZeN (zb HMD.out)) (by unfold maxLen;simp;omega) (by simp;omega) (Nat.le_refl _) (by simp[Zac]) ?_
     intro v2 w2 ho2 hg2 hat2
     replace ho2:Own cU 5 _ w2 v2 ys []:=ho2
     have hb2:Below _ _ w2:=(Below.refl _ _).grown hg2 (Nat.le_refl _) (by simp[Zac])
     have hB2:Below w.heap.size w w2:=Za hb1 (Za (ZM (Below.refl _ _) _) hb2)
     obtain⟨B2,d2,e2⟩:=ho2.slice
     rw[hlen9] at e2
     subst e2
     obtain⟨G,hrG,hfG,-⟩:=ho2.fresh (hw:=by decide) (hw2:=by decide)
     have HF:=zh (And.intro hrG (hfG.mono (show w.heap.size≤_ by have:=hb1.size;simp;omega)))
     clear hrG hfG ho2 hg2 hat2 hb2
     go_wp2_with fail
     refine bodyPost_ret (v:=.tuple #[.slice B2 n d2,.int .i64 ((nx:Int)+(n:Int)),.bool true]) (by simp[results,Tryz.results85,go_sem]) rfl ?_
     exact⟨_,G,by rw[HE.out];rfl,hB2,by rw[HE.out];exact HF.out.1,HF.out.2⟩
theorem Zkz (a b:TIdx):Zef a b=(a.store.toList==b.store.toList&&(a.field.toList==b.field.toList&&true)):=by
 unfold Zef Zaz;rw[Bool.and_true]
theorem ZmY (a b:TIdx):Zef a b=Zef b a:=by unfold Zef;rw[ZjB a.store,ZjB a.field]
theorem ZnR : (Tryz.prog.fieldsOf 133).toList.map (fun f => (f.type, f.offset, f.name == "_")) = [(9, 0, false), (9, 1, false)] := by kernel_rfl
theorem ZoS:Tryz.prog.stoodInHeld 133=false:=by kernel_rfl
theorem Zmq:Tryz.prog.eqGuardType Tryz.prog.depth 133=false:=by kernel_rfl
theorem ZnS:Tryz.prog.underlying 133=some (.struct (Tryz.prog.fieldsOf 133)):=by kernel_rfl
theorem ZmZ (store store':ByteArray) (field field':ByteArray) (w:World) :
  (Op.equalIn 10000 133 (.agg #[.string store,.string field]) (.agg #[.string store',.string field'])).run Tryz.prog w=.ok (store.toList==store'.toList&&(field.toList==field'.toList&&(true))) w:=by
 rw[run_equalIn_agg (P:=Tryz.prog) w 9999 _ _ _ ZnS ZoS]
 have hM:=ZnR
 generalize (Tryz.prog.fieldsOf 133).toList=fs at hM
 obtain⟨f0,fs,rfl,h0,hM⟩:=List.map_eq_cons_iff.1 hM
 obtain⟨f1,fs,rfl,h1,hM⟩:=List.map_eq_cons_iff.1 hM
 obtain rfl:=List.map_eq_nil_iff.1 hM
 exact Zco h0 (Zfi Tryz.underlying9) rfl rfl (run_equalIn_string (P:=Tryz.prog) w _ _ _ _ Tryz.underlying9) (Zco h1 (Zfi Tryz.underlying9) rfl rfl (run_equalIn_string (P:=Tryz.prog) w _ _ _ _ Tryz.underlying9) (ZgB))
theorem Zin (store store':ByteArray) (field field':ByteArray) (w:World) :
  (binOp .eql 133 (.agg #[.string store,.string field]) (.agg #[.string store',.string field'])).run Tryz.prog w=.ok (.bool (store.toList==store'.toList&&(field.toList==field'.toList&&(true)))) w:=by
 rw[run_eql_struct,ZmZ];rfl
theorem ZoZ {α:Type} (p:α→Bool) (xs:List α) (k:Nat) (hk:k≤xs.length):(decide (0≤Zcm p (xs.take k)))=!ZaQ p xs k:=by
 have key:∀(xs:List α),decide (0≤Zcm p xs)=!ZaQ p xs xs.length:=by
  intro xs
  induction xs with
  | nil=>rfl
  | cons x xs ih =>
   cases hp:p x with
   | true=>simp[Zcm,hp,ZaQ]
   | false =>
    have e:Zcm p (x::xs)=if Zcm p xs<0 then -1 else Zcm p xs+1:=by simp[Zcm,hp]
    rw[e]
    have h2:ZaQ p (x::xs) (x::xs).length=ZaQ p xs xs.length:=by simp[ZaQ,hp]
    rw[h2,← ih]
    have h3:=ZhJ (p:=p) xs
    by_cases h4:Zcm p xs<0
    ·rw[if_pos h4];simp;omega
    ·rw[if_neg h4]
     rw[decide_eq_true (by omega),decide_eq_true (by omega)]
 rw[key (xs.take k)]
 congr 1
 unfold ZaQ
 simp[List.take_take,Nat.min_eq_left hk]
theorem ZkD (A:Option Addr) (cp:Nat) (xs:List TIdx) (v:TIdx) (F:List Nat) (w:World) (h:cIdxS.rep w [.slice A xs.length cp] xs F) :
  Calls Tryz.prog 151 #[.slice A xs.length cp,.agg #[.string v.store,.string v.field]] w (ZL w (.int .i64 (Zcm (λx=>Zef x v) xs))):=by
 obtain⟨-,hcp,hm⟩:=Zq h
 obtain⟨n,hxn⟩:∃n,xs.length=n:=⟨_,rfl⟩
 have HN:=zh hxn
 rw[hxn] at hcp⊢
 clear hxn
 unfold maxLen at hm
 have hgu:=Zmq
 go_enter Tryz.func151,Tryz.ntmps151
 go_wp2
 generalize hW:World.alloc _ _=W
 have hWs:W.heap.size=w.heap.size+1:=by rw[← hW];clear hW;simp
 have hbW:Below w.heap.size w W:=by rw[← hW];exact bl
 have HK:=zh (show W.cell? ⟨w.heap.size,0,none⟩=some (.string v.store)∧W.cell? ⟨w.heap.size,1,none⟩=some (.string v.field) from by refine⟨?_,?_⟩<;>(rw[← hW];clear hW;go_simp))
 clear hW
 go_loopw [8] (λi wr=>∃k:Nat,k≤n∧i=.int .i64 k∧ZaQ (λx:TIdx=>Zef x v) xs k=true∧Below W.heap.size W wr) (λi _=>n-(intOf i).toNat)
 case atStart=>exact⟨0,Nat.zero_le _,rfl,Zbu _ _,Below.refl _ _⟩
 case round =>
  obtain⟨k,hk,rfl,hno,hB⟩:=hrel
  have HO:=zh hno
  clear hno
  have hws_wr:w.heap.size<wr.heap.size:=by have:=hB.size;omega
  have hbw:Below w.heap.size w wr:=Za hbW hB
  have k0_wr:wr.cell? ⟨w.heap.size,0,none⟩=some (.string v.store):=zcl hB HK.out.1
  have k1_wr:wr.cell? ⟨w.heap.size,1,none⟩=some (.string v.field):=zcl hB HK.out.2
  by_cases hlt:k<n
  ·have hkx:k<xs.length:=by rw[HN.out];exact hlt
   obtain⟨g,o,rfl,hgF,hgw,-,q0,q1⟩:=Zky (zb h hbw) hkx
   have hki:((k:Int)<(n:Int)):=by omega
   have hng:=λW=>Zin v.store xs[k].store v.field xs[k].field W
   rw[← Zkz,ZmY] at hng
   cases he:Zef xs[k] v
   ·rw[he] at hng
    have HI:=zh he
    go_wp2_with fail
    go_quiet (fail)
    go_wp2_with fail
    go_roundw
    case rel=>exact⟨k+1,by omega,by go_num,Zbt _ xs k hkx HO.out HI.out,bl⟩
    case measure=>simp[intOf];omega
   ·rw[he] at hng
    have HI:=zh (ZcY (λx:TIdx=>Zef x v) xs k hkx HO.out he)
    go_wp2_with fail
    go_quiet (fail)
    go_wp2_with fail
    go_ret
    exact⟨Zh HI.out.symm,bl⟩
  ·obtain rfl:k=n:=by omega
   have HI:=zh (Zcp (λx:TIdx=>Zef x v) xs (by rw[HN.out];exact HO.out))
   go_wp2
   go_ret
   exact⟨Zh HI.out.symm,bl⟩
theorem Zcn (A:Option Addr) (n cp i:Nat) (xs:List TIdx) (v:TIdx) (F:List Nat) (w:World) (h:cIdxS.rep w [.slice A n cp] xs F) (hi:i≤n) :
  Calls Tryz.prog 117 #[.slice A i cp,.agg #[.string v.store,.string v.field]] w (ZL w (.bool (!ZaQ (λx=>Zef x v) xs i))):=by
 obtain⟨hn,-,-⟩:=Zq h
 obtain⟨G,hG,-⟩:=Zkl h i hi
 have hl:(xs.take i).length=i:=by rw[List.length_take];omega
 rw[← ZoZ _ xs i (by omega)]
 generalize xs.take i=ys at *
 subst hl
 go_enter Tryz.func117,Tryz.ntmps117
 go_wp2_with fail
 refine(ZkD A cp ys v _ _ (by exact zb hG)).mono ?_
 rintro e w1 ⟨rfl,hb1⟩
 have hB:=zt (w:=w) hb1
 clear hb1
 go_wp2_with fail
 go_ret
 exact⟨rfl,bl⟩
end Go.Proofs.YtghndifnohkokaaGreat
