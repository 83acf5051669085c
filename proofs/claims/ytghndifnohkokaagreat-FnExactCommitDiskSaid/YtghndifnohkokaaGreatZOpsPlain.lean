/-
  OpsPlain, Upd, OwnC, OwnUpd, OwnUpd2, Insert and others of the seat. No conditions but sizes.
-/
import Derived.Test.YtghndifnohkokaaGreatZBase
import Derived.Laws.CopyRow
import Derived.Lib.AppendZerosOnto
import Derived.Lib.Overlaps
import Derived.Laws.Externs
import Derived.Deep.CutRange
import Derived.Deep.RegionHeld3
import Derived.LoopTactic
import Derived.StillTailTactics
import Derived.Lib.Bytealg
import Derived.Laws.StructEq
import Derived.Laws.IdiomCopy
import Derived.Laws.IdiomStrings
import Derived.Laws.BytesArg
import Derived.Lib.AppendStr
import Derived.Test.YtghndifnohkokaaGreatRows
namespace Go.Proofs.YtghndifnohkokaaGreat
open Go.ChangeShapes Go.WideShapes Go.RowKit
set_option linter.unusedVariables false
set_option linter.unusedSimpArgs false
set_option maxRecDepth 100000
set_option maxHeartbeats 16000000
theorem uvar5 {n:Nat} (h:n≤1000000000):(ZJ n).length≤5:=Zax 4 n (by omega)
theorem Zqp {n:Nat} (h:n<128):(ZJ n).length=1:=by rw[ZcD h];rfl
theorem ZfV:∀fs:List TField,(∀f,f∈fs→Zaj f.name=true∧inR f.n 0 1000000000=true)→((fs.map ZcH).flatten).length≤14*fs.length
 | [],_=>Nat.le_refl _
 | f::fs,h=>by
  have h1:=h f (by simp)
  have h2:=ZfV fs λg hg=>h g (by simp[hg])
  have h3:=Zbr h1.1
  have h4:=ZbZ h1.2
  have h5:=uvar5 (n:=f.n.toNat) (by omega)
  have h6:=Zqp (n:=(Zp f.name).length) (by rw[Zbp];omega)
  have h7:(Zp f.name).length=f.name.size:=rfl
  simp only[List.map_cons,List.flatten_cons,List.length_append,ZcH,ZB,List.length_cons]
  omega
theorem ZbY (r:TRec):(Zx r).length≤85:=by
 unfold Zx
 cases h:Ze r with
 | false=>simp
 | true =>
  obtain⟨h1,-,h3⟩:=(Zbm r).1 h
  have h2:=ZfV r.fields h1
  have h4:=Zqp (n:=r.fields.length) (by omega)
  simp only[cond_true,ZfG,List.length_append]
  omega
theorem noText_iff {s:ByteArray}:ZeR s=true↔s=⟨#[]⟩:=by
 unfold ZeR
 constructor
 ·intro h;exact ZfO (by simpa using h)
 ·intro h;subst h;simp
theorem ZfB {o:TOp} (h:ZdR o=true):(1≤o.kind∧o.kind≤6)∧o.store.size≤8∧o.field.size≤8:=by
 unfold ZdR at h
 simp only[Bool.and_eq_true] at h
 refine⟨ZbZ h.1.1.1.1,(Zbr h.1.1.1.2).2,?_⟩
 have h9:=h.2
 cases hk:o.kind==6 with
 | true=>rw[hk] at h9;exact(Zbr h9).2
 | false=>rw[hk] at h9;rw[noText_iff.1 h9];exact Nat.zero_le _
theorem ZfF {b s:List UInt8} {at_ most nx:Nat} (h:Zbb b at_ most=some (s,nx)):s.length≤b.length:=by
 obtain⟨-,h1,h2,h3⟩:=Zbc h
 have:=congrArg List.length h3
 rw[List.length_take,List.length_drop] at this
 unfold ZB at this
 rw[List.length_append] at this
 omega
theorem ZlK {b:List UInt8} {at_:Nat} {o:TOp} {t:Nat} (h:ZaM b (100,100,200,100) at_=some (o,t)):ZaM b (b.length,b.length,b.length,b.length) at_=some (o,t):=by
 unfold ZaM at h⊢
 cases h1:Zbj b at_ with
 | none=>rw[h1] at h;simp at h
 | some r1 =>
  obtain⟨kind,p⟩:=r1
  rw[h1] at h
  simp only at h⊢
  cases h2:Zbb b p 100 with
  | none=>rw[h2] at h;simp at h
  | some r2 =>
   obtain⟨st,q⟩:=r2
   rw[h2] at h
   rw[ZeD h2 (ZfF h2)]
   simp only at h⊢
   cases h3:Zbb b q 100 with
   | none=>rw[h3] at h;simp at h
   | some r3 =>
    obtain⟨ky,r⟩:=r3
    rw[h3] at h
    rw[ZeD h3 (ZfF h3)]
    simp only at h⊢
    cases h4:Zbb b r 200 with
    | none=>rw[h4] at h;simp at h
    | some r4 =>
     obtain⟨rc,s⟩:=r4
     rw[h4] at h
     rw[ZeD h4 (ZfF h4)]
     simp only at h⊢
     cases h5:Zbb b s 100 with
     | none=>rw[h5] at h;simp at h
     | some r5 =>
      obtain⟨fl,u⟩:=r5
      rw[h5] at h
      rw[ZeD h5 (ZfF h5)]
      exact h
theorem ZgQ {b:List UInt8}:∀(n at_:Nat) {l:List TOp},Zad b (100,100,200,100) n at_=some l→Zad b (b.length,b.length,b.length,b.length) n at_=some l
 | 0,_,_,h=>h
 | n+1,at_,l,h=>by
  unfold Zad at h⊢
  cases h1:ZaM b (100,100,200,100) at_ with
  | none=>rw[h1] at h;simp at h
  | some r =>
   obtain⟨o,t⟩:=r
   rw[h1] at h
   rw[ZlK h1]
   simp only at h⊢
   cases h2:Zad b (100,100,200,100) n t with
   | none=>rw[h2] at h;simp at h
   | some m=>rw[h2] at h;rw[ZgQ n t h2];exact h
theorem Zey {b x y:List UInt8} {i:Nat} (h:b.drop i=x++y):b.drop (i+x.length)=y:=by rw[← List.drop_drop,h,List.drop_left]
theorem Zkb {b:List UInt8} {at_:Nat} {o:TOp} {t:Nat} {rest:List UInt8} (h:ZaM b (b.length,b.length,b.length,b.length) at_=some (o,t)) (ho:ZdR o=true) (hb:b.drop at_=ZbK o++rest):ZaM b (100,100,200,100) at_=some (o,t)∧t=at_+(ZbK o).length:=by
 obtain⟨hk,hs,hf⟩:=ZfB ho
 have hblen:(ZbK o).length≤b.length:=by
  have:=congrArg List.length hb
  rw[List.length_drop,List.length_append] at this
  omega
 have e0:ZbK o=ZJ o.kind.toNat++(ZB (Zp o.store)++(ZB (ZE o.key)++(ZB (Zx o.rcd)++ZB (Zp o.field)))):=rfl
 have hlp:∀s:List UInt8,s.length≤(ZB s).length:=λs=>by unfold ZB;rw[List.length_append];omega
 have l1:=hlp (Zp o.store);have l2:=hlp (ZE o.key);have l3:=hlp (Zx o.rcd);have l4:=hlp (Zp o.field)
 rw[e0] at hblen
 simp only[List.length_append] at hblen
 rw[e0,List.append_assoc] at hb
 have d1:=Zey hb
 rw[List.append_assoc] at d1
 have d2:=Zey d1
 rw[List.append_assoc] at d2
 have d3:=Zey d2
 rw[List.append_assoc] at d3
 have d4:=Zey d3
 have k1:=ZcX o.key
 have k2:=ZbY o.rcd
 have k3:(Zp o.store).length=o.store.size:=rfl
 have k4:(Zp o.field).length=o.field.size:=rfl
 have p1:=Zfj (n:=o.kind.toNat) (by omega) hb
 have p2:=λmost hm=>ZdV (most:=most) hm (by omega) d1
 have p3:=λmost hm=>ZdV (most:=most) hm (by omega) d2
 have p4:=λmost hm=>ZdV (most:=most) hm (by omega) d3
 have p5:=λmost hm=>ZdV (most:=most) (suf:=rest) hm (by omega) d4
 unfold ZaM at h⊢
 rw[p1] at h⊢
 simp only at h⊢
 rw[p2 b.length (by omega)] at h
 rw[p2 100 (by omega)]
 simp only at h⊢
 rw[p3 b.length (by omega)] at h
 rw[p3 100 (by omega)]
 simp only at h⊢
 rw[p4 b.length (by omega)] at h
 rw[p4 200 (by omega)]
 simp only at h⊢
 rw[p5 b.length (by omega)] at h
 rw[p5 100 (by omega)]
 simp only at h⊢
 refine⟨h,?_⟩
 simp only[Option.some.injEq,Prod.mk.injEq] at h
 rw[← h.2,e0]
 simp only[List.length_append]
 omega
theorem ZeS {b:List UInt8}:∀(n at_:Nat) {l:List TOp} {rest:List UInt8},Zad b (b.length,b.length,b.length,b.length) n at_=some l→l.all ZdR=true→b.drop at_=(l.map ZbK).flatten++rest→Zad b (100,100,200,100) n at_=some l
 | 0,_,_,_,h,_,_=>h
 | n+1,at_,l,rest,h,ha,hb=>by
  unfold Zad at h⊢
  cases h1:ZaM b (b.length,b.length,b.length,b.length) at_ with
  | none=>rw[h1] at h;simp at h
  | some r =>
   obtain⟨o,t⟩:=r
   rw[h1] at h
   simp only at h
   cases h2:Zad b (b.length,b.length,b.length,b.length) n t with
   | none=>rw[h2] at h;simp at h
   | some m =>
    rw[h2] at h
    simp only[Option.some.injEq] at h
    subst h
    simp only[List.all_cons,Bool.and_eq_true] at ha
    rw[List.map_cons,List.flatten_cons,List.append_assoc] at hb
    obtain⟨h3,h4⟩:=Zkb h1 ha.1 hb
    have h5:=Zey hb
    rw[← h4] at h5
    rw[h3]
    simp only
    rw[ZeS n t h2 ha.2 h5]
theorem Zil {b:List UInt8} {most:Nat×Nat×Nat×Nat}:∀(n at_:Nat) {l:List TOp},Zad b most n at_=some l→l.length=n
 | 0,_,l,h=>by
  unfold Zad at h
  simp only[Option.some.injEq] at h
  subst h;rfl
 | n+1,at_,l,h=>by
  unfold Zad at h
  cases h1:ZaM b most at_ with
  | none=>rw[h1] at h;simp at h
  | some r =>
   obtain⟨o,t⟩:=r
   rw[h1] at h
   simp only at h
   cases h2:Zad b most n t with
   | none=>rw[h2] at h;simp at h
   | some m =>
    rw[h2] at h
    simp only[Option.some.injEq] at h
    subst h
    rw[List.length_cons,Zil n t h2]
theorem ZiL (b:List UInt8):Zex b=ZW b:=by
 unfold Zex ZW ZaB
 cases h0:Zbj b 0 with
 | none=>rfl
 | some r =>
  obtain⟨n,nx⟩:=r
  simp only
  by_cases h6:6<n
  ·rw[if_pos h6,if_pos h6]
  ·rw[if_neg h6,if_neg h6]
   cases h1:Zad b (100,100,200,100) n nx with
   | some l=>rw[ZgQ n nx h1]
   | none =>
    cases h2:Zad b (b.length,b.length,b.length,b.length) n nx with
    | none=>rfl
    | some l =>
     simp only
     cases he:Zn l==b with
     | false=>rfl
     | true =>
      exfalso
      have he2:Zn l=b:=by simpa using he
      unfold Zn at he2
      cases ha:ZdC l with
      | false =>
       rw[ha] at he2
       have hb:b=[]:=he2.symm
       rw[hb] at h0
       simp[Zbj,ZdJ] at h0
      | true =>
       rw[ha] at he2
       replace he2:ZjZ l=b:=he2
       have hall:l.all ZdR=true:=by unfold ZdC at ha;simp only[Bool.and_eq_true] at ha;exact ha.1
       have hl:=Zil n nx h2
       have hd:b.drop 0=ZJ l.length++(l.map ZbK).flatten:=by rw[List.drop_zero,← he2];rfl
       have hp:=Zfj (n:=l.length) (by omega) hd
       rw[h0] at hp
       simp only[Option.some.injEq,Prod.mk.injEq,Nat.zero_add] at hp
       have hd2:=Zey hd
       rw[Nat.zero_add,← hp.2] at hd2
       have:=ZeS (rest:=[]) n nx h2 hall (by rw[List.append_nil];exact hd2)
       rw[h1] at this
       cases this
def ZU (n:Int) (data:List UInt8):Int:=Zhe ([101,n]++ZaG data)
def ZbO (log:List UInt8) (n at_:Nat):Option (List UInt8×Nat) :=
 match Zbb log at_ 4000 with
 | none=>none
 | some (data,nx)=>match Zbj log nx with
  | none=>none
  | some (sum,e)=>if (sum:Int)=ZU n data then some (data,e) else none
def Zbs (log:List UInt8):(fuel n at_:Nat)→List (List UInt8)
 | 0,_,_=>[]
 | f+1,n,at_=>match ZbO log n at_ with
  | none=>[]
  | some (d,e)=>d::Zbs log f (n+1) e
def Zak (log:List UInt8):List (List UInt8):=Zbs log (log.length+1) 0 0
theorem ZkJ {log:List UInt8} {n at_:Nat} {d:List UInt8} {e:Nat} (h:ZbO log n at_=some (d,e)):at_<e∧e≤log.length:=by
 unfold ZbO at h
 cases h1:Zbb log at_ 4000 with
 | none=>rw[h1] at h;simp at h
 | some r =>
  obtain⟨data,nx⟩:=r
  rw[h1] at h
  simp only at h
  cases h2:Zbj log nx with
  | none=>rw[h2] at h;simp at h
  | some r2 =>
   obtain⟨sum,e2⟩:=r2
   rw[h2] at h
   simp only at h
   split at h
   ·simp only[Option.some.injEq,Prod.mk.injEq] at h
    obtain⟨-,a1,a2,-⟩:=Zbc h1
    obtain⟨-,b1,b2,-⟩:=Zas h2
    omega
   ·simp at h
def Zao (log:List UInt8) (n:Int) (data:List UInt8):List UInt8×Bool :=
 if n<0∨4000<(log++ZB data++ZJ (ZU n data).toNat).length then (log,false) else (log++ZB data++ZJ (ZU n data).toNat,true)
def Zab:TDb→Nat→List (List UInt8)→TDb×Nat
 | d,i,[]=>(d,i)
 | d,i,e::es=>bif (ZW e).2 then Zab (Zba d (ZW e).1).1 (i+1) es else (d,i)
def ZQ (k:TDisk):TDb×Nat:=Zab k.base 0 (Zak k.log)
def ZaK (k:TDisk):TDisk:=⟨(ZQ k).1,[],0⟩
def ZH (k:TDisk) (ops:List TOp):TDisk×Bool :=
 bif (Zba (ZQ k).1 ops).2&&!(Zn ops).isEmpty&&decide (((ZQ k).2:Int)=k.count)&&(Zao k.log k.count (Zn ops)).2 then (⟨k.base,(Zao k.log k.count (Zn ops)).1,k.count+1⟩,true) else (k,false)
theorem cell?_set_same {w:World} {a:Addr} {u v:Value} (h:w.cell? a=some u):(w.setCell a v).cell? a=some v:=by
 obtain⟨b,o,sp⟩:=a
 have hs:sp=none:=by simpa using World.cell?_spot h
 subst hs
 unfold World.cell? at h⊢
 cases hh:w.heap[b]? with
 | none=>simp[hh] at h
 | some x =>
  cases x with
  | cells c e fz =>
   simp only[hh] at h
   have ho:o<c.size:=(Array.getElem?_eq_some_iff.1 (by simpa using h)).1
   simp[World.setCell,Array.getElem?_modify,hh,ho]
  | map _ _=>simp[hh] at h
  | _=>simp[hh] at h
theorem frozen?_set (w:World) (a b:Addr) (v:Value):(w.setCell a v).frozen? b=w.frozen? b:=by
 unfold World.frozen? World.setCell
 by_cases h:b.block=a.block
 ·simp only[Array.getElem?_modify,h]
  cases hh:w.heap[a.block]? with
  | none=>simp
  | some x=>cases x<;>simp
 ·simp only[Array.getElem?_modify]
  rw[if_neg (by omega)]
structure RS (w0 w:World) (g lo:Nat) (cells:List Value) (Fi:List Nat):Prop where
 glt:g<w0.heap.size
 only:Only (g::Fi) w0 w
 out:∀off,(off<lo∨lo+cells.length≤off)→w.cell? ⟨g,off,none⟩=w0.cell? ⟨g,off,none⟩
 frz:∀off,w.frozen? ⟨g,off,none⟩=w0.frozen? ⟨g,off,none⟩
 cell:∀j v,cells[j]?=some v→w.cell? ⟨g,lo+j,none⟩=some v
section
variable {w0 w w':World} {g lo:Nat} {cells:List Value} {Fi:List Nat}
theorem RS.set (h:RS w0 w g lo cells Fi) {j:Nat} (hj:j<cells.length) (v:Value):RS w0 (w.setCell ⟨g,lo+j,none⟩ v) g lo (cells.set j v) Fi:=by
 have h0:w.cell? ⟨g,lo+j,none⟩=some cells[j]:=h.cell j _ (List.getElem?_eq_getElem hj)
 refine⟨h.glt,h.only.set_ (p:=⟨g,lo+j,none⟩) (by simp) v,λoff hoff=>?_,λoff=>?_,λi u hu=>?_⟩
 ·rw[List.length_set] at hoff
  rw[World.cell?_setCell_other w ⟨g,lo+j,none⟩ ⟨g,off,none⟩ v (λe=>by injection e with _ e;omega)]
  exact h.out off hoff
 ·rw[frozen?_set];exact h.frz off
 ·by_cases hij:i=j
  ·subst hij
   rw[List.getElem?_set_self hj] at hu
   injection hu with hu
   subst hu
   exact cell?_set_same h0
  ·rw[List.getElem?_set_ne (by omega)] at hu
   rw[World.cell?_setCell_other w ⟨g,lo+j,none⟩ ⟨g,lo+i,none⟩ v (λe=>by injection e with _ e;omega)]
   exact h.cell i u hu
theorem RS.set0 (h:RS w0 w g lo cells Fi) (hj:0<cells.length) (v:Value):RS w0 (w.setCell ⟨g,lo,none⟩ v) g lo (cells.set 0 v) Fi:=h.set hj v
theorem RS.bel (h:RS w0 w g lo cells Fi) (hb:Below w.heap.size w w'):RS w0 w' g lo cells Fi:=by
 have hg:g<w.heap.size:=Nat.lt_of_lt_of_le h.glt h.only.size
 exact⟨h.glt,h.only.trans (.of_below hb),λoff ho=>zcl hb (h.out off ho),λoff=>zcf hb (h.frz off),λj v hv=>zcl hb (h.cell j v hv)⟩
theorem RS.sub (h:RS w0 w g lo cells Fi) {G:List Nat} (ho:Only G w w') (hG:∀x,x∈G→x∈Fi) (hg:g∉Fi):RS w0 w' g lo cells Fi:=by
 have hgl:g<w.heap.size:=Nat.lt_of_lt_of_le h.glt h.only.size
 have hb:w'.heap[g]?=w.heap[g]?:=ho.block g hgl (λhm=>hg (hG g hm))
 exact⟨h.glt,h.only.trans (ho.mono λx hx=>List.mem_cons_of_mem _ (hG x hx)),λoff ho=>(World.cell?_of_block (w:=w) (a:=⟨g,off,none⟩) hb).trans (h.out off ho),
  λoff=>(World.frozen?_of_block (w:=w) (a:=⟨g,off,none⟩) hb).trans (h.frz off),λj v hv=>(World.cell?_of_block (w:=w) (a:=⟨g,lo+j,none⟩) hb).trans (h.cell j v hv)⟩
end
section
variable {α:Type} {c:Cod α} {hw:0<c.wd} {hw2:c.wd≤32} {w:World} {A:Option Addr} {n cp:Nat} {xs:List α} {F:List Nat}
theorem Zja (h:(cL c hw hw2).rep w [.slice A n cp] xs F) (hnd:F.Nodup) {i:Nat} (hi:i<xs.length) :
  ∃g o vs Fi,A=some ⟨g,o,none⟩∧g∈F∧g∉Fi∧(∀b,b∈Fi→b∈F)∧Fi.Nodup∧c.rep w vs xs[i] Fi∧RS w w g (o+i*c.wd) vs Fi ∧
   (∀j,j<c.wd→w.frozen? ⟨g,o+i*c.wd+j,none⟩=false) ∧
   ∀w' vs' y',RS w w' g (o+i*c.wd) vs' Fi→c.rep w' vs' y' Fi→(cL c hw hw2).rep w' [.slice A n cp] (xs.set i y') F:=by
 obtain⟨A',cp',hv,hl,hm,hr⟩:=h
 simp only[List.cons.injEq,Value.slice.injEq,and_true] at hv
 obtain⟨rfl,rfl,rfl⟩:=hv
 rcases hr with ⟨rfl,_⟩|⟨hne,g,o,Fs,us,rfl,rfl,hc,hr⟩
 ·simp at hi
 ·have hsp:xs=xs.take i++xs[i]::xs.drop (i+1):=by rw[← List.drop_eq_getElem_cons hi,List.take_append_drop]
  have hr':c.reps w us (xs.take i++xs[i]::xs.drop (i+1)) Fs:=by rw[← hsp];exact hr
  obtain⟨u1,u2,G1,G2,rfl,rfl,r1,v1,v2,H1,H2,rfl,rfl,hx,r2⟩:=Cod.reps_cut hr'
  have hu1:=Cod.reps_len r1
  rw[List.length_take,Nat.min_eq_left (by omega)] at hu1
  have hv1:=c.len hx
  have hglt:g<w.heap.size:=hc.lt (by intro e;have:=congrArg List.length e;simp[hu1,hv1] at this;omega)
  have hnd':=List.nodup_cons.1 hnd
  have hndF:=List.nodup_append.1 hnd'.2
  have hndH:=List.nodup_append.1 hndF.2.1
  have hgH:g∉H1:=λhm=>hnd'.1 (by simp[hm])
  have hcv:CellsAt w g (o+i*c.wd) v1:=by
   have:=hc.right.left
   rwa [hu1] at this
  refine⟨g,o,v1,H1,rfl,by simp,hgH,λb hb=>by simp[hb],hndH.1,hx,⟨hglt,Only.refl _ _,λ_ _=>rfl,λ_=>rfl,λj v hj=>(hcv j v hj).1⟩,λj hj=>(hcv j _ (List.getElem?_eq_getElem (by omega))).2,?_⟩
  intro w' vs' y' hrs hy
  have hvl:=c.len hy
  have hlen:(xs.set i y').length=xs.length:=List.length_set
  have hset:xs.set i y'=xs.take i++y'::xs.drop (i+1):=List.set_eq_take_append_cons_drop.trans (by rw[if_pos hi])
  have hkeep:∀b,b∈G1∨b∈H2→b<w.heap.size→w'.heap[b]?=w.heap[b]?:=λb hb hlt=>hrs.only.block b hlt (by
   intro hm
   rcases List.mem_cons.1 hm with rfl|hm
   ·exact hnd'.1 (by rcases hb with hb|hb<;>simp[hb])
   ·rcases hb with hb|hb
    ·exact hndF.2.2 b hb b (by simp[hm]) rfl
    ·exact hndH.2.2 b hm b hb rfl)
  refine⟨some ⟨g,o,none⟩,cp,by rw[hlen],by rw[hlen];exact hl,hm,.inr ⟨by intro e;have:=congrArg List.length e;rw[hlen] at this;simp at this;exact hne this,g,o,G1++(H1++H2),u1++(vs'++v2),rfl,rfl,?_,?_⟩⟩
  ·intro j u hu
   by_cases h1:j<i*c.wd
   ·rw[List.getElem?_append_left (by omega)] at hu
    have h2:=hc j u (by rw[List.getElem?_append_left (by omega)];exact hu)
    exact⟨(hrs.out (o+j) (.inl (by omega))).trans h2.1,(hrs.frz _).trans h2.2⟩
   ·rw[List.getElem?_append_right (by omega)] at hu
    by_cases h3:j-u1.length<vs'.length
    ·rw[List.getElem?_append_left h3] at hu
     have h4:=hrs.cell _ _ hu
     have h5:=(hcv (j-u1.length) _ (List.getElem?_eq_getElem (by omega))).2
     rw[show o+i*c.wd+(j-u1.length)=o+j by omega] at h4 h5
     exact⟨h4,(hrs.frz _).trans h5⟩
    ·have h2:=hc j u (by rw[List.getElem?_append_right (by omega),List.getElem?_append_right (by omega)];rw[List.getElem?_append_right (by omega)] at hu;rw[hvl,← hv1] at hu;exact hu)
     exact⟨(hrs.out (o+j) (.inr (by omega))).trans h2.1,(hrs.frz _).trans h2.2⟩
  ·rw[hset]
   refine Cod.reps_app (Cod.reps_keep r1 λb hb=>hkeep b (.inl hb) (Cod.reps_lt r1 b hb)) ⟨vs',v2,H1,H2,rfl,rfl,hy,Cod.reps_keep r2 λb hb=>hkeep b (.inr hb) (Cod.reps_lt r2 b hb)⟩
end
theorem Cod.set_ {α:Type} {c:Cod α} {w:World} {vs:List Value} {x:α} {F:List Nat} (h:c.rep w vs x F) {g:Nat} (hg:g∉F) (i:Nat) (v:Value):c.rep (w.setCell ⟨g,i,none⟩ v) vs x F :=
 c.keep h λb hb=>Below.heap_setCell _ _ _ _ (λe=>hg (by subst e;exact hb))
theorem ZkK (k:Int):(((UInt8.ofNat (k % 256).toNat).toNat:Nat):Int)=k % 256:=by
 rw[UInt8.toNat_ofNat'];omega
section
variable {α:Type} (c:Cod α)
def Cod.mkTo (k:Int) (xs:List α) (i:Nat):List α:=c.mks k (xs.take i)++xs.drop i
theorem Cod.mkTo_zero (k:Int) (xs:List α):c.mkTo k xs 0=xs:=by simp[Cod.mkTo,Cod.mks]
theorem Cod.mkTo_end (k:Int) (xs:List α):c.mkTo k xs xs.length=c.mks k xs:=by simp[Cod.mkTo]
theorem Cod.mkTo_len (k:Int) (xs:List α) (i:Nat):(c.mkTo k xs i).length=xs.length:=by
 simp only[Cod.mkTo,List.length_append,Cod.mks_len,List.length_take,List.length_drop];omega
theorem Cod.mkTo_get (k:Int) (xs:List α) (i:Nat) (hi:i<xs.length) (h:i<(c.mkTo k xs i).length):(c.mkTo k xs i)[i]=xs[i]:=by
 simp only[Cod.mkTo]
 rw[List.getElem_append_right (by rw[Cod.mks_len,List.length_take];omega)]
 simp only[Cod.mks_len,List.length_take,Nat.min_eq_left (Nat.le_of_lt hi),Nat.sub_self]
 rw[List.getElem_drop];simp
theorem Cod.mkTo_set (k:Int) (xs:List α) (i:Nat) (hi:i<xs.length):(c.mkTo k xs i).set i (c.mrk (k+c.cns (xs.take i)) xs[i])=c.mkTo k xs (i+1):=by
 simp only[Cod.mkTo]
 have hl:(c.mks k (xs.take i)).length=i:=by rw[Cod.mks_len,List.length_take,Nat.min_eq_left (Nat.le_of_lt hi)]
 rw[List.set_append_right _ _ (by omega),hl,Nat.sub_self,List.drop_eq_getElem_cons hi,List.set_cons_zero,List.take_succ_eq_append_getElem hi,Cod.mks_app,List.append_assoc]
 simp[Cod.mks]
theorem Cod.cns_succ (xs:List α) (i:Nat) (hi:i<xs.length):c.cns (xs.take (i+1))=c.cns (xs.take i)+c.cn xs[i]:=by
 rw[List.take_succ_eq_append_getElem hi,Cod.cns_app];simp[Cod.cns]
theorem Cod.cns_take_le (xs:List α) (i:Nat):c.cns (xs.take i)≤c.cns xs:=by
 conv=>rhs;rw[← List.take_append_drop i xs,Cod.cns_app]
 omega
theorem Cod.mks_get (k:Int):∀(xs:List α) (i:Nat) (hi:i<xs.length) (h:i<(c.mks k xs).length),(c.mks k xs)[i]=c.mrk (k+c.cns (xs.take i)) xs[i]:=by
 intro xs i hi h
 have h1:c.mks k xs=c.mks k (xs.take i)++c.mks (k+c.cns (xs.take i)) (xs.drop i):=by rw[← Cod.mks_app,List.take_append_drop]
 have hl:(c.mks k (xs.take i)).length=i:=by rw[Cod.mks_len,List.length_take,Nat.min_eq_left (Nat.le_of_lt hi)]
 simp only[h1]
 rw[List.getElem_append_right (by omega)]
 simp only[hl,Nat.sub_self,List.drop_eq_getElem_cons hi,Cod.mks,List.getElem_cons_zero]
end
section
variable {α:Type} {c:Cod α} {e:TypeId} {B:Nat} {w w':World} {v:Value} {xs:List α} {Fi:List Nat}
theorem Own.raise (h:Own c e 0 w v xs Fi) (hB:∀g,Zac v=some g→B≤g):Own c e B w v xs Fi:=by
 rcases h.form with h|⟨g,cap,cur,us,rfl,h0,hh,hn,hm,hs,ht,ho,hr⟩
 ·exact .inl h
 ·exact .inr ⟨us,⟨ho.1,.inr ⟨g,cap+1,cur,rfl,hB g rfl,hh,hn,hm,hs,ht⟩⟩,hr⟩
end
def ZlG (v:Value):List Nat:=match Zac v with|some g=>[g]|none=>[]
theorem mem_ownL {v:Value} {b:Nat}:b∈ZlG v↔Zac v=some b:=by
 unfold ZlG
 cases h:Zac v with
 | none=>simp
 | some g=>simp[eq_comm]
def cO {α:Type} (c:Cod α) (e:TypeId) (hw2:c.wd≤32):Cod (List α) where
 wd:=1
 rep:=λw vs xs F=>∃v Fi,vs=[v]∧Own c e 0 w v xs Fi∧F=ZlG v++Fi
 sz:=c.szs
 mrk:=c.mks
 cn:=c.cns
 mkcn:=c.mks_cns
 cnle:=λxs=>Nat.le_trans (Cod.cns_le c hw2 xs) (by omega)
 len:=fun⟨_,_,h,_⟩=>by rw[h];rfl
 keep:=fun⟨v,Fi,h,ho,hF⟩ hb=>⟨v,Fi,h,ho.keep (λg hg=>hb g (by rw[hF];simp[mem_ownL,hg])) (λb hm=>hb b (by rw[hF];simp[hm])),hF⟩
 lt:=fun⟨v,Fi,h,ho,hF⟩ b hb=>by
  rw[hF,List.mem_append,mem_ownL] at hb
  rcases hb with hb|hb
  ·exact(ho.lt b hb).2
  ·exact ho.inner_lt b hb
 ones:=fun⟨v,Fi,h,ho,hF⟩ u hu=>by
  rw[h] at hu;simp at hu;subst hu
  obtain⟨A,cp,rfl⟩:=ho.slice
  rfl
theorem ZnE {α:Type} {c:Cod α} {e:TypeId} {hw2:c.wd≤32} {w:World} {v:Value} {xs:List α} {F:List Nat} {B:Nat} (h:(cO c e hw2).rep w [v] xs F) (hf:Fresh B F) :
  ∃Fi,F=ZlG v++Fi∧Own c e B w v xs Fi∧Fresh B Fi∧(∀g,Zac v=some g→g∉Fi)∧∀g,Zac v=some g→B≤g:=by
 obtain⟨v',Fi,hv,ho,rfl⟩:=h
 simp only[List.cons.injEq,and_true] at hv
 subst hv
 have hB:∀g,Zac v=some g→B≤g:=λg hg=>hf.1 g (by simp[mem_ownL,hg])
 have hnd:=List.nodup_append.1 hf.2
 exact⟨Fi,rfl,ho.raise hB,⟨λb hb=>hf.1 b (by simp[hb]),hnd.2.1⟩,λg hg hm=>hnd.2.2 g (mem_ownL.2 hg) g hm rfl,hB⟩
theorem Own.toO {α:Type} {c:Cod α} {e:TypeId} {hw2:c.wd≤32} {w:World} {v:Value} {xs:List α} {Fi:List Nat} {B:Nat} (h:Own c e B w v xs Fi) (hf:Fresh B Fi) (hd:∀g,Zac v=some g→g∉Fi) :
  (cO c e hw2).rep w [v] xs (ZlG v++Fi)∧Fresh B (ZlG v++Fi):=by
 refine⟨⟨v,Fi,rfl,h.mono (Nat.zero_le _),rfl⟩,λb hb=>?_,List.nodup_append.2 ⟨?_,hf.2,λa ha b hb hab=>?_⟩⟩
 ·rcases List.mem_append.1 hb with hb|hb
  ·exact(h.lt b (mem_ownL.1 hb)).1
  ·exact hf.1 b hb
 ·unfold ZlG;split<;>simp
 ·subst hab;exact hd a (mem_ownL.1 ha) hb
def Weak {α:Type} (c d:Cod α):Prop:=c.wd=d.wd∧∀{w vs x F},c.rep w vs x F→∃G,d.rep w vs x G∧G.Sublist F
theorem Weak.refl {α:Type} (c:Cod α):Weak c c:=⟨rfl,λh=>⟨_,h,List.Sublist.refl _⟩⟩
theorem Weak.reps {α:Type} {c d:Cod α} (k:Weak c d) {w:World}:∀{us:List Value} {xs:List α} {F:List Nat},c.reps w us xs F→∃G,d.reps w us xs G∧G.Sublist F
 | us,[],F,h=>⟨[],⟨h.1,rfl⟩,by rw[h.2];exact List.Sublist.refl _⟩
 | us,x::xs,F,⟨v1,v2,F1,F2,h,hF,h1,h2⟩=>by
  obtain⟨G1,k1,s1⟩:=k.2 h1
  obtain⟨G2,k2,s2⟩:=Weak.reps k h2
  exact⟨G1++G2,⟨v1,v2,G1,G2,h,rfl,k1,k2⟩,by rw[hF];exact s1.append s2⟩
theorem Weak.own {α:Type} {c d:Cod α} (k:Weak c d) {e:TypeId} {hw2:c.wd≤32} {kw:0<d.wd} {kw2:d.wd≤32}:Weak (cO c e hw2) (cL d kw kw2):=by
 refine⟨rfl,?_⟩
 rintro w vs xs F ⟨v,Fi,rfl,ho,rfl⟩
 rcases ho.form with ⟨rfl,rfl,A,rfl⟩|⟨g,cap,cur,us,rfl,h0,hh,hn,hm,hs,ht,ho',hr⟩
 ·exact⟨[],⟨A,0,rfl,Nat.le_refl _,by decide,.inl ⟨rfl,rfl⟩⟩,List.nil_sublist _⟩
 ·obtain⟨G,h1,h2⟩:=k.reps hr
  cases xs with
  | nil=>exact⟨[],⟨_,cap+1,rfl,hn,hm,.inl ⟨rfl,rfl⟩⟩,List.nil_sublist _⟩
  | cons x xs =>
   refine⟨g::G,⟨_,cap+1,rfl,hn,hm,.inr ⟨by simp,g,0,G,us,rfl,rfl,λj u hu=>?_,h1⟩⟩,?_⟩
   ·have hj:=(List.getElem?_eq_some_iff.1 hu).1
    rw[ho'.1] at hj
    rw[Nat.zero_add]
    exact⟨(ho'.cellAt j hj).trans hu,ho'.frozenAt j⟩
   ·show (g::G).Sublist ([g]++Fi)
    exact h2.cons_cons g
theorem Weak.pair {α β:Type} {c d:Cod α} {c' d':Cod β} (k:Weak c d) (k':Weak c' d'):Weak (cP c c') (cP d d'):=by
 refine⟨by show c.wd+c'.wd=_;rw[k.1,k'.1];rfl,?_⟩
 rintro w vs x F ⟨v1,v2,F1,F2,h,rfl,h1,h2⟩
 obtain⟨G1,k1,s1⟩:=k.2 h1
 obtain⟨G2,k2,s2⟩:=k'.2 h2
 exact⟨G1++G2,⟨v1,v2,G1,G2,h,rfl,k1,k2⟩,s1.append s2⟩
theorem Weak.map {α σ:Type} {c d:Cod α} (k:Weak c d) {f:σ→α} {g:α→σ} {hg hg':∀a,f (g a)=a}:Weak (cM c f g hg) (cM d f g hg'):=⟨k.1,λh=>k.2 h⟩
theorem Weak.fresh {α:Type} {c d:Cod α} (k:Weak c d) {w:World} {vs:List Value} {x:α} {F:List Nat} {B:Nat} (h:c.rep w vs x F) (hf:Fresh B F):∃G,d.rep w vs x G∧Fresh B G∧∀b,b∈G→b∈F:=by
 obtain⟨G,h1,h2⟩:=k.2 h
 exact⟨G,h1,⟨λb hb=>hf.1 b (h2.subset hb),h2.nodup hf.2⟩,λb hb=>h2.subset hb⟩
structure BoxAt {α:Type} (c:Cod α) (T:TypeId) (V wr:World) (xb o:Nat) (es:List α) (vE:Value) (Fi:List Nat):Prop where
 cell:wr.cell? ⟨xb,o,none⟩=some vE
 own:Own c T V.heap.size wr vE es Fi
 fresh:Fresh V.heap.size Fi
 ne:∀g,Zac vE=some g→g∉Fi
 only:Only [xb] V wr
 fz:∀i,wr.frozen? ⟨xb,i,none⟩=V.frozen? ⟨xb,i,none⟩
 oth:∀i,i≠o→wr.cell? ⟨xb,i,none⟩=V.cell? ⟨xb,i,none⟩
def BoxRow {α:Type} (c:Cod α) (T:TypeId) (V wr:World) (xb o:Nat) (es:List α):Prop:=∃vE Fi,BoxAt c T V wr xb o es vE Fi
structure ZjG {α:Type} (c:Cod α) (T:TypeId) (V W4 w2:World) (xb o:Nat) (es:List α) (vE v2:Value):Prop where
 cell:w2.cell? ⟨xb,o,none⟩=some vE
 fz:∀i,w2.frozen? ⟨xb,i,none⟩=V.frozen? ⟨xb,i,none⟩
 size:W4.heap.size≤w2.heap.size
 row:BoxRow c T V (w2.setCell ⟨xb,o,none⟩ v2) xb o es
section
variable {α:Type} {c:Cod α} {T:TypeId} {V wr W4 w2:World} {xb o:Nat} {es ys:List α} {vE v2:Value} {Fi G:List Nat}
theorem BoxRow.start {A:Option Addr} (h:V.cell? ⟨xb,o,none⟩=some (.slice A 0 0)):BoxRow c T V V xb o [] :=
 ⟨_,[],h,Own.empty _,Fresh.nil _,by simp[Zac],Only.refl _ _,λ_=>rfl,λ_ _=>rfl⟩
theorem ZpP {a:Addr} {v:Value} (h:V.cell? a=some v):a.block<V.heap.size:=World.block_lt_of_cell? V a h
theorem ZlY (hx:xb<V.heap.size) (H:BoxAt c T V wr xb o es vE Fi) (hb:Below wr.heap.size wr W4) (hG:Fresh wr.heap.size G) (hGl:∀b,b∈G→b<W4.heap.size)
  (ho2:Own c T V.heap.size w2 v2 (es++ys) (Fi++G)) (hg2:W4.grownBy w2 (Zac vE)) (hat2:∀g,Zac v2=some g→Zac vE=some g∨W4.heap.size≤g) :
  ZjG c T V W4 w2 xb o (es++ys) vE v2:=by
 obtain⟨hX,hown,hFi,hEF,hO,hfz,hoth⟩:=H
 have hVr:=hO.size
 have hs4:=hb.size
 have hs2:=hg2.size
 have hxr:xb<wr.heap.size:=Nat.lt_of_lt_of_le hx hVr
 have hne:Zac vE≠some xb:=λe=>by have:=(hown.lt _ e).1;omega
 have hk:w2.heap[xb]?=wr.heap[xb]?:=(hg2.block xb (Nat.lt_of_lt_of_le hxr hb.size) (λe=>hne e.symm)).trans (hb.block xb hxr)
 have hX2:w2.cell? ⟨xb,o,none⟩=some vE:=(World.cell?_of_block hk).trans hX
 have hf2:∀i,w2.frozen? ⟨xb,i,none⟩=wr.frozen? ⟨xb,i,none⟩:=λi=>World.frozen?_of_block hk
 have hc2:∀i,w2.cell? ⟨xb,i,none⟩=wr.cell? ⟨xb,i,none⟩:=λi=>World.cell?_of_block hk
 have hx2:Zac v2≠some xb:=λe=>by have:=(ho2.lt _ e).1;omega
 have hFG:∀b,b∈Fi++G→V.heap.size≤b∧b<W4.heap.size:=λb hm=>by
  rcases List.mem_append.1 hm with hm|hm
  ·have h1:=hFi.1 b hm;have h2:=hown.inner_lt b hm;omega
  ·have h1:=hG.1 b hm;have h2:=hGl b hm;omega
 refine⟨hX2,λi=>(hf2 i).trans (hfz i),hs2,v2,Fi++G,cell?_set_same hX2,ho2.keep (λg hg=>Below.heap_setCell _ _ _ _ (λe=>hx2 (hg.trans (congrArg some e)))) (λb hm=>Below.heap_setCell _ _ _ _ (λe=>by have:=hFG b hm;have e':b=xb:=e;omega)),⟨λb hm=>(hFG b hm).1,List.nodup_append.2 ⟨hFi.2,hG.2,λa ha b hm e=>by have h1:=hown.inner_lt a ha;have h2:=hG.1 b hm;omega⟩⟩,λg hg hm=>?_,?_,λi=>(frozen?_set _ _ _ _).trans ((hf2 i).trans (hfz i)),λi hi=>?_⟩
 ·rcases hat2 g hg with h1|h1
  ·rcases List.mem_append.1 hm with hm|hm
   ·exact hEF g h1 hm
   ·have h2:=(hown.lt g h1).2;have h3:=hG.1 g hm;omega
  ·have h2:=hFG g hm;omega
 ·have hgb:Below V.heap.size W4 w2:=Below.grown (Below.refl _ _) hg2 (Nat.le_trans hVr hs4) (λb hb=>(hown.lt b hb).1)
  refine Only.set_ ⟨hgb.os.trans (hb.os.trans hO.os),hgb.tape.trans (hb.tape.trans hO.tape),hgb.output.trans (hb.output.trans hO.output),by omega,λb hbl hn=>?_⟩ (by simp) _
  refine(hg2.block b (by omega) (λe=>by have:=(hown.lt b e.symm).1;omega)).trans ((hb.block b (by omega)).trans (hO.block b hbl hn))
 ·rw[World.cell?_setCell_other w2 ⟨xb,o,none⟩ ⟨xb,i,none⟩ _ (λe=>by injection e with _ e;omega)]
  exact(hc2 i).trans (hoth i hi)
variable {P:Program}
theorem ZjF {ops:Array Oper} {rest:List Oper} {op:Oper} {a:Act} {Q:Exit→Act→World→Prop} (hgd:op.guard=none) (s x':Operand) (t:TypeId)
  (hop:op.op=.call { callee:=.builtin .append,args:=#[s,x'],argTypes:=#[t,t] })
  (i:TypeInfo) (z:Value) (bytes:Nat) (ht:P.underlying t=some (.slice T)) (hi:P.info? T=some i) (hz:i.zero=some z)
  (hsize:i.size=c.wd) (hby:i.bytes=bytes) (hzs:z.cells.size=c.wd) (hw:0<c.wd)
  (hs:a.eval s=vE) (x:Value) (hx':a.eval x'=x) (hxb:xb<V.heap.size) (H:BoxAt c T V wr xb o es vE Fi) (hb:Below wr.heap.size wr W4) (hG:Fresh wr.heap.size G) (hGl:∀b,b∈G→b<W4.heap.size)
  (hsrc:AppSrc c W4 x ys G) (m:Nat) (hm:(es++ys).length=m)
  (h63:m≤maxLen) (hbytes:m*bytes≤140737488355328)
  (h:∀A2 c2 w2,ZjG c T V W4 w2 xb o (es++ys) vE (.slice A2 m c2)→wpList P ops Q rest (a.put op.dst (.slice A2 m c2)) w2):wpList P ops Q (op::rest) a W4:=by
 have hVr:=H.only.size
 have hs4:=hb.size
 have hm':es.length+ys.length=m:=by rw[← hm,List.length_append]
 refine Zl (c:=c) (B:=V.heap.size) W4 hgd s x' t hop i z bytes ht hi hz hsize hby hzs hw hs (H.own.bel hb) x hx' hsrc (by omega) (by rw[hm'];exact hbytes) (Nat.le_trans hVr hs4) (λg hg=>⟨H.ne g hg,λhm=>by have h1:=(H.own.lt g hg).2;have h2:=hG.1 g hm;omega⟩) (λv' w' h2 h3 h4=>?_)
 obtain⟨A2,c2,rfl⟩:=h2.slice
 rw[hm] at h2 h4⊢
 exact h A2 c2 w' (ZlY hxb H hb hG hGl h2 h3 h4)
theorem ZfK {ops:Array Oper} {op:Oper} {a:Act} {K:Act→World→Prop} {Q:Exit→Act→World→Prop} {E:Prop} (hgd:op.guard=none) (s x':Operand) (t:TypeId)
  (hop:op.op=.call { callee:=.builtin .append,args:=#[s,x'],argTypes:=#[t,t] })
  (i:TypeInfo) (z:Value) (bytes:Nat) (ht:P.underlying t=some (.slice T)) (hi:P.info? T=some i) (hz:i.zero=some z)
  (hsize:i.size=c.wd) (hby:i.bytes=bytes) (hzs:z.cells.size=c.wd) (hw:0<c.wd)
  (hs:a.eval s=vE) (x:Value) (hx':a.eval x'=x) (hxb:xb<V.heap.size) (H:BoxAt c T V wr xb o es vE Fi) (hb:Below wr.heap.size wr W4) (hG:Fresh wr.heap.size G) (hGl:∀b,b∈G→b<W4.heap.size)
  (hsrc:AppSrc c W4 x ys G) (m:Nat) (hm:(es++ys).length=m)
  (h63:m≤maxLen) (hbytes:m*bytes≤140737488355328)
  (h:∀A2 c2 w2,ZjG c T V W4 w2 xb o (es++ys) vE (.slice A2 m c2)→K (a.put op.dst (.slice A2 m c2)) w2) :
  if Region.wanted op (yielded ops a.tmps)=true then Oper.wp P op a W4 K Q else E:=by
 have hVr:=H.only.size
 have hs4:=hb.size
 have hm':es.length+ys.length=m:=by rw[← hm,List.length_append]
 refine ZcA (c:=c) (B:=V.heap.size) W4 hgd s x' t hop i z bytes ht hi hz hsize hby hzs hw hs (H.own.bel hb) x hx' hsrc (by omega) (by rw[hm'];exact hbytes) (Nat.le_trans hVr hs4) (λg hg=>⟨H.ne g hg,λhm=>by have h1:=(H.own.lt g hg).2;have h2:=hG.1 g hm;omega⟩) (λv' w' h2 h3 h4=>?_)
 obtain⟨A2,c2,rfl⟩:=h2.slice
 rw[hm] at h2 h4⊢
 exact h A2 c2 w' (ZlY hxb H hb hG hGl h2 h3 h4)
end
theorem AppSrc.bel {α:Type} {c:Cod α} {w w':World} {x:Value} {ys:List α} {Fy:List Nat} (h:AppSrc c w x ys Fy) (hb:Below w.heap.size w w'):AppSrc c w' x ys Fy:=by
 obtain⟨A,d,news,hx,hr,hA⟩:=h
 refine⟨A,d,news,hx,Cod.reps_bel hr hb,λhp=>?_⟩
 obtain⟨ad,h1,h2⟩:=hA hp
 exact⟨ad,h1,λj u hu=>(hb.cell (ZpP (h2 j u hu))).trans (h2 j u hu)⟩
theorem Zeu {α:Type} {c:Cod α} {w:World} {vs:List Value} {x:α} {F:List Nat} {g:Nat} (h:c.rep w vs x F) (hc:∀j u,vs[j]?=some u→w.cell? ⟨g,j,none⟩=some u):AppSrc c w (.slice (some ⟨g,0,none⟩) 1 1) [x] F :=
 ⟨some ⟨g,0,none⟩,1,vs,rfl,Cod.reps_one h,λ_=>⟨_,rfl,λj u hu=>by rw[Addr.add_lit,Nat.zero_add];exact hc j u hu⟩⟩
theorem Zcf {α:Type} {c:Cod α} {w:World} {vs:Array Value} {x:α} {F:List Nat} (T:TypeId) (g:Nat) (hg:w.heap.size=g) (h:c.rep w vs.toList x F):AppSrc c (w.alloc (.cells vs T)) (.slice (some ⟨g,0,none⟩) 1 1) [x] F:=by
 subst hg
 exact Zeu (zb h (ZM (Below.refl _ _) _)) (λj u hu=>by rw[(Blk.new w T vs).cell];simpa using hu)
section
variable {α:Type} {c:Cod α} {e:TypeId} {B:Nat} {w:World} {A:Option Addr} {n cp:Nat} {xs:List α} {Fi:List Nat}
theorem Own.upd (hw:0<c.wd) (h:Own c e B w (.slice A n cp) xs Fi) {i:Nat} (hi:i<xs.length) :
  ∃g cur vs F1 Fm F2,A=some ⟨g,0,none⟩∧0<cp∧n≤cp∧cp≤maxLen∧Zac (.slice A n cp)=some g∧B≤g∧Blk w g e cur∧Fi=F1++(Fm++F2)∧c.rep w vs xs[i] Fm∧i*c.wd+c.wd≤cur.size∧(∀j,j<c.wd→cur[i*c.wd+j]?=vs[j]?) ∧
   ∀(w':World) (cur':Array Value) (vs':List Value) (y':α) (G':List Nat),Blk w' g e cur'→cur'.size=cur.size→(∀o,o<i*c.wd∨i*c.wd+c.wd≤o→cur'[o]?=cur[o]?)→(∀j,j<c.wd→cur'[i*c.wd+j]?=vs'[j]?)→c.rep w' vs' y' G' →
    (∀b,b∈F1∨b∈F2→w'.heap[b]?=w.heap[b]?)→Own c e B w' (.slice A n cp) (xs.set i y') (F1++(G'++F2)):=by
 rcases h.form with ⟨rfl,-⟩|⟨g,cap,cur,us,hv,hB,hh,hnc,hcm,hsz,ht,ho,hr⟩
 ·simp at hi
 ·simp only[Value.slice.injEq] at hv
  obtain⟨rfl,rfl,rfl⟩:=hv
  have hsp:xs=xs.take i++xs[i]::xs.drop (i+1):=by rw[← List.drop_eq_getElem_cons hi,List.take_append_drop]
  have hr':c.reps w us (xs.take i++xs[i]::xs.drop (i+1)) Fi:=by rw[← hsp];exact hr
  obtain⟨u1,u2,G1,G2,rfl,rfl,r1,v1,v2,H1,H2,rfl,rfl,hx,r2⟩:=Cod.reps_cut hr'
  have hu1:=Cod.reps_len r1
  rw[List.length_take,Nat.min_eq_left (by omega)] at hu1
  have hv1:=c.len hx
  have hul:=Cod.reps_len hr
  have hile:i*c.wd+c.wd≤xs.length*c.wd:=by
   have:(i+1)*c.wd≤xs.length*c.wd:=Nat.mul_le_mul_right _ hi
   rwa [Nat.add_mul,Nat.one_mul] at this
  have hcl:xs.length*c.wd≤cur.size:=by rw[hsz];exact Nat.mul_le_mul_right _ hnc
  have hcu:∀o,o<xs.length*c.wd→cur[o]?=(u1++(v1++v2))[o]?:=λo ho'=>by
   rw[← ht,List.getElem?_take_of_lt ho',Array.getElem?_toList]
  refine⟨g,cur,v1,G1,H1,H2,rfl,Nat.succ_pos _,hnc,hcm,rfl,hB,hh,rfl,hx,by omega,λj hj=>?_,?_⟩
  ·rw[hcu _ (by omega),List.getElem?_append_right (by omega),hu1,Nat.add_sub_cancel_left,List.getElem?_append_left (by omega)]
  ·intro w' cur' vs' y' G' hb' hs' hout hin hy hkeep
   have hvl:=c.len hy
   have hlen:(xs.set i y').length=xs.length:=List.length_set
   have hset:xs.set i y'=xs.take i++y'::xs.drop (i+1):=List.set_eq_take_append_cons_drop.trans (by rw[if_pos hi])
   have hul':(u1++(vs'++v2)).length=xs.length*c.wd:=by
    rw[List.length_append,List.length_append] at hul⊢;omega
   have htk:cur'.toList.take (xs.length*c.wd)=u1++(vs'++v2):=by
    apply List.ext_getElem?
    intro o
    by_cases ho':o<xs.length*c.wd
    ·rw[List.getElem?_take_of_lt ho',Array.getElem?_toList]
     by_cases h1:o<i*c.wd
     ·rw[hout o (.inl h1),hcu o ho',List.getElem?_append_left (by omega),List.getElem?_append_left (by omega)]
     ·by_cases h2:i*c.wd+c.wd≤o
      ·rw[hout o (.inr h2),hcu o ho',List.getElem?_append_right (by omega),List.getElem?_append_right (by omega),List.getElem?_append_right (by omega),List.getElem?_append_right (by omega),hvl,hv1]
      ·have h3:=hin (o-i*c.wd) (by omega)
       rw[Nat.add_sub_cancel' (by omega)] at h3
       rw[h3,List.getElem?_append_right (by omega),hu1,List.getElem?_append_left (by omega)]
    ·rw[List.getElem?_eq_none (by rw[List.length_take];omega),List.getElem?_eq_none (by omega)]
   refine .inr ⟨u1++(vs'++v2),⟨by rw[hlen];exact hul',.inr ⟨g,cap+1,cur',by rw[hlen],hB,hb',by rw[hlen];exact hnc,hcm,by rw[hs',hsz],by rw[hlen];exact htk⟩⟩,?_⟩
   rw[hset]
   exact Cod.reps_app (Cod.reps_keep r1 λb hb=>hkeep b (.inl hb)) ⟨vs',v2,G',H2,rfl,rfl,hy,Cod.reps_keep r2 λb hb=>hkeep b (.inr hb)⟩
end
theorem Zjp {P M S G:List Nat} {L:Nat} (h:(P++(M++S)).Nodup) (hl:∀b,b∈P++(M++S)→b<L) (hG:G.Nodup) (hGL:∀b,b∈G→L≤b):(P++(G++S)).Nodup:=by
 have h1:=List.nodup_append.1 h
 have h2:=List.nodup_append.1 h1.2.1
 refine List.nodup_append.2 ⟨h1.1,List.nodup_append.2 ⟨hG,h2.2.1,λa ha b hb e=>?_⟩,λa ha b hb e=>?_⟩
 ·have:=hGL a ha;have:=hl b (by simp[hb]);omega
 ·rcases List.mem_append.1 hb with hb|hb
  ·have:=hGL b hb;have:=hl a (by simp[ha]);omega
  ·exact h1.2.2 a ha b (by simp[hb]) e
structure RowSet (w w':World) (g:Nat) (e:TypeId) (cs:Array Value):Prop where
 blk:Blk w' g e cs
 size:w'.heap.size=w.heap.size
 os:w'.os=w.os
 tape:w'.tape=w.tape
 output:w'.output=w.output
 other:∀b,b≠g→w'.heap[b]?=w.heap[b]?
theorem RowSet.mk_ {w:World} {g:Nat} {e:TypeId} {old:Array Value} (h:Blk w g e old) (cs:Array Value):RowSet w (w.setRow g cs) g e cs :=
 ⟨setRow_heap w g old cs e (0,0) h,setRow_size _ _ _,rfl,rfl,rfl,λb hb=>setRow_other w g b cs hb⟩
section
variable {P:Program} (w:World)
theorem Zcx (dT sT ty elem:TypeId) (g o dLen dCap:Nat) (a:Addr) (sLen sCap:Nat) (cur:Array Value) (t:TypeId) (cs:List Value) (k sz:Nat)
  (hu:P.underlying dT=some (.slice elem)) (i:TypeInfo) (hq:P.info? elem=some i) (hi:i.size=sz)
  (hg:Blk w g t cur) (hk:Nat.min sLen dLen=k) (hn:cs.length=k*sz)
  (hsrc:∀j v,cs[j]?=some v→w.cell? (a.add j)=some v) (hfit:o+cs.length≤cur.size) (h1:∀v∈cs,v.oneCell'=true) :
  (Builtin.copy_ #[dT,sT] ty #[.slice (some ⟨g,o,none⟩) dLen dCap,.slice (some a) sLen sCap]).run P w =
   .ok (goInt k) (w.setRow g (cur.toList.take o++cs++cur.toList.drop (o+cs.length)).toArray):=by
 have hl:=run_loadCells_list (P:=P) w a cs hsrc
 have hst:=run_storeCells_at P g o t cs 0 cur w hg (by simpa using hfit) h1
 rw[hn] at hl
 simp only[Nat.add_zero] at hst
 simp[Builtin.copy_,run_underlying hu,Builtin.lenOf,Builtin.firstCells,sizeOf,typeInfo,hq,hi,hk,hl,hst]
theorem Zpm {o:Oper} {a:Act} {K:Act→World→Prop} {Q:Exit→Act→World→Prop} (d s:Operand) (t t' elem:TypeId)
  (ho:o.op=.call { callee:=.builtin .copy,args:=#[d,s],argTypes:=#[t,t'] }) (g od dLen dCap:Nat) (ad:Addr) (sLen sCap:Nat) (hd:a.eval d=.slice (some ⟨g,od,none⟩) dLen dCap) (hs:a.eval s=.slice (some ad) sLen sCap)
  (cur:Array Value) (e:TypeId) (cs:List Value) (k sz:Nat) (hu:P.underlying t=some (.slice elem)) (i:TypeInfo) (hq:P.info? elem=some i) (hi:i.size=sz)
  (hg:Blk w g e cur) (hk:Nat.min sLen dLen=k) (hn:cs.length=k*sz)
  (hsrc:∀j v,cs[j]?=some v→w.cell? (ad.add j)=some v) (hfit:od+cs.length≤cur.size) (h1:∀v∈cs,v.oneCell'=true)
  (h:∀w',RowSet w w' g e (cur.toList.take od++cs++cur.toList.drop (od+cs.length)).toArray→K (a.put o.dst (goInt k)) w'):o.wp P a w K Q:=by
 have hr:=Zcx (P:=P) w t t' o.type elem g od dLen dCap ad sLen sCap cur e cs k sz hu i hq hi hg hk hn hsrc hfit h1
 unfold Oper.wp execOp
 simp only[ho,resolve,invoke,builtin,Sem.run_bind,Sem.run_pure,Result.andThen_ok,List.map_toArray,List.map_cons,List.map_nil,hd,hs,hr]
 exact h _ (RowSet.mk_ hg _)
theorem ZeE {ops:Array Oper} {o:Oper} {a:Act} {K:Act→World→Prop} {Q:Exit→Act→World→Prop} {E:Prop} (hgd:o.guard=none) (d s:Operand) (t t' elem:TypeId)
  (ho:o.op=.call { callee:=.builtin .copy,args:=#[d,s],argTypes:=#[t,t'] }) (g od dLen dCap:Nat) (ad:Addr) (sLen sCap:Nat) (hd:a.eval d=.slice (some ⟨g,od,none⟩) dLen dCap) (hs:a.eval s=.slice (some ad) sLen sCap)
  (cur:Array Value) (e:TypeId) (cs:List Value) (k sz:Nat) (hu:P.underlying t=some (.slice elem)) (i:TypeInfo) (hq:P.info? elem=some i) (hi:i.size=sz)
  (hg:Blk w g e cur) (hk:Nat.min sLen dLen=k) (hn:cs.length=k*sz)
  (hsrc:∀j v,cs[j]?=some v→w.cell? (ad.add j)=some v) (hfit:od+cs.length≤cur.size) (h1:∀v∈cs,v.oneCell'=true)
  (h:∀w',RowSet w w' g e (cur.toList.take od++cs++cur.toList.drop (od+cs.length)).toArray→K (a.put o.dst (goInt k)) w') :
  if Region.wanted o (yielded ops a.tmps)=true then Oper.wp P o a w K Q else E:=by
 have hw':Region.wanted o (yielded ops a.tmps)=true:=by simp[Region.wanted,hgd]
 rw[if_pos hw']
 exact Zpm w d s t t' elem ho g od dLen dCap ad sLen sCap hd hs cur e cs k sz hu i hq hi hg hk hn hsrc hfit h1 h
theorem Zhc {ops:Array Oper} {rest:List Oper} {o:Oper} {a:Act} {Q:Exit→Act→World→Prop} (hgd:o.guard=none) (s x:Operand) (t tn e:TypeId)
  (ho:o.op=.call { callee:=.builtin .append,args:=#[s,x],argTypes:=#[t,tn] }) (i:TypeInfo) (z:Value) (ht:P.underlying t=some (.slice e)) (htn:P.underlying tn=some (.int .i64)) (hi:P.info? e=some i) (hz:i.zero=some z)
  (ad:Addr) (sLen sCap k:Nat) (hs:a.eval s=.slice (some ad) sLen sCap) (hx:a.eval x=.int .i64 k) (olds:List Value) (hl:olds.length=sLen*i.size) (hold:∀j v,olds[j]?=some v→w.cell? (ad.add j)=some v)
  (h0:0<k) (hs0:0<i.size) (hg:sCap<sLen+k) (h63:sLen+k≤maxLen) (hb:(sLen+k)*i.bytes≤140737488355328)
  (h:∀G w',sLen+k≤G→G≤maxLen→Blk w' w.heap.size e (olds.toArray++Builtin.zeroCells z.cells k++Builtin.zeroCells z.cells (G-(sLen+k)))→w.grownBy w' none→w'.heap.size=w.heap.size+1→wpList P ops Q rest (a.put o.dst (.slice (some ⟨w.heap.size,0,none⟩) (sLen+k) G)) w'):wpList P ops Q (o::rest) a w:=by
 have hfc:(Builtin.firstCells i.size sLen (.slice (some ad) sLen sCap)).run P w.drew=.ok olds.toArray w.drew:=run_firstCells_some w.drew i.size sLen ad sLen sCap olds hl (λj v hj=>hold j v hj)
 unfold maxLen at h63
 have hr:=Lib.run_append_grow_zeros w t tn o.type e i z .i64 .i64 ht htn hi hz (some ad) sLen sCap olds hfc k h0 hs0 hg (by omega) (by
  have:k*i.bytes≤(sLen+k)*i.bytes:=Nat.mul_le_mul_right _ (by omega)
  omega) (growslice_fits hg hb)
 have hK:=h (grownCap w (sLen+k) sCap e) _ (grownCap_ge _ _ _ _) (grownCap_le_maxLen _ _ _ _ (by unfold maxLen;omega)) (Blk.new w.drew e _)
  ⟨rfl,rfl,rfl,by simp,λb hb _=>by
   have:=(ZM (ZbX (Below.refl w.heap.size w)) (.cells (olds.toArray++Builtin.zeroCells z.cells k++Builtin.zeroCells z.cells (grownCap w (sLen+k) sCap e-(sLen+k))) e)).block b hb
   exact this⟩ (by simp)
 refine wpList_plain hgd λ_ hK2=>?_
 unfold Oper.wp execOp
 simp only[ho,resolve,invoke,builtin,Sem.run_bind,Sem.run_pure,Result.andThen_ok,List.map_toArray,List.map_cons,List.map_nil,hs,hx,hr]
 exact hK2 _ _ hK
end
section
variable {α:Type} {c:Cod α} {e:TypeId} {B:Nat} {w w':World} {A:Option Addr} {n cp i:Nat} {xs:List α} {Fi:List Nat}
theorem Own.parts (h:Own c e B w (.slice A n cp) xs Fi) (hi:i≤xs.length) (hn:0<xs.length) :
  ∃g cur u1 u2 F1 F2,A=some ⟨g,0,none⟩∧n=xs.length∧n≤cp∧cp≤maxLen∧Blk w g e cur∧cur.size=cp*c.wd∧cur.toList.take (n*c.wd)=u1++u2∧u1.length=i*c.wd∧u2.length=(n-i)*c.wd∧B≤g∧Zac (.slice A n cp)=some g ∧
   Fi=F1++F2∧c.reps w u1 (xs.take i) F1∧c.reps w u2 (xs.drop i) F2:=by
 rcases h.form with ⟨rfl,-⟩|⟨g,cap,cur,us,hv,hB,hh,hnc,hcm,hsz,ht,ho,hr⟩
 ·simp at hn
 ·simp only[Value.slice.injEq] at hv
  obtain⟨rfl,rfl,rfl⟩:=hv
  rw[← List.take_append_drop i xs] at hr
  obtain⟨u1,u2,G1,G2,rfl,rfl,r1,r2⟩:=Cod.reps_cut hr
  have hl1:=Cod.reps_len r1
  have hl2:=Cod.reps_len r2
  rw[List.length_take,Nat.min_eq_left hi] at hl1
  rw[List.length_drop] at hl2
  exact⟨g,cur,u1,u2,G1,G2,rfl,rfl,hnc,hcm,hh,hsz,ht,hl1,hl2,hB,rfl,rfl,r1,r2⟩
theorem Own.of_parts {g' cp':Nat} {cur':Array Value} {u1 vs u2:List Value} {xs1 xs2:List α} {y:α} {F1 Fy F2:List Nat} {m:Nat} (hB:B≤g') (hb:Blk w' g' e cur') (hs:cur'.size=cp'*c.wd) (hm:m=xs1.length+1+xs2.length) (ht:cur'.toList.take (m*c.wd)=u1++(vs++u2)) (hmc:m≤cp') (hcm:cp'≤maxLen)
  (r1:c.reps w' u1 xs1 F1) (ry:c.rep w' vs y Fy) (r2:c.reps w' u2 xs2 F2):Own c e B w' (.slice (some ⟨g',0,none⟩) m cp') (xs1++y::xs2) (F1++(Fy++F2)):=by
 have hr:c.reps w' (u1++(vs++u2)) (xs1++y::xs2) (F1++(Fy++F2)):=Cod.reps_app r1 ⟨vs,u2,Fy,F2,rfl,rfl,ry,r2⟩
 have hl:(xs1++y::xs2).length=m:=by rw[hm,List.length_append,List.length_cons];omega
 have hul:=Cod.reps_len hr
 rw[hl] at hul
 exact .inr ⟨_,⟨by rw[hl];exact hul,.inr ⟨g',cp',cur',by rw[hl],hB,hb,by rw[hl];exact hmc,hcm,hs,by rw[hl];exact ht⟩⟩,hr⟩
end
theorem ZjD {L0 u1 u2 vs:List Value} {a b:Nat} (h0:L0.take (a+u2.length)=u1++u2) (h1:u1.length=a) (hv:vs.length=b) (hl:a+b+u2.length≤L0.length) :
  ((((L0.take (a+b)++u2++L0.drop (a+b+u2.length)).take a++vs++(L0.take (a+b)++u2++L0.drop (a+b+u2.length)).drop (a+vs.length))).take (a+b+u2.length))=u1++(vs++u2):=by
 have hta:L0.take a=u1:=by
  have:=congrArg (List.take a) h0
  rw[List.take_take,Nat.min_eq_left (by omega),← h1,List.take_left'] at this
  ·rw[← h1];exact this
  ·rfl
 have e1:(L0.take (a+b)++u2++L0.drop (a+b+u2.length)).take a=u1:=by
  rw[List.append_assoc,List.take_append_of_le_length (by rw[List.length_take];omega),List.take_take,Nat.min_eq_left (by omega),hta]
 have e2:(L0.take (a+b)++u2++L0.drop (a+b+u2.length)).drop (a+vs.length)=u2++L0.drop (a+b+u2.length):=by
  rw[hv,List.append_assoc,List.drop_left' (by rw[List.length_take];omega)]
 rw[e1,e2,List.append_assoc,← List.append_assoc vs,← List.append_assoc u1]
 rw[List.take_left' (by simp only[List.length_append];omega)]
theorem Zlk {u1 u2 vs R:List Value} {a b:Nat} (h0:R.take a=u1) (h1:u1.length=a) (hv:vs.length=b) (hl:a+b+u2.length≤R.length) :
  ((((R.take a++vs++R.drop (a+vs.length)).take (a+b)++u2++(R.take a++vs++R.drop (a+vs.length)).drop (a+b+u2.length))).take (a+b+u2.length))=u1++(vs++u2):=by
 have e1:(R.take a++vs++R.drop (a+vs.length)).take (a+b)=u1++vs:=by
  rw[h0,List.take_left' (by simp only[List.length_append];omega)]
 rw[e1,List.take_left' (by simp only[List.length_append];omega),List.append_assoc]
theorem Zaq {L cs:List Value} {o:Nat} (h:o+cs.length≤L.length):(L.take o++cs++L.drop (o+cs.length)).length=L.length:=by
 simp only[List.length_append,List.length_take,List.length_drop];omega
theorem Zcs:(Tryz.prog.info? 5).map (λi=>(i.zero,i.size,i.bytes))=some (some (Value.int .u8 0),1,1):=by kernel_rfl
theorem Zbg {w:World} {b:UInt8} {B:Int} (h:(b.toNat:Int)=B):AppSrc cU (w.alloc (.cells #[.int .u8 B] 5)) (.slice (some ⟨w.heap.size,0,none⟩) 1 1) [b] []:=by
 subst h
 exact⟨_,1,[.int .u8 (b.toNat:Int)],rfl,Cod.reps_one ⟨rfl,rfl⟩,λ_=>⟨_,rfl,λj u hu=>by cases j with|zero=>(simp at hu;subst hu;rw[Addr.add_lit];exact(Blk.new w 5 #[.int .u8 (b.toNat:Int)]).cell 0)|succ j=>simp at hu⟩⟩
def Zeh {α:Type} (c:Cod α) (T:TypeId) (w:World) (xs:List α) (e:Ending) (w':World):Prop:=∃v,e=.returned v∧Below w.heap.size w w'∧Own c T w.heap.size w' v xs []
def Zlq (b:List UInt8) (n:Int):List UInt8:=bif inR n 0 1000000000000 then b++ZJ n.toNat else b
theorem Zlp {x y:Int} (h:0≤x∧x≤255∧x=y):IntKind.u8.wrap x=y:=by
 obtain⟨h1,h2,rfl⟩:=h
 have:IntKind.u8.wrap x=x % 256:=by simp[IntKind.wrap,IntKind.bits,IntKind.signed]
 rw[this];omega
theorem Zhx (n:Int):bits .and .i64 n 127=n % 128:=by
 have h127:(BitVec.ofInt 64 127).toNat=2 ^ 7-1:=by decide
 have key:(BitVec.ofInt 64 n &&& BitVec.ofInt 64 127).toNat=(n % ((2 ^ 64:Nat):Int)).toNat % 2 ^ 7:=by
  rw[BitVec.toNat_and,BitVec.toNat_ofInt,h127,Nat.and_two_pow_sub_one_eq_mod]
 show IntKind.i64.wrap ((BitVec.ofInt 64 n &&& BitVec.ofInt 64 127).toNat:Nat)=n % 128
 rw[key,IntKind.wrap_i64]
 omega
theorem Zid {n m:Nat} {i:Nat} (h:n<2 ^ i) (hm:n+m*2 ^ i<2 ^ 63):bits .or .i64 (n:Int) ((m*2 ^ i:Nat):Int)=((n+m*2 ^ i:Nat):Int):=by
 have h1:n<2 ^ 64:=by omega
 have h2:m*2 ^ i<2 ^ 64:=by omega
 have key:(BitVec.ofInt 64 (n:Int) ||| BitVec.ofInt 64 ((m*2 ^ i:Nat):Int)).toNat=n+m*2 ^ i:=by
  rw[BitVec.toNat_or,BitVec.toNat_ofInt,BitVec.toNat_ofInt]
  rw[show ((n:Int) % ((2 ^ 64:Nat):Int)).toNat=n by omega,show (((m*2 ^ i:Nat):Int) % ((2 ^ 64:Nat):Int)).toNat=m*2 ^ i by omega]
  rw[Nat.or_comm,Nat.mul_comm,← Nat.two_pow_add_eq_or_of_lt h m,Nat.add_comm]
 show IntKind.i64.wrap ((BitVec.ofInt 64 (n:Int) ||| BitVec.ofInt 64 ((m*2 ^ i:Nat):Int)).toNat:Nat)=_
 rw[key,IntKind.wrap_i64]
 omega
theorem Zam (v:Value) (xs:List UInt8) (F:List Nat) (w:World) (h:cUS.rep w [v] xs F) (hn:xs.length≤1000000000) :
  Calls Tryz.prog 71 #[v] w (Zeh cU 5 w xs):=by
 obtain⟨i0,hi0,hz0,hz1,hz2⟩:=info_parts Zcs
 obtain⟨A,c,rfl⟩:=Zb h
 have HS:=zh hn
 clear hn
 go_enter Tryz.func71,Tryz.ntmps71
 go_wp2_with (at_builtin;refine Zl (c:=cU) (xs:=[]) (ys:=xs) (Fi:=[]) (Fy:=[]) _ rfl _ _ _ rfl i0 _ _ Tryz.underlying26 hi0 hz0 hz1 hz2 rfl (by decide) (v:=.slice (some _) 0 0) rfl (Own.empty _) (.slice A xs.length c) rfl (AppSrc.flat (hw:=by decide) (hw2:=by decide) ZeN (zb h)) (by have:=HS.out;unfold maxLen;simp;omega) (by have:=HS.out;simp;omega) (Nat.le_refl _) (by simp[Zac]) ?_)
 intro v1 w1 ho hg hat
 replace ho:Own cU 5 _ w1 v1 xs []:=ho
 have hb:Below _ _ w1:=(Below.refl _ _).grown hg (Nat.le_refl _) (by simp[Zac])
 have hb1:=zt (w:=w) hb
 have ho1:=ho.mono (show w.heap.size≤_ by simp)
 go_wp2_with fail
 go_ret
 exact⟨_,rfl,hb1,ho1⟩
theorem ZR (v:Value) (b:List UInt8) (n:Int) (F:List Nat) (w:World) (h:cUS.rep w [v] b F) (hb:b.length≤1000000000) :
  Calls Tryz.prog 75 #[v,.int .i64 n] w (Zeh cU 5 w (Zlq b n)):=by
 obtain⟨i0,hi0,hz0,hz1,hz2⟩:=info_parts Zcs
 obtain⟨A,c,rfl⟩:=Zb h
 go_enter Tryz.func75,Tryz.ntmps75
 go_wp2_with fail
 refine(Zam _ b _ _ (by exact h) hb).mono ?_
 rintro e w1 ⟨v1,rfl,hb1,ho1⟩
 obtain⟨B1,d1,e9⟩:=ho1.slice
 subst e9
 have HO1:=zh ho1
 clear ho1
 cases e1:inR n 0 1000000000000
 ·go_wp2_with (go_at_call 114;refine(ZV _ _ _ _).mono ?_;rw[e1];rintro e w2 ⟨rfl,rfl⟩)
  go_ret
  exact⟨_,rfl,hb1,by unfold Zlq;rw[e1];exact HO1.out⟩
 ·have hr:=ZbZ e1
  have HE:=zh (show Zlq b n=b++ZJ n.toNat by unfold Zlq;rw[e1];rfl)
  go_wp2_with (go_at_call 114;refine(ZV _ _ _ _).mono ?_;rw[e1];rintro e w2 ⟨rfl,rfl⟩)
  go_loopw [5,1] (λa i wr=>∃(D:List UInt8) (q:Nat),i=.int .i64 q∧ZJ n.toNat=D++ZJ q∧q≤1000000000000∧Own cU 5 w.heap.size wr a (b++D) []∧Below w.heap.size w wr) (λ_ i _=>(intOf i).toNat)
  case atStart=>exact⟨[],n.toNat,by rw[Int.toNat_of_nonneg hr.1],rfl,by omega,by rw[List.append_nil];exact HO1.out,hb1⟩
  case round =>
   obtain⟨D,q,rfl,hD,hq,hown,hB⟩:=hrel
   have HD:=zh hD
   have HO:=zh hown
   have hul:(ZJ n.toNat).length≤6:=Zax 5 _ (by omega)
   have hup:=ZfR q
   have hdl:D.length+(ZJ q).length≤6:=by rw[← List.length_append,← hD];exact hul
   have hwr:=hB.size
   clear hown hD
   by_cases hlt:q<128
   ·have hqi:¬(128:Int)≤(q:Int):=by omega
    have hqj:¬(127:Int)<(q:Int):=by omega
    have hw8:IntKind.u8.wrap (q:Int)=(q:Int):=Zlp (by omega)
    have hu:=Zcl (n:=q) (by omega)
    go_wp2_with (at_builtin;refine Zl (c:=cU) (B:=w.heap.size) (xs:=b++D) (ys:=[UInt8.ofNat q]) (Fi:=[]) (Fy:=[]) _ rfl _ _ _ rfl i0 _ _ Tryz.underlying26 hi0 hz0 hz1 hz2 rfl (by decide) rfl (HO.out.bel bl) (.slice (some ⟨wr.heap.size,0,none⟩) 1 1) rfl (Zbg (by rw[hu])) (by simp only[List.length_append];unfold maxLen;simp;omega) (by simp only[List.length_append];simp;omega) (by (try simp);(try omega)) (by simp) ?_)
    intro v2 w2 ho2 hg2 hat2
    have hlo:=HO.out.lt
    have hB2:Below w.heap.size w w2:=(show Below w.heap.size w _ from bl).grown hg2 (by (try simp);omega) (λg hg=>(hlo g hg).1)
    have HO2:=zh ho2
    clear ho2 hg2 hat2 hlo
    go_wp2_with fail
    go_ret
    exact⟨_,rfl,hB2,by rw[HE.out,HD.out,ZcD hlt];exact HO2.out⟩
   ·have hqi:(128:Int)≤(q:Int):=by omega
    have hqj:(127:Int)<(q:Int):=by omega
    have hrem:(q:Int).tmod 128=((q % 128:Nat):Int):=by rw[Int.tmod_eq_emod_of_nonneg (by omega)];omega
    have hquo:(q:Int).tdiv 128=((q / 128:Nat):Int):=by rw[Int.tdiv_eq_ediv_of_nonneg (by omega)];omega
    have hw8:IntKind.u8.wrap (((q % 128:Nat):Int)+128)=((q % 128+128:Nat):Int):=Zlp (by omega)
    have hw9:IntKind.u8.wrap ((q % 128+128:Nat):Int)=((q % 128+128:Nat):Int):=Zlp (by omega)
    have hu:=Zcl (n:=q % 128+128) (by omega)
    have hhi:=ZcL hlt
    generalize UInt8.ofNat (q % 128+128)=d at hu hhi
    go_wp2_with (at_builtin;refine Zl (c:=cU) (B:=w.heap.size) (xs:=b++D) (ys:=[d]) (Fi:=[]) (Fy:=[]) _ rfl _ _ _ rfl i0 _ _ Tryz.underlying26 hi0 hz0 hz1 hz2 rfl (by decide) rfl (HO.out.bel bl) (.slice (some ⟨wr.heap.size,0,none⟩) 1 1) rfl (Zbg (by rw[hu];omega)) (by simp only[List.length_append];unfold maxLen;simp;omega) (by simp only[List.length_append];simp;omega) (by (try simp);(try omega)) (by simp) ?_)
    intro v2 w2 ho2 hg2 hat2
    have hlo:=HO.out.lt
    have hB2:Below w.heap.size w w2:=(show Below w.heap.size w _ from bl).grown hg2 (by (try simp);omega) (λg hg=>(hlo g hg).1)
    have HO2:=zh ho2
    clear ho2 hg2 hat2 hlo
    go_wp2_with fail
    go_roundw
    case rel=>exact⟨D++[d],q / 128,by simp,by rw[HD.out,hhi,List.append_assoc];rfl,by omega,by simpa using HO2.out,hB2⟩
    case measure=>simp[intOf];omega
theorem ZS (v:Value) (b:List UInt8) (n:Int) (F:List Nat) (w:World) (h:cUS.rep w [v] b F) (hb:b.length≤1000000000) :
  Calls Tryz.prog 63 #[v,.int .i64 n] w (Zeh cU 5 w (Zlq b n)):=by
 obtain⟨i0,hi0,hz0,hz1,hz2⟩:=info_parts Zcs
 obtain⟨A,c,rfl⟩:=Zb h
 go_enter Tryz.func63,Tryz.ntmps63
 go_wp2_with (at_builtin;refine Zl (c:=cU) (xs:=[]) (ys:=b) (Fi:=[]) (Fy:=[]) _ rfl _ _ _ rfl i0 _ _ Tryz.underlying26 hi0 hz0 hz1 hz2 rfl (by decide) (v:=.slice (some _) 0 0) rfl (Own.empty _) (.slice A b.length c) rfl (AppSrc.flat (hw:=by decide) (hw2:=by decide) ZeN (zb h)) (by unfold maxLen;simp;omega) (by simp;omega) (Nat.le_refl _) (by simp[Zac]) ?_)
 intro v1 w1 ho hg hat
 replace ho:Own cU 5 _ w1 v1 b []:=ho
 have hb0:Below _ _ w1:=(Below.refl _ _).grown hg (Nat.le_refl _) (by simp[Zac])
 have hb1:=zt (w:=w) hb0
 have ho1:=ho.mono (show w.heap.size≤_ by simp)
 clear ho hg hat hb0
 obtain⟨B1,d1,e9⟩:=ho1.slice
 subst e9
 have HO1:=zh ho1
 clear ho1
 cases e1:inR n 0 1000000000000
 ·go_wp2_with (go_at_call 106;refine(Zbf _ _ _ _).mono ?_;rw[e1];rintro e w2 ⟨rfl,rfl⟩)
  go_ret
  exact⟨_,rfl,hb1,by unfold Zlq;rw[e1];exact HO1.out⟩
 ·have hr:=ZbZ e1
  have HE:=zh (show Zlq b n=b++ZJ n.toNat by unfold Zlq;rw[e1];rfl)
  go_wp2_with (go_at_call 106;refine(Zbf _ _ _ _).mono ?_;rw[e1];rintro e w2 ⟨rfl,rfl⟩)
  go_loopw [5,1] (λa i wr=>∃(D:List UInt8) (q:Nat),i=.int .i64 q∧ZJ n.toNat=D++ZJ q∧q≤1000000000000∧Own cU 5 w.heap.size wr a (b++D) []∧Below w.heap.size w wr) (λ_ i _=>(intOf i).toNat)
  case atStart=>exact⟨[],n.toNat,by rw[Int.toNat_of_nonneg hr.1],rfl,by omega,by rw[List.append_nil];exact HO1.out,hb1⟩
  case round =>
   obtain⟨D,q,rfl,hD,hq,hown,hB⟩:=hrel
   have HD:=zh hD
   have HO:=zh hown
   have hul:(ZJ n.toNat).length≤6:=Zax 5 _ (by omega)
   have hup:=ZfR q
   have hdl:D.length+(ZJ q).length≤6:=by rw[← List.length_append,← hD];exact hul
   have hwr:=hB.size
   clear hown hD
   by_cases hlt:q<128
   ·have hqi:¬(128:Int)≤(q:Int):=by omega
    have hqj:¬(127:Int)<(q:Int):=by omega
    have hw8:IntKind.u8.wrap (q:Int)=(q:Int):=Zlp (by omega)
    have hu:=Zcl (n:=q) (by omega)
    go_wp2_with (at_builtin;refine Zl (c:=cU) (B:=w.heap.size) (xs:=b++D) (ys:=[UInt8.ofNat q]) (Fi:=[]) (Fy:=[]) _ rfl _ _ _ rfl i0 _ _ Tryz.underlying26 hi0 hz0 hz1 hz2 rfl (by decide) rfl (HO.out.bel bl) (.slice (some ⟨wr.heap.size,0,none⟩) 1 1) rfl (Zbg (by rw[hu])) (by simp only[List.length_append];unfold maxLen;simp;omega) (by simp only[List.length_append];simp;omega) (by (try simp);(try omega)) (by simp) ?_)
    intro v2 w2 ho2 hg2 hat2
    have hlo:=HO.out.lt
    have hB2:Below w.heap.size w w2:=(show Below w.heap.size w _ from bl).grown hg2 (by (try simp);omega) (λg hg=>(hlo g hg).1)
    have HO2:=zh ho2
    clear ho2 hg2 hat2 hlo
    go_wp2_with fail
    go_ret
    exact⟨_,rfl,hB2,by rw[HE.out,HD.out,ZcD hlt];exact HO2.out⟩
   ·have hqi:(128:Int)≤(q:Int):=by omega
    have hqj:(127:Int)<(q:Int):=by omega
    have hrem:(q:Int).tmod 128=((q % 128:Nat):Int):=by rw[Int.tmod_eq_emod_of_nonneg (by omega)];omega
    have hquo:(q:Int).tdiv 128=((q / 128:Nat):Int):=by rw[Int.tdiv_eq_ediv_of_nonneg (by omega)];omega
    have hw8:IntKind.u8.wrap (((q % 128:Nat):Int)+128)=((q % 128+128:Nat):Int):=Zlp (by omega)
    have hw9:IntKind.u8.wrap ((q % 128+128:Nat):Int)=((q % 128+128:Nat):Int):=Zlp (by omega)
    have hu:=Zcl (n:=q % 128+128) (by omega)
    have hhi:=ZcL hlt
    generalize UInt8.ofNat (q % 128+128)=d at hu hhi
    have hand:bits .and .i64 (q:Int) 127=(q:Int) % 128:=Zhx _
    have hor:bits .or .i64 ((q:Int) % 128) 128=(q:Int) % 128+128:=by have h9:=Zid (n:=q % 128) (m:=1) (i:=7) (by omega) (by omega);rw[show ((1*2 ^ 7:Nat):Int)=128 from rfl,show ((q % 128:Nat):Int)=(q:Int) % 128 by omega] at h9;rw[h9];omega
    go_wp2_with (at_builtin;refine Zl (c:=cU) (B:=w.heap.size) (xs:=b++D) (ys:=[d]) (Fi:=[]) (Fy:=[]) _ rfl _ _ _ rfl i0 _ _ Tryz.underlying26 hi0 hz0 hz1 hz2 rfl (by decide) rfl (HO.out.bel bl) (.slice (some ⟨wr.heap.size,0,none⟩) 1 1) rfl (Zbg (by rw[hu];omega)) (by simp only[List.length_append];unfold maxLen;simp;omega) (by simp only[List.length_append];simp;omega) (by (try simp);(try omega)) (by simp) ?_)
    intro v2 w2 ho2 hg2 hat2
    have hlo:=HO.out.lt
    have hB2:Below w.heap.size w w2:=(show Below w.heap.size w _ from bl).grown hg2 (by (try simp);omega) (λg hg=>(hlo g hg).1)
    have HO2:=zh ho2
    clear ho2 hg2 hat2 hlo
    go_wp2_with fail
    go_roundw
    case rel=>exact⟨D++[d],q / 128,by simp,by rw[HD.out,hhi,List.append_assoc];rfl,by omega,by simpa using HO2.out,hB2⟩
    case measure=>simp[intOf];omega
theorem ZaU (v u:Value) (b s:List UInt8) (F G:List Nat) (w:World) (h:cUS.rep w [v] b F) (hb:b.length≤900000000) (hs:cUS.rep w [u] s G) (hsl:s.length≤10000000) :
  Calls Tryz.prog 78 #[v,u] w (Zeh cU 5 w (b++ZB s)):=by
 obtain⟨i0,hi0,hz0,hz1,hz2⟩:=info_parts Zcs
 obtain⟨A,c,rfl⟩:=Zb h
 obtain⟨A2,c2,rfl⟩:=Zb hs
 go_enter Tryz.func78,Tryz.ntmps78
 go_wp2_with fail
 refine(ZR _ b s.length _ _ (by exact h) (by omega)).mono ?_
 have hE:Zlq b (s.length:Int)=b++ZJ s.length:=by
  unfold Zlq
  rw[Zjh (by omega) (by omega)]
  simp
 rw[hE]
 have hul:(ZJ s.length).length≤6:=Zax 5 _ (by omega)
 have hfin:b++ZB s=(b++ZJ s.length)++s:=by unfold ZB;rw[List.append_assoc]
 have hxl:(b++ZJ s.length).length≤900000006:=by rw[List.length_append];omega
 generalize b++ZJ s.length=x at hxl hfin⊢
 have HFIN:=zh hfin
 rintro e w1 ⟨v1,rfl,hb1,ho1⟩
 obtain⟨B1,d1,e9⟩:=ho1.slice
 subst e9
 have HO1:=zh ho1
 have HS:=zh (zb hs hb1)
 clear ho1 hE hfin
 go_wp2_with (at_builtin;refine Zl (c:=cU) (B:=w.heap.size) (xs:=x) (ys:=s) (Fi:=[]) (Fy:=[]) _ rfl _ _ _ rfl i0 _ _ Tryz.underlying26 hi0 hz0 hz1 hz2 rfl (by decide) rfl (HO1.out.bel bl) (.slice A2 s.length c2) rfl (AppSrc.flat (hw:=by decide) (hw2:=by decide) ZeN HS.out) (by unfold maxLen;omega) (by omega) (by have:=hb1.size;omega) (by simp) ?_)
 intro v2 w2 ho2 hg2 hat2
 have hlo:=HO1.out.lt
 have hB2:Below w.heap.size w w2:=(show Below w.heap.size w _ from bl).grown hg2 (by have:=hb1.size;omega) (λg hg=>(hlo g hg).1)
 have HO2:=zh ho2
 clear ho2 hg2 hat2 hlo
 go_wp2_with fail
 go_ret
 exact⟨_,rfl,hB2,by rw[HFIN.out];exact HO2.out⟩
theorem Zah (v u:Value) (b s:List UInt8) (F G:List Nat) (w:World) (h:cUS.rep w [v] b F) (hb:b.length≤900000000) (hs:cUS.rep w [u] s G) (hsl:s.length≤10000000) :
  Calls Tryz.prog 65 #[v,u] w (Zeh cU 5 w (b++ZB s)):=by
 obtain⟨i0,hi0,hz0,hz1,hz2⟩:=info_parts Zcs
 obtain⟨A,c,rfl⟩:=Zb h
 obtain⟨A2,c2,rfl⟩:=Zb hs
 go_enter Tryz.func65,Tryz.ntmps65
 go_wp2_with fail
 refine(ZS _ b s.length _ _ (by exact h) (by omega)).mono ?_
 have hE:Zlq b (s.length:Int)=b++ZJ s.length:=by
  unfold Zlq
  rw[Zjh (by omega) (by omega)]
  simp
 rw[hE]
 have hul:(ZJ s.length).length≤6:=Zax 5 _ (by omega)
 have hfin:b++ZB s=(b++ZJ s.length)++s:=by unfold ZB;rw[List.append_assoc]
 have hxl:(b++ZJ s.length).length≤900000006:=by rw[List.length_append];omega
 generalize b++ZJ s.length=x at hxl hfin⊢
 have HFIN:=zh hfin
 rintro e w1 ⟨v1,rfl,hb1,ho1⟩
 obtain⟨B1,d1,e9⟩:=ho1.slice
 subst e9
 have HO1:=zh ho1
 have HS:=zh (zb hs hb1)
 clear ho1 hE hfin
 go_wp2_with (at_builtin;refine Zl (c:=cU) (B:=w.heap.size) (xs:=x) (ys:=s) (Fi:=[]) (Fy:=[]) _ rfl _ _ _ rfl i0 _ _ Tryz.underlying26 hi0 hz0 hz1 hz2 rfl (by decide) rfl (HO1.out.bel bl) (.slice A2 s.length c2) rfl (AppSrc.flat (hw:=by decide) (hw2:=by decide) ZeN HS.out) (by unfold maxLen;omega) (by omega) (by have:=hb1.size;omega) (by simp) ?_)
 intro v2 w2 ho2 hg2 hat2
 have hlo:=HO1.out.lt
 have hB2:Below w.heap.size w w2:=(show Below w.heap.size w _ from bl).grown hg2 (by have:=hb1.size;omega) (λg hg=>(hlo g hg).1)
 have HO2:=zh ho2
 clear ho2 hg2 hat2 hlo
 go_wp2_with fail
 go_ret
 exact⟨_,rfl,hB2,by rw[HFIN.out];exact HO2.out⟩
theorem ZdF:(Tryz.prog.info? 114).map (λi=>(i.zero,i.size,i.bytes))=some (some (Value.agg #[.string ByteArray.empty,.int .i64 0]),2,24):=by kernel_rfl
theorem Zci:Flat cField:=λh=>by obtain⟨-,h,-⟩:=TField.out h;exact h
def Zpo {α:Type} (c:Cod α) (T:TypeId) (w:World) (xs:List α) (e:Ending) (w':World):Prop:=∃v,e=.returned (.agg #[v])∧Below w.heap.size w w'∧Own c T w.heap.size w' v xs []
theorem ZY (v:Value) (fs:List TField) (F:List Nat) (w:World) (h:cFieldS.rep w [v] fs F) (hn:fs.length≤1000000000) :
  Calls Tryz.prog 166 #[.agg #[v]] w (Zpo cField 114 w fs):=by
 obtain⟨i0,hi0,hz0,hz1,hz2⟩:=info_parts ZdF
 obtain⟨A,c,rfl⟩:=Zb h
 have HS:=zh hn
 clear hn
 go_enter Tryz.func166,Tryz.ntmps166
 go_wp2_with (at_builtin;refine Zl (c:=cField) (xs:=[]) (ys:=fs) (Fi:=[]) (Fy:=[]) _ rfl _ _ _ rfl i0 _ _ Tryz.underlying74 hi0 hz0 hz1 hz2 rfl (by decide) (v:=.slice (some _) 0 0) rfl (Own.empty _) (.slice A fs.length c) rfl (AppSrc.flat (hw:=by decide) (hw2:=by decide) Zci (zb h)) (by have:=HS.out;unfold maxLen;simp;omega) (by have:=HS.out;simp;omega) (Nat.le_refl _) (by simp[Zac]) ?_)
 intro v1 w1 ho hg hat
 replace ho:Own cField 114 _ w1 v1 fs []:=ho
 obtain⟨B1,d1,e9⟩:=ho.slice
 subst e9
 have hb:Below _ _ w1:=(Below.refl _ _).grown hg (Nat.le_refl _) (by simp[Zac])
 have hb1:=zt (w:=w) hb
 have hlo:=λg hg=>(ho.lt g hg).1
 obtain⟨hc1,hf1,hz9⟩:=Zc hb
 (try simp at hz9)
 have hs1:w.heap.size+1<w1.heap.size:=by omega
 have ho1:=ho.mono (show w.heap.size≤_ by (try simp);(try omega))
 have HO:=zh ho1
 have HL:=zh hlo
 clear ho ho1 hg hat hb hlo
 go_wp2_with fail
 refine bodyPost_ret (v:=.agg #[.slice B1 fs.length d1]) (by simp[results,Tryz.results166,go_sem, *]) rfl ?_
 exact⟨_,rfl,bl,HO.out.set_ (λe=>by have h9:=HL.out _ e;(try simp at h9);(try omega)) _⟩
theorem Zai (v:Value) (fs:List TField) (F:List Nat) (w:World) (h:cFieldS.rep w [v] fs F) (hn:fs.length≤1000000000) :
  Calls Tryz.prog 163 #[.agg #[v]] w (Zpo cField 114 w fs):=by
 obtain⟨i0,hi0,hz0,hz1,hz2⟩:=info_parts ZdF
 obtain⟨A,c,rfl⟩:=Zb h
 have HS:=zh hn
 clear hn
 go_enter Tryz.func163,Tryz.ntmps163
 go_wp2_with (at_builtin;refine Zl (c:=cField) (xs:=[]) (ys:=fs) (Fi:=[]) (Fy:=[]) _ rfl _ _ _ rfl i0 _ _ Tryz.underlying74 hi0 hz0 hz1 hz2 rfl (by decide) (v:=.slice (some _) 0 0) rfl (Own.empty _) (.slice A fs.length c) rfl (AppSrc.flat (hw:=by decide) (hw2:=by decide) Zci (zb h)) (by have:=HS.out;unfold maxLen;simp;omega) (by have:=HS.out;simp;omega) (Nat.le_refl _) (by simp[Zac]) ?_)
 intro v1 w1 ho hg hat
 replace ho:Own cField 114 _ w1 v1 fs []:=ho
 obtain⟨B1,d1,e9⟩:=ho.slice
 subst e9
 have hb:Below _ _ w1:=(Below.refl _ _).grown hg (Nat.le_refl _) (by simp[Zac])
 have hb1:=zt (w:=w) hb
 have hlo:=λg hg=>(ho.lt g hg).1
 obtain⟨hc1,hf1,hz9⟩:=Zc hb
 (try simp at hz9)
 have hs1:w.heap.size+1<w1.heap.size:=by omega
 have ho1:=ho.mono (show w.heap.size≤_ by (try simp);(try omega))
 have HO:=zh ho1
 have HL:=zh hlo
 clear ho ho1 hg hat hb hlo
 go_wp2_with fail
 refine bodyPost_ret (v:=.agg #[.slice B1 fs.length d1]) (by simp[results,Tryz.results163,go_sem, *]) rfl ?_
 exact⟨_,rfl,bl,HO.out.set_ (λe=>by have h9:=HL.out _ e;(try simp at h9);(try omega)) _⟩
section
variable {P:Program} {ops:Array Oper} {Q:Exit→Act→World→Prop} {md:Region.Mode} {S:World→Prop}
theorem Zoz {i:Nat} (d:Tmp) {oi:Oper} {fuel:Nat} {listed:Array Bool} {a:Act} {w:World} (hi:ops[i]?=some oi) (hd:oi.dst=some d)
  (hs:Region.noSelect ops=true) (hf:Region.free md ops listed i=true) (hr:(Region.ready md ops listed).contains i=true)
  (hQ:∀c a w,Q (.panic c) (a.put (some d) undef) w→Q (.panic c) a w) (hw:Region.wanted oi (yielded ops a.tmps)=false) (hS:S w)
  (h:wpAnyH P md ops Q S fuel (listed.setIfInBounds i true) (a.put (some d) undef) w):wpAnyH P md ops Q S (fuel+1) listed a w :=
 wpAnyH_take hi hs hf hr (by rw[hd];exact hQ) (Or.inr ⟨hw,rfl⟩) hS (by rw[hd];exact h)
theorem Zoy {i:Nat} (d:Tmp) {oi:Oper} {v:Value} {fuel:Nat} {listed:Array Bool} {a:Act} {w:World} (hi:ops[i]?=some oi) (hd:oi.dst=some d)
  (hs:Region.noSelect ops=true) (hf:Region.free md ops listed i=true) (hr:(Region.ready md ops listed).contains i=true)
  (hQ:∀c a w,Q (.panic c) (a.put (some d) v) w→Q (.panic c) a w) (hw:Region.wanted oi (yielded ops a.tmps)=true)
  (hy:∀w,S w→(execOp a.eval oi).run P w=.ok (.value v) w) (hS:S w)
  (h:wpAnyH P md ops Q S fuel (listed.setIfInBounds i true) (a.put (some d) v) w):wpAnyH P md ops Q S (fuel+1) listed a w :=
 wpAnyH_take hi hs hf hr (by rw[hd];exact hQ) (Or.inl ⟨hw,hy⟩) hS (by rw[hd];exact h)
theorem zsk {i:Nat} (d:Tmp) {oi:Oper} {fuel:Nat} {listed:Array Bool} {a:Act} {w:World}
  (h:wpAnyH P md ops Q S fuel (listed.setIfInBounds i true) (a.put (some d) undef) w) (hi:ops[i]?=some oi:=by rfl) (hd:oi.dst=some d:=by rfl)
  (hs:Region.noSelect ops=true:=by kernel_rfl) (hf:Region.free md ops listed i=true:=by kernel_rfl) (hr:(Region.ready md ops listed).contains i=true:=by kernel_rfl)
  (hQ:∀c a w,Q (.panic c) (a.put (some d) undef) w→Q (.panic c) a w:=by exact λ_ _ _ h=>h) (hw:Region.wanted oi (yielded ops a.tmps)=false:=by rfl) (hS:S w:=by assumption):wpAnyH P md ops Q S (fuel+1) listed a w :=
 Zoz d hi hd hs hf hr hQ hw hS h
theorem zrd {i:Nat} (d:Tmp) {oi:Oper} {v:Value} {fuel:Nat} {listed:Array Bool} {a:Act} {w:World}
  (h:wpAnyH P md ops Q S fuel (listed.setIfInBounds i true) (a.put (some d) v) w) (hi:ops[i]?=some oi:=by rfl) (hd:oi.dst=some d:=by rfl)
  (hs:Region.noSelect ops=true:=by kernel_rfl) (hf:Region.free md ops listed i=true:=by kernel_rfl) (hr:(Region.ready md ops listed).contains i=true:=by kernel_rfl)
  (hQ:∀c a w,Q (.panic c) (a.put (some d) v) w→Q (.panic c) a w:=by exact λ_ _ _ h=>h) (hw:Region.wanted oi (yielded ops a.tmps)=true:=by rfl)
  (hy:∀w,S w→(execOp a.eval oi).run P w=.ok (.value v) w:=by (intro w hSw;(try dsimp only at hSw);go_simp;(try with_reducible rfl))) (hS:S w:=by assumption):wpAnyH P md ops Q S (fuel+1) listed a w :=
 Zoy d hi hd hs hf hr hQ hw hy hS h
theorem zst (i:Nat) {o:Oper} {fuel:Nat} {listed:Array Bool} {a:Act} {w:World}
  (h:∀K':Act→World→Prop,Shut (∀a w,S w→(S w→wpAnyH P md ops Q S fuel (listed.setIfInBounds i true) a w)→K' a w)→if Region.wanted o (yielded ops a.tmps)=true then Oper.wp P o a w K' Q else K' (a.put o.dst undef) w)
  (hr:Region.ready md ops listed=[i]:=by kernel_rfl) (ho:ops[i]?=some o:=by rfl):wpAnyH P md ops Q S (fuel+1) listed a w :=
 wpAnyH_ready hr (by simp) (AllReadyH.cons ho h AllReadyH.nil)
end
theorem zp0 (l:List Value) (i:Nat) (v:Value):l.toArray.setIfInBounds i v=(l.set i v).toArray:=List.setIfInBounds_toArray ..
theorem zp1 (x v:Value) (l:List Value):(x::l).set 0 v=v::l:=List.set_cons_zero
theorem zp2 (x v:Value) (l:List Value) (i:Nat):(x::l).set (i+1) v=x::l.set i v:=List.set_cons_succ
section
variable {P:Program} {ops:Array Oper} {Q:Exit→Act→World→Prop} {md:Region.Mode} {S:World→Prop} {tl:List Nat}
def ZmC (md:Region.Mode) (ops:Array Oper) (j i:Nat):Bool :=
 match ops[j]? with
 | some oj=>oj.after.any λe=>Region.binds md e&&e.on==i
 | none=>false
theorem Zih {j i:Nat} (h:ZmC md ops j i=true):∃oj,ops[j]?=some oj∧∃e∈oj.after,Region.binds md e=true∧e.on=i:=by
 unfold ZmC at h
 split at h
 ·rename_i oj hj
  obtain⟨e,he,hb⟩:=Array.any_eq_true'.1 h
  simp only[Bool.and_eq_true,beq_iff_eq] at hb
  exact⟨oj,hj,e,he,hb.1,hb.2⟩
 ·cases h
def RClosed (md:Region.Mode) (ops:Array Oper) (listed:Array Bool):Prop :=
 ∀j oj,ops[j]?=some oj→listed.getD j false=true→∀e∈oj.after,Region.binds md e=true→listed.getD e.on false=true
def Zhp (md:Region.Mode) (ops:Array Oper) (listed:Array Bool):Bool :=
 (List.range ops.size).all λj=>!(listed.getD j false)||match ops[j]? with
  | some oj=>oj.after.all λe=>!(Region.binds md e)||listed.getD e.on false
  | none=>true
theorem Znl {listed:Array Bool} (h:Zhp md ops listed=true):RClosed md ops listed:=by
 intro j oj hj hl e he hb
 have hlt:=(Array.getElem?_eq_some_iff.1 hj).1
 have:=List.all_eq_true.1 h j (List.mem_range.2 hlt)
 simp only[hl,hj,Bool.not_true,Bool.false_or] at this
 have:=Array.all_eq_true'.1 this e he
 simpa [hb] using this
theorem RClosed.set {listed:Array Bool} {i:Nat} (h:RClosed md ops listed) (hi:i∈Region.ready md ops listed):RClosed md ops (listed.setIfInBounds i true):=by
 obtain⟨_,oi,hoi,hall⟩:=mem_ready.1 hi
 intro j oj hj hl e he hb
 by_cases hij:i=j
 ·subst hij
  have:oj=oi:=Option.some.inj (hj.symm.trans hoi)
  subst this
  exact getD_set_true (hall e he hb)
 ·rw[getD_set_ne false hij] at hl
  exact getD_set_true (h j oj hj hl e he hb)
def ZgO (md:Region.Mode) (ops:Array Oper):Nat→Nat→Nat→Bool
 | 0,_,_=>false
 | f+1,i,T=>ZmC md ops T i||(List.range ops.size).any λj=>ZmC md ops T j&&ZgO md ops f i j
theorem Zeq {listed:Array Bool} (hc:RClosed md ops listed) {i:Nat} (hi:listed.getD i false=false):∀(f T:Nat),ZgO md ops f i T=true→(∃oj,ops[T]?=some oj∧∃e∈oj.after,Region.binds md e=true∧listed.getD e.on false=false)
 | 0,_,h=>by cases h
 | f+1,T,h=>by
  simp only[ZgO,Bool.or_eq_true] at h
  rcases h with h|h
  ·obtain⟨oj,h1,e,h2,h3,h4⟩:=Zih h
   exact⟨oj,h1,e,h2,h3,by rw[h4];exact hi⟩
  ·obtain⟨j,_,hj⟩:=List.any_eq_true.1 h
   simp only[Bool.and_eq_true] at hj
   obtain⟨oj,h1,e,h2,h3,h4⟩:=Zih hj.1
   obtain⟨o2,k1,e2,k2,k3,k4⟩:=Zeq hc hi f j hj.2
   refine⟨oj,h1,e,h2,h3,?_⟩
   rw[h4]
   cases hl:listed.getD j false with
   | false=>rfl
   | true =>
    have:=hc j o2 k1 hl e2 k2 k3
    rw[k4] at this;cases this
theorem ZlJ {listed:Array Bool} (hc:RClosed md ops listed) {i f T:Nat} (hi:listed.getD i false=false) (h:ZgO md ops f i T=true):T∉Region.ready md ops listed:=by
 intro hr
 obtain⟨oj,h1,e,h2,h3,h4⟩:=Zeq hc hi f T h
 obtain⟨_,o,ho,hall⟩:=mem_ready.1 hr
 have:oj=o:=Option.some.inj (h1.symm.trans ho)
 subst this
 have:=hall e h2 h3
 rw[h4] at this;cases this
def ZcG (P:Program) (md:Region.Mode) (ops:Array Oper) (Q:Exit→Act→World→Prop) (S:World→Prop) (tl:List Nat):Nat→Array Bool→Act→World→Prop
 | 0,listed,a,w=>Region.ready md ops listed=[]∧Q .normal a w
 | fuel+1,listed,a,w =>
  (Region.ready md ops listed=[]→Q .normal a w) ∧
  ∀i∈Region.ready md ops listed,wpOp P ops Q i (λa' w'=>(i∉tl→S w')∧ZcG P md ops Q S tl fuel (listed.setIfInBounds i true) a' w') a w
theorem ZjE:∀(fuel:Nat) (listed:Array Bool) (a:Act) (w:World),ZcG P md ops Q S tl fuel listed a w→wpAny P md ops Q fuel listed a w
 | 0,_,_,_,h=>h
 | fuel+1,_,_,_,h=>⟨h.1,λi hi=>wpOp_mono (λa' w' h'=>ZjE fuel _ a' w' h'.2) (h.2 i hi)⟩
theorem Zlo {i f:Nat} {oi:Oper} {v:Value} (hi:ops[i]?=some oi) (hsel:∀(j:Nat) (o:Oper) cs b,ops[j]?=some o→o.op≠.select cs b)
  (hQ:∀c a w,Q (.panic c) (a.put oi.dst v) w→Q (.panic c) a w) (htl:i∉tl) (hre:∀T,T∈tl→ZgO md ops f i T=true) :
  ∀(fuel:Nat) (listed:Array Bool) (a:Act) (w:World),RClosed md ops listed →
   (∀j oj,ops[j]?=some oj→j≠i→listed.getD j true=false→(∀e∈oj.after,Region.binds md e=true→e.on≠i)→oi.apart ops oj=true) →
   i∈Region.ready md ops listed→YieldsIf P ops S oi v a→S w →
   ZcG P md ops Q S tl fuel (listed.setIfInBounds i true) (a.put oi.dst v) w→ZcG P md ops Q S tl (fuel+1) listed a w:=by
 intro fuel
 induction fuel with
 | zero =>
  intro listed a w _ _ hr hy hS H
  refine⟨λh=>(by rw[h] at hr;cases hr),λj hj=>?_⟩
  by_cases hji:j=i
  ·subst hji;exact hy.wpOp hi hS ⟨λ_=>hS,H⟩
  ·have:=ready_mono hj hji
   rw[H.1] at this
   cases this
 | succ fuel ih =>
  intro listed a w hcl hfree hr hy hS H
  refine⟨λh=>(by rw[h] at hr;cases hr),λj hj=>?_⟩
  by_cases hji:j=i
  ·subst hji;exact hy.wpOp hi hS ⟨λ_=>hS,H⟩
  ·have h1:=H.2 j (ready_mono hj hji)
   obtain⟨hjun,oj,hoj,hall⟩:=mem_ready.1 hj
   have hiun:listed.getD i false=false:=by
    have h0:=(mem_ready.1 hr).1
    rcases Nat.lt_or_ge i listed.size with h'|h'
    ·simp[h'] at h0⊢;exact h0
    ·simp[Array.getElem?_eq_none h'] at h0
   have hnot:∀e∈oj.after,Region.binds md e=true→e.on≠i:=λe he hb heq=>by
    have h1:=hall e he hb
    rw[heq,hiun] at h1;cases h1
   have hjtl:j∉tl:=λhm=>ZlJ hcl hiun (hre j hm) hj
   have h2:=wpOp_putIf hoj (hfree j oj hoj hji hjun hnot) (λcs b=>hsel i oi cs b hi) (λcs b=>hsel j oj cs b hoj) hQ hy h1
   have hfree':∀k ok,ops[k]?=some ok→k≠i→(listed.setIfInBounds j true).getD k true=false →
     (∀e∈ok.after,Region.binds md e=true→e.on≠i)→oi.apart ops ok=true:=λk ok hk hki hun hno=>by
    refine hfree k ok hk hki ?_ hno
    by_cases hjk:j=k
    ·subst hjk;exact hjun
    ·rw[getD_set_ne true hjk] at hun;exact hun
   refine wpOp_mono (λa' w' h3=>⟨λ_=>h3.2.1 hjtl,ih (listed.setIfInBounds j true) a' w' (hcl.set hj) hfree' (ready_mono hr (Ne.symm hji)) h3.1 (h3.2.1 hjtl) ?_⟩) h2
   rw[Array.setIfInBounds_comm _ _ hji]
   exact h3.2.2
theorem Zqu {i:Nat} (f:Nat) (d:Tmp) {oi:Oper} {fuel:Nat} {listed:Array Bool} {a:Act} {w:World} (hi:ops[i]?=some oi) (hd:oi.dst=some d)
  (hs:Region.noSelect ops=true) (hf:Region.free md ops listed i=true) (hr:(Region.ready md ops listed).contains i=true) (hc:Zhp md ops listed=true)
  (htl:tl.contains i=false) (hre:(tl.all λT=>ZgO md ops f i T)=true)
  (hQ:∀c a w,Q (.panic c) (a.put (some d) undef) w→Q (.panic c) a w) (hw:Region.wanted oi (yielded ops a.tmps)=false) (hS:S w)
  (h:ZcG P md ops Q S tl fuel (listed.setIfInBounds i true) (a.put (some d) undef) w):ZcG P md ops Q S tl (fuel+1) listed a w :=
 Zlo hi (Region.noSelect_spec hs) (by rw[hd];exact hQ) (λhm=>by rw[List.contains_iff_mem.2 hm] at htl;cases htl) (λT hT=>List.all_eq_true.1 hre T hT) fuel listed a w (Znl hc) (Region.free_spec hi hf) (by simpa using hr) (Or.inr ⟨hw,rfl⟩) hS (by rw[hd];exact h)
theorem Znr {i:Nat} (f:Nat) (d:Tmp) {oi:Oper} {v:Value} {fuel:Nat} {listed:Array Bool} {a:Act} {w:World} (hi:ops[i]?=some oi) (hd:oi.dst=some d)
  (hs:Region.noSelect ops=true) (hf:Region.free md ops listed i=true) (hr:(Region.ready md ops listed).contains i=true) (hc:Zhp md ops listed=true)
  (htl:tl.contains i=false) (hre:(tl.all λT=>ZgO md ops f i T)=true)
  (hQ:∀c a w,Q (.panic c) (a.put (some d) v) w→Q (.panic c) a w) (hw:Region.wanted oi (yielded ops a.tmps)=true)
  (hy:∀w,S w→(execOp a.eval oi).run P w=.ok (.value v) w) (hS:S w)
  (h:ZcG P md ops Q S tl fuel (listed.setIfInBounds i true) (a.put (some d) v) w):ZcG P md ops Q S tl (fuel+1) listed a w :=
 Zlo hi (Region.noSelect_spec hs) (by rw[hd];exact hQ) (λhm=>by rw[List.contains_iff_mem.2 hm] at htl;cases htl) (λT hT=>List.all_eq_true.1 hre T hT) fuel listed a w (Znl hc) (Region.free_spec hi hf) (by simpa using hr) (Or.inl ⟨hw,hy⟩) hS (by rw[hd];exact h)
theorem ZdW {fuel:Nat} {listed:Array Bool} {a:Act} {w:World} (i:Nat) {o:Oper} (hr:Region.ready md ops listed=[i]) (ho:ops[i]?=some o)
  (h:∀K':Act→World→Prop,Shut (∀a w,S w→(S w→ZcG P md ops Q S tl fuel (listed.setIfInBounds i true) a w)→K' a w)→if Region.wanted o (yielded ops a.tmps)=true then Oper.wp P o a w K' Q else K' (a.put o.dst undef) w) :
  ZcG P md ops Q S tl (fuel+1) listed a w:=by
 refine⟨λh0=>(by rw[hr] at h0;cases h0),λj hj=>?_⟩
 rw[hr] at hj
 obtain rfl:j=i:=by simpa using hj
 exact wpOp_step ho (λK' hK=>h K' (λa w hS hW=>hK a w ⟨λ_=>hS,hW hS⟩))
theorem ZT {fuel:Nat} {listed:Array Bool} {a:Act} {w:World} (i:Nat) {o:Oper} (hr:Region.ready md ops listed=[i]) (ho:ops[i]?=some o) (ht:tl.contains i=true)
  (h:∀K':Act→World→Prop,Shut (∀a w,ZcG P md ops Q S tl fuel (listed.setIfInBounds i true) a w→K' a w)→if Region.wanted o (yielded ops a.tmps)=true then Oper.wp P o a w K' Q else K' (a.put o.dst undef) w) :
  ZcG P md ops Q S tl (fuel+1) listed a w:=by
 refine⟨λh0=>(by rw[hr] at h0;cases h0),λj hj=>?_⟩
 rw[hr] at hj
 obtain rfl:j=i:=by simpa using hj
 exact wpOp_step ho (λK' hK=>h K' (λa w hW=>hK a w ⟨λhn=>absurd (List.contains_iff_mem.1 ht) hn,hW⟩))
theorem Zfa {listed:Array Bool} {a:Act} {w:World} (hr:Region.ready md ops listed=[]) (h:Q .normal a w):∀fuel,ZcG P md ops Q S tl fuel listed a w
 | 0=>⟨hr,h⟩
 | _+1=>⟨λ_=>h,by rw[hr];simp⟩
theorem ZaE (tl:List Nat) {id:Nat} {a:Act} {w:World} (hm:P.follows .mixedOrders=true) (hS:S w.drew)
  (h:S w.drew→ZcG P .any ops Q S tl ops.size (Array.replicate ops.size false) a w.drew):(Code.region id ops true).wp P Q a w :=
 wp_region_any hm (ZjE _ _ _ _ (h hS))
theorem zskT {i:Nat} (f:Nat) (d:Tmp) {oi:Oper} {fuel:Nat} {listed:Array Bool} {a:Act} {w:World}
  (h:ZcG P md ops Q S tl fuel (listed.setIfInBounds i true) (a.put (some d) undef) w) (hi:ops[i]?=some oi:=by rfl) (hd:oi.dst=some d:=by rfl)
  (hs:Region.noSelect ops=true:=by kernel_rfl) (hf:Region.free md ops listed i=true:=by kernel_rfl) (hr:(Region.ready md ops listed).contains i=true:=by kernel_rfl) (hc:Zhp md ops listed=true:=by kernel_rfl)
  (htl:tl.contains i=false:=by kernel_rfl) (hre:(tl.all λT=>ZgO md ops f i T)=true:=by kernel_rfl)
  (hQ:∀c a w,Q (.panic c) (a.put (some d) undef) w→Q (.panic c) a w:=by exact λ_ _ _ h=>h) (hw:Region.wanted oi (yielded ops a.tmps)=false:=by rfl) (hS:S w:=by assumption):ZcG P md ops Q S tl (fuel+1) listed a w :=
 Zqu f d hi hd hs hf hr hc htl hre hQ hw hS h
theorem zrdT {i:Nat} (f:Nat) (d:Tmp) {oi:Oper} {v:Value} {fuel:Nat} {listed:Array Bool} {a:Act} {w:World}
  (h:ZcG P md ops Q S tl fuel (listed.setIfInBounds i true) (a.put (some d) v) w) (hi:ops[i]?=some oi:=by rfl) (hd:oi.dst=some d:=by rfl)
  (hs:Region.noSelect ops=true:=by kernel_rfl) (hf:Region.free md ops listed i=true:=by kernel_rfl) (hr:(Region.ready md ops listed).contains i=true:=by kernel_rfl) (hc:Zhp md ops listed=true:=by kernel_rfl)
  (htl:tl.contains i=false:=by kernel_rfl) (hre:(tl.all λT=>ZgO md ops f i T)=true:=by kernel_rfl)
  (hQ:∀c a w,Q (.panic c) (a.put (some d) v) w→Q (.panic c) a w:=by exact λ_ _ _ h=>h) (hw:Region.wanted oi (yielded ops a.tmps)=true:=by rfl)
  (hy:∀w,S w→(execOp a.eval oi).run P w=.ok (.value v) w:=by (intro w hSw;(try dsimp only at hSw);go_simp;(try with_reducible rfl))) (hS:S w:=by assumption):ZcG P md ops Q S tl (fuel+1) listed a w :=
 Znr f d hi hd hs hf hr hc htl hre hQ hw hy hS h
end
theorem Zfq {α:Type} (p:α→Bool):∀xs:List α,(Zcm p xs=-1∧xs.find? p=none)∨∃(k:Nat) (h:k<xs.length),Zcm p xs=k∧xs.find? p=some xs[k]
 | []=>.inl ⟨rfl,rfl⟩
 | x::xs=>by
  cases hp:p x with
  | true=>exact .inr ⟨0,by simp,by simp[Zcm,hp],by simp[List.find?,hp]⟩
  | false =>
   have e:Zcm p (x::xs)=if Zcm p xs<0 then -1 else Zcm p xs+1:=by simp[Zcm,hp]
   rcases Zfq p xs with ⟨h1,h2⟩|⟨k,h,h1,h2⟩
   ·exact .inl ⟨by rw[e,h1];rfl,by rw[List.find?,hp];exact h2⟩
   ·exact .inr ⟨k+1,by simpa using h,by rw[e,h1,if_neg (by omega)];omega,by rw[List.find?,hp];simpa using h2⟩
theorem Zfr {fs:List TField} {name:ByteArray} (h:Zav fs name=-1):Zk ⟨fs⟩ name=(0,false):=by
 rcases Zfq (λf:TField=>Zaz f.name name) fs with ⟨h1,h2⟩|⟨k,h3,h1,h2⟩
 ·unfold Zk;rw[h2]
 ·have:Zav fs name=k:=h1
  omega
theorem ZgH {fs:List TField} {name:ByteArray} {k:Nat} (hk:k<fs.length) (h:Zav fs name=k):Zk ⟨fs⟩ name=(fs[k].n,true):=by
 rcases Zfq (λf:TField=>Zaz f.name name) fs with ⟨h1,h2⟩|⟨j,h3,h1,h2⟩
 ·have:Zav fs name=-1:=h1
  omega
 ·have:Zav fs name=j:=h1
  obtain rfl:j=k:=by omega
  unfold Zk;rw[h2]
theorem ZiR (A:Option Addr) (cp:Nat) (b:Nat) (xs:List TField) (v:ByteArray) (F:List Nat) (w:World) (h:cFieldS.rep w [.slice A xs.length cp] xs F) (hv:w.cell? ⟨b,0,none⟩=some (.string v)) (hb:b<w.heap.size) :
  Calls Tryz.prog 186 #[.slice A xs.length cp,.func (.func 187) #[] #[.pointer (some ⟨b,0,none⟩)]] w (ZL w (.int .i64 (Zcm (λf=>Zaz f.name v) xs))):=by
 obtain⟨-,hcp,hm⟩:=Zq h
 obtain⟨n,hxn⟩:∃n,xs.length=n:=⟨_,rfl⟩
 have HN:=zh hxn
 rw[hxn] at hcp⊢
 clear hxn
 unfold maxLen at hm
 go_enter Tryz.func186,Tryz.ntmps186
 go_wp2
 go_loopw [8] (λi wr=>∃k:Nat,k≤n∧i=.int .i64 k∧ZaQ (λf:TField=>Zaz f.name v) xs k=true∧Below w.heap.size w wr) (λi _=>n-(intOf i).toNat)
 case atStart=>exact⟨0,Nat.zero_le _,rfl,Zbu _ _,Below.refl _ _⟩
 case round =>
  obtain⟨k,hk,rfl,hno,hB⟩:=hrel
  have HO:=zh hno
  clear hno
  have hvr:wr.cell? ⟨b,0,none⟩=some (.string v):=zcl hB hv
  have hbr:b<wr.heap.size:=Nat.lt_of_lt_of_le hb hB.size
  have hbne:¬b=wr.heap.size:=by omega
  by_cases hlt:k<n
  ·have hkx:k<xs.length:=by rw[HN.out];exact hlt
   obtain⟨g,o,rfl,hgF,hgw,-,q0,q1⟩:=ZbS (zb h hB) hkx
   cases he:(xs[k].name.toList==v.toList)
   ·have HI:=zh (show Zaz xs[k].name v=false from he)
    go_wp2
    go_roundw
    case rel=>exact⟨k+1,by omega,by go_num,Zbt _ xs k hkx HO.out HI.out,bl⟩
    case measure=>simp[intOf];omega
   ·have HI:=zh (ZcY (λf:TField=>Zaz f.name v) xs k hkx HO.out he)
    go_wp2
    go_ret
    exact⟨Zh HI.out.symm,bl⟩
  ·obtain rfl:k=n:=by omega
   have HI:=zh (Zcp (λf:TField=>Zaz f.name v) xs (by rw[HN.out];exact HO.out))
   go_wp2
   go_ret
   exact⟨Zh HI.out.symm,bl⟩
theorem Zen (v:Value) (fs:List TField) (name:ByteArray) (F:List Nat) (w:World) (h:cFieldS.rep w [v] fs F) :
  Calls Tryz.prog 176 #[.agg #[v],.string name] w (ZL w (.int .i64 (Zav fs name))):=by
 obtain⟨A,cp,rfl⟩:=Zb h
 go_enter Tryz.func176,Tryz.ntmps176
 go_wp2_with fail
 refine(ZiR A cp (w.heap.size+1) fs name _ _ (by exact zb h) (by go_simp) (by simp)).mono ?_
 rintro e w1 ⟨rfl,hb1⟩
 have hB:=zt (w:=w) hb1
 clear hb1
 go_wp2_with fail
 go_ret
 exact⟨rfl,bl⟩
theorem ZaN (v:Value) (fs:List TField) (name:ByteArray) (F:List Nat) (w:World) (h:cFieldS.rep w [v] fs F) :
  Calls Tryz.prog 153 #[.agg #[v],.string name] w (ZL w (.tuple #[.int .i64 (Zk ⟨fs⟩ name).1,.bool (Zk ⟨fs⟩ name).2])):=by
 obtain⟨A,cp,rfl⟩:=Zb h
 obtain⟨-,hcp,hm⟩:=Zq h
 unfold maxLen at hm
 go_enter Tryz.func153,Tryz.ntmps153
 go_wp2_with fail
 refine(Zen _ fs name _ _ (by exact zb h)).mono ?_
 rcases Zfq (λf:TField=>Zaz f.name name) fs with ⟨h1,h2⟩|⟨k,hk,h1,h2⟩
 ·have HG:=zh (Zfr h1)
  rw[show Zav fs name=-1 from h1]
  rintro e w1 ⟨rfl,hb1⟩
  obtain⟨hc_w1,hf_w1,hz_w1⟩:=Zc hb1
  try simp at hz_w1
  have ha0_w1:w.heap.size<w1.heap.size:=by omega
  have hb_w1:=zt (w:=w) hb1
  go_wp2_with fail
  refine bodyPost_ret (v:=.tuple #[.int .i64 0,.bool false]) (by simp[results,Tryz.results153,go_sem]) rfl ?_
  rw[HG.out]
  exact⟨rfl,bl⟩
 ·have HG:=zh (ZgH hk h1)
  rw[show Zav fs name=(k:Int) from h1]
  rintro e w1 ⟨rfl,hb1⟩
  obtain⟨hc_w1,hf_w1,hz_w1⟩:=Zc hb1
  try simp at hz_w1
  have ha0_w1:w.heap.size<w1.heap.size:=by omega
  have hb_w1:=zt (w:=w) hb1
  obtain⟨g,o,rfl,hgF,hgw,-,q0,q1⟩:=ZbS (zb h (by assumption)) hk
  have hki:(k:Int)<(fs.length:Int):=by omega
  go_wp2_with fail
  refine bodyPost_ret (v:=.tuple #[.int .i64 fs[k].n,.bool true]) (by simp[results,Tryz.results153,go_sem]) rfl ?_
  rw[HG.out]
  exact⟨rfl,bl⟩
theorem ZaP (v:Value) (fs:List TField) (name:ByteArray) (F:List Nat) (w:World) (h:cFieldS.rep w [v] fs F) :
  Calls Tryz.prog 138 #[.agg #[v],.string name] w (ZL w (.tuple #[.int .i64 (Zk ⟨fs⟩ name).1,.bool (Zk ⟨fs⟩ name).2])):=by
 obtain⟨A,cp,rfl⟩:=Zb h
 obtain⟨-,hcp,hm⟩:=Zq h
 obtain⟨n,hxn⟩:∃n,fs.length=n:=⟨_,rfl⟩
 have HN:=zh hxn
 rw[hxn] at hcp⊢
 clear hxn
 unfold maxLen at hm
 go_enter Tryz.func138,Tryz.ntmps138
 go_wp2
 generalize hW:World.alloc _ _=W
 have hWs:W.heap.size=w.heap.size+1:=by rw[← hW];clear hW;simp
 have hbW:Below w.heap.size w W:=by rw[← hW];exact bl
 have HK:=zh (show W.cell? ⟨w.heap.size,0,none⟩=some (.slice A n cp) from by (rw[← hW];clear hW;go_simp))
 clear hW
 go_loopw [6] (λi wr=>∃k:Nat,k≤n∧i=.int .i64 k∧ZaQ (λf:TField=>Zaz f.name name) fs k=true∧Below W.heap.size W wr) (λi _=>n-(intOf i).toNat)
 case atStart=>exact⟨0,Nat.zero_le _,rfl,Zbu _ _,Below.refl _ _⟩
 case round =>
  obtain⟨k,hk,rfl,hno,hB⟩:=hrel
  have HO:=zh hno
  clear hno
  have hws_wr:w.heap.size<wr.heap.size:=by have:=hB.size;omega
  have hbw:Below w.heap.size w wr:=Za hbW hB
  have k0_wr:wr.cell? ⟨w.heap.size,0,none⟩=some (.slice A n cp):=zcl hB HK.out
  by_cases hlt:k<n
  ·have hkx:k<fs.length:=by rw[HN.out];exact hlt
   obtain⟨g,o,rfl,hgF,hgw,-,q0,q1⟩:=ZbS (zb h hbw) hkx
   have hki:((k:Int)<(n:Int)):=by omega
   cases he:(fs[k].name.toList==name.toList)
   ·have HI:=zh (show Zaz fs[k].name name=false from he)
    go_wp2
    go_roundw
    case rel=>exact⟨k+1,by omega,by go_num,Zbt _ fs k hkx HO.out HI.out,hB⟩
    case measure=>simp[intOf];omega
   ·have HG:=zh (ZgH hkx (ZcY (λf:TField=>Zaz f.name name) fs k hkx HO.out he))
    go_wp2
    refine bodyPost_ret (v:=.tuple #[.int .i64 fs[k].n,.bool true]) (by simp[results,Tryz.results138,go_sem]) rfl ?_
    rw[HG.out]
    exact⟨rfl,bl⟩
  ·obtain rfl:k=n:=by omega
   have HG:=zh (Zfr (Zcp (λf:TField=>Zaz f.name name) fs (by rw[HN.out];exact HO.out)))
   go_wp2
   refine bodyPost_ret (v:=.tuple #[.int .i64 0,.bool false]) (by simp[results,Tryz.results138,go_sem]) rfl ?_
   rw[HG.out]
   exact⟨rfl,bl⟩
section
variable {α:Type} {c:Cod α} {e:TypeId} {B:Nat} {w:World} {A:Option Addr} {n cp:Nat} {xs:List α} {Fi:List Nat}
theorem Own.put1 (hw:0<c.wd) (h:Own c e B w (.slice A n cp) xs Fi) {i:Nat} (hi:i<xs.length) (d:Nat) (hd:d<c.wd) (u:Value) :
  ∃g F1 Fm F2 vs,A=some ⟨g,0,none⟩∧n=xs.length∧n≤cp∧B≤g∧g<w.heap.size∧Zac (.slice A n cp)=some g∧Fi=F1++(Fm++F2)∧c.rep w vs xs[i] Fm∧(∀j,j<c.wd→w.cell? ⟨g,i*c.wd+j,none⟩=vs[j]?)∧(∀j,w.frozen? ⟨g,j,none⟩=false) ∧
   ∀(y':α) (G':List Nat),g∉Fi→c.rep (w.setCell ⟨g,i*c.wd+d,none⟩ u) (vs.set d u) y' G'→Own c e B (w.setCell ⟨g,i*c.wd+d,none⟩ u) (.slice A n cp) (xs.set i y') (F1++(G'++F2)):=by
 obtain⟨g,cur,vs,F1,Fm,F2,hA,hcp,hnc,hcm,hgo,hB,hblk,hF,hr,hsz,hcur,hupd⟩:=h.upd hw hi
 have hn:n=xs.length:=by
  obtain⟨A',cp',e'⟩:=h.slice
  injection e'
 have hvl:=c.len hr
 refine⟨g,F1,Fm,F2,vs,hA,hn,hnc,hB,hblk.lt,hgo,hF,hr,λj hj=>by rw[hblk.cell];exact hcur j hj,λj=>hblk.frozen j,λy' G' hg hy=>?_⟩
 refine hupd (w.setCell ⟨g,i*c.wd+d,none⟩ u) (cur.setIfInBounds (i*c.wd+d) u) (vs.set d u) y' G' (hblk.set_ _ u) (by simp) (λo ho=>?_) (λj hj=>?_) hy (λb hb=>Below.heap_setCell _ _ _ _ (λe'=>hg ?_))
 ·rw[Array.getElem?_setIfInBounds_ne (by omega)]
 ·by_cases hjd:j=d
  ·subst hjd
   rw[Array.getElem?_setIfInBounds,if_pos rfl,if_pos (by omega),List.getElem?_set,if_pos rfl,if_pos (by omega)]
  ·rw[Array.getElem?_setIfInBounds_ne (by omega),List.getElem?_set_ne (by omega)]
   exact hcur j hj
 ·have e9:b=g:=e'
  rw[← e9,hF]
  rcases hb with hb|hb<;>simp[hb]
end
theorem Cod.setA {α:Type} {c:Cod α} {w:World} {vs:List Value} {x:α} {F:List Nat} (h:c.rep w vs x F) {p:Addr} (hp:p.block∉F) (v:Value):c.rep (w.setCell p v) vs x F :=
 c.keep h λb hb=>Below.heap_setCell _ _ _ _ (λe=>hp (by rw[← e];exact hb))
theorem Cod.allocA {α:Type} {c:Cod α} {w:World} {vs:List Value} {x:α} {F:List Nat} (h:c.rep w vs x F) (o:Obj):c.rep (w.alloc o) vs x F :=
 zb h (ZM (Below.refl _ _) o)
theorem Cod.drewA {α:Type} {c:Cod α} {w:World} {vs:List Value} {x:α} {F:List Nat} (h:c.rep w vs x F):c.rep w.drew vs x F :=
 zb h (Below.refl _ _).drew
theorem Cod.drewNA {α:Type} {c:Cod α} {w:World} {vs:List Value} {x:α} {F:List Nat} (h:c.rep w vs x F) (n:Nat):c.rep (w.drewN n) vs x F :=
 zb h (ZhC (Below.refl _ _) n)
def KeptBy (p:Nat→Prop) (w w':World):Prop:=w.heap.size≤w'.heap.size∧∀b,p b→b<w.heap.size→w'.heap[b]?=w.heap[b]?
theorem kb_refl (p:Nat→Prop) (w:World):KeptBy p w w:=⟨Nat.le_refl _,λ_ _ _=>rfl⟩
theorem kb_alloc {p:Nat→Prop} {w w':World} (h:KeptBy p w w') (o:Obj):KeptBy p w (w'.alloc o) :=
 ⟨Nat.le_trans h.1 (ZM (Below.refl _ w') o).size,λb hb hl=>((ZM (Below.refl _ w') o).block b (Nat.lt_of_lt_of_le hl h.1)).trans (h.2 b hb hl)⟩
theorem kb_drew {p:Nat→Prop} {w w':World} (h:KeptBy p w w'):KeptBy p w w'.drew:=h
theorem kb_drewN {p:Nat→Prop} {w w':World} (h:KeptBy p w w') (n:Nat):KeptBy p w (w'.drewN n):=h
theorem kb_set {p:Nat→Prop} {w w':World} (h:KeptBy p w w') {a:Addr} (ha:¬p a.block) (u:Value):KeptBy p w (w'.setCell a u) :=
 ⟨by simpa using h.1,λb hb hl=>(Below.heap_setCell _ _ _ _ (λe=>ha (e ▸ hb))).trans (h.2 b hb hl)⟩
theorem zks {α:Type} {c:Cod α} {w w':World} {vs:List Value} {x:α} {F:List Nat} {p:Nat→Prop} (h:c.rep w vs x F) (hl:∀b,b∈F→p b) (k:KeptBy p w w':=by repeat (first|with_reducible exact kb_refl _ _|with_reducible refine kb_alloc ?_ _|with_reducible refine kb_drew ?_|with_reducible refine kb_drewN ?_ _|((with_reducible refine kb_set ?_ ?_ _);rotate_left;(intro hm8;(try dsimp only at hm8);(try simp at hm8);(try omega))))):c.rep w' vs x F :=
 c.keep h λb hm=>k.2 b (hl b hm) (Cod.lt _ h b hm)
section
variable {P:Program} {ops:Array Oper} {Q:Exit→Act→World→Prop} {md:Region.Mode} {S:World→Prop} {tl:List Nat}
theorem Zqs {i:Nat} {oi:Oper} {v:Value} (hi:ops[i]?=some oi) (hsel:∀(j:Nat) (o:Oper) cs b,ops[j]?=some o→o.op≠.select cs b)
  (hQ:∀c a w,Q (.panic c) (a.put oi.dst v) w→Q (.panic c) a w) (htl:i∈tl) :
  ∀(fuel:Nat) (listed:Array Bool) (a:Act) (w:World),
   (∀j oj,ops[j]?=some oj→j≠i→listed.getD j true=false→(∀e∈oj.after,Region.binds md e=true→e.on≠i)→oi.apart ops oj=true) →
   i∈Region.ready md ops listed→YieldsIf P ops (λ_=>True) oi v a →
   ZcG P md ops Q S tl fuel (listed.setIfInBounds i true) (a.put oi.dst v) w→ZcG P md ops Q S tl (fuel+1) listed a w:=by
 intro fuel
 induction fuel with
 | zero =>
  intro listed a w _ hr hy H
  refine⟨λh=>(by rw[h] at hr;cases hr),λj hj=>?_⟩
  by_cases hji:j=i
  ·subst hji;exact hy.wpOp hi trivial ⟨λh=>absurd htl h,H⟩
  ·have:=ready_mono hj hji
   rw[H.1] at this
   cases this
 | succ fuel ih =>
  intro listed a w hfree hr hy H
  refine⟨λh=>(by rw[h] at hr;cases hr),λj hj=>?_⟩
  by_cases hji:j=i
  ·subst hji;exact hy.wpOp hi trivial ⟨λh=>absurd htl h,H⟩
  ·have h1:=H.2 j (ready_mono hj hji)
   obtain⟨hjun,oj,hoj,hall⟩:=mem_ready.1 hj
   have hiun:listed.getD i false=false:=by
    have h0:=(mem_ready.1 hr).1
    rcases Nat.lt_or_ge i listed.size with h'|h'
    ·simp[h'] at h0⊢;exact h0
    ·simp[Array.getElem?_eq_none h'] at h0
   have hnot:∀e∈oj.after,Region.binds md e=true→e.on≠i:=λe he hb heq=>by
    have h1:=hall e he hb
    rw[heq,hiun] at h1;cases h1
   have h2:=wpOp_putIf hoj (hfree j oj hoj hji hjun hnot) (λcs b=>hsel i oi cs b hi) (λcs b=>hsel j oj cs b hoj) hQ hy h1
   have hfree':∀k ok,ops[k]?=some ok→k≠i→(listed.setIfInBounds j true).getD k true=false →
     (∀e∈ok.after,Region.binds md e=true→e.on≠i)→oi.apart ops ok=true:=λk ok hk hki hun hno=>by
    refine hfree k ok hk hki ?_ hno
    by_cases hjk:j=k
    ·subst hjk;exact hjun
    ·rw[getD_set_ne true hjk] at hun;exact hun
   refine wpOp_mono (λa' w' h3=>⟨h3.2.1,ih (listed.setIfInBounds j true) a' w' hfree' (ready_mono hr (Ne.symm hji)) h3.1 ?_⟩) h2
   rw[Array.setIfInBounds_comm _ _ hji]
   exact h3.2.2
theorem Zqt {i:Nat} (d:Tmp) {oi:Oper} {v:Value} {fuel:Nat} {listed:Array Bool} {a:Act} {w:World} (hi:ops[i]?=some oi) (hd:oi.dst=some d)
  (hs:Region.noSelect ops=true) (hf:Region.free md ops listed i=true) (hr:(Region.ready md ops listed).contains i=true) (htl:tl.contains i=true)
  (hQ:∀c a w,Q (.panic c) (a.put (some d) v) w→Q (.panic c) a w) (hw:Region.wanted oi (yielded ops a.tmps)=true)
  (hy:∀w,(execOp a.eval oi).run P w=.ok (.value v) w)
  (h:ZcG P md ops Q S tl fuel (listed.setIfInBounds i true) (a.put (some d) v) w):ZcG P md ops Q S tl (fuel+1) listed a w :=
 Zqs hi (Region.noSelect_spec hs) (by rw[hd];exact hQ) (List.contains_iff_mem.1 htl) fuel listed a w (Region.free_spec hi hf) (by simpa using hr) (Or.inl ⟨hw,λw _=>hy w⟩) (by rw[hd];exact h)
theorem zpuT {i:Nat} (d:Tmp) {oi:Oper} {v:Value} {fuel:Nat} {listed:Array Bool} {a:Act} {w:World}
  (h:ZcG P md ops Q S tl fuel (listed.setIfInBounds i true) (a.put (some d) v) w) (hi:ops[i]?=some oi:=by rfl) (hd:oi.dst=some d:=by rfl)
  (hs:Region.noSelect ops=true:=by kernel_rfl) (hf:Region.free md ops listed i=true:=by kernel_rfl) (hr:(Region.ready md ops listed).contains i=true:=by kernel_rfl) (htl:tl.contains i=true:=by kernel_rfl)
  (hQ:∀c a w,Q (.panic c) (a.put (some d) v) w→Q (.panic c) a w:=by exact λ_ _ _ h=>h) (hw:Region.wanted oi (yielded ops a.tmps)=true:=by rfl)
  (hy:∀w,(execOp a.eval oi).run P w=.ok (.value v) w:=by (intro w;go_simp;(try with_reducible rfl))):ZcG P md ops Q S tl (fuel+1) listed a w :=
 Zqt d hi hd hs hf hr htl hQ hw hy h
end
theorem ZkI (s:ByteArray):Znd s 0=true:=by simp[Znd]
theorem ZhU (s:ByteArray) (k:Nat) (h:k<s.size):Znd s (k+1)=(Znd s k&&ZoG s[k]):=by
 have hl:k<s.data.toList.length:=by simpa using h
 unfold Znd
 rw[List.take_succ_eq_append_getElem hl,List.all_append]
 simp
 rfl
theorem ZpT (s:ByteArray) {j k:Nat} (hjk:j≤k) (h:Znd s j=false):Znd s k=false:=by
 cases hk:Znd s k with
 | false=>rfl
 | true =>
  unfold Znd at h hk
  rw[List.all_eq_true] at hk
  have:(s.data.toList.take j).all ZoG=true:=List.all_eq_true.2 λx hx=>hk x (List.take_subset_take_left _ hjk hx)
  rw[this] at h;cases h
theorem ZhW {s:ByteArray} {k:Nat} (h:k<s.size) (hb:ZoG s[k]=false):Zby s=false:=by
 unfold Zby
 rw[ZpT s (show k+1≤s.size from h) (by rw[ZhU s k h,hb,Bool.and_false]),Bool.false_and]
theorem ZhX {s:ByteArray} (h:Znd s s.size=true):Zby s=decide ((s.size:Int)≤12):=by unfold Zby;rw[h,Bool.true_and]
theorem ZhN (s:ByteArray) (w:World) (hs:s.size≤maxLen) :
  Calls Tryz.prog 159 #[.string s] w λe w'=>e=.returned (.bool (Zby s))∧w=w':=by
 unfold maxLen at hs
 go_enter Tryz.func159,Tryz.ntmps159
 go_wp2
 go_loop [3] (λi=>∃k:Nat,k≤s.size∧i=.int .i64 k∧Znd s k=true) (λi=>s.size-(intOf i).toNat)
 case atStart=>exact⟨0,Nat.zero_le _,rfl,ZkI s⟩
 case round =>
  obtain⟨k,hk,rfl,hl⟩:=hrel
  have HL:=zh hl
  clear hl
  by_cases hlt:k<s.size
  ·have HS:=zh (ZhU s k hlt)
   have HB:=zh (λh=>ZhW (s:=s) (k:=k) hlt h)
   have HC:=zh (show ZoG s[k]=((decide (97≤(s[k].toNat:Int))&&decide ((s[k].toNat:Int)≤122))||(decide (48≤(s[k].toNat:Int))&&decide ((s[k].toNat:Int)≤57))) from rfl)
   rcases (by omega:(s[k].toNat:Int)<48∨(48≤(s[k].toNat:Int)∧(s[k].toNat:Int)≤57)∨(57<(s[k].toNat:Int)∧(s[k].toNat:Int)<97)∨(97≤(s[k].toNat:Int)∧(s[k].toNat:Int)≤122)∨122<(s[k].toNat:Int)) with c1|⟨c1,c2⟩|⟨c1,c2⟩|⟨c1,c2⟩|c1
   ·
    have a1:(s[k].toNat:Int)<97:=by omega
    have a1d:decide ((97:Int)≤s[k].toNat)=false:=by simp;omega
    have a2:(s[k].toNat:Int)<48:=by omega
    have a2d:decide ((48:Int)≤s[k].toNat)=false:=by simp;omega
    have a3:(s[k].toNat:Int)≤57:=by omega
    have a3d:decide ((s[k].toNat:Int)≤57)=true:=by simp;omega
    have a4:(s[k].toNat:Int)≤122:=by omega
    have a4d:decide ((s[k].toNat:Int)≤122)=true:=by simp;omega
    have HG:=zh (HB.out (by rw[HC.out,a1d,a2d,a3d,a4d];rfl))
    go_wp2
    go_ret
    exact⟨Zd HG.out.symm,rfl⟩
   ·
    have a1:(s[k].toNat:Int)<97:=by omega
    have a1d:decide ((97:Int)≤s[k].toNat)=false:=by simp;omega
    have a2:(48:Int)≤s[k].toNat:=by omega
    have a2d:decide ((48:Int)≤s[k].toNat)=true:=by simp;omega
    have a3:(s[k].toNat:Int)≤57:=by omega
    have a3d:decide ((s[k].toNat:Int)≤57)=true:=by simp;omega
    have a4:(s[k].toNat:Int)≤122:=by omega
    have a4d:decide ((s[k].toNat:Int)≤122)=true:=by simp;omega
    have HG:=zh (show ZoG s[k]=true by rw[HC.out,a1d,a2d,a3d,a4d];rfl)
    go_wp2
    go_round
    case rel=>exact⟨k+1,by omega,by go_num,by rw[HS.out,HL.out,HG.out];rfl⟩
    case measure=>simp[intOf];omega
   ·
    have a1:(s[k].toNat:Int)<97:=by omega
    have a1d:decide ((97:Int)≤s[k].toNat)=false:=by simp;omega
    have a2:(48:Int)≤s[k].toNat:=by omega
    have a2d:decide ((48:Int)≤s[k].toNat)=true:=by simp;omega
    have a3:(57:Int)<s[k].toNat:=by omega
    have a3d:decide ((s[k].toNat:Int)≤57)=false:=by simp;omega
    have a4:(s[k].toNat:Int)≤122:=by omega
    have a4d:decide ((s[k].toNat:Int)≤122)=true:=by simp;omega
    have HG:=zh (HB.out (by rw[HC.out,a1d,a2d,a3d,a4d];rfl))
    go_wp2
    go_ret
    exact⟨Zd HG.out.symm,rfl⟩
   ·
    have a1:(97:Int)≤s[k].toNat:=by omega
    have a1d:decide ((97:Int)≤s[k].toNat)=true:=by simp;omega
    have a2:(48:Int)≤s[k].toNat:=by omega
    have a2d:decide ((48:Int)≤s[k].toNat)=true:=by simp;omega
    have a3:(57:Int)<s[k].toNat:=by omega
    have a3d:decide ((s[k].toNat:Int)≤57)=false:=by simp;omega
    have a4:(s[k].toNat:Int)≤122:=by omega
    have a4d:decide ((s[k].toNat:Int)≤122)=true:=by simp;omega
    have HG:=zh (show ZoG s[k]=true by rw[HC.out,a1d,a2d,a3d,a4d];rfl)
    go_wp2
    go_round
    case rel=>exact⟨k+1,by omega,by go_num,by rw[HS.out,HL.out,HG.out];rfl⟩
    case measure=>simp[intOf];omega
   ·
    have a1:(97:Int)≤s[k].toNat:=by omega
    have a1d:decide ((97:Int)≤s[k].toNat)=true:=by simp;omega
    have a2:(48:Int)≤s[k].toNat:=by omega
    have a2d:decide ((48:Int)≤s[k].toNat)=true:=by simp;omega
    have a3:(57:Int)<s[k].toNat:=by omega
    have a3d:decide ((s[k].toNat:Int)≤57)=false:=by simp;omega
    have a4:(122:Int)<s[k].toNat:=by omega
    have a4d:decide ((s[k].toNat:Int)≤122)=false:=by simp;omega
    have HG:=zh (HB.out (by rw[HC.out,a1d,a2d,a3d,a4d];rfl))
    go_wp2
    go_ret
    exact⟨Zd HG.out.symm,rfl⟩
  ·obtain rfl:k=s.size:=by omega
   go_wp2
   go_ret
   exact⟨Zd (ZhX HL.out).symm,rfl⟩
theorem Ziv (s:ByteArray) (w:World) (hs:s.size≤maxLen) :
  Calls Tryz.prog 144 #[.string s] w λe w'=>e=.returned (.bool (Zby s))∧w=w':=by
 unfold maxLen at hs
 go_enter Tryz.func144,Tryz.ntmps144
 go_wp2
 go_loop [3] (λi=>∃k:Nat,k≤s.size∧i=.int .i64 k∧Znd s k=true) (λi=>s.size-(intOf i).toNat)
 case atStart=>exact⟨0,Nat.zero_le _,rfl,ZkI s⟩
 case round =>
  obtain⟨k,hk,rfl,hl⟩:=hrel
  have HL:=zh hl
  clear hl
  by_cases hlt:k<s.size
  ·have HS:=zh (ZhU s k hlt)
   have HB:=zh (λh=>ZhW (s:=s) (k:=k) hlt h)
   have HC:=zh (show ZoG s[k]=((decide (97≤(s[k].toNat:Int))&&decide ((s[k].toNat:Int)≤122))||(decide (48≤(s[k].toNat:Int))&&decide ((s[k].toNat:Int)≤57))) from rfl)
   rcases (by omega:(s[k].toNat:Int)<48∨(48≤(s[k].toNat:Int)∧(s[k].toNat:Int)≤57)∨(57<(s[k].toNat:Int)∧(s[k].toNat:Int)<97)∨(97≤(s[k].toNat:Int)∧(s[k].toNat:Int)≤122)∨122<(s[k].toNat:Int)) with c1|⟨c1,c2⟩|⟨c1,c2⟩|⟨c1,c2⟩|c1
   ·
    have a1:(s[k].toNat:Int)<97:=by omega
    have a1d:decide ((97:Int)≤s[k].toNat)=false:=by simp;omega
    have a2:(s[k].toNat:Int)<48:=by omega
    have a2d:decide ((48:Int)≤s[k].toNat)=false:=by simp;omega
    have a3:(s[k].toNat:Int)≤57:=by omega
    have a3d:decide ((s[k].toNat:Int)≤57)=true:=by simp;omega
    have a4:(s[k].toNat:Int)≤122:=by omega
    have a4d:decide ((s[k].toNat:Int)≤122)=true:=by simp;omega
    have HG:=zh (HB.out (by rw[HC.out,a1d,a2d,a3d,a4d];rfl))
    go_wp2
    go_ret
    exact⟨Zd HG.out.symm,rfl⟩
   ·
    have a1:(s[k].toNat:Int)<97:=by omega
    have a1d:decide ((97:Int)≤s[k].toNat)=false:=by simp;omega
    have a2:(48:Int)≤s[k].toNat:=by omega
    have a2d:decide ((48:Int)≤s[k].toNat)=true:=by simp;omega
    have a3:(s[k].toNat:Int)≤57:=by omega
    have a3d:decide ((s[k].toNat:Int)≤57)=true:=by simp;omega
    have a4:(s[k].toNat:Int)≤122:=by omega
    have a4d:decide ((s[k].toNat:Int)≤122)=true:=by simp;omega
    have HG:=zh (show ZoG s[k]=true by rw[HC.out,a1d,a2d,a3d,a4d];rfl)
    go_wp2
    go_round
    case rel=>exact⟨k+1,by omega,by go_num,by rw[HS.out,HL.out,HG.out];rfl⟩
    case measure=>simp[intOf];omega
   ·
    have a1:(s[k].toNat:Int)<97:=by omega
    have a1d:decide ((97:Int)≤s[k].toNat)=false:=by simp;omega
    have a2:(48:Int)≤s[k].toNat:=by omega
    have a2d:decide ((48:Int)≤s[k].toNat)=true:=by simp;omega
    have a3:(57:Int)<s[k].toNat:=by omega
    have a3d:decide ((s[k].toNat:Int)≤57)=false:=by simp;omega
    have a4:(s[k].toNat:Int)≤122:=by omega
    have a4d:decide ((s[k].toNat:Int)≤122)=true:=by simp;omega
    have HG:=zh (HB.out (by rw[HC.out,a1d,a2d,a3d,a4d];rfl))
    go_wp2
    go_ret
    exact⟨Zd HG.out.symm,rfl⟩
   ·
    have a1:(97:Int)≤s[k].toNat:=by omega
    have a1d:decide ((97:Int)≤s[k].toNat)=true:=by simp;omega
    have a2:(48:Int)≤s[k].toNat:=by omega
    have a2d:decide ((48:Int)≤s[k].toNat)=true:=by simp;omega
    have a3:(57:Int)<s[k].toNat:=by omega
    have a3d:decide ((s[k].toNat:Int)≤57)=false:=by simp;omega
    have a4:(s[k].toNat:Int)≤122:=by omega
    have a4d:decide ((s[k].toNat:Int)≤122)=true:=by simp;omega
    have HG:=zh (show ZoG s[k]=true by rw[HC.out,a1d,a2d,a3d,a4d];rfl)
    go_wp2
    go_round
    case rel=>exact⟨k+1,by omega,by go_num,by rw[HS.out,HL.out,HG.out];rfl⟩
    case measure=>simp[intOf];omega
   ·
    have a1:(97:Int)≤s[k].toNat:=by omega
    have a1d:decide ((97:Int)≤s[k].toNat)=true:=by simp;omega
    have a2:(48:Int)≤s[k].toNat:=by omega
    have a2d:decide ((48:Int)≤s[k].toNat)=true:=by simp;omega
    have a3:(57:Int)<s[k].toNat:=by omega
    have a3d:decide ((s[k].toNat:Int)≤57)=false:=by simp;omega
    have a4:(122:Int)<s[k].toNat:=by omega
    have a4d:decide ((s[k].toNat:Int)≤122)=false:=by simp;omega
    have HG:=zh (HB.out (by rw[HC.out,a1d,a2d,a3d,a4d];rfl))
    go_wp2
    go_ret
    exact⟨Zd HG.out.symm,rfl⟩
  ·obtain rfl:k=s.size:=by omega
   go_wp2
   go_ret
   exact⟨Zd (ZhX HL.out).symm,rfl⟩
theorem Zce (a b:Int) (w:World) :
  Calls Tryz.prog 172 #[.int .i64 a,.int .i64 b] w λe w'=>e=.returned (.int .i64 (ZdY a b))∧w=w':=by
 have hc:(a<b∧ZdY a b=-1)∨(¬a<b∧b<a∧ZdY a b=1)∨(¬a<b∧¬b<a∧ZdY a b=0):=by
  unfold ZdY
  by_cases h:a<b
  ·exact .inl ⟨h,if_pos h⟩
  ·by_cases h2:b<a
   ·exact .inr (.inl ⟨h,h2,(if_neg h).trans (if_pos h2)⟩)
   ·exact .inr (.inr ⟨h,h2,(if_neg h).trans (if_neg h2)⟩)
 rcases hc with ⟨h,e⟩|⟨h,h2,e⟩|⟨h,h2,e⟩
 all_goals (rw[e];go_enter Tryz.func172,Tryz.ntmps172;go_wp2;go_ret;exact⟨rfl,rfl⟩)
theorem ZdH (a b:Bool) (w:World) :
  Calls Tryz.prog 168 #[.bool a,.bool b] w λe w'=>e=.returned (.int .i64 (if a=true then -1 else if b=true then 1 else 0))∧w=w':=by
 cases a<;>cases b
 all_goals (go_enter Tryz.func168,Tryz.ntmps168;go_wp2;go_ret;exact⟨rfl,rfl⟩)
theorem ZnG (a b:TKey):ZiK a b=if (a.kind==b.kind)=false then (if decide (a.kind<b.kind)=true then -1 else if true=true then 1 else 0) else if (a.n==b.n)=false then (if decide (a.n<b.n)=true then -1 else if true=true then 1 else 0) else (if Op.bytesLess a.text.toList b.text.toList=true then -1 else if Op.bytesLess b.text.toList a.text.toList=true then 1 else 0):=by
 unfold ZiK ZdY Zmc
 rcases Int.lt_trichotomy a.kind b.kind with h|h|h<;>rcases Int.lt_trichotomy a.n b.n with h2|h2|h2
 all_goals (try have h3:¬b.kind<a.kind:=by omega)
 all_goals (try have h4:¬a.kind<b.kind:=by omega)
 all_goals (try have h5:¬b.n<a.n:=by omega)
 all_goals (try have h6:¬a.n<b.n:=by omega)
 all_goals (try have h7:¬a.n=b.n:=by omega)
 all_goals (try have h8:¬a.kind=b.kind:=by omega)
 all_goals simp[*]
theorem ZiV (a b:ByteArray) (w:World) :
  Calls Tryz.prog 173 #[.string a,.string b] w λe w'=>e=.returned (.int .i64 (Zmc a b))∧w=w':=by
 have hc:Zmc a b=Lib.compareBytes a.data.toList b.data.toList:=by rw[Zmd];unfold Zmc;rw[ByteArray.toList_eq,ByteArray.toList_eq]
 rw[hc]
 go_enter Tryz.func173,Tryz.ntmps173
 go_wp2
 rw[run_callFunc_extern Tryz.func190 (by kernel_rfl) (by kernel_rfl) (by kernel_rfl) (e:=Extern.BytealgCompare.compare) (by kernel_rfl),Lib.run_compareString]
 simp only[Result.andThen]
 rw[Oper.upon_value]
 go_wp2
 go_ret
 exact⟨rfl,rfl⟩
section
variable {P:Program} {d:Nat} {xs ys:Array Value} {f:Field} {fs:List Field} {w:World} {ty:TypeId} {off:Nat} {v u:Value} {b c:Bool}
theorem Zco (h0 : (f.type, f.offset, f.name == "_") = (ty, off, false)) (ha : (isAgg ty).run P w = .ok false w) (hx : xs[off]? = some v) (hy : ys[off]? = some u)
  (he:(Op.equalIn d ty v u).run P w=.ok b w) (hr:(Op.eqFields d xs ys fs).run P w=.ok c w):(Op.eqFields d xs ys (f::fs)).run P w=.ok (b&&c) w:=by
 simp only[Prod.mk.injEq,beq_eq_false_iff_ne] at h0
 obtain⟨rfl,rfl,hn⟩:=h0
 have hp1:(part f.type xs f.offset).run P w=.ok v w:=by simp[part,ha,hx]
 have hp2:(part f.type ys f.offset).run P w=.ok u w:=by simp[part,ha,hy]
 simp only[Op.eqFields,hn,ne_eq,not_false_eq_true,if_true,Sem.run_bind,hp1,hp2,he,Result.andThen_ok]
 cases b
 ·simp
 ·simp[hr]
theorem ZgB:(Op.eqFields d xs ys []).run P w=.ok true w:=by simp[Op.eqFields]
theorem Zmz (h:P.underlying ty=some (.int .i64)):(isAgg ty).run P w=.ok false w:=by simp[isAgg,run_underlying h]
theorem Zfi (h:P.underlying ty=some .string):(isAgg ty).run P w=.ok false w:=by simp[isAgg,run_underlying h]
end
theorem ZhV (a b:TKey):Zeg a b=(a.kind==b.kind&&(a.n==b.n&&(a.text.toList==b.text.toList&&true))):=by
 unfold Zeg Zaz;rw[Bool.and_true,Bool.and_assoc]
theorem Zoa : (Tryz.prog.fieldsOf 73).toList.map (fun f => (f.type, f.offset, f.name == "_")) = [(3, 0, false), (3, 1, false), (9, 2, false)] := by kernel_rfl
theorem ZoV:Tryz.prog.stoodInHeld 73=false:=by kernel_rfl
theorem ZjT:Tryz.prog.eqGuardType Tryz.prog.depth 73=false:=by kernel_rfl
theorem Zob:Tryz.prog.underlying 73=some (.struct (Tryz.prog.fieldsOf 73)):=by kernel_rfl
theorem Zne (kind kind':Int) (n n':Int) (text text':ByteArray) (w:World) :
  (Op.equalIn 10000 73 (.agg #[.int .i64 kind,.int .i64 n,.string text]) (.agg #[.int .i64 kind',.int .i64 n',.string text'])).run Tryz.prog w=.ok (kind==kind'&&(n==n'&&(text.toList==text'.toList&&(true)))) w:=by
 rw[run_equalIn_agg (P:=Tryz.prog) w 9999 _ _ _ Zob ZoV]
 have hM:=Zoa
 generalize (Tryz.prog.fieldsOf 73).toList=fs at hM
 obtain⟨f0,fs,rfl,h0,hM⟩:=List.map_eq_cons_iff.1 hM
 obtain⟨f1,fs,rfl,h1,hM⟩:=List.map_eq_cons_iff.1 hM
 obtain⟨f2,fs,rfl,h2,hM⟩:=List.map_eq_cons_iff.1 hM
 obtain rfl:=List.map_eq_nil_iff.1 hM
 exact Zco h0 (Zmz Tryz.underlying3) rfl rfl (run_equalIn_int (P:=Tryz.prog) w _ _ _ _ _ _ Tryz.underlying3) (Zco h1 (Zmz Tryz.underlying3) rfl rfl (run_equalIn_int (P:=Tryz.prog) w _ _ _ _ _ _ Tryz.underlying3) (Zco h2 (Zfi Tryz.underlying9) rfl rfl (run_equalIn_string (P:=Tryz.prog) w _ _ _ _ Tryz.underlying9) (ZgB)))
theorem Zio (kind kind':Int) (n n':Int) (text text':ByteArray) (w:World) :
  (binOp .eql 73 (.agg #[.int .i64 kind,.int .i64 n,.string text]) (.agg #[.int .i64 kind',.int .i64 n',.string text'])).run Tryz.prog w=.ok (.bool (kind==kind'&&(n==n'&&(text.toList==text'.toList&&(true))))) w:=by
 rw[run_eql_struct,Zne];rfl
theorem Zlz (x:TItem) (v:Value) (b:Nat) (k:TKey) (w:World) (hv0:w.cell? ⟨b,0,none⟩=some (.int .i64 k.kind)) (hv1:w.cell? ⟨b,1,none⟩=some (.int .i64 k.n)) (hv2:w.cell? ⟨b,2,none⟩=some (.string k.text)) (hb:b<w.heap.size) :
  Calls Tryz.prog 178 #[.agg #[.int .i64 x.key.kind,.int .i64 x.key.n,.string x.key.text,v],.pointer (some ⟨b,0,none⟩)] w (ZL w (.bool (Zeg x.key k))):=by
 have hgu:=ZjT
 have hbne:¬b=w.heap.size:=by omega
 have hbne2:¬w.heap.size=b:=by omega
 have hng:=λW=>Zio x.key.kind k.kind x.key.n k.n x.key.text k.text W
 rw[← ZhV] at hng
 go_enter Tryz.func178,Tryz.ntmps178
 go_wp2_with fail
 go_ret
 exact⟨rfl,bl⟩
theorem ZjS (A:Option Addr) (cp:Nat) (b:Nat) (xs:List TItem) (v:TKey) (F:List Nat) (w:World) (h:cItemS.rep w [.slice A xs.length cp] xs F) (hv0:w.cell? ⟨b,0,none⟩=some (.int .i64 v.kind)) (hv1:w.cell? ⟨b,1,none⟩=some (.int .i64 v.n)) (hv2:w.cell? ⟨b,2,none⟩=some (.string v.text)) (hb:b<w.heap.size) :
  Calls Tryz.prog 177 #[.slice A xs.length cp,.func (.func 178) #[] #[.pointer (some ⟨b,0,none⟩)]] w (ZL w (.int .i64 (Zcm (λx=>Zeg x.key v) xs))):=by
 obtain⟨-,hcp,hm⟩:=Zq h
 obtain⟨n,hxn⟩:∃n,xs.length=n:=⟨_,rfl⟩
 have HN:=zh hxn
 rw[hxn] at hcp⊢
 clear hxn
 unfold maxLen at hm
 have hgu:=ZjT
 go_enter Tryz.func177,Tryz.ntmps177
 go_wp2
 go_loopw [8] (λi wr=>∃k:Nat,k≤n∧i=.int .i64 k∧ZaQ (λx:TItem=>Zeg x.key v) xs k=true∧Below w.heap.size w wr) (λi _=>n-(intOf i).toNat)
 case atStart=>exact⟨0,Nat.zero_le _,rfl,Zbu _ _,Below.refl _ _⟩
 case round =>
  obtain⟨k,hk,rfl,hno,hB⟩:=hrel
  have HO:=zh hno
  clear hno
  have hvr0:wr.cell? ⟨b,0,none⟩=some (.int .i64 v.kind):=zcl hB hv0
  have hvr1:wr.cell? ⟨b,1,none⟩=some (.int .i64 v.n):=zcl hB hv1
  have hvr2:wr.cell? ⟨b,2,none⟩=some (.string v.text):=zcl hB hv2
  have hbr:b<wr.heap.size:=Nat.lt_of_lt_of_le hb hB.size
  have hbne:¬b=wr.heap.size:=by omega
  have hbne2:¬wr.heap.size=b:=by omega
  by_cases hlt:k<n
  ·have hkx:k<xs.length:=by rw[HN.out];exact hlt
   obtain⟨g,o,A3,c3,F3,rfl,hgF,hgw,-,q0,q1,q2,q3,-,-⟩:=ZaO (zb h hB) hkx
   have hcl:=λW h0 h1 h2 hb=>Zlz xs[k] (.slice A3 xs[k].rcd.fields.length c3) b v W h0 h1 h2 hb
   cases he:Zeg xs[k].key v
   ·rw[he] at hcl
    have HI:=zh he
    go_wp2_with fail
    refine(hcl _ (by go_simp) (by go_simp) (by go_simp) (by (try simp);omega)).mono ?_
    rintro e w1 ⟨rfl,hb1⟩
    obtain⟨hc_w1,hf_w1,hz_w1⟩:=Zc hb1
    try simp at hz_w1
    have hb_w1:=zt (w:=w) hb1
    go_wp2_with fail
    go_roundw
    case rel=>exact⟨k+1,by omega,by go_num,Zbt _ xs k hkx HO.out HI.out,bl⟩
    case measure=>simp[intOf];omega
   ·rw[he] at hcl
    have HI:=zh (ZcY (λx:TItem=>Zeg x.key v) xs k hkx HO.out he)
    go_wp2_with fail
    refine(hcl _ (by go_simp) (by go_simp) (by go_simp) (by (try simp);omega)).mono ?_
    rintro e w1 ⟨rfl,hb1⟩
    obtain⟨hc_w1,hf_w1,hz_w1⟩:=Zc hb1
    try simp at hz_w1
    have hb_w1:=zt (w:=w) hb1
    go_wp2_with fail
    go_ret
    exact⟨Zh HI.out.symm,bl⟩
  ·obtain rfl:k=n:=by omega
   have HI:=zh (Zcp (λx:TItem=>Zeg x.key v) xs (by rw[HN.out];exact HO.out))
   go_wp2
   go_ret
   exact⟨Zh HI.out.symm,bl⟩
theorem ZcT (v:Value) (s:TStore) (k:TKey) (F:List Nat) (w:World) (h:cItemS.rep w [v] s.items F) :
  Calls Tryz.prog 154 #[.agg #[.string s.name,v,.int .i64 s.auto],.agg #[.int .i64 k.kind,.int .i64 k.n,.string k.text]] w (ZL w (.int .i64 (ZF s k))):=by
 obtain⟨A,cp,rfl⟩:=Zb h
 go_enter Tryz.func154,Tryz.ntmps154
 go_wp2_with fail
 refine(ZjS A cp (w.heap.size+1) s.items k _ _ (by exact zb h) (by go_simp) (by go_simp) (by go_simp) (by simp)).mono ?_
 rintro e w1 ⟨rfl,hb1⟩
 have hB:=zt (w:=w) hb1
 clear hb1
 go_wp2_with fail
 go_ret
 exact⟨rfl,bl⟩
theorem Zcc (v:Value) (s:TStore) (kk:TKey) (F:List Nat) (w:World) (h:cItemS.rep w [v] s.items F) :
  Calls Tryz.prog 142 #[.agg #[.string s.name,v,.int .i64 s.auto],.agg #[.int .i64 kk.kind,.int .i64 kk.n,.string kk.text]] w (ZL w (.int .i64 (ZF s kk))):=by
 obtain⟨A,cp,rfl⟩:=Zb h
 obtain⟨-,hcp,hm⟩:=Zq h
 obtain⟨n,hxn⟩:∃n,s.items.length=n:=⟨_,rfl⟩
 have HN:=zh hxn
 rw[hxn] at hcp⊢
 clear hxn
 unfold maxLen at hm
 have hgu:=ZjT
 go_enter Tryz.func142,Tryz.ntmps142
 go_wp2
 generalize hW:World.alloc _ _=W
 have hWs:W.heap.size=w.heap.size+2:=by rw[← hW];clear hW;simp
 have hbW:Below w.heap.size w W:=by rw[← hW];exact bl
 have HK:=zh (show W.cell? ⟨w.heap.size,0,none⟩=some (.string s.name)∧W.cell? ⟨w.heap.size,1,none⟩=some (.slice A n cp)∧W.cell? ⟨w.heap.size,2,none⟩=some (.int .i64 s.auto)∧W.cell? ⟨w.heap.size+1,0,none⟩=some (.int .i64 kk.kind)∧W.cell? ⟨w.heap.size+1,1,none⟩=some (.int .i64 kk.n)∧W.cell? ⟨w.heap.size+1,2,none⟩=some (.string kk.text) from by refine⟨?_,?_,?_,?_,?_,?_⟩<;>(rw[← hW];clear hW;go_simp))
 clear hW
 go_loopw [5] (λi wr=>∃k:Nat,k≤n∧i=.int .i64 k∧ZaQ (λx:TItem=>Zeg x.key kk) s.items k=true∧Below W.heap.size W wr) (λi _=>n-(intOf i).toNat)
 case atStart=>exact⟨0,Nat.zero_le _,rfl,Zbu _ _,Below.refl _ _⟩
 case round =>
  obtain⟨k,hk,rfl,hno,hB⟩:=hrel
  have HO:=zh hno
  clear hno
  have hws_wr:w.heap.size<wr.heap.size:=by have:=hB.size;omega
  have hbw:Below w.heap.size w wr:=Za hbW hB
  have k0_wr:wr.cell? ⟨w.heap.size,0,none⟩=some (.string s.name):=zcl hB HK.out.1
  have k1_wr:wr.cell? ⟨w.heap.size,1,none⟩=some (.slice A n cp):=zcl hB HK.out.2.1
  have k2_wr:wr.cell? ⟨w.heap.size,2,none⟩=some (.int .i64 s.auto):=zcl hB HK.out.2.2.1
  have k3_wr:wr.cell? ⟨w.heap.size+1,0,none⟩=some (.int .i64 kk.kind):=zcl hB HK.out.2.2.2.1
  have k4_wr:wr.cell? ⟨w.heap.size+1,1,none⟩=some (.int .i64 kk.n):=zcl hB HK.out.2.2.2.2.1
  have k5_wr:wr.cell? ⟨w.heap.size+1,2,none⟩=some (.string kk.text):=zcl hB HK.out.2.2.2.2.2
  by_cases hlt:k<n
  ·have hkx:k<s.items.length:=by rw[HN.out];exact hlt
   obtain⟨g,o,A3,c3,F3,rfl,hgF,hgw,-,q0,q1,q2,q3,-,-⟩:=ZaO (zb h hbw) hkx
   have hki:((k:Int)<(n:Int)):=by omega
   have hng:=λW=>Zio s.items[k].key.kind kk.kind s.items[k].key.n kk.n s.items[k].key.text kk.text W
   cases he:Zeg s.items[k].key kk
   ·rw[show (s.items[k].key.kind==kk.kind&&(s.items[k].key.n==kk.n&&(s.items[k].key.text.toList==kk.text.toList&&true)))=false by rw[← ZhV];exact he] at hng
    have HI:=zh he
    go_wp2_with fail
    go_quiet (fail)
    go_wp2_with fail
    go_roundw
    case rel=>exact⟨k+1,by omega,by go_num,Zbt _ s.items k hkx HO.out HI.out,bl⟩
    case measure=>simp[intOf];omega
   ·rw[show (s.items[k].key.kind==kk.kind&&(s.items[k].key.n==kk.n&&(s.items[k].key.text.toList==kk.text.toList&&true)))=true by rw[← ZhV];exact he] at hng
    have HI:=zh (ZcY (λx:TItem=>Zeg x.key kk) s.items k hkx HO.out he)
    go_wp2_with fail
    go_quiet (fail)
    go_wp2_with fail
    go_ret
    exact⟨Zh HI.out.symm,bl⟩
  ·obtain rfl:k=n:=by omega
   have HI:=zh (Zcp (λx:TItem=>Zeg x.key kk) s.items (by rw[HN.out];exact HO.out))
   go_wp2
   go_ret
   exact⟨Zh HI.out.symm,bl⟩
def ZdA (k:TKey) (xs:List TItem) (m:Nat):Bool:=(xs.take m).all λx=>decide (Zf x.key k<0)
theorem Zhv (k:TKey) (xs:List TItem):ZdA k xs 0=true:=by simp[ZdA]
theorem Zhu {k:TKey} {xs:List TItem} {m:Nat} (h:m<xs.length) (h1:ZdA k xs m=true) (h2:Zf xs[m].key k<0):ZdA k xs (m+1)=true:=by
 unfold ZdA at h1⊢
 rw[List.take_succ_eq_append_getElem h,List.all_append,h1];simp[h2]
theorem Zhy {k:TKey}:∀{xs:List TItem},ZdA k xs xs.length=true→ZaW k xs=xs.length
 | [],_=>rfl
 | x::xs,h=>by
  simp only[ZdA,List.length_cons,List.take_succ_cons,List.all_cons,Bool.and_eq_true,decide_eq_true_eq] at h
  rw[ZaW,if_pos h.1]
  show ZaW k xs+1=_
  rw[Zhy (by unfold ZdA;exact h.2)];rfl
theorem ZfS {k:TKey}:∀{xs:List TItem} {m:Nat} (hm:m<xs.length),ZdA k xs m=true→¬Zf xs[m].key k<0→ZaW k xs=m
 | x::xs,0,_,_,h=>by
  simp only[List.getElem_cons_zero] at h
  rw[ZaW,if_neg h]
 | x::xs,m+1,hm,h1,h2=>by
  simp only[ZdA,List.take_succ_cons,List.all_cons,Bool.and_eq_true,decide_eq_true_eq] at h1
  rw[ZaW,if_pos h1.1]
  show ZaW k xs+1=_
  rw[ZfS (by simpa using hm) (by unfold ZdA;exact h1.2) (by simpa using h2)]
section
variable {α:Type} {c:Cod α} {e:TypeId} {B:Nat} {w w':World} {A:Option Addr} {n cp:Nat} {xs:List α} {Fi:List Nat}
theorem Own.split (hw:0<c.wd) (h:Own c e B w (.slice A n cp) xs Fi) {k j:Nat} (hkj:k≤j) (hj:j≤xs.length) (hn:0<xs.length) :
  ∃g F1 F2,A=some ⟨g,0,none⟩∧n=xs.length∧n≤cp∧cp≤maxLen∧Own c e B w (.slice A k cp) (xs.take k) F1∧AppSrc c w (.slice (if cp=j then A else some ⟨g,j*c.wd,none⟩) (n-j) (cp-j)) (xs.drop j) F2 ∧
   (F1++F2).Sublist Fi∧Zac (.slice A k cp)=some g∧Zac (.slice A n cp)=some g∧B≤g∧(∀i,i<cp*c.wd→∃u,w.cell? ⟨g,i,none⟩=some u)∧∀i,w.frozen? ⟨g,i,none⟩=false:=by
 rcases h.form with ⟨rfl,-⟩|⟨g,cap,cur,us,hv,hB,hh,hnc,hcm,hsz,ht,ho,hr⟩
 ·simp at hn
 ·simp only[Value.slice.injEq] at hv
  obtain⟨rfl,rfl,rfl⟩:=hv
  rw[← List.take_append_drop j xs] at hr
  obtain⟨u12,u3,G12,G3,hus,rfl,r12,r3⟩:=Cod.reps_cut hr
  rw[← List.take_append_drop k (xs.take j),List.take_take,Nat.min_eq_left hkj] at r12
  obtain⟨u1,u2,G1,G2,hu12,rfl,r1,r2⟩:=Cod.reps_cut r12
  have hl1:=Cod.reps_len r1
  rw[List.length_take,Nat.min_eq_left (Nat.le_trans hkj hj)] at hl1
  have hl2:=Cod.reps_len r2
  rw[List.length_drop,List.length_take,Nat.min_eq_left hj] at hl2
  have hl12:u12.length=j*c.wd:=by rw[hu12,List.length_append,hl1,hl2,← Nat.add_mul,Nat.add_sub_cancel' hkj]
  have hus':us=u1++(u2++u3):=by rw[hus,hu12,List.append_assoc]
  have hkl:k*c.wd≤xs.length*c.wd:=Nat.mul_le_mul_right _ (Nat.le_trans hkj hj)
  have htk:cur.toList.take (k*c.wd)=u1:=by
   have:(cur.toList.take (xs.length*c.wd)).take (k*c.wd)=u1:=by rw[ht,hus',← hl1];simp
   rwa [List.take_take,Nat.min_eq_left hkl] at this
  refine⟨g,G1,G3,rfl,rfl,hnc,hcm,.inr ⟨u1,⟨by rw[hl1,List.length_take,Nat.min_eq_left (Nat.le_trans hkj hj)],.inr ⟨g,cap+1,cur,by rw[List.length_take,Nat.min_eq_left (Nat.le_trans hkj hj)],hB,hh,by rw[List.length_take];omega,hcm,hsz,by rw[List.length_take,Nat.min_eq_left (Nat.le_trans hkj hj)];exact htk⟩⟩,r1⟩,?_,?_,rfl,rfl,hB,λi hi=>⟨cur[i]'(by rw[hsz];exact hi),by rw[(show Blk w g e cur from hh).cell,Array.getElem?_eq_getElem]⟩,λi=>(show Blk w g e cur from hh).frozen i⟩
  ·refine⟨_,cap+1-j,u3,by rw[List.length_drop],r3,λhp=>?_⟩
   rw[List.length_drop] at hp
   rw[if_neg (by omega)]
   refine⟨_,rfl,λi u hu=>?_⟩
   rw[Addr.add_lit]
   have h1:us[j*c.wd+i]?=some u:=by rw[hus,List.getElem?_append_right (by omega),hl12,Nat.add_sub_cancel_left];exact hu
   have h2:=(List.getElem?_eq_some_iff.1 h1).1
   rw[ho.1] at h2
   exact(ho.cellAt _ h2).trans h1
  ·rw[List.append_assoc]
   exact(List.Sublist.refl G1).append (List.sublist_append_right _ _)
theorem Own.setTail (h:Own c e B w (.slice A n cp) xs Fi) {g o:Nat} (ho:xs.length*c.wd≤o) (hg:g∉Fi) (u:Value):Own c e B (w.setCell ⟨g,o,none⟩ u) (.slice A n cp) xs Fi:=by
 rcases h.form with h|⟨g',cap,cur,us,hv,hB,hh,hnc,hcm,hsz,ht,ho',hr⟩
 ·exact .inl h
 ·have hr':c.reps (w.setCell ⟨g,o,none⟩ u) us xs Fi:=Cod.reps_keep hr λb hb=>Below.heap_setCell _ _ _ _ (λe=>hg (by have e':b=g:=e;rw[← e'];exact hb))
  rw[hv]
  by_cases hgg:g'=g
  ·subst hgg
   refine .inr ⟨us,⟨ho'.1,.inr ⟨g',cap+1,cur.setIfInBounds o u,rfl,hB,(show Blk w g' e cur from hh).set_ o u,hnc,hcm,by simpa using hsz,?_⟩⟩,hr'⟩
   rw[Array.toList_setIfInBounds,List.take_set,List.set_eq_of_length_le (by rw[ht,ho'.1];exact ho)];exact ht
  ·exact .inr ⟨us,⟨ho'.1,.inr ⟨g',cap+1,cur,rfl,hB,(Below.heap_setCell _ _ _ _ hgg).trans hh,hnc,hcm,hsz,ht⟩⟩,hr'⟩
end
theorem Own.room {α:Type} {c:Cod α} {e:TypeId} {B:Nat} {w:World} {g n cp:Nat} {xs:List α} {Fi:List Nat} (h:Own c e B w (.slice (some ⟨g,0,none⟩) n cp) xs Fi) (hcp:0<cp):(∀i,i<cp*c.wd→∃u,w.cell? ⟨g,i,none⟩=some u)∧∀i,w.frozen? ⟨g,i,none⟩=false:=by
 rcases h.form with ⟨-,-,A,hv⟩|⟨g',cap,cur,us,hv,hB,hh,hnc,hcm,hsz,ht,ho',hr⟩
 ·simp only[Value.slice.injEq] at hv;omega
 ·simp only[Value.slice.injEq,Option.some.injEq,Addr.mk.injEq,and_true] at hv
  obtain⟨rfl,-,rfl⟩:=hv
  exact⟨λi hi=>⟨cur[i]'(by rw[hsz];exact hi),by rw[(show Blk w g e cur from hh).cell,Array.getElem?_eq_getElem]⟩,λi=>(show Blk w g e cur from hh).frozen i⟩
theorem ZiS (A:Option Addr) (cp:Nat) (b:Nat) (xs:List TStore) (v:ByteArray) (F:List Nat) (w:World) (h:cStoreS.rep w [.slice A xs.length cp] xs F) (hv:w.cell? ⟨b,0,none⟩=some (.string v)) (hb:b<w.heap.size) :
  Calls Tryz.prog 149 #[.slice A xs.length cp,.func (.func 150) #[] #[.pointer (some ⟨b,0,none⟩)]] w (ZL w (.int .i64 (Zcm (λs=>Zaz s.name v) xs))):=by
 obtain⟨-,hcp,hm⟩:=Zq h
 obtain⟨n,hxn⟩:∃n,xs.length=n:=⟨_,rfl⟩
 have HN:=zh hxn
 rw[hxn] at hcp⊢
 clear hxn
 unfold maxLen at hm
 go_enter Tryz.func149,Tryz.ntmps149
 go_wp2
 go_loopw [8] (λi wr=>∃k:Nat,k≤n∧i=.int .i64 k∧ZaQ (λs:TStore=>Zaz s.name v) xs k=true∧Below w.heap.size w wr) (λi _=>n-(intOf i).toNat)
 case atStart=>exact⟨0,Nat.zero_le _,rfl,Zbu _ _,Below.refl _ _⟩
 case round =>
  obtain⟨k,hk,rfl,hno,hB⟩:=hrel
  have HO:=zh hno
  clear hno
  have hvr:wr.cell? ⟨b,0,none⟩=some (.string v):=zcl hB hv
  have hbr:b<wr.heap.size:=Nat.lt_of_lt_of_le hb hB.size
  have hbne:¬b=wr.heap.size:=by omega
  by_cases hlt:k<n
  ·have hkx:k<xs.length:=by rw[HN.out];exact hlt
   obtain⟨g,o,A3,c3,F3,rfl,hgF,hgw,-,q0,q1,q2,-,-⟩:=ZcC (zb h hB) hkx
   cases he:(xs[k].name.toList==v.toList)
   ·have HI:=zh (show Zaz xs[k].name v=false from he)
    go_wp2
    go_roundw
    case rel=>exact⟨k+1,by omega,by go_num,Zbt _ xs k hkx HO.out HI.out,bl⟩
    case measure=>simp[intOf];omega
   ·have HI:=zh (ZcY (λs:TStore=>Zaz s.name v) xs k hkx HO.out he)
    go_wp2
    go_ret
    exact⟨Zh HI.out.symm,bl⟩
  ·obtain rfl:k=n:=by omega
   have HI:=zh (Zcp (λs:TStore=>Zaz s.name v) xs (by rw[HN.out];exact HO.out))
   go_wp2
   go_ret
   exact⟨Zh HI.out.symm,bl⟩
theorem ZdE (v u:Value) (d:TDb) (name:ByteArray) (F:List Nat) (w:World) (h:cStoreS.rep w [v] d.stores F) (hu:∃U cu,u=.slice U d.uniq.length cu) :
  Calls Tryz.prog 116 #[.agg #[.string d.name,.int .i64 d.ver,v,u],.string name] w (ZL w (.int .i64 (Zap d name))):=by
 obtain⟨A,cp,rfl⟩:=Zb h
 obtain⟨U,cu,rfl⟩:=hu
 go_enter Tryz.func116,Tryz.ntmps116
 go_wp2_with fail
 refine(ZiS A cp (w.heap.size+1) d.stores name _ _ (by exact zb h) (by go_simp) (by simp)).mono ?_
 rintro e w1 ⟨rfl,hb1⟩
 have hB:=zt (w:=w) hb1
 clear hb1
 go_wp2_with fail
 go_ret
 exact⟨rfl,bl⟩
theorem ZdL (v u:Value) (d:TDb) (name:ByteArray) (F:List Nat) (w:World) (h:cStoreS.rep w [v] d.stores F) (hu:∃U cu,u=.slice U d.uniq.length cu) :
  Calls Tryz.prog 103 #[.agg #[.string d.name,.int .i64 d.ver,v,u],.string name] w (ZL w (.int .i64 (Zap d name))):=by
 obtain⟨A,cp,rfl⟩:=Zb h
 obtain⟨U,cu,rfl⟩:=hu
 obtain⟨-,hcp,hm⟩:=Zq h
 obtain⟨n,hxn⟩:∃n,d.stores.length=n:=⟨_,rfl⟩
 have HN:=zh hxn
 rw[hxn] at hcp⊢
 clear hxn
 unfold maxLen at hm
 go_enter Tryz.func103,Tryz.ntmps103
 go_wp2
 generalize hW:World.alloc _ _=W
 have hWs:W.heap.size=w.heap.size+1:=by rw[← hW];clear hW;simp
 have hbW:Below w.heap.size w W:=by rw[← hW];exact bl
 have HK:=zh (show W.cell? ⟨w.heap.size,0,none⟩=some (.string d.name)∧W.cell? ⟨w.heap.size,1,none⟩=some (.int .i64 d.ver)∧W.cell? ⟨w.heap.size,2,none⟩=some (.slice A n cp) from by refine⟨?_,?_,?_⟩<;>(rw[← hW];clear hW;go_simp))
 clear hW
 go_loopw [5] (λi wr=>∃k:Nat,k≤n∧i=.int .i64 k∧ZaQ (λs:TStore=>Zaz s.name name) d.stores k=true∧Below W.heap.size W wr) (λi _=>n-(intOf i).toNat)
 case atStart=>exact⟨0,Nat.zero_le _,rfl,Zbu _ _,Below.refl _ _⟩
 case round =>
  obtain⟨k,hk,rfl,hno,hB⟩:=hrel
  have HO:=zh hno
  clear hno
  have hws_wr:w.heap.size<wr.heap.size:=by have:=hB.size;omega
  have hbw:Below w.heap.size w wr:=Za hbW hB
  have k0_wr:wr.cell? ⟨w.heap.size,0,none⟩=some (.string d.name):=zcl hB HK.out.1
  have k1_wr:wr.cell? ⟨w.heap.size,1,none⟩=some (.int .i64 d.ver):=zcl hB HK.out.2.1
  have k2_wr:wr.cell? ⟨w.heap.size,2,none⟩=some (.slice A n cp):=zcl hB HK.out.2.2
  by_cases hlt:k<n
  ·have hkx:k<d.stores.length:=by rw[HN.out];exact hlt
   obtain⟨g,o,A3,c3,F3,rfl,hgF,hgw,-,q0,q1,q2,-,-⟩:=ZcC (zb h hbw) hkx
   have hki:((k:Int)<(n:Int)):=by omega
   cases he:(d.stores[k].name.toList==name.toList)
   ·have HI:=zh (show Zaz d.stores[k].name name=false from he)
    go_wp2
    go_roundw
    case rel=>exact⟨k+1,by omega,by go_num,Zbt _ d.stores k hkx HO.out HI.out,hB⟩
    case measure=>simp[intOf];omega
   ·have HI:=zh (ZcY (λs:TStore=>Zaz s.name name) d.stores k hkx HO.out he)
    go_wp2
    go_ret
    exact⟨Zh HI.out.symm,bl⟩
  ·obtain rfl:k=n:=by omega
   have HI:=zh (Zcp (λs:TStore=>Zaz s.name name) d.stores (by rw[HN.out];exact HO.out))
   go_wp2
   go_ret
   exact⟨Zh HI.out.symm,bl⟩
def ZmT (n:Int) (xs:List UInt8) (k:Nat):List Int:=n::(xs.take k).map λx=>(x.toNat:Int)
theorem ZeL {xs:List UInt8} {k:Nat} (h:k<xs.length) (n:Int):ZmT n xs k++[(xs[k].toNat:Int)]=ZmT n xs (k+1):=by
 unfold ZmT
 rw[List.take_succ_eq_append_getElem h,List.map_append];rfl
theorem Zow {w:World} {n:Int} (h:-9223372036854775808≤n∧n≤9223372036854775807):AppSrc cI (w.alloc (.cells #[.int .i64 n] 3)) (.slice (some ⟨w.heap.size,0,none⟩) 1 1) [n] [] :=
 ⟨_,1,[.int .i64 n],rfl,ZpW h,λ_=>⟨_,rfl,λj u hu=>by cases j with|zero=>(simp at hu;subst hu;rw[Addr.add_lit];exact(Blk.new w 3 #[.int .i64 n]).cell 0)|succ j=>simp at hu⟩⟩
theorem Zfl (v:Value) (xs:List UInt8) (F:List Nat) (w:World) (h:cUS.rep w [v] xs F) (hn:xs.length≤2097152) :
  Calls Tryz.prog 111 #[v] w (Zgs cIS w (ZaG xs)):=by
 obtain⟨i0,hi0,hz0,hz1,hz2⟩:=info_parts Zgc
 obtain⟨A,cp,rfl⟩:=Zb h
 obtain⟨-,hcp,hm⟩:=Zq h
 unfold maxLen at hm
 obtain⟨n,hxn⟩:∃n,xs.length=n:=⟨_,rfl⟩
 have HN:=zh hxn
 rw[hxn] at h hcp hn⊢
 clear hxn
 go_enter Tryz.func111,Tryz.ntmps111
 go_wp2
 generalize hW:World.alloc _ _=W
 have hown0:Own cI 3 w.heap.size W (.slice (some ⟨w.heap.size,0,none⟩) 1 1) [(n:Int)] []:=by rw[← hW];exact Own.of_new 3 1 rfl (by decide) (by decide) rfl (ZpW (by omega))
 have hbW:Below w.heap.size w W:=by rw[← hW];exact bl
 clear hW
 have HO:=zh hown0
 clear hown0
 go_loopw [3,4] (λa i wr=>∃k:Nat,k≤n∧i=.int .i64 k∧Own cI 3 w.heap.size wr a (ZmT n xs k) []∧Below w.heap.size w wr) (λ_ i _=>n-(intOf i).toNat)
 case atStart=>exact⟨0,Nat.zero_le _,rfl,HO.out,hbW⟩
 case round =>
  obtain⟨k,hk,rfl,hown,hB⟩:=hrel
  have hlen:(ZmT n xs k).length=k+1:=by unfold ZmT;simp only[List.length_cons,List.length_map,List.length_take];have:=HN.out;omega
  have HW:=zh (And.intro hown hlen)
  clear hown hlen
  by_cases hlt:k<n
  ·have hkx:k<xs.length:=by rw[HN.out];exact hlt
   obtain⟨g,o,vs,F3,rfl,hgF,⟨rfl,-⟩,-,hc⟩:=ZN (hw:=by decide) (hw2:=by decide) h hkx
   have hgw:g<w.heap.size:=Cod.lt _ h g hgF
   have q0:=zcl (p:=⟨g,o+k*1+0,none⟩) hB ((hc 0 _ rfl).1)
   rw[Nat.mul_one,Nat.add_zero] at q0
   have hl:=xs[k].toNat_lt
   have hki:(k:Int)<(n:Int):=by omega
   have hbt:=ZeL hkx (n:Int)
   have HT:=zh hbt
   clear hc hbt
   obtain⟨q,hq⟩:∃q:Nat,xs[k].toNat=q:=⟨_,rfl⟩
   rw[hq] at q0 hl HT
   clear hq
   have hqb:(q:Int)≤255:=by omega
   go_wp2_with (at_builtin;refine Zl (c:=cI) (B:=w.heap.size) (xs:=ZmT n xs k) (ys:=[(q:Int)]) (Fi:=[]) (Fy:=[]) _ rfl _ _ _ rfl i0 _ _ Tryz.underlying67 hi0 hz0 hz1 hz2 rfl (by decide) rfl (HW.out.1.bel bl) (.slice (some ⟨wr.heap.size,0,none⟩) 1 1) rfl (Zow (by omega)) (by rw[HW.out.2];unfold maxLen;simp;omega) (by rw[HW.out.2];simp;omega) (by have:=hB.size;(try simp);(try omega)) (by simp) ?_)
   intro v2 w2 ho2 hg2 hat2
   rw[HT.out] at ho2
   have hb2:Below w.heap.size w w2:=Below.grown (show Below w.heap.size w _ from bl) hg2 (by have:=hB.size;(try simp);(try omega)) (λb hb=>(HW.out.1.lt b hb).1)
   have HO2:=zh ho2
   clear ho2 hg2 hat2
   go_wp2_with fail
   go_roundw
   case rel=>exact⟨k+1,by omega,by go_num,HO2.out,hb2⟩
   case measure=>simp[intOf];omega
  ·obtain rfl:k=n:=by omega
   obtain⟨G,hr2,hf2,-⟩:=HW.out.1.fresh (hw:=by decide) (hw2:=by decide)
   have htl:xs.take k=xs:=List.take_of_length_le (by rw[HN.out];exact Nat.le_refl _)
   unfold ZmT at hr2
   rw[htl] at hr2
   have HR:=zh hr2
   clear hr2 htl
   go_wp2
   go_ret
   exact⟨_,G,rfl,hB,by have h9:=HR.out;unfold ZaG;rw[HN.out];exact h9,hf2⟩
theorem Zfd (v:Value) (xs:List UInt8) (F:List Nat) (w:World) (h:cUS.rep w [v] xs F) (hn:xs.length≤2097152) :
  Calls Tryz.prog 124 #[v] w (Zgs cIS w (ZaG xs)):=by
 obtain⟨i0,hi0,hz0,hz1,hz2⟩:=info_parts Zgc
 obtain⟨A,cp,rfl⟩:=Zb h
 obtain⟨-,hcp,hm⟩:=Zq h
 unfold maxLen at hm
 obtain⟨n,hxn⟩:∃n,xs.length=n:=⟨_,rfl⟩
 have HN:=zh hxn
 rw[hxn] at h hcp hn⊢
 clear hxn
 go_enter Tryz.func124,Tryz.ntmps124
 go_wp2
 generalize hW:World.alloc _ _=W
 have hown0:Own cI 3 w.heap.size W (.slice (some ⟨w.heap.size,0,none⟩) 1 1) [(n:Int)] []:=by rw[← hW];exact Own.of_new 3 1 rfl (by decide) (by decide) rfl (ZpW (by omega))
 have hbW:Below w.heap.size w W:=by rw[← hW];exact bl
 clear hW
 have HO:=zh hown0
 clear hown0
 go_loopw [3,11] (λa i wr=>∃k:Nat,k≤n∧i=.int .i64 k∧Own cI 3 w.heap.size wr a (ZmT n xs k) []∧Below w.heap.size w wr) (λ_ i _=>n-(intOf i).toNat)
 case atStart=>exact⟨0,Nat.zero_le _,rfl,HO.out,hbW⟩
 case round =>
  obtain⟨k,hk,rfl,hown,hB⟩:=hrel
  have hlen:(ZmT n xs k).length=k+1:=by unfold ZmT;simp only[List.length_cons,List.length_map,List.length_take];have:=HN.out;omega
  have HW:=zh (And.intro hown hlen)
  clear hown hlen
  by_cases hlt:k<n
  ·have hkx:k<xs.length:=by rw[HN.out];exact hlt
   obtain⟨g,o,vs,F3,rfl,hgF,⟨rfl,-⟩,-,hc⟩:=ZN (hw:=by decide) (hw2:=by decide) h hkx
   have hgw:g<w.heap.size:=Cod.lt _ h g hgF
   have q0:=zcl (p:=⟨g,o+k*1+0,none⟩) hB ((hc 0 _ rfl).1)
   rw[Nat.mul_one,Nat.add_zero] at q0
   have hl:=xs[k].toNat_lt
   have hki:(k:Int)<(n:Int):=by omega
   have hbt:=ZeL hkx (n:Int)
   have HT:=zh hbt
   clear hc hbt
   obtain⟨q,hq⟩:∃q:Nat,xs[k].toNat=q:=⟨_,rfl⟩
   rw[hq] at q0 hl HT
   clear hq
   have hqb:(q:Int)≤255:=by omega
   go_wp2_with (at_builtin;refine Zl (c:=cI) (B:=w.heap.size) (xs:=ZmT n xs k) (ys:=[(q:Int)]) (Fi:=[]) (Fy:=[]) _ rfl _ _ _ rfl i0 _ _ Tryz.underlying67 hi0 hz0 hz1 hz2 rfl (by decide) rfl (HW.out.1.bel bl) (.slice (some ⟨wr.heap.size,0,none⟩) 1 1) rfl (Zow (by omega)) (by rw[HW.out.2];unfold maxLen;simp;omega) (by rw[HW.out.2];simp;omega) (by have:=hB.size;(try simp);(try omega)) (by simp) ?_)
   intro v2 w2 ho2 hg2 hat2
   rw[HT.out] at ho2
   have hb2:Below w.heap.size w w2:=Below.grown (show Below w.heap.size w _ from bl) hg2 (by have:=hB.size;(try simp);(try omega)) (λb hb=>(HW.out.1.lt b hb).1)
   have HO2:=zh ho2
   clear ho2 hg2 hat2
   go_wp2_with fail
   go_roundw
   case rel=>exact⟨k+1,by omega,by go_num,HO2.out,hb2⟩
   case measure=>simp[intOf];omega
  ·obtain rfl:k=n:=by omega
   obtain⟨G,hr2,hf2,-⟩:=HW.out.1.fresh (hw:=by decide) (hw2:=by decide)
   have htl:xs.take k=xs:=List.take_of_length_le (by rw[HN.out];exact Nat.le_refl _)
   unfold ZmT at hr2
   rw[htl] at hr2
   have HR:=zh hr2
   clear hr2 htl
   go_wp2
   go_ret
   exact⟨_,G,rfl,hB,by have h9:=HR.out;unfold ZaG;rw[HN.out];exact h9,hf2⟩
theorem ZpF {w:World} {m n:Int} (h:-9223372036854775808≤m∧m≤9223372036854775807) (k:-9223372036854775808≤n∧n≤9223372036854775807):cI.reps w (#[Value.int .i64 m,.int .i64 n]:Array Value).toList [m,n] [] :=
 ⟨[_],[_],[],[],rfl,rfl,⟨rfl,rfl,h.1,h.2⟩,Cod.reps_one ⟨rfl,rfl,k.1,k.2⟩⟩
theorem ZfL (n:Int) (xs:List UInt8):0≤ZU n xs∧ZU n xs<2147483647:=Zfc _
theorem Zec (k:Int) (v:Value) (xs:List UInt8) (F:List Nat) (w:World) (h:cUS.rep w [v] xs F) (hn:xs.length≤1100000) (hk:-9223372036854775808≤k∧k≤9223372036854775807) :
  Calls Tryz.prog 68 #[.int .i64 k,v] w (ZL w (.int .i64 (ZU k xs))):=by
 obtain⟨i0,hi0,hz0,hz1,hz2⟩:=info_parts Zgc
 obtain⟨A,cp,rfl⟩:=Zb h
 have HS:=zh (And.intro hn hk)
 have HL:=zh (show (ZaG xs).length≤1100001 from by unfold ZaG;simp only[List.length_cons,List.length_map];omega)
 clear hn hk
 have hww:Below w.heap.size w w:=Below.refl _ _
 go_enter Tryz.func68,Tryz.ntmps68
 go_wp2_with fail
 refine(Zfl _ xs F _ (by exact zb h) (by have h9:=HS.out.1;omega)).mono ?_
 rintro e w1 ⟨v1,G1,rfl,hb1,hr1,hf1⟩
 obtain⟨A1,c1,e9⟩:=Zb hr1
 subst e9
 have hB1:=zt (w:=w) hb1
 have hz1':=hB1.size
 have ho1:Own cI 3 w.heap.size w1 (.slice (some ⟨w.heap.size,0,none⟩) 2 2) [101,k] []:=(Own.of_new 3 2 rfl (by decide) (by decide) rfl (ZpF (by omega) HS.out.2)).bel hb1
 go_wp2_with (at_builtin;refine Zl (c:=cI) (B:=w.heap.size) (xs:=[101,k]) (ys:=ZaG xs) (Fi:=[]) (Fy:=[]) _ rfl _ _ _ rfl i0 _ _ Tryz.underlying67 hi0 hz0 hz1 hz2 rfl (by decide) (v:=.slice (some ⟨w.heap.size,0,none⟩) 2 2) rfl (ho1.bel bl) (.slice A1 (ZaG xs).length c1) rfl (AppSrc.flat (hw:=by decide) (hw2:=by decide) Zpx (zb hr1)) (by have h9:=HL.out;unfold maxLen;simp;omega) (by have h9:=HL.out;simp;omega) (by (try simp);(try omega)) (by simp) ?_)
 intro v2 w2 ho2 hg2 hat2
 replace ho2:Own cI 3 w.heap.size w2 v2 ([101,k]++ZaG xs) []:=ho2
 have hB2:Below w.heap.size w w2:=(show Below w.heap.size w _ from bl).grown hg2 (by (try simp);(try omega)) (λg hg=>by simp[Zac] at hg;omega)
 obtain⟨G2,hr2,-,-⟩:=ho2.fresh (hw:=by decide) (hw2:=by decide)
 go_wp2_with (go_at_call 110;refine(Zld _ ([101,k]++ZaG xs) _ _ (by exact hr2) (by have h9:=HL.out;simp;omega)).mono ?_;rintro e w3 ⟨rfl,rfl⟩)
 go_ret
 exact⟨rfl,hB2⟩
theorem ZdZ (k:Int) (v:Value) (xs:List UInt8) (F:List Nat) (w:World) (h:cUS.rep w [v] xs F) (hn:xs.length≤1100000) (hk:-9223372036854775808≤k∧k≤9223372036854775807) :
  Calls Tryz.prog 79 #[.int .i64 k,v] w (ZL w (.int .i64 (ZU k xs))):=by
 obtain⟨i0,hi0,hz0,hz1,hz2⟩:=info_parts Zgc
 obtain⟨A,cp,rfl⟩:=Zb h
 have HS:=zh (And.intro hn hk)
 have HL:=zh (show (ZaG xs).length≤1100001 from by unfold ZaG;simp only[List.length_cons,List.length_map];omega)
 clear hn hk
 have hww:Below w.heap.size w w:=Below.refl _ _
 go_enter Tryz.func79,Tryz.ntmps79
 go_wp2_with fail
 refine(Zfd _ xs F _ (by exact zb h) (by have h9:=HS.out.1;omega)).mono ?_
 rintro e w1 ⟨v1,G1,rfl,hb1,hr1,hf1⟩
 obtain⟨A1,c1,e9⟩:=Zb hr1
 subst e9
 have hB1:=zt (w:=w) hb1
 have hz1':=hB1.size
 have ho1:Own cI 3 w.heap.size w1 (.slice (some ⟨w.heap.size,0,none⟩) 2 2) [101,k] []:=(Own.of_new 3 2 rfl (by decide) (by decide) rfl (ZpF (by omega) HS.out.2)).bel hb1
 go_wp2_with (at_builtin;refine Zl (c:=cI) (B:=w.heap.size) (xs:=[101,k]) (ys:=ZaG xs) (Fi:=[]) (Fy:=[]) _ rfl _ _ _ rfl i0 _ _ Tryz.underlying67 hi0 hz0 hz1 hz2 rfl (by decide) (v:=.slice (some ⟨w.heap.size,0,none⟩) 2 2) rfl (ho1.bel bl) (.slice A1 (ZaG xs).length c1) rfl (AppSrc.flat (hw:=by decide) (hw2:=by decide) Zpx (zb hr1)) (by have h9:=HL.out;unfold maxLen;simp;omega) (by have h9:=HL.out;simp;omega) (by (try simp);(try omega)) (by simp) ?_)
 intro v2 w2 ho2 hg2 hat2
 replace ho2:Own cI 3 w.heap.size w2 v2 ([101,k]++ZaG xs) []:=ho2
 have hB2:Below w.heap.size w w2:=(show Below w.heap.size w _ from bl).grown hg2 (by (try simp);(try omega)) (λg hg=>by simp[Zac] at hg;omega)
 obtain⟨G2,hr2,-,-⟩:=ho2.fresh (hw:=by decide) (hw2:=by decide)
 go_wp2_with (go_at_call 123;refine(ZkA _ ([101,k]++ZaG xs) _ _ (by exact hr2) (by have h9:=HL.out;simp;omega)).mono ?_;rintro e w3 ⟨rfl,rfl⟩)
 go_ret
 exact⟨rfl,hB2⟩
section
variable {α:Type} (p:α→α→Bool)
def ZoE:List α→List α→Bool
 | [],[]=>true
 | x::xs,y::ys=>p x y&&ZoE xs ys
 | _,_=>false
def Zlb (xs ys:List α) (k:Nat):Prop:=∀i (h1:i<xs.length) (h2:i<ys.length),i<k→p xs[i] ys[i]=true
theorem ZlM (xs ys:List α):Zlb p xs ys 0:=λi _ _ h=>absurd h (Nat.not_lt_zero _)
theorem ZlL (xs ys:List α) (k:Nat) (h1:k<xs.length) (h2:k<ys.length) (h:Zlb p xs ys k) (e:p xs[k] ys[k]=true):Zlb p xs ys (k+1):=λi a b c=>by
 by_cases hi:i=k
 ·subst hi;exact e
 ·exact h i a b (by omega)
theorem Zmk:∀(xs ys:List α),xs.length≠ys.length→ZoE p xs ys=false
 | [],[],h=>absurd rfl h
 | [],_::_,_=>rfl
 | _::_,[],_=>rfl
 | x::xs,y::ys,h=>by
  have:=Zmk xs ys (λe=>h (by simp[e]))
  simp[ZoE,this]
theorem Zmj:∀(xs ys:List α),xs.length=ys.length→Zlb p xs ys xs.length→ZoE p xs ys=true
 | [],[],_,_=>rfl
 | [],_::_,h,_=>by simp at h
 | _::_,[],h,_=>by simp at h
 | x::xs,y::ys,h,k=>by
  have h0:=k 0 (by simp) (by simp) (by simp)
  have:=Zmj xs ys (by simpa using h) (λi a b c=>by have:=k (i+1) (by simpa using a) (by simpa using b) (by simpa using c);simpa using this)
  simp only[List.getElem_cons_zero] at h0
  simp[ZoE,this,h0]
theorem Zkq:∀(xs ys:List α) (k:Nat) (h1:k<xs.length) (h2:k<ys.length),p xs[k] ys[k]=false→ZoE p xs ys=false
 | [],_,_,h1,_,_=>by simp at h1
 | _::_,[],_,_,h2,_=>by simp at h2
 | x::xs,y::ys,0,_,_,e=>by simp only[List.getElem_cons_zero] at e;simp[ZoE,e]
 | x::xs,y::ys,k+1,h1,h2,e=>by
  have:=Zkq xs ys k (by simpa using h1) (by simpa using h2) (by simpa using e)
  simp[ZoE,this]
end
def ZoF (a b:UInt8):Bool:=(a.toNat:Int)==(b.toNat:Int)
def ZhD (xs ys:List UInt8):Bool:=ZoE ZoF xs ys
theorem ZpQ (a b:UInt8):ZoF a b=(a==b):=by
 unfold ZoF
 rw[Bool.eq_iff_iff,beq_iff_eq,beq_iff_eq]
 exact⟨λh=>UInt8.toNat_inj.1 (by exact_mod_cast h),λh=>by rw[h]⟩
theorem ZbR:∀xs ys:List UInt8,ZhD xs ys=(xs==ys)
 | [],[]=>rfl
 | [],_::_=>rfl
 | _::_,[]=>rfl
 | x::xs,y::ys=>by
  have:=ZbR xs ys
  unfold ZhD at this⊢
  simp only[ZoE,ZpQ,this,List.cons_beq_cons]
theorem ZfU {w:World} {A:Option Addr} {n cp:Nat} {xs:List UInt8} {F:List Nat} (h:cUS.rep w [.slice A n cp] xs F) :
  Sem.run Tryz.prog (convert 26 9 (.slice A n cp)) w=.ok (.string ⟨xs.toArray⟩) w:=by
 obtain⟨hn,-,-⟩:=Zq h
 subst hn
 cases A with
 | none =>
  cases xs with
  | nil=>exact run_convert_bytes_nil (P:=Tryz.prog) w _ 5 Tryz.underlying26 Tryz.underlying5 _ _ _ Tryz.underlying9
  | cons x xs =>
   obtain⟨g,o,vs,F1,hA,-⟩:=ZN (hw:=by decide) (hw2:=by decide) h (k:=0) (by simp)
   simp at hA
 | some a =>
  refine run_convert_bytes_back (P:=Tryz.prog) w _ _ 5 a _ xs Tryz.underlying26 Tryz.underlying5 Tryz.underlying9 (λj hj=>?_)
  obtain⟨g,o,vs,F1,hA,-,hx,-,hc⟩:=ZN (hw:=by decide) (hw2:=by decide) h hj
  simp only[Option.some.injEq] at hA
  subst hA
  obtain⟨rfl,-⟩:=hx
  have h1:=(hc 0 _ rfl).1
  rw[show (cU).wd=1 from rfl,Nat.mul_one,Nat.add_zero] at h1
  rw[Addr.add_lit];exact h1
theorem ZfJ (v1 v2:Value) (xs ys:List UInt8) (F1 F2:List Nat) (w:World) (h1:cUS.rep w [v1] xs F1) (h2:cUS.rep w [v2] ys F2) :
  Calls Tryz.prog 88 #[v1,v2] w (ZL w (.bool (ZhD xs ys))):=by
 obtain⟨A,cp,rfl⟩:=Zb h1
 obtain⟨B,cq,rfl⟩:=Zb h2
 have q1:=ZfU h1
 have q2:=ZfU h2
 go_enter Tryz.func88,Tryz.ntmps88
 go_wp2
 go_ret
 exact⟨Zd (ZbR xs ys).symm,bl⟩
theorem ZiO (v1 v2:Value) (xs ys:List UInt8) (F1 F2:List Nat) (w:World) (h1:cUS.rep w [v1] xs F1) (h2:cUS.rep w [v2] ys F2) :
  Calls Tryz.prog 132 #[v1,v2] w (ZL w (.bool (ZhD xs ys))):=by
 obtain⟨A,cp,rfl⟩:=Zb h1
 obtain⟨B,cq,rfl⟩:=Zb h2
 obtain⟨-,hcp,hm⟩:=Zq h1
 obtain⟨-,hcp2,hm2⟩:=Zq h2
 obtain⟨n,hxn⟩:∃n,xs.length=n:=⟨_,rfl⟩
 obtain⟨m,hxm⟩:∃m,ys.length=m:=⟨_,rfl⟩
 have HN:=zh hxn
 have HM:=zh hxm
 rw[hxn] at hcp⊢
 rw[hxm] at hcp2⊢
 clear hxn hxm
 unfold maxLen at hm hm2
 by_cases hnm:n=m
 ·have HE:=zh hnm
  subst hnm
  go_enter Tryz.func132,Tryz.ntmps132
  go_wp2
  go_loopw [13] (λi wr=>∃k:Nat,k≤n∧i=.int .i64 k∧Zlb ZoF xs ys k∧Below w.heap.size w wr) (λi _=>n-(intOf i).toNat)
  case atStart=>exact⟨0,Nat.zero_le _,rfl,ZlM _ _ _,Below.refl _ _⟩
  case round =>
   obtain⟨k,hk,rfl,hsm,hB⟩:=hrel
   have HS:=zh hsm
   clear hsm
   by_cases hlt:k<n
   ·have hkx:k<xs.length:=by rw[HN.out];exact hlt
    have hky:k<ys.length:=by rw[HM.out];exact hlt
    obtain⟨g,o,vs,G1,rfl,-,hx,-,hc⟩:=ZN (hw:=by decide) (hw2:=by decide) (zb h1 hB) hkx
    obtain⟨g2,o2,vs2,G2,rfl,-,hx2,-,hc2⟩:=ZN (hw:=by decide) (hw2:=by decide) (zb h2 hB) hky
    obtain⟨rfl,rfl⟩:=hx
    obtain⟨rfl,rfl⟩:=hx2
    have q0:wr.cell? ⟨g,o+k,none⟩=some _:=(by have h1:=(hc 0 _ rfl).1;rwa [show (cU).wd=1 from rfl,Nat.mul_one,Nat.add_zero] at h1)
    have r0:wr.cell? ⟨g2,o2+k,none⟩=some _:=(by have h1:=(hc2 0 _ rfl).1;rwa [show (cU).wd=1 from rfl,Nat.mul_one,Nat.add_zero] at h1)
    clear hc hc2
    have hki:((k:Int)<(n:Int)):=by omega
    cases he:ZoF xs[k] ys[k]
    ·have hne:((xs[k].toNat:Int) !=(ys[k].toNat:Int))=true:=by have:=he;unfold ZoF at this;simpa using this
     go_wp2
     go_quiet (fail)
     go_wp2
     go_ret
     exact⟨Zd (Zkq ZoF xs ys k hkx hky he).symm,bl⟩
    ·have hne:((xs[k].toNat:Int) !=(ys[k].toNat:Int))=false:=by have:=he;unfold ZoF at this;simpa using this
     go_wp2
     go_quiet (fail)
     go_wp2
     go_roundw
     case rel=>exact⟨k+1,by omega,by go_num,ZlL _ _ _ _ hkx hky HS.out he,ZhC hB _⟩
     case measure=>simp[intOf];omega
   ·obtain rfl:k=n:=by omega
    go_wp2
    go_ret
    exact⟨Zd (Zmj ZoF xs ys (by rw[HN.out,HM.out]) (by rw[HN.out];exact HS.out)).symm,hB⟩
 ·have hne:((n:Int) !=(m:Int))=true:=by simp;omega
  go_enter Tryz.func132,Tryz.ntmps132
  go_wp2
  go_ret
  exact⟨Zd (Zmk ZoF xs ys (by rw[HN.out,HM.out];exact hnm)).symm,bl⟩
theorem ZaL (v1 v2:Value) (xs ys:List UInt8) (F1 F2:List Nat) (w:World) (h1:cUS.rep w [v1] xs F1) (h2:cUS.rep w [v2] ys F2) :
  Calls Tryz.prog 96 #[v1,v2] w (ZL w (.bool (ZhD xs ys))):=by
 obtain⟨A,cp,rfl⟩:=Zb h1
 obtain⟨B,cq,rfl⟩:=Zb h2
 go_enter Tryz.func96,Tryz.ntmps96
 go_wp2_with fail
 refine(ZiO _ _ xs ys _ _ _ (by exact zb h1) (by exact zb h2)).mono ?_
 rintro e w1 ⟨rfl,hb⟩
 go_wp2_with fail
 go_ret
 exact⟨rfl,bl⟩
theorem Zfo (w:World) (s:ByteArray) (hs:s.size≤maxLen):∃v w' F,Sem.run Tryz.prog (convert 9 26 (.string s)) w=.ok v w'∧Below w.heap.size w w'∧cUS.rep w' [v] (Zp s) F:=by
 obtain⟨cp,w',F,h1,h2,h3⟩:=ZoQ w s hs
 have hlen:s.data.toList.length=s.size:=(Array.length_toList:s.data.toList.length=s.data.size)
 rw[← hlen] at h1
 exact⟨_,w',F,h1,h2,h3⟩
theorem ZaX {w:World} {v:Value} {xs:List UInt8} {F:List Nat} (h:cUS.rep w [v] xs F):Sem.run Tryz.prog (convert 26 9 v) w=.ok (.string (Zg xs)) w:=by
 obtain⟨A,cp,rfl⟩:=Zb h
 exact ZfU h
section
variable {w:World}
theorem ZpZ {o:Oper} {a:Act} {K:Act→World→Prop} {Q:Exit→Act→World→Prop} (x':Operand) (ho:o.op=.convert 9 26 x') {s:ByteArray} (hx:a.eval x'=.string s) (hs:s.size≤maxLen)
  (h:∀v' w' F,Below w.heap.size w w'→cUS.rep w' [v'] (Zp s) F→K (a.put o.dst v') w'):o.wp Tryz.prog a w K Q:=by
 obtain⟨v',w',F,hr,hb,hrep⟩:=Zfo w s hs
 unfold Oper.wp execOp
 simp only[ho,Sem.run_bind,Sem.run_pure,Result.andThen_ok,hx,hr]
 exact h v' w' F hb hrep
theorem ZcB {ops:Array Oper} {o:Oper} {a:Act} {K:Act→World→Prop} {Q:Exit→Act→World→Prop} {E:Prop} (hgd:o.guard=none) (x':Operand) (ho:o.op=.convert 9 26 x') {s:ByteArray} (hx:a.eval x'=.string s) (hs:s.size≤maxLen)
  (h:∀v' w' F,Below w.heap.size w w'→cUS.rep w' [v'] (Zp s) F→K (a.put o.dst v') w'):if Region.wanted o (yielded ops a.tmps)=true then Oper.wp Tryz.prog o a w K Q else E:=by
 have hw':Region.wanted o (yielded ops a.tmps)=true:=by simp[Region.wanted,hgd]
 rw[if_pos hw']
 exact ZpZ x' ho hx hs h
end
theorem Zlg (s:ByteArray):Lib.strCells s=(Zp s).map λb=>Value.int .u8 (b.toNat:Int):=by simp[Lib.strCells,Zp]
theorem Zqk (w:World):∀l:List UInt8,cU.reps w (l.map λb=>Value.int .u8 (b.toNat:Int)) l []
 | []=>⟨rfl,rfl⟩
 | b::l=>⟨[_],_,[],[],rfl,rfl,⟨rfl,rfl⟩,Zqk w l⟩
theorem ZiH {w:World} {B:Nat} {v:Value} {xs:List UInt8} {ops:Array Oper} {rest:List Oper} {o:Oper} {a:Act} {Q:Exit→Act→World→Prop} (hgd:o.guard=none) (sl x:Operand)
  (ho:o.op=.call { callee:=.builtin .append,args:=#[sl,x],argTypes:=#[26,9] })
  (hs:a.eval sl=v) (hown:Own cU 5 B w v xs []) (hne:0<xs.length) (s:ByteArray) (hx:a.eval x=.string s) (hlen:xs.length+s.size≤1000000000) (hB:B≤w.heap.size)
  (h:∀v' w',Own cU 5 B w' v' (xs++Zp s) []→w.grownBy w' (Zac v)→wpList Tryz.prog ops Q rest (a.put o.dst v') w'):wpList Tryz.prog ops Q (o::rest) a w:=by
 obtain⟨i0,hi0,hz0,hz1,hz2⟩:=info_parts Zcs
 rcases hown.form with ⟨rfl,-,-⟩|⟨g,cap,cur,us,rfl,hBg,hg,hn,hm,hsz,ht,hrow,hr⟩
 ·simp at hne
 ·refine Lib.wpList_append_own_string (P:=Tryz.prog) (w:=w) hgd sl x _ _ ho B 5 i0 Tryz.underlying26 Tryz.underlying9 hi0 hz0 hz1 hz2 _ xs.length us hs hrow s hx (by unfold maxLen;omega) (by omega) hB ?_
  intro v' w' k1 k2 k3
  refine h v' w' (.inr ⟨us++Lib.strCells s,?_,?_⟩) k2
  ·rw[List.length_append,Zbp];exact k1
  ·rw[Zlg]
   exact Cod.reps_app (Cod.reps_keep hr (by simp)) (Zqk w' _)
theorem ZiN (vs1 vs2:Array Value) (x:TIdx) (F1 F2:List Nat) (w:World) (h1:cIdx.rep w vs1.toList x F1) (h2:cIdx.rep w vs2.toList x F2) :
  Calls Tryz.prog 98 #[.agg vs1,.agg vs2] w (ZL w (.bool true)):=by
 obtain⟨e1,rfl,hok⟩:=TIdx.out h1
 obtain rfl:vs1=#[Value.string x.store,.string x.field]:=Array.toList_inj.1 e1
 obtain⟨e2,rfl,-⟩:=TIdx.out h2
 obtain rfl:vs2=#[Value.string x.store,.string x.field]:=Array.toList_inj.1 e2
 go_enter Tryz.func98,Tryz.ntmps98
 go_wp2_with fail
 go_ret
 exact⟨rfl,bl⟩
theorem ZhH (v1 v2:Value) (xs:List TIdx) (F1 F2:List Nat) (w:World) (h1:cIdxS.rep w [v1] xs F1) (h2:cIdxS.rep w [v2] xs F2) :
  Calls Tryz.prog 54 #[v1,v2] w (ZL w (.bool true)):=by
 obtain⟨A,cp,rfl⟩:=Zb h1
 obtain⟨B,cq,rfl⟩:=Zb h2
 obtain⟨-,hcp,hm⟩:=Zq h1
 obtain⟨n,hxn⟩:∃n,xs.length=n:=⟨_,rfl⟩
 have HN:=zh hxn
 rw[hxn] at hcp⊢
 clear hxn
 unfold maxLen at hm
 go_enter Tryz.func54,Tryz.ntmps54
 go_wp2
 go_loopw [5] (λi wr=>∃k:Nat,k≤n∧i=.int .i64 k∧Below w.heap.size w wr) (λi _=>n-(intOf i).toNat)
 case atStart=>exact⟨0,Nat.zero_le _,rfl,Below.refl _ _⟩
 case round =>
  obtain⟨k,hk,rfl,hB⟩:=hrel
  by_cases hlt:k<n
  ·have hkx:k<xs.length:=by rw[HN.out];exact hlt
   obtain⟨g,o,vs,G1,rfl,-,hx,-,hc⟩:=ZN (hw:=by decide) (hw2:=by decide) (zb h1 hB) hkx
   obtain⟨g2,o2,vs2,G2,rfl,-,hx2,-,hc2⟩:=ZN (hw:=by decide) (hw2:=by decide) (zb h2 hB) hkx
   have hy:=hx
   have hy2:=hx2
   obtain⟨rfl,rfl,-⟩:=TIdx.out hx
   obtain⟨rfl,rfl,-⟩:=TIdx.out hx2
   have q0:wr.cell? ⟨g,o+k*2,none⟩=some _:=(hc 0 _ rfl).1
   have q1:wr.cell? ⟨g,o+k*2+1,none⟩=some _:=(hc 1 _ rfl).1
   have r0:wr.cell? ⟨g2,o2+k*2,none⟩=some _:=(hc2 0 _ rfl).1
   have r1:wr.cell? ⟨g2,o2+k*2+1,none⟩=some _:=(hc2 1 _ rfl).1
   clear hc hc2
   have hki:((k:Int)<(n:Int)):=by omega
   go_wp2
   go_still_tail 8,(by kernel_rfl)
   change wpList _ _ _ _ _ wr.drew
   have hB2:Below w.heap.size w wr.drew:=ZbX hB
   have hbd:Below wr.heap.size wr wr.drew:=ZbX (Below.refl _ _)
   generalize wr.drew=wd at hB2 hbd⊢
   go_wp2_with fail
   refine(ZiN _ _ xs[k] _ _ _ (by exact zb hy hbd) (by exact zb hy2 hbd)).mono ?_
   rintro e w1 ⟨rfl,hb1⟩
   have hB1:Below w.heap.size w w1:=Za hB2 hb1
   go_wp2_with fail
   go_roundw
   case rel=>exact⟨k+1,by omega,by go_num,hB1⟩
   case measure=>simp[intOf];omega
  ·obtain rfl:k=n:=by omega
   go_wp2
   go_ret
   exact⟨rfl,hB⟩
theorem Zks (vs1 vs2:Array Value) (x:TKey) (F1 F2:List Nat) (w:World) (h1:cKey.rep w vs1.toList x F1) (h2:cKey.rep w vs2.toList x F2) :
  Calls Tryz.prog 80 #[.agg vs1,.agg vs2] w (ZL w (.bool true)):=by
 obtain⟨e1,rfl,hok⟩:=TKey.out h1
 obtain rfl:vs1=#[Value.int .i64 x.kind,.int .i64 x.n,.string x.text]:=Array.toList_inj.1 e1
 obtain⟨e2,rfl,-⟩:=TKey.out h2
 obtain rfl:vs2=#[Value.int .i64 x.kind,.int .i64 x.n,.string x.text]:=Array.toList_inj.1 e2
 go_enter Tryz.func80,Tryz.ntmps80
 go_wp2_with fail
 go_ret
 exact⟨rfl,bl⟩
theorem Zlv (vs1 vs2:Array Value) (x:TField) (F1 F2:List Nat) (w:World) (h1:cField.rep w vs1.toList x F1) (h2:cField.rep w vs2.toList x F2) :
  Calls Tryz.prog 161 #[.agg vs1,.agg vs2] w (ZL w (.bool true)):=by
 obtain⟨e1,rfl,hok⟩:=TField.out h1
 obtain rfl:vs1=#[Value.string x.name,.int .i64 x.n]:=Array.toList_inj.1 e1
 obtain⟨e2,rfl,-⟩:=TField.out h2
 obtain rfl:vs2=#[Value.string x.name,.int .i64 x.n]:=Array.toList_inj.1 e2
 go_enter Tryz.func161,Tryz.ntmps161
 go_wp2_with fail
 go_ret
 exact⟨rfl,bl⟩
theorem Zkr (v1 v2:Value) (xs:List TField) (F1 F2:List Nat) (w:World) (h1:cFieldS.rep w [v1] xs F1) (h2:cFieldS.rep w [v2] xs F2) :
  Calls Tryz.prog 125 #[v1,v2] w (ZL w (.bool true)):=by
 obtain⟨A,cp,rfl⟩:=Zb h1
 obtain⟨B,cq,rfl⟩:=Zb h2
 obtain⟨-,hcp,hm⟩:=Zq h1
 obtain⟨n,hxn⟩:∃n,xs.length=n:=⟨_,rfl⟩
 have HN:=zh hxn
 rw[hxn] at hcp⊢
 clear hxn
 unfold maxLen at hm
 go_enter Tryz.func125,Tryz.ntmps125
 go_wp2
 go_loopw [5] (λi wr=>∃k:Nat,k≤n∧i=.int .i64 k∧Below w.heap.size w wr) (λi _=>n-(intOf i).toNat)
 case atStart=>exact⟨0,Nat.zero_le _,rfl,Below.refl _ _⟩
 case round =>
  obtain⟨k,hk,rfl,hB⟩:=hrel
  by_cases hlt:k<n
  ·have hkx:k<xs.length:=by rw[HN.out];exact hlt
   obtain⟨g,o,vs,G1,rfl,-,hx,-,hc⟩:=ZN (hw:=by decide) (hw2:=by decide) (zb h1 hB) hkx
   obtain⟨g2,o2,vs2,G2,rfl,-,hx2,-,hc2⟩:=ZN (hw:=by decide) (hw2:=by decide) (zb h2 hB) hkx
   have hy:=hx
   have hy2:=hx2
   obtain⟨rfl,rfl,-⟩:=TField.out hx
   obtain⟨rfl,rfl,-⟩:=TField.out hx2
   have q0:wr.cell? ⟨g,o+k*2,none⟩=some _:=(hc 0 _ rfl).1
   have q1:wr.cell? ⟨g,o+k*2+1,none⟩=some _:=(hc 1 _ rfl).1
   have r0:wr.cell? ⟨g2,o2+k*2,none⟩=some _:=(hc2 0 _ rfl).1
   have r1:wr.cell? ⟨g2,o2+k*2+1,none⟩=some _:=(hc2 1 _ rfl).1
   clear hc hc2
   have hki:((k:Int)<(n:Int)):=by omega
   go_wp2
   go_still_tail 8,(by kernel_rfl)
   change wpList _ _ _ _ _ wr.drew
   have hB2:Below w.heap.size w wr.drew:=ZbX hB
   have hbd:Below wr.heap.size wr wr.drew:=ZbX (Below.refl _ _)
   generalize wr.drew=wd at hB2 hbd⊢
   go_wp2_with fail
   refine(Zlv _ _ xs[k] _ _ _ (by exact zb hy hbd) (by exact zb hy2 hbd)).mono ?_
   rintro e w1 ⟨rfl,hb1⟩
   have hB1:Below w.heap.size w w1:=Za hB2 hb1
   go_wp2_with fail
   go_roundw
   case rel=>exact⟨k+1,by omega,by go_num,hB1⟩
   case measure=>simp[intOf];omega
  ·obtain rfl:k=n:=by omega
   go_wp2
   go_ret
   exact⟨rfl,hB⟩
theorem ZgC (vs1 vs2:Array Value) (x:TRec) (F1 F2:List Nat) (w:World) (h1:cRec.rep w vs1.toList x F1) (h2:cRec.rep w vs2.toList x F2) :
  Calls Tryz.prog 81 #[.agg vs1,.agg vs2] w (ZL w (.bool true)):=by
 obtain⟨a0,F0,rfl,rfl,hok,m0⟩:=TRec.outA h1
 obtain⟨b0,Q0,rfl,rfl,-,n0⟩:=TRec.outA h2
 go_enter Tryz.func81,Tryz.ntmps81
 go_wp2_with fail
 refine(Zkr _ _ x.fields _ _ _ (by exact zb m0) (by exact zb n0)).mono ?_
 rintro e w1 ⟨rfl,hb1⟩
 have hz1:=hb1.size
 (try simp at hz1)
 have hs1_0:w.heap.size<w1.heap.size:=by omega
 have hs1_1:w.heap.size+1<w1.heap.size:=by omega
 have hB1:=zt (w:=w) hb1
 obtain⟨hc1,hfz1,-⟩:=Zc hb1
 clear hb1
 go_wp2_with fail
 go_ret
 exact⟨rfl,bl⟩
theorem ZmV (vs1 vs2:Array Value) (x:TItem) (F1 F2:List Nat) (w:World) (h1:cItem.rep w vs1.toList x F1) (h2:cItem.rep w vs2.toList x F2) :
  Calls Tryz.prog 167 #[.agg vs1,.agg vs2] w (ZL w (.bool true)):=by
 obtain⟨a3,F3,rfl,rfl,hok,m3⟩:=TItem.outA h1
 obtain⟨b3,Q3,rfl,rfl,-,n3⟩:=TItem.outA h2
 go_enter Tryz.func167,Tryz.ntmps167
 go_wp2_with fail
 refine(Zks _ _ x.key _ _ _ (by exact TKey.mk_ ⟨hok.h0,hok.h1,hok.h2⟩) (by exact TKey.mk_ ⟨hok.h0,hok.h1,hok.h2⟩)).mono ?_
 rintro e w1 ⟨rfl,hb1⟩
 have hz1:=hb1.size
 (try simp at hz1)
 have hs1_0:w.heap.size<w1.heap.size:=by omega
 have hs1_1:w.heap.size+1<w1.heap.size:=by omega
 have hB1:=zt (w:=w) hb1
 obtain⟨hc1,hfz1,-⟩:=Zc hb1
 clear hb1
 go_wp2_with fail
 refine(ZgC _ _ x.rcd _ _ _ (by exact TRec.mk_ trivial (zb m3)) (by exact TRec.mk_ trivial (zb n3))).mono ?_
 rintro e w2 ⟨rfl,hb2⟩
 have hz2:=hb2.size
 (try simp at hz2)
 have hs2_0:w.heap.size<w2.heap.size:=by omega
 have hs2_1:w.heap.size+1<w2.heap.size:=by omega
 have hB2:=zt (w:=w) hb2
 obtain⟨hc2,hfz2,-⟩:=Zc hb2
 clear hb2
 go_wp2_with fail
 go_ret
 exact⟨rfl,bl⟩
end Go.Proofs.YtghndifnohkokaaGreat
