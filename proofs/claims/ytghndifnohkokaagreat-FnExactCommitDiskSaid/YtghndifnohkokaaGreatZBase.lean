/-
  Base, Cod, Open, Mem, TKey, NameL and others of the seat. No conditions but sizes.
-/
import Derived.WalkKit
import Derived.ProofKit
import Derived.OpenShut
import Derived.Carry
import Derived.Below
import Derived.Outline
import Derived.Lib.Hide
import Derived.WalkLawsBesides
import Derived.ChangeSame
import Derived.Deep.Draws
import Derived.Deep.Slices
import Derived.Deep.QuietTactic
import Derived.BigQuiet
import Derived.Laws.Rows
import Derived.Laws.MakeOwn
import Derived.LoopTactic
import Derived.Test.YtghndifnohkokaaGreatRows
import Derived.Lib.Bytealg
import Derived.Maps.AppendAt
import Derived.Deep.AppendLies
import Derived.ArgAppend
import Derived.RegionTactic
import Derived.OwnWalk
import Derived.Deep.RegionHeld3
import Derived.StillTailTactics
import Derived.IntWalk
import Derived.Laws.IdiomStrings
namespace Go.Proofs.YtghndifnohkokaaGreat
open Go.ChangeShapes Go.WideShapes Go.RowKit
set_option linter.unusedVariables false
set_option linter.unusedSimpArgs false
set_option maxRecDepth 100000
set_option maxHeartbeats 16000000
section
variable {H:Type} {enc:TypeId×Value→H} {P:Program}
theorem Zhb (hl:laidOutB P=true) {W W':World} (hb:Below W.heap.size W W') {sp:Nat→Bool}:∀(ts:List TypeId) (vs:List Value) (ds:List (DataW H)) (ps:List MemPlace),
  (ts.all λt=>P.readableRec t&&decide (t<P.types.size))=true→DataW.TrodAll enc P W 0 (λ_=>true) true ts vs ds ps→(∀x∈ps,x.block<W.heap.size)→(∀x∈ps,sp x.block=true) →
  DataW.TrodAll enc P W' 0 sp true ts vs ds ps
 | [],[],[],_,_,h,_,_=>h
 | [],[],_::_,_,_,h,_,_=>h.elim
 | [],_::_,_,_,_,h,_,_=>h.elim
 | _::_,[],_,_,_,h,_,_=>h.elim
 | _::_,_::_,[],_,_,h,_,_=>h.elim
 | t::ts,v::vs,d::ds,ps,hts,h,hlt,hsp=>by
  obtain⟨p,q,h1,h2,rfl⟩:=h
  simp only[List.all_cons,Bool.and_eq_true,decide_eq_true_eq] at hts
  exact⟨p,q,WideElems.Trod_stays hl hts.1.1 hts.1.2 h1 (λx hx=>hb.same (hlt x (by simp[hx]))) (λx hx=>hsp x (by simp[hx])),
   Zhb hl hb ts vs ds q hts.2 h2 (λx hx=>hlt x (by simp[hx])) (λx hx=>hsp x (by simp[hx])),rfl⟩
theorem ZiF:∀(ts:List TypeId) (vs:List Value) (ds:List (DataW H)) (ps:List MemPlace) {W:World} {b:Nat} {sp:Nat→Bool} {hd:Bool},
  DataW.TrodAll enc P W b sp hd ts vs ds ps→ds.length=ts.length
 | [],[],[],_,_,_,_,_,_=>rfl
 | [],[],_::_,_,_,_,_,_,h=>h.elim
 | [],_::_,_,_,_,_,_,_,h=>h.elim
 | _::_,[],_,_,_,_,_,_,h=>h.elim
 | _::_,_::_,[],_,_,_,_,_,h=>h.elim
 | t::ts,v::vs,d::ds,ps,_,_,_,_,h=>by
  obtain⟨p,q,_,h2,rfl⟩:=h
  simp[ZiF ts vs ds q h2]
theorem Zmv {f:Func} {s:ChangeSpec} {W W':World} {args:Array Value} {ds gs:List (DataW H)} {before:List MemPlace} {tb:TypeId}
  (hl:laidOutB P=true) (hv:s.vars=[]) (hrt:f.resultTypes=#[tb]) (htb:P.underlying tb=some .bool)
  (hts:(f.params.toList.all λt=>P.readableRec t&&decide (t<P.types.size))=true)
  (hs:∀ds:List (DataW H),ds.length=f.params.size→(s.fn H ds).results=[.lit (.bool true)]∧(s.fn H ds).args=ds∧(s.fn H ds).vars=[])
  (hW:DataW.Whole enc P f.params.toList s.vars false W args.toList ds gs before) (hb:Below W.heap.size W W') :
  s.post enc P f false true false false W args (.bool true) W':=by
 have hlt:∀p∈before,p.block<W.heap.size:=λp hp=>hW.lt p hp
 have hW':=hW
 obtain⟨p,q,hA,hV,rfl,hfz,hnd⟩:=hW
 rw[hv] at hV
 have hg:gs=[]:=by
  cases gs with
  | nil=>rfl
  | cons a b=>exact hV.elim
 subst hg
 obtain rfl:q=[]:=hV
 have hlen:ds.length=f.params.size:=by simpa using ZiF _ _ _ _ hA
 obtain⟨e1,e2,e3⟩:=hs (ds++[]) (by simpa using hlen)
 refine⟨ds,[],p++[],[],p,[],hW',?_,?_,?_,hb.frame _,λh=>by cases h⟩
 ·rw[e1,hrt]
  exact trodAll_mk1 (shut_bool htb _)
 ·rw[e2,List.append_nil]
  exact Zhb hl hb _ _ _ _ hts hA (λx hx=>hlt x (by simp[hx])) (λx hx=>by simpa using hlt x (by simp[hx]))
 ·rw[hv,e3];rfl
end
theorem ZM {w w':World} (h:Below w.heap.size w w') (o:Obj):Below w.heap.size w (w'.alloc o):=h.alloc h.size o
theorem Za {w w' w'':World} (h:Below w.heap.size w w') (k:Below w'.heap.size w' w''):Below w.heap.size w w'':=h.trans (k.mono h.size)
theorem ZbX {w w':World} (h:Below w.heap.size w w'):Below w.heap.size w w'.drew:=h.drew
theorem ZhC {w w':World} (h:Below w.heap.size w w') (n:Nat):Below w.heap.size w (w'.drewN n):=⟨h.os,h.tape,h.output,h.size,h.block⟩
theorem Zae {P:Program} {f:FuncId} {args:Array Value} {w:World} {n:Nat} {v:Value}
  (h:Calls P f args (w.drewN n) λe w'=>e=.returned v∧w.drewN n=w'):Calls P f args (w.drewN n) λe w''=>e=.returned v∧∃m,w''=w.drewN m :=
 h.mono λ_ _ ⟨he,hm⟩=>⟨he,n,hm.symm⟩
theorem Zqq {P:Program} {f:FuncId} {args:Array Value} {w:World} {a n:Nat} {v:Value}
  (h:Calls P f args (w.drewN (a+n)) λe w'=>e=.returned v∧w.drewN (a+n)=w'):Calls P f args (w.drewN (a+n)) λe w''=>e=.returned v∧∃m,w''=w.drewN (a+m) :=
 h.mono λ_ _ ⟨he,hm⟩=>⟨he,n,hm.symm⟩
def ZL (w:World) (v:Value) (e:Ending) (w':World):Prop:=e=.returned v∧Below w.heap.size w w'
def ZcQ (n k:Int):Int:=if n-k<0 then -1 else n-k
theorem Zj {n k:Int} (h:n-k<0):ZcQ n k=-1:=if_pos h
theorem Zw {n k:Int} (h:¬n-k<0):ZcQ n k=n-k:=if_neg h
theorem Zh {k:IntKind} {a b:Int} (h:a=b):Ending.returned (.int k a)=.returned (.int k b):=by rw[h]
theorem Zd {a b:Bool} (h:a=b):Ending.returned (.bool a)=.returned (.bool b):=by rw[h]
theorem ZeZ {w w':World} (h:Below w.heap.size w w') {p:Addr} (hp:w.heap.size≤p.block) (u:Value):Below w.heap.size w (w'.setCell p u):=h.setCell hp u
theorem bl {B:Nat} {w w':World} (h:Below B w w':=by repeat (first|with_reducible exact Below.refl _ _|with_reducible assumption|with_reducible refine ZM ?_ _|with_reducible refine ZbX ?_|with_reducible refine ZhC ?_ _|(with_reducible refine ZeZ ?_ ?_ _;rotate_left;((try simp);(try omega))))):Below B w w':=h
theorem zt {w w' w'':World} (k:Below w'.heap.size w' w'') (h:Below w.heap.size w w':=by exact bl):Below w.heap.size w w'':=Za h k
theorem zh {p:Prop} (h:p):RowKit.Hid p:=h
theorem zg2 (b s:Nat) (h:b+1<s:=by omega):b<s∧b+1<s:=by omega
theorem zg3 (b s:Nat) (h:b+2<s:=by omega):b<s∧b+1<s∧b+2<s:=by omega
theorem zg4 (b s:Nat) (h:b+3<s:=by omega):b<s∧b+1<s∧b+2<s∧b+3<s:=by omega
theorem zg5 (b s:Nat) (h:b+4<s:=by omega):b<s∧b+1<s∧b+2<s∧b+3<s∧b+4<s:=by omega
theorem zg6 (b s:Nat) (h:b+5<s:=by omega):b<s∧b+1<s∧b+2<s∧b+3<s∧b+4<s∧b+5<s:=by omega
theorem zg7 (b s:Nat) (h:b+6<s:=by omega):b<s∧b+1<s∧b+2<s∧b+3<s∧b+4<s∧b+5<s∧b+6<s:=by omega
theorem zg8 (b s:Nat) (h:b+7<s:=by omega):b<s∧b+1<s∧b+2<s∧b+3<s∧b+4<s∧b+5<s∧b+6<s∧b+7<s:=by omega
theorem zcl {B:Nat} {W w':World} (hb:Below B W w') {p:Addr} {r:Option Value} (h:W.cell? p=r) (hp:p.block<B:=by first|assumption|((try simp);(try omega))):w'.cell? p=r:=(hb.cell hp).trans h
theorem zcf {B:Nat} {W w':World} (hb:Below B W w') {p:Addr} {r:Bool} (h:W.frozen? p=r) (hp:p.block<B:=by first|assumption|((try simp);(try omega))):w'.frozen? p=r:=(hb.frozen hp).trans h
theorem zn2 {a0 a1:Prop} (h0:a0) (h1:a1):a0∧a1:=⟨h0,h1⟩
theorem zn3 {a0 a1 a2:Prop} (h0:a0) (h1:a1) (h2:a2):a0∧a1∧a2:=⟨h0,h1,h2⟩
theorem zn4 {a0 a1 a2 a3:Prop} (h0:a0) (h1:a1) (h2:a2) (h3:a3):a0∧a1∧a2∧a3:=⟨h0,h1,h2,h3⟩
theorem zn5 {a0 a1 a2 a3 a4:Prop} (h0:a0) (h1:a1) (h2:a2) (h3:a3) (h4:a4):a0∧a1∧a2∧a3∧a4:=⟨h0,h1,h2,h3,h4⟩
theorem zn6 {a0 a1 a2 a3 a4 a5:Prop} (h0:a0) (h1:a1) (h2:a2) (h3:a3) (h4:a4) (h5:a5):a0∧a1∧a2∧a3∧a4∧a5:=⟨h0,h1,h2,h3,h4,h5⟩
theorem zn7 {a0 a1 a2 a3 a4 a5 a6:Prop} (h0:a0) (h1:a1) (h2:a2) (h3:a3) (h4:a4) (h5:a5) (h6:a6):a0∧a1∧a2∧a3∧a4∧a5∧a6:=⟨h0,h1,h2,h3,h4,h5,h6⟩
theorem zn8 {a0 a1 a2 a3 a4 a5 a6 a7:Prop} (h0:a0) (h1:a1) (h2:a2) (h3:a3) (h4:a4) (h5:a5) (h6:a6) (h7:a7):a0∧a1∧a2∧a3∧a4∧a5∧a6∧a7:=⟨h0,h1,h2,h3,h4,h5,h6,h7⟩
theorem zn9 {a0 a1 a2 a3 a4 a5 a6 a7 a8:Prop} (h0:a0) (h1:a1) (h2:a2) (h3:a3) (h4:a4) (h5:a5) (h6:a6) (h7:a7) (h8:a8):a0∧a1∧a2∧a3∧a4∧a5∧a6∧a7∧a8:=⟨h0,h1,h2,h3,h4,h5,h6,h7,h8⟩
theorem zn10 {a0 a1 a2 a3 a4 a5 a6 a7 a8 a9:Prop} (h0:a0) (h1:a1) (h2:a2) (h3:a3) (h4:a4) (h5:a5) (h6:a6) (h7:a7) (h8:a8) (h9:a9):a0∧a1∧a2∧a3∧a4∧a5∧a6∧a7∧a8∧a9:=⟨h0,h1,h2,h3,h4,h5,h6,h7,h8,h9⟩
theorem zn11 {a0 a1 a2 a3 a4 a5 a6 a7 a8 a9 a10:Prop} (h0:a0) (h1:a1) (h2:a2) (h3:a3) (h4:a4) (h5:a5) (h6:a6) (h7:a7) (h8:a8) (h9:a9) (h10:a10):a0∧a1∧a2∧a3∧a4∧a5∧a6∧a7∧a8∧a9∧a10:=⟨h0,h1,h2,h3,h4,h5,h6,h7,h8,h9,h10⟩
theorem zn12 {a0 a1 a2 a3 a4 a5 a6 a7 a8 a9 a10 a11:Prop} (h0:a0) (h1:a1) (h2:a2) (h3:a3) (h4:a4) (h5:a5) (h6:a6) (h7:a7) (h8:a8) (h9:a9) (h10:a10) (h11:a11):a0∧a1∧a2∧a3∧a4∧a5∧a6∧a7∧a8∧a9∧a10∧a11:=⟨h0,h1,h2,h3,h4,h5,h6,h7,h8,h9,h10,h11⟩
theorem zn13 {a0 a1 a2 a3 a4 a5 a6 a7 a8 a9 a10 a11 a12:Prop} (h0:a0) (h1:a1) (h2:a2) (h3:a3) (h4:a4) (h5:a5) (h6:a6) (h7:a7) (h8:a8) (h9:a9) (h10:a10) (h11:a11) (h12:a12):a0∧a1∧a2∧a3∧a4∧a5∧a6∧a7∧a8∧a9∧a10∧a11∧a12:=⟨h0,h1,h2,h3,h4,h5,h6,h7,h8,h9,h10,h11,h12⟩
theorem zn14 {a0 a1 a2 a3 a4 a5 a6 a7 a8 a9 a10 a11 a12 a13:Prop} (h0:a0) (h1:a1) (h2:a2) (h3:a3) (h4:a4) (h5:a5) (h6:a6) (h7:a7) (h8:a8) (h9:a9) (h10:a10) (h11:a11) (h12:a12) (h13:a13):a0∧a1∧a2∧a3∧a4∧a5∧a6∧a7∧a8∧a9∧a10∧a11∧a12∧a13:=⟨h0,h1,h2,h3,h4,h5,h6,h7,h8,h9,h10,h11,h12,h13⟩
theorem zn15 {a0 a1 a2 a3 a4 a5 a6 a7 a8 a9 a10 a11 a12 a13 a14:Prop} (h0:a0) (h1:a1) (h2:a2) (h3:a3) (h4:a4) (h5:a5) (h6:a6) (h7:a7) (h8:a8) (h9:a9) (h10:a10) (h11:a11) (h12:a12) (h13:a13) (h14:a14):a0∧a1∧a2∧a3∧a4∧a5∧a6∧a7∧a8∧a9∧a10∧a11∧a12∧a13∧a14:=⟨h0,h1,h2,h3,h4,h5,h6,h7,h8,h9,h10,h11,h12,h13,h14⟩
theorem Zc {W w1:World} (hb:Below W.heap.size W w1):(∀b o,b<W.heap.size→w1.cell? ⟨b,o,none⟩=W.cell? ⟨b,o,none⟩)∧(∀b o,b<W.heap.size→w1.frozen? ⟨b,o,none⟩=W.frozen? ⟨b,o,none⟩)∧W.heap.size≤w1.heap.size :=
 ⟨λb o h=>hb.cell (p:=⟨b,o,none⟩) h,λb o h=>hb.frozen (p:=⟨b,o,none⟩) h,hb.size⟩
def CellsAt (w:World) (g o:Nat) (us:List Value):Prop :=
 ∀j u,us[j]?=some u→w.cell? ⟨g,o+j,none⟩=some u∧w.frozen? ⟨g,o+j,none⟩=false
theorem CellsAt.keep {w w':World} {g o:Nat} {us:List Value} (h:CellsAt w g o us) (hb:w'.heap[g]?=w.heap[g]?):CellsAt w' g o us:=by
 intro j u hu
 obtain⟨h1,h2⟩:=h j u hu
 exact⟨(World.cell?_of_block (w:=w) (a:=⟨g,o+j,none⟩) hb).trans h1,(World.frozen?_of_block (w:=w) (a:=⟨g,o+j,none⟩) hb).trans h2⟩
theorem CellsAt.lt {w:World} {g o:Nat} {us:List Value} (h:CellsAt w g o us) (hn:us≠[]):g<w.heap.size:=by
 cases us with
 | nil=>exact absurd rfl hn
 | cons u us =>
  have:=(h 0 u rfl).1
  unfold World.cell? at this
  cases hh:w.heap[g]? with
  | none=>simp[hh] at this
  | some x=>exact(Array.getElem?_eq_some_iff.1 hh).1
theorem CellsAt.left {w:World} {g o:Nat} {us vs:List Value} (h:CellsAt w g o (us++vs)):CellsAt w g o us:=by
 intro j u hu
 exact h j u (by rw[List.getElem?_append_left (List.getElem?_eq_some_iff.1 hu).1];exact hu)
theorem CellsAt.right {w:World} {g o:Nat} {us vs:List Value} (h:CellsAt w g o (us++vs)):CellsAt w g (o+us.length) vs:=by
 intro j u hu
 have:=h (us.length+j) u (by rw[List.getElem?_append_right (by omega)];simpa using hu)
 rwa [← Nat.add_assoc] at this
def Zkh:Nat→Nat→List UInt8→List UInt8
 | 0,_,acc=>acc
 | f+1,k,acc=>if k=0 then acc else Zkh f (k / 10) (UInt8.ofNat (48+k % 10)::acc)
def Zy (k:Int):ByteArray:=if k≤0 then ⟨#[109,48]⟩ else ⟨(109::Zkh k.toNat k.toNat []).toArray⟩
theorem Zmx:∀(f k:Nat) (acc:List UInt8),(Zkh f k acc).length≤f+acc.length
 | 0,_,acc=>by simp[Zkh]
 | f+1,k,acc=>by
  unfold Zkh
  split
  ·omega
  ·have:=Zmx f (k / 10) (UInt8.ofNat (48+k % 10)::acc)
   simp only[List.length_cons] at this
   omega
theorem ZhY:∀(f k:Nat) (acc:List UInt8),k≤f→Zkh f k acc=Zkh k k acc
 | 0,k,acc,h=>by
  obtain rfl:k=0:=by omega
  rfl
 | f+1,k,acc,h=>by
  cases k with
  | zero=>simp[Zkh]
  | succ k =>
   have h10:(k+1) / 10≤k:=by omega
   have hf:(k+1) / 10≤f:=by omega
   show (if k+1=0 then acc else Zkh f ((k+1) / 10) (UInt8.ofNat (48+(k+1) % 10)::acc))=(if k+1=0 then acc else Zkh k ((k+1) / 10) (UInt8.ofNat (48+(k+1) % 10)::acc))
   rw[if_neg (by omega),if_neg (by omega),ZhY f _ _ hf,ZhY k _ _ h10]
theorem ZaY {k:Int} (h:k≤1000000000):(Zy k).size≤maxLen:=by
 unfold Zy maxLen
 split
 ·show 2≤2 ^ 63-1
  omega
 ·have:=Zmx k.toNat k.toNat []
  have e:(⟨(109::Zkh k.toNat k.toNat []).toArray⟩:ByteArray).size=(Zkh k.toNat k.toNat []).length+1:=by simp[ByteArray.size]
  rw[e]
  simp only[List.length_nil] at this
  omega
structure Cod (α:Type) where
 wd:Nat
 rep:World→List Value→α→List Nat→Prop
 sz:α→Nat
 mrk:Int→α→α
 cn:α→Nat
 mkcn:∀k x,cn (mrk k x)=cn x
 cnle:∀x,cn x≤wd+32*sz x
 len:∀{w vs x F},rep w vs x F→vs.length=wd
 keep:∀{w w' vs x F},rep w vs x F→(∀b,b∈F→w'.heap[b]?=w.heap[b]?)→rep w' vs x F
 lt:∀{w vs x F},rep w vs x F→∀b,b∈F→b<w.heap.size
 ones:∀{w vs x F},rep w vs x F→∀v,v∈vs→v.oneCell'=true
def cI:Cod Int where
 wd:=1
 rep:=λ_ vs n F=>vs=[.int .i64 n]∧F=[]∧-9223372036854775808≤n∧n≤9223372036854775807
 sz:=λ_=>0
 mrk:=λk _=>k
 cn:=λ_=>1
 mkcn:=λ_ _=>rfl
 cnle:=λ_=>Nat.le_refl _
 len:=λh=>by rw[h.1];rfl
 keep:=λh _=>h
 lt:=λh b hb=>by rw[h.2.1] at hb;simp at hb
 ones:=λh v hv=>by rw[h.1] at hv;simp at hv;subst hv;rfl
def cU:Cod UInt8 where
 wd:=1
 rep:=λ_ vs n F=>vs=[.int .u8 (n.toNat:Int)]∧F=[]
 sz:=λ_=>0
 mrk:=λk _=>UInt8.ofNat (k % 256).toNat
 cn:=λ_=>1
 mkcn:=λ_ _=>rfl
 cnle:=λ_=>Nat.le_refl _
 len:=λh=>by rw[h.1];rfl
 keep:=λh _=>h
 lt:=λh b hb=>by rw[h.2] at hb;simp at hb
 ones:=λh v hv=>by rw[h.1] at hv;simp at hv;subst hv;rfl
def cS:Cod ByteArray where
 wd:=1
 rep:=λ_ vs s F=>vs=[.string s]∧F=[]∧s.size≤maxLen
 sz:=λs=>s.size
 mrk:=λk _=>Zy k
 cn:=λ_=>1
 mkcn:=λ_ _=>rfl
 cnle:=λ_=>by omega
 len:=λh=>by rw[h.1];rfl
 keep:=λh _=>h
 lt:=λh b hb=>by rw[h.2.1] at hb;simp at hb
 ones:=λh v hv=>by rw[h.1] at hv;simp at hv;subst hv;rfl
def cP {α β:Type} (c:Cod α) (d:Cod β):Cod (α×β) where
 wd:=c.wd+d.wd
 rep:=λw vs x F=>∃v1 v2 F1 F2,vs=v1++v2∧F=F1++F2∧c.rep w v1 x.1 F1∧d.rep w v2 x.2 F2
 sz:=λx=>c.sz x.1+d.sz x.2
 mrk:=λk x=>(c.mrk k x.1,d.mrk (k+c.cn x.1) x.2)
 cn:=λx=>c.cn x.1+d.cn x.2
 mkcn:=λk x=>by simp only[c.mkcn,d.mkcn]
 cnle:=λx=>by have:=c.cnle x.1;have:=d.cnle x.2;omega
 len:=fun⟨v1,v2,_,_,h,_,h1,h2⟩=>by rw[h,List.length_append,c.len h1,d.len h2]
 keep:=fun⟨v1,v2,F1,F2,h,hF,h1,h2⟩ hb=>⟨v1,v2,F1,F2,h,hF,c.keep h1 λb hm=>hb b (by rw[hF];simp[hm]),d.keep h2 λb hm=>hb b (by rw[hF];simp[hm])⟩
 lt:=fun⟨_,_,_,_,_,hF,h1,h2⟩ b hb=>by
  rw[hF,List.mem_append] at hb
  rcases hb with hb|hb
  ·exact c.lt h1 b hb
  ·exact d.lt h2 b hb
 ones:=fun⟨_,_,_,_,h,_,h1,h2⟩ v hv=>by
  rw[h,List.mem_append] at hv
  rcases hv with hv|hv
  ·exact c.ones h1 v hv
  ·exact d.ones h2 v hv
def cM {α σ:Type} (c:Cod α) (f:σ→α) (g:α→σ) (hg:∀a,f (g a)=a):Cod σ where
 wd:=c.wd
 rep:=λw vs x F=>c.rep w vs (f x) F
 sz:=λx=>c.sz (f x)
 mrk:=λk x=>g (c.mrk k (f x))
 cn:=λx=>c.cn (f x)
 mkcn:=λk x=>by rw[hg,c.mkcn]
 cnle:=λx=>c.cnle (f x)
 len:=λh=>c.len h
 keep:=λh hb=>c.keep h hb
 lt:=λh=>c.lt h
 ones:=λh=>c.ones h
def Cod.reps {α:Type} (c:Cod α) (w:World):List Value→List α→List Nat→Prop
 | us,[],F=>us=[]∧F=[]
 | us,x::xs,F=>∃v1 v2 F1 F2,us=v1++v2∧F=F1++F2∧c.rep w v1 x F1∧c.reps w v2 xs F2
section
variable {α:Type} {c:Cod α} {w w':World}
theorem Cod.reps_len:∀{us:List Value} {xs:List α} {F:List Nat},c.reps w us xs F→us.length=xs.length*c.wd
 | us,[],F,h=>by rw[h.1];simp
 | us,x::xs,F,⟨v1,v2,F1,F2,h,_,h1,h2⟩=>by rw[h,List.length_append,c.len h1,Cod.reps_len h2,List.length_cons,Nat.add_mul];omega
theorem Cod.reps_keep:∀{us:List Value} {xs:List α} {F:List Nat},c.reps w us xs F→(∀b,b∈F→w'.heap[b]?=w.heap[b]?)→c.reps w' us xs F
 | us,[],F,h,_=>h
 | us,x::xs,F,⟨v1,v2,F1,F2,h,hF,h1,h2⟩,hb =>
  ⟨v1,v2,F1,F2,h,hF,c.keep h1 λb hm=>hb b (by rw[hF];simp[hm]),Cod.reps_keep h2 λb hm=>hb b (by rw[hF];simp[hm])⟩
theorem Cod.reps_lt:∀{us:List Value} {xs:List α} {F:List Nat},c.reps w us xs F→∀b,b∈F→b<w.heap.size
 | us,[],F,h,b,hb=>by rw[h.2] at hb;simp at hb
 | us,x::xs,F,⟨v1,v2,F1,F2,_,hF,h1,h2⟩,b,hb=>by
  rw[hF,List.mem_append] at hb
  rcases hb with hb|hb
  ·exact c.lt h1 b hb
  ·exact Cod.reps_lt h2 b hb
theorem Cod.reps_ones:∀{us:List Value} {xs:List α} {F:List Nat},c.reps w us xs F→∀v,v∈us→v.oneCell'=true
 | us,[],F,h,v,hv=>by rw[h.1] at hv;simp at hv
 | us,x::xs,F,⟨v1,v2,F1,F2,h,_,h1,h2⟩,v,hv=>by
  rw[h,List.mem_append] at hv
  rcases hv with hv|hv
  ·exact c.ones h1 v hv
  ·exact Cod.reps_ones h2 v hv
theorem Cod.reps_get:∀{us:List Value} {xs:List α} {F:List Nat},c.reps w us xs F→∀(i:Nat) (hi:i<xs.length),
  ∃vs F1,c.rep w vs xs[i] F1∧(∀b,b∈F1→b∈F)∧∀j u,vs[j]?=some u→us[i*c.wd+j]?=some u
 | us,[],F,_,i,hi=>absurd hi (by simp)
 | us,x::xs,F,⟨v1,v2,F1,F2,h,hF,h1,h2⟩,0,_ =>
  ⟨v1,F1,h1,λb hb=>by rw[hF];simp[hb],λj u hu=>by rw[h,Nat.zero_mul,Nat.zero_add,List.getElem?_append_left (List.getElem?_eq_some_iff.1 hu).1];exact hu⟩
 | us,x::xs,F,⟨v1,v2,F1,F2,h,hF,h1,h2⟩,i+1,hi=>by
  obtain⟨vs,F',k1,k2,k3⟩:=Cod.reps_get h2 i (by simpa using hi)
  refine⟨vs,F',by simpa using k1,λb hb=>by rw[hF];simp[k2 b hb],λj u hu=>?_⟩
  have hl:=c.len h1
  rw[h,List.getElem?_append_right (by rw[hl,Nat.add_mul];omega),hl]
  rw[show (i+1)*c.wd+j-c.wd=i*c.wd+j by rw[Nat.add_mul];omega]
  exact k3 j u hu
theorem Cod.reps_app:∀{us vs:List Value} {xs ys:List α} {F G:List Nat},c.reps w us xs F→c.reps w vs ys G→c.reps w (us++vs) (xs++ys) (F++G)
 | us,vs,[],ys,F,G,h,k=>by rw[h.1,h.2];simpa using k
 | us,vs,x::xs,ys,F,G,⟨v1,v2,F1,F2,h,hF,h1,h2⟩,k =>
  ⟨v1,v2++vs,F1,F2++G,by rw[h,List.append_assoc],by rw[hF,List.append_assoc],h1,Cod.reps_app h2 k⟩
theorem Cod.reps_one {vs:List Value} {x:α} {F:List Nat} (h:c.rep w vs x F):c.reps w vs [x] F :=
 ⟨vs,[],F,[],by simp,by simp,h,rfl,rfl⟩
theorem Cod.reps_cut:∀{us:List Value} {xs ys:List α} {F:List Nat},c.reps w us (xs++ys) F →
  ∃u1 u2 F1 F2,us=u1++u2∧F=F1++F2∧c.reps w u1 xs F1∧c.reps w u2 ys F2
 | us,[],ys,F,h=>⟨[],us,[],F,rfl,rfl,⟨rfl,rfl⟩,h⟩
 | us,x::xs,ys,F,⟨v1,v2,F1,F2,h,hF,h1,h2⟩=>by
  obtain⟨u1,u2,G1,G2,e,eF,k1,k2⟩:=Cod.reps_cut h2
  exact⟨v1++u1,u2,F1++G1,G2,by rw[h,e,List.append_assoc],by rw[hF,eF,List.append_assoc],⟨v1,u1,F1,G1,rfl,rfl,h1,k1⟩,k2⟩
end
def Cod.szs {α:Type} (c:Cod α):List α→Nat
 | []=>0
 | x::xs=>c.sz x+1+c.szs xs
def Cod.mks {α:Type} (c:Cod α):Int→List α→List α
 | _,[]=>[]
 | k,x::xs=>c.mrk k x::c.mks (k+c.cn x) xs
def Cod.cns {α:Type} (c:Cod α):List α→Nat
 | []=>0
 | x::xs=>c.cn x+c.cns xs
theorem Cod.mks_len {α:Type} (c:Cod α):∀(k:Int) (xs:List α),(c.mks k xs).length=xs.length
 | _,[]=>rfl
 | k,x::xs=>by simp[Cod.mks,Cod.mks_len c _ xs]
theorem Cod.mks_cns {α:Type} (c:Cod α):∀(k:Int) (xs:List α),c.cns (c.mks k xs)=c.cns xs
 | _,[]=>rfl
 | k,x::xs=>by simp[Cod.mks,Cod.cns,c.mkcn,Cod.mks_cns c _ xs]
theorem Cod.cns_le {α:Type} (c:Cod α) (h:c.wd≤32):∀xs:List α,c.cns xs≤32*c.szs xs
 | []=>Nat.le_refl _
 | x::xs=>by
  have:=c.cnle x
  have:=Cod.cns_le c h xs
  simp only[Cod.cns,Cod.szs]
  omega
theorem Cod.cns_app {α:Type} (c:Cod α):∀xs ys:List α,c.cns (xs++ys)=c.cns xs+c.cns ys
 | [],ys=>by simp[Cod.cns]
 | x::xs,ys=>by simp[Cod.cns,Cod.cns_app c xs ys];omega
theorem Cod.mks_app {α:Type} (c:Cod α):∀(k:Int) (xs ys:List α),c.mks k (xs++ys)=c.mks k xs++c.mks (k+c.cns xs) ys
 | k,[],ys=>by simp[Cod.mks,Cod.cns]
 | k,x::xs,ys=>by simp[Cod.mks,Cod.cns,Cod.mks_app c _ xs ys,Int.add_assoc]
def cL {α:Type} (c:Cod α) (hw:0<c.wd) (hw2:c.wd≤32):Cod (List α) where
 wd:=1
 rep:=λw vs xs F=>∃A cp,vs=[.slice A xs.length cp]∧xs.length≤cp∧cp≤maxLen ∧
  ((xs=[]∧F=[])∨(xs≠[]∧∃g o Fs us,A=some ⟨g,o,none⟩∧F=g::Fs∧CellsAt w g o us∧c.reps w us xs Fs))
 sz:=c.szs
 mrk:=c.mks
 cn:=c.cns
 mkcn:=c.mks_cns
 cnle:=λxs=>Nat.le_trans (Cod.cns_le c hw2 xs) (by omega)
 len:=fun⟨_,_,h,_⟩=>by rw[h];rfl
 keep:=fun⟨A,cp,h,hl,hm,hr⟩ hb=>⟨A,cp,h,hl,hm,by
  rcases hr with hr|⟨hne,g,o,Fs,us,hA,hF,hc,hr⟩
  ·exact .inl hr
  ·exact .inr ⟨hne,g,o,Fs,us,hA,hF,hc.keep (hb g (by rw[hF];simp)),Cod.reps_keep hr λb hm=>hb b (by rw[hF];simp[hm])⟩⟩
 lt:=fun⟨A,cp,h,hl,hm,hr⟩ b hb=>by
  rcases hr with ⟨_,hr⟩|⟨hne,g,o,Fs,us,hA,hF,hc,hr⟩
  ·rw[hr] at hb;simp at hb
  ·rw[hF,List.mem_cons] at hb
   rcases hb with rfl|hb
   ·refine hc.lt λe=>?_
    have:=Cod.reps_len hr
    rw[e,List.length_nil] at this
    rcases Nat.mul_eq_zero.1 this.symm with h0|h0
    ·exact hne (List.eq_nil_of_length_eq_zero h0)
    ·omega
   ·exact Cod.reps_lt hr b hb
 ones:=fun⟨_,_,h,_⟩ v hv=>by rw[h] at hv;simp at hv;subst hv;rfl
section
open Go.Deep
def Opens {α:Type} (P:Program) (t:TypeId) (c:Cod α):Prop :=
 P.cellsOf t=c.wd∧∀(H:Type) (enc:TypeId×Value→H) (w:World) (fuel:Nat) (cs:List Value) (x:DataW H×List MemPlace),
  DataW.trod enc P w 0 (λ_=>true) true fuel t cs=some x→w.noneFrozen x.2→∃a F,c.rep w cs a F
section
variable {P:Program} {t e:TypeId}
theorem ZaI {w:World} {p q:List MemPlace} (h:w.noneFrozen q) (hs:∀x,x∈p→x∈q):w.noneFrozen p:=λb o hb=>h b o (hs _ hb)
theorem Zdj (h:P.underlying t=some (.int .i64)) (hk:P.cellsOf t=1):Opens P t cI:=by
 refine⟨hk,λH enc w fuel cs x hx _=>?_⟩
 obtain⟨n,rfl,_,hw⟩:=DataW.trod_int h hx
 exact⟨n,[],rfl,rfl,by simpa [Lit.wf,IntKind.min,IntKind.max,IntKind.signed,IntKind.bits] using hw⟩
theorem Zpb (h:P.underlying t=some (.int .u8)) (hk:P.cellsOf t=1):Opens P t cU:=by
 refine⟨hk,λH enc w fuel cs x hx _=>?_⟩
 obtain⟨n,rfl,_,hw⟩:=DataW.trod_int h hx
 have hr:0≤n∧n≤255:=by simpa [Lit.wf,IntKind.min,IntKind.max,IntKind.signed,IntKind.bits] using hw
 refine⟨UInt8.ofNat n.toNat,[],?_,rfl⟩
 have:(UInt8.ofNat n.toNat).toNat=n.toNat:=by
  rw[UInt8.toNat_ofNat'];omega
 rw[this,Int.toNat_of_nonneg hr.1]
theorem Zbn (h:P.underlying t=some .string) (hk:P.cellsOf t=1):Opens P t cS:=by
 refine⟨hk,λH enc w fuel cs x hx _=>?_⟩
 obtain⟨s,rfl,_,hs⟩:=DataW.trod_string h hx
 exact⟨s,[],rfl,rfl,hs⟩
theorem ZnD {w:World} {a:Addr} {v:Value} (h:w.cell? a=some v):a.spot=none:=World.cell?_spot h
theorem Zqf (g o k:Nat):(⟨g,o,none⟩:Addr).add k=⟨g,o+k,none⟩:=by
 unfold Addr.add;split<;>simp_all
theorem ZcK {α:Type} {c:Cod α} {hw:0<c.wd} {hw2:c.wd≤32} (ht:P.underlying t=some (.slice e)) (he:Opens P e c) (hk:P.cellsOf t=1):Opens P t (cL c hw hw2):=by
 obtain⟨hc,he⟩:=he
 refine⟨hk,λH enc w fuel cs x hx hf=>?_⟩
 rcases open_slice ht hx with ⟨rfl,_⟩|⟨a,len,cap,m,n,D,Pl,rfl,_,hl,hm,hmm,rfl,hi⟩
 ·exact⟨[],[],none,0,rfl,Nat.le_refl _,by unfold maxLen;omega,.inl ⟨rfl,rfl⟩⟩
 ·simp only[if_true] at hmm
  subst hmm
  have hfr:∀j,j<m*c.wd→w.frozen? ⟨a.block,a.off+j,none⟩=false:=λj hj=>hf _ _ (by
   simp only[List.mem_append];left
   simp only[MemPlace.row,List.mem_map,List.mem_range]
   exact⟨j,by rw[hc];exact hj,rfl⟩)
  have hpl:∀i,i<m→w.noneFrozen (Pl i):=λi him=>ZaI hf λy hy=>by
   simp only[List.mem_append,List.mem_flatMap,List.mem_range]
   exact .inr ⟨i,him,hy⟩
  -- the values,one by one
  have key:∀k,k≤len→∃us xs F,xs.length=k∧(∀j u,us[j]?=some u→w.cell? (a.add j)=some u)∧c.reps w us xs F:=by
   intro k
   induction k with
   | zero=>exact λ_=>⟨[],[],[],rfl,λj u hu=>by simp at hu,rfl,rfl⟩
   | succ k ih =>
    intro hk'
    obtain⟨us,xs,F,hxl,hcell,hr⟩:=ih (by omega)
    obtain⟨cs',h1,h2⟩:=hi k (by omega)
    obtain⟨y,G,hy⟩:=he H enc w n cs' _ h2 (hpl k (by omega))
    obtain⟨_,hcl,hat⟩:=World.cells?_some h1
    refine⟨us++cs',xs++[y],F++G,by simp[hxl],λj u hu=>?_,Cod.reps_app hr (Cod.reps_one hy)⟩
    have hul:=Cod.reps_len hr
    by_cases hj:j<us.length
    ·rw[List.getElem?_append_left hj] at hu
     exact hcell j u hu
    ·rw[List.getElem?_append_right (by omega)] at hu
     have hj2:j-us.length<P.cellsOf e:=by rw[← hcl];exact(List.getElem?_eq_some_iff.1 hu).1
     have:=hat (j-us.length) hj2
     rw[hu,add_add,hc] at this
     rwa [hul,hxl,show k*c.wd+(j-k*c.wd)=j by rw[hul,hxl] at hj;omega] at this
  obtain⟨us,xs,F,hxl,hcell,hr⟩:=key len (Nat.le_refl _)
  by_cases h0:len=0
  ·subst h0
   obtain rfl:=List.eq_nil_of_length_eq_zero hxl
   exact⟨[],[],some a,m,by simp,by simp,hm,.inl ⟨rfl,rfl⟩⟩
  ·have hul:=Cod.reps_len hr
   have hul0:0<us.length:=by rw[hul,hxl];exact Nat.mul_pos (by omega) hw
   obtain⟨g,o,sp⟩:=a
   have hsp:sp=none:=by
    have:=hcell 0 us[0] (List.getElem?_eq_getElem hul0)
    have:=ZnD this
    simpa [Addr.add] using this
   subst hsp
   refine⟨xs,g::F,some ⟨g,o,none⟩,m,by rw[hxl],by rw[hxl];exact hl,hm,.inr ⟨λe=>h0 (by rw[← hxl,e];rfl),g,o,F,us,rfl,rfl,λj u hu=>?_,hr⟩⟩
   refine⟨by rw[← Zqf];exact hcell j u hu,hfr j ?_⟩
   have hj:j<us.length:=(List.getElem?_eq_some_iff.1 hu).1
   rw[hul,hxl] at hj
   exact Nat.lt_of_lt_of_le hj (Nat.mul_le_mul_right _ hl)
def ZjI {α:Type} (P:Program) (fs:List Field) (o:Nat) (c:Cod α):Prop :=
 ∀(H:Type) (enc:TypeId×Value→H) (w:World) (n:Nat) (cs:List Value) (xs:List (DataW H×List MemPlace)),cs.length=o+c.wd→xs.length=fs.length →
  (∀(i:Nat) (f:Field),fs[i]?=some f→DataW.trod enc P w 0 (λ_=>true) true n f.type ((cs.drop f.offset).take (P.cellsOf f.type))=xs[i]?) →
  w.noneFrozen (xs.flatMap (·.2))→∃a F,c.rep w (cs.drop o) a F
theorem Zbv {α:Type} {c:Cod α} {f:Field} {o:Nat} (ho:f.offset=o) (h:Opens P f.type c):ZjI P [f] o c:=by
 intro H enc w n cs xs hl hx hi hf
 match xs,hx with
 | [x],_ =>
  have h0:=hi 0 f rfl
  rw[ho,h.1,List.take_of_length_le (by rw[List.length_drop,hl];omega)] at h0
  exact h.2 H enc w n _ x h0 (by simpa using hf)
theorem ZZ {α β:Type} {c:Cod α} {d:Cod β} {f:Field} {fs:List Field} {o:Nat} (ho:f.offset=o) (h:Opens P f.type c) (k:ZjI P fs (o+c.wd) d):ZjI P (f::fs) o (cP c d):=by
 intro H enc w n cs xs hl hx hi hf
 match xs,hx with
 | x::xs,hx =>
  have h0:=hi 0 f rfl
  rw[ho,h.1] at h0
  obtain⟨a,F,ha⟩:=h.2 H enc w n _ x h0 (ZaI hf λy hy=>by simp[hy])
  obtain⟨b,G,hb⟩:=k H enc w n cs xs (by rw[hl];show o+(c.wd+d.wd)=_;omega) (by simpa using hx) (λi f hf=>by simpa using hi (i+1) f hf) (ZaI hf λy hy=>by
   simp only[List.flatMap_cons,List.mem_append];exact .inr hy)
  exact⟨(a,b),F++G,_,_,F,G,by rw[← List.drop_drop,List.take_append_drop],rfl,ha,hb⟩
theorem ZaZ {α:Type} {c:Cod α} {fs:Array Field} (ht:P.underlying t=some (.struct fs)) (hk:P.cellsOf t=c.wd) (h:ZjI P fs.toList 0 c):Opens P t c:=by
 refine⟨hk,λH enc w fuel cs x hx hf=>?_⟩
 obtain⟨xs,n,_,rfl,hl,hxl,hi⟩:=DataW.trod_struct ht hx
 have:=h H enc w n cs xs (by rw[hl,hk];omega) (by simpa using hxl) (λi f hf=>hi i f (by simpa using hf)) hf
 simpa using this
theorem Zcv {α σ:Type} {c:Cod α} {f:σ→α} {g:α→σ} {hg:∀a,f (g a)=a} (h:Opens P t c):Opens P t (cM c f g hg):=by
 refine⟨h.1,λH enc w fuel cs x hx hz=>?_⟩
 obtain⟨a,F,ha⟩:=h.2 H enc w fuel cs x hx hz
 exact⟨g a,F,by show c.rep w cs (f (g a)) F;rw[hg];exact ha⟩
theorem Opens.struct_ {α:Type} {c:Cod α} {fs:Array Field} (h:Opens P t c) (ht:P.underlying t=some (.struct fs)) {H:Type} {enc:TypeId×Value→H} {w:World} {base:Nat} {v:Value} {d:DataW H} {p:List MemPlace}
  (hv:Value.okWide P w .any base t v) (hd:DataW.Trod enc P w 0 (λ_=>true) true t v d p) (hf:w.noneFrozen p):∃cs a F,v=.agg cs∧c.rep w cs.toList a F:=by
 obtain⟨cs,rfl,_⟩:=okWide_struct ht hv
 obtain⟨n,hn⟩:=hd
 obtain⟨a,F,ha⟩:=h.2 H enc w n _ _ hn hf
 exact⟨cs,a,F,rfl,ha⟩
theorem Opens.slice_ {α:Type} {c:Cod α} (h:Opens P t c) (ht:P.underlying t=some (.slice e)) {H:Type} {enc:TypeId×Value→H} {w:World} {base:Nat} {v:Value} {d:DataW H} {p:List MemPlace}
  (hv:Value.okWide P w .any base t v) (hd:DataW.Trod enc P w 0 (λ_=>true) true t v d p) (hf:w.noneFrozen p):∃a F,c.rep w [v] a F:=by
 obtain⟨A,len,cap,rfl⟩:=okWide_slice ht hv
 obtain⟨n,hn⟩:=hd
 exact h.2 H enc w n _ _ hn hf
end
end
structure Only (F:List Nat) (w w':World):Prop where
 os:w'.os=w.os
 tape:w'.tape=w.tape
 output:w'.output=w.output
 size:w.heap.size≤w'.heap.size
 block:∀b,b<w.heap.size→b∉F→w'.heap[b]?=w.heap[b]?
theorem Only.refl (F:List Nat) (w:World):Only F w w:=⟨rfl,rfl,rfl,Nat.le_refl _,λ_ _ _=>rfl⟩
theorem Only.of_below {F:List Nat} {w w':World} (h:Below w.heap.size w w'):Only F w w':=⟨h.os,h.tape,h.output,h.size,λb hb _=>h.block b hb⟩
theorem Only.trans {F:List Nat} {a b c:World} (h:Only F a b) (k:Only F b c):Only F a c :=
 ⟨k.os.trans h.os,k.tape.trans h.tape,k.output.trans h.output,Nat.le_trans h.size k.size,λi hi hn=>(k.block i (Nat.lt_of_lt_of_le hi h.size) hn).trans (h.block i hi hn)⟩
theorem Only.mono {F G:List Nat} {a b:World} (h:Only F a b) (hs:∀x,x∈F→x∈G):Only G a b:=⟨h.os,h.tape,h.output,h.size,λi hi hn=>h.block i hi λhf=>hn (hs i hf)⟩
theorem Only.alloc {F:List Nat} {a b:World} (h:Only F a b) (o:Obj):Only F a (b.alloc o):=h.trans (.of_below (ZM (Below.refl _ _) o))
theorem Only.drew {F:List Nat} {a b:World} (h:Only F a b):Only F a b.drew:=⟨h.os,h.tape,h.output,h.size,h.block⟩
theorem Only.drewN {F:List Nat} {a b:World} (h:Only F a b) (n:Nat):Only F a (b.drewN n):=⟨h.os,h.tape,h.output,h.size,h.block⟩
theorem Only.set_ {F:List Nat} {a b:World} (h:Only F a b) {p:Addr} (hp:p.block∈F) (u:Value):Only F a (b.setCell p u) :=
 h.trans ⟨rfl,rfl,rfl,by simp,λi _ hn=>Below.heap_setCell _ _ _ _ (λe=>hn (e ▸ hp))⟩
theorem Only.bel {F:List Nat} {a b:World} (h:Only F a b) (B:Nat) (hB:B≤a.heap.size) (hF:∀x,x∈F→B≤x):Below B a b :=
 ⟨h.os,h.tape,h.output,h.size,λk hk=>h.block k (by omega) λhf=>by have:=hF k hf;omega⟩
theorem Cod.bel {α:Type} {c:Cod α} {w w':World} {vs:List Value} {x:α} {F:List Nat} (h:c.rep w vs x F) (hb:Below w.heap.size w w'):c.rep w' vs x F :=
 c.keep h λb hm=>hb.block b (c.lt h b hm)
theorem zb {α:Type} {c:Cod α} {w w':World} {vs:List Value} {x:α} {F:List Nat} (h:c.rep w vs x F) (hb:Below w.heap.size w w':=by exact bl):c.rep w' vs x F:=Cod.bel h hb
theorem Cod.only {α:Type} {c:Cod α} {w w':World} {vs:List Value} {x:α} {F G:List Nat} (h:c.rep w vs x F) (hb:Only G w w') (hd:∀b,b∈F→b∉G):c.rep w' vs x F :=
 c.keep h λb hm=>hb.block b (c.lt h b hm) (hd b hm)
theorem Cod.reps_bel {α:Type} {c:Cod α} {w w':World} {vs:List Value} {x:List α} {F:List Nat} (h:c.reps w vs x F) (hb:Below w.heap.size w w'):c.reps w' vs x F :=
 Cod.reps_keep h λb hm=>hb.block b (Cod.reps_lt h b hm)
def Fresh (B:Nat) (F:List Nat):Prop:=(∀b,b∈F→B≤b)∧F.Nodup
theorem Fresh.nil (B:Nat):Fresh B []:=⟨λb h=>by simp at h,List.nodup_nil⟩
theorem Fresh.mono {B B':Nat} {F:List Nat} (h:Fresh B F) (hB:B'≤B):Fresh B' F:=⟨λb hb=>Nat.le_trans hB (h.1 b hb),h.2⟩
theorem Fresh.app {B C:Nat} {F G:List Nat} (h:Fresh B F) (hlt:∀b,b∈F→b<C) (k:Fresh C G) (hBC:B≤C):Fresh B (F++G) :=
 ⟨λb hb=>by
  rcases List.mem_append.1 hb with hb|hb
  ·exact h.1 b hb
  ·exact Nat.le_trans hBC (k.1 b hb),
  List.nodup_append.2 ⟨h.2,k.2,λa ha b hb e=>by have:=hlt a ha;have:=k.1 b hb;omega⟩⟩
def Zgs {α:Type} (c:Cod α) (w:World) (x:α) (e:Ending) (w':World):Prop :=
 ∃v F,e=.returned v∧Below w.heap.size w w'∧c.rep w' [v] x F∧Fresh w.heap.size F
def ZaT {α:Type} (c:Cod α) (w:World) (x:α) (e:Ending) (w':World):Prop :=
 ∃vs F,e=.returned (.agg vs)∧Below w.heap.size w w'∧c.rep w' vs.toList x F∧Fresh w.heap.size F
structure Keep (L:Nat) (w w':World):Prop where
 size:w.heap.size≤w'.heap.size
 block:∀b,L≤b→b<w.heap.size→w'.heap[b]?=w.heap[b]?
theorem Keep.refl (L:Nat) (w:World):Keep L w w:=⟨Nat.le_refl _,λ_ _ _=>rfl⟩
theorem Keep.mono {L L':Nat} {w w':World} (h:Keep L w w') (hL:L≤L'):Keep L' w w':=⟨h.size,λb h1 h2=>h.block b (Nat.le_trans hL h1) h2⟩
theorem Keep.bel {L:Nat} {a w w':World} (h:Keep L a w) (hb:Below w.heap.size w w'):Keep L a w' :=
 ⟨Nat.le_trans h.size hb.size,λb h1 h2=>(hb.block b (Nat.lt_of_lt_of_le h2 h.size)).trans (h.block b h1 h2)⟩
theorem Keep.alloc {L:Nat} {a w:World} (h:Keep L a w) (o:Obj):Keep L a (w.alloc o):=h.bel (ZM (Below.refl _ _) o)
theorem Keep.drew {L:Nat} {a w:World} (h:Keep L a w):Keep L a w.drew:=h.bel (Below.refl _ _).drew
theorem Keep.drewN {L:Nat} {a w:World} (h:Keep L a w) (n:Nat):Keep L a (w.drewN n):=h.bel (ZhC (Below.refl _ _) n)
theorem Keep.set_ {L:Nat} {a w:World} (h:Keep L a w) {p:Addr} (hp:p.block<L) (u:Value):Keep L a (w.setCell p u) :=
 ⟨by simpa using h.size,λb h1 h2=>(Below.heap_setCell _ _ _ _ (by omega)).trans (h.block b h1 h2)⟩
theorem Cod.keep2 {α:Type} {c:Cod α} {w w':World} {vs:List Value} {x:α} {F:List Nat} {L:Nat} (h:c.rep w vs x F) (hf:Fresh L F) (hk:Keep L w w'):c.rep w' vs x F :=
 c.keep h λb hm=>hk.block b (hf.1 b hm) (c.lt h b hm)
theorem Fresh.then_ {B L:Nat} {F G:List Nat} {w1:World} (h:Fresh B F) (hlt:∀b,b∈F→b<w1.heap.size) (hL:w1.heap.size≤L) (k:Fresh L G) (hBL:B≤L):Fresh B (F++G) :=
 h.app (λb hb=>Nat.lt_of_lt_of_le (hlt b hb) hL) k hBL
theorem Zmw {F G:List Nat} {a b:Nat} (h1:∀x,x∈F→x<a) (h2:∀x,x∈G→x<b) (hab:a≤b):∀x,x∈F++G→x<b:=λx hx=>by
 rcases List.mem_append.1 hx with hx|hx
 ·have:=h1 x hx;omega
 ·exact h2 x hx
def Cod.sumSz {α:Type} (c:Cod α):List α→Nat
 | []=>0
 | x::xs=>c.sz x+c.sumSz xs
theorem Cod.szs_sum {α:Type} (c:Cod α):∀xs:List α,c.szs xs=xs.length+c.sumSz xs
 | []=>rfl
 | x::xs=>by simp only[Cod.szs,Cod.sumSz,List.length_cons,Cod.szs_sum c xs];omega
theorem Cod.szs_flat {α:Type} {c:Cod α} (h:∀x,c.sz x=0):∀xs:List α,c.szs xs=xs.length
 | []=>rfl
 | x::xs=>by simp[Cod.szs,h,Cod.szs_flat h xs,Nat.add_comm]
theorem Cod.len_le {α:Type} (c:Cod α) (xs:List α):xs.length≤c.szs xs:=by rw[Cod.szs_sum];omega
theorem Cod.sz_mem {α:Type} (c:Cod α):∀(xs:List α) (x:α),x∈xs→c.sz x≤c.szs xs
 | y::ys,x,h=>by
  simp only[Cod.szs]
  rcases List.mem_cons.1 h with rfl|h
  ·omega
  ·have:=Cod.sz_mem c ys x h;omega
theorem Cod.sumSz_le {α:Type} (c:Cod α) (xs:List α):∀k,c.sumSz (xs.take k)≤c.sumSz xs:=by
 induction xs with
 | nil=>intro k;simp
 | cons x xs ih =>
  intro k
  cases k with
  | zero=>simp[Cod.sumSz]
  | succ k=>simp only[List.take_succ_cons,Cod.sumSz];have:=ih k;omega
theorem Cod.sumSz_succ {α:Type} (c:Cod α):∀(xs:List α) (k:Nat) (h:k<xs.length),c.sumSz (xs.take (k+1))=c.sumSz (xs.take k)+c.sz xs[k]
 | x::xs,0,_=>by simp[Cod.sumSz]
 | x::xs,k+1,h=>by
  have:=Cod.sumSz_succ c xs k (by simpa using h)
  simp only[List.take_succ_cons,Cod.sumSz,List.getElem_cons_succ,this];omega
def GivesR2 {α:Type} (c:Cod α) (w:World) (x:α) (r1:Value) (e:Ending) (w':World):Prop :=
 ∃vs F,e=.returned (.tuple #[.agg vs,r1])∧Below w.heap.size w w'∧c.rep w' vs.toList x F∧Fresh w.heap.size F
def GivesR3 {α:Type} (c:Cod α) (w:World) (x:α) (r1 r2:Value) (e:Ending) (w':World):Prop :=
 ∃vs F,e=.returned (.tuple #[.agg vs,r1,r2])∧Below w.heap.size w w'∧c.rep w' vs.toList x F∧Fresh w.heap.size F
section
variable {α:Type} {c:Cod α} {hw:0<c.wd} {hw2:c.wd≤32} {w:World} {A:Option Addr} {n cp:Nat} {xs:List α} {F:List Nat}
theorem Zq (h:(cL c hw hw2).rep w [.slice A n cp] xs F):n=xs.length∧n≤cp∧cp≤maxLen:=by
 obtain⟨A',cp',hv,hl,hm,_⟩:=h
 simp only[List.cons.injEq,Value.slice.injEq,and_true] at hv
 obtain⟨rfl,rfl,rfl⟩:=hv
 exact⟨rfl,hl,hm⟩
theorem Zb {v:Value} (h:(cL c hw hw2).rep w [v] xs F):∃A cp,v=.slice A xs.length cp:=by
 obtain⟨A',cp',hv,_⟩:=h
 simp only[List.cons.injEq,and_true] at hv
 exact⟨A',cp',hv⟩
theorem ZN (h:(cL c hw hw2).rep w [.slice A n cp] xs F) {k:Nat} (hk:k<xs.length) :
  ∃g o vs F1,A=some ⟨g,o,none⟩∧g∈F∧c.rep w vs xs[k] F1∧(∀b,b∈F1→b∈F) ∧
   ∀j v,vs[j]?=some v→w.cell? ⟨g,o+k*c.wd+j,none⟩=some v∧w.frozen? ⟨g,o+k*c.wd+j,none⟩=false:=by
 obtain⟨A',cp',hv,hl,hm,hr⟩:=h
 simp only[List.cons.injEq,Value.slice.injEq,and_true] at hv
 obtain⟨rfl,rfl,rfl⟩:=hv
 rcases hr with ⟨rfl,_⟩|⟨_,g,o,Fs,us,rfl,rfl,hc,hr⟩
 ·simp at hk
 ·obtain⟨vs,F1,h1,h2,h3⟩:=Cod.reps_get hr k hk
  refine⟨g,o,vs,F1,rfl,by simp,h1,λb hb=>by simp[h2 b hb],λj v hj=>?_⟩
  have:=hc _ _ (h3 j v hj)
  rwa [← Nat.add_assoc] at this
end
def Blk (w:World) (g:Nat) (t:TypeId) (cs:Array Value):Prop:=w.heap[g]?=some (.cells cs t (0,0))
section
variable {w w':World} {g:Nat} {t:TypeId} {cs:Array Value}
theorem Blk.lt (h:Blk w g t cs):g<w.heap.size:=(Array.getElem?_eq_some_iff.1 h).1
theorem Blk.cell (h:Blk w g t cs) (i:Nat):w.cell? ⟨g,i,none⟩=cs[i]?:=cell_of_row w g i cs t (0,0) h
theorem Blk.frozen (h:Blk w g t cs) (i:Nat):w.frozen? ⟨g,i,none⟩=false:=by
 unfold Blk at h
 simp[World.frozen?,h]
theorem Blk.new (w:World) (t:TypeId) (cs:Array Value):Blk (w.alloc (.cells cs t)) w.heap.size t cs:=heap_alloc_new w _
theorem Blk.set_ (h:Blk w g t cs) (i:Nat) (u:Value):Blk (w.setCell ⟨g,i,none⟩ u) g t (cs.setIfInBounds i u):=by
 unfold Blk at h⊢
 simp[World.setCell,Array.getElem?_modify,h]
theorem Blk.bel (h:Blk w g t cs) (hb:Below w.heap.size w w'):Blk w' g t cs:=(hb.block g h.lt).trans h
end
def ZdU (w:World) (g:Nat):Nat→List Value→World
 | _,[]=>w
 | i,v::vs=>ZdU (w.setCell ⟨g,i,none⟩ v) g (i+1) vs
def ZgN (cs:Array Value):Nat→List Value→Array Value
 | _,[]=>cs
 | i,v::vs=>ZgN (cs.setIfInBounds i v) (i+1) vs
theorem Blk.put {g:Nat} {t:TypeId}:∀{w:World} {cs:Array Value} (i:Nat) (vs:List Value),Blk w g t cs→Blk (ZdU w g i vs) g t (ZgN cs i vs)
 | _,_,_,[],h=>h
 | _,_,i,v::vs,h=>Blk.put (i+1) vs (h.set_ i v)
theorem Zie:∀(cs:Array Value) (i:Nat) (vs:List Value),(ZgN cs i vs).size=cs.size
 | _,_,[]=>rfl
 | cs,i,v::vs=>by unfold ZgN;rw[Zie];simp
theorem Zif:∀(cs:Array Value) (i:Nat) (vs:List Value),i+vs.length≤cs.size→(ZgN cs i vs).toList.take (i+vs.length)=cs.toList.take i++vs
 | cs,i,[],_=>by simp[ZgN]
 | cs,i,v::vs,h=>by
  simp only[List.length_cons] at h
  unfold ZgN
  have h1:(cs.setIfInBounds i v).toList.take (i+1)=cs.toList.take i++[v]:=by
   have hl:i<(cs.setIfInBounds i v).toList.length:=by simp;omega
   rw[List.take_succ_eq_append_getElem hl]
   congr 1
   ·simp only[Array.toList_setIfInBounds,List.take_set]
    rw[List.set_eq_of_length_le (by simp;omega)]
   ·simp
  have:=Zif (cs.setIfInBounds i v) (i+1) vs (by simp;omega)
  rw[List.length_cons,show i+(vs.length+1)=i+1+vs.length by omega,this,h1,List.append_assoc];rfl
theorem ZfC {F:List Nat} {g:Nat} (hg:g∈F):∀{a w:World} (i:Nat) (vs:List Value),Only F a w→Only F a (ZdU w g i vs)
 | _,_,_,[],h=>h
 | _,_,i,v::vs,h=>ZfC hg (i+1) vs (h.set_ (p:=⟨g,i,none⟩) hg v)
section
variable {α:Type} {c:Cod α} {w wr w1:World} {E:TypeId} {n k:Nat} {xs:List α}
def Filled (c:Cod α) (w:World) (E:TypeId) (xs:List α) (k:Nat) (wr:World):Prop :=
 ∃cs Fs,Blk wr w.heap.size E cs∧cs.size=xs.length*c.wd∧c.reps wr (cs.toList.take (k*c.wd)) (xs.take k) Fs∧Fresh (w.heap.size+1) Fs∧Below w.heap.size w wr
theorem Filled.start (cs:Array Value) (hcs:cs.size=xs.length*c.wd):Filled c w E xs 0 (w.alloc (.cells cs E)) :=
 ⟨cs,[],Blk.new w E cs,hcs,by simp[Cod.reps],Fresh.nil _,ZM (Below.refl _ _) _⟩
theorem Filled.bel (h:Filled c w E xs k wr):Below w.heap.size w wr:=by
 obtain⟨_,_,_,_,_,_,h⟩:=h;exact h
theorem Filled.cell (h:Filled c w E xs k wr) (hk:k<xs.length) (hb:Below wr.heap.size wr w1):∀j,j<c.wd→(∃v,w1.cell? ⟨w.heap.size,k*c.wd+j,none⟩=some v)∧w1.frozen? ⟨w.heap.size,k*c.wd+j,none⟩=false:=by
 obtain⟨cs,Fs,hblk,hcs,_⟩:=h
 intro j hj
 have hlt:k*c.wd+j<cs.size:=by
  rw[hcs]
  have:(k+1)*c.wd≤xs.length*c.wd:=Nat.mul_le_mul_right _ hk
  rw[Nat.add_mul] at this;omega
 exact⟨⟨cs[k*c.wd+j],by rw[(hblk.bel hb).cell,Array.getElem?_eq_getElem hlt]⟩,(hblk.bel hb).frozen _⟩
theorem Filled.step (h:Filled c w E xs k wr) (hk:k<xs.length) (hb:Below wr.heap.size wr w1) {vs:List Value} {F1:List Nat} (hv:c.rep w1 vs xs[k] F1) (hf:Fresh wr.heap.size F1) :
  Filled c w E xs (k+1) (ZdU w1 w.heap.size (k*c.wd) vs):=by
 obtain⟨cs,Fs,hblk,hcs,hr,hfr,hB⟩:=h
 have hl:=c.len hv
 have hle:k*c.wd+c.wd≤cs.size:=by
  rw[hcs]
  have:(k+1)*c.wd≤xs.length*c.wd:=Nat.mul_le_mul_right _ hk
  rwa [Nat.add_mul,Nat.one_mul] at this
 have ho:Only [w.heap.size] w1 (ZdU w1 w.heap.size (k*c.wd) vs):=ZfC (by simp) _ _ (Only.refl _ _)
 have hlt:=hblk.lt
 refine⟨ZgN cs (k*c.wd) vs,Fs++F1,(hblk.bel hb).put _ _,by rw[Zie];exact hcs,?_,?_,?_⟩
 ·rw[Nat.add_mul,Nat.one_mul,← hl,Zif _ _ _ (by rw[hl];exact hle),List.take_succ_eq_append_getElem hk]
  have k1:=Cod.reps_keep (Cod.reps_bel hr hb) (w':=ZdU w1 w.heap.size (k*c.wd) vs) λb hm=>ho.block b (Nat.lt_of_lt_of_le (Cod.reps_lt hr b hm) hb.size) (by have:=hfr.1 b hm;simp;omega)
  have k2:=c.keep hv (w':=ZdU w1 w.heap.size (k*c.wd) vs) λb hm=>ho.block b (c.lt hv b hm) (by have:=hf.1 b hm;simp;omega)
  rw[hl]
  exact Cod.reps_app k1 (Cod.reps_one k2)
 ·exact hfr.app (λb hm=>Cod.reps_lt hr b hm) hf (by omega)
 ·exact hB.trans ((hb.mono hB.size).trans (ho.bel _ (Nat.le_trans hB.size hb.size) (λx hx=>by simp at hx;omega)))
theorem Filled.done {hw:0<c.wd} {hw2:c.wd≤32} (h:Filled c w E xs xs.length wr) (hm:xs.length≤maxLen) :
  ∃F,(cL c hw hw2).rep wr [.slice (some ⟨w.heap.size,0,none⟩) xs.length xs.length] xs F∧Fresh w.heap.size F:=by
 obtain⟨cs,Fs,hblk,hcs,hr,hfr,hB⟩:=h
 rw[List.take_length,List.take_of_length_le (by simp[hcs])] at hr
 by_cases h0:xs=[]
 ·subst h0
  exact⟨[],⟨_,_,rfl,Nat.le_refl _,hm,.inl ⟨rfl,rfl⟩⟩,Fresh.nil _⟩
 ·refine⟨w.heap.size::Fs,⟨_,_,rfl,Nat.le_refl _,hm,.inr ⟨h0,w.heap.size,0,Fs,cs.toList,rfl,rfl,λj u hu=>?_,hr⟩⟩,?_,?_⟩
  ·rw[Nat.zero_add]
   exact⟨by rw[hblk.cell];simpa using hu,hblk.frozen _⟩
  ·intro b hb
   rcases List.mem_cons.1 hb with rfl|hb
   ·exact Nat.le_refl _
   ·have:=hfr.1 b hb;omega
  ·exact List.nodup_cons.2 ⟨λhm=>by have:=hfr.1 _ hm;omega,hfr.2⟩
end
theorem ZbU {P:Program} (t e:TypeId) (i:TypeInfo) (z:Value) (ht:P.underlying t=some (.slice e)) (hi:P.info? e=some i) (hz:i.zero=some z)
  (kl kc:IntKind) (n c:Nat) (hnc:n≤c) (hbytes:i.bytes*c≤281474976710656) (h63:c≤9223372036854775807) (w:World) :
  (Instr.makeSlice t (.int kl (n:Int)) (.int kc (c:Int))).run P w=.ok (.slice (some ⟨w.heap.size,0,none⟩) n c) (w.alloc (.cells (madeCells z.cells (c*i.size)) e)):=by
 have hb:(i.bytes:Int)*(c:Int)≤281474976710656:=by
  have h:((i.bytes*c:Nat):Int)≤281474976710656:=by omega
  rwa [Int.natCast_mul] at h
 have hr:=run_make (P:=P) w t e i z ht hi hz kl kc n c (by omega) (by omega) hb (by omega)
 simp only[Int.toNat_natCast] at hr
 exact hr
structure TKey where
 kind:Int
 n:Int
 text:ByteArray
def cKey:Cod TKey:=cM (cP cI (cP cI cS)) (λx=>(x.kind,x.n,x.text)) (λa=>⟨a.1,a.2.1,a.2.2⟩) (λ_=>rfl)
structure TKey.Ok (x:TKey):Prop where
 h0:-9223372036854775808≤x.kind∧x.kind≤9223372036854775807
 h1:-9223372036854775808≤x.n∧x.n≤9223372036854775807
 h2:x.text.size≤maxLen
theorem TKey.out {w:World} {vs:List Value} {x:TKey} {F:List Nat} (h:cKey.rep w vs x F) :
  vs=[Value.int .i64 x.kind,.int .i64 x.n,.string x.text]∧F=[]∧x.Ok:=by
 obtain⟨a0,b0,G0,H0,rfl,rfl,⟨rfl,rfl,h0⟩,a1,b1,G1,H1,rfl,rfl,⟨rfl,rfl,h1⟩,rfl,rfl,h2⟩:=h
 exact⟨rfl,by simp,⟨h0,h1,h2⟩⟩
theorem TKey.mk_ {w:World} {x:TKey} (h:x.Ok):cKey.rep w [Value.int .i64 x.kind,.int .i64 x.n,.string x.text] x ([]):=by
 exact⟨[_],_,[],[],rfl,by simp,⟨rfl,rfl,h.h0⟩,⟨[_],_,[],[],rfl,by simp,⟨rfl,rfl,h.h1⟩,⟨rfl,rfl,h.h2⟩⟩⟩
theorem Zjr:Opens Tryz.prog 61 cKey:=Zcv (ZaZ Tryz.underlying61 (by kernel_rfl) (ZZ rfl (Zdj Tryz.underlying3 (by kernel_rfl)) (ZZ rfl (Zdj Tryz.underlying3 (by kernel_rfl)) (Zbv rfl (Zbn Tryz.underlying9 (by kernel_rfl))))))
def inR (n lo hi:Int):Bool:=decide (lo≤n)&&decide (n≤hi)
theorem ZbZ {n lo hi:Int} (h:inR n lo hi=true):lo≤n∧n≤hi:=by simpa [inR] using h
theorem Zjh {n lo hi:Int} (h1:lo≤n) (h2:n≤hi):inR n lo hi=true:=by simp[inR,h1,h2]
def ZhQ (c:UInt8):Bool:=decide (97≤(c.toNat:Int))&&decide ((c.toNat:Int)≤122)
def Zgf (s:ByteArray) (k:Nat):Bool:=(s.data.toList.take k).all ZhQ
theorem Zjo (s:ByteArray):Zgf s 0=true:=by simp[Zgf]
theorem Zgg (s:ByteArray) (k:Nat) (h:k<s.size):Zgf s (k+1)=(Zgf s k&&ZhQ s[k]):=by
 have e:s.data.toList.take (k+1)=s.data.toList.take k++[s[k]]:=by
  rw[List.take_succ_eq_append_getElem (by simpa using h)];rfl
 unfold Zgf
 rw[e,List.all_append];simp
theorem ZoX (s:ByteArray) {j k:Nat} (hjk:j≤k) (h:Zgf s j=false):Zgf s k=false:=by
 unfold Zgf at h⊢
 cases hk:(s.data.toList.take k).all ZhQ with
 | false=>rfl
 | true =>
  have:(s.data.toList.take j).all ZhQ=true:=by
   rw[List.all_eq_true] at hk⊢
   intro x hx
   refine hk x ?_
   have:s.data.toList.take j=(s.data.toList.take k).take j:=by rw[List.take_take,Nat.min_eq_left hjk]
   rw[this] at hx
   exact List.mem_of_mem_take hx
  rw[this] at h;cases h
def ZhR (s:ByteArray) (most:Int):Bool:=Zgf s s.size&&inR s.size 1 most
def Zaj (s:ByteArray):Bool:=ZhR s 8
theorem Zez {s:ByteArray} {most:Int} {k:Nat} (h:k<s.size) (hb:ZhQ s[k]=false):ZhR s most=false:=by
 have:Zgf s (k+1)=false:=by rw[Zgg s k h,hb];simp
 unfold ZhR
 rw[ZoX s (by omega) this];rfl
theorem Zji {s:ByteArray} {most:Int} (h:Zgf s s.size=true):ZhR s most=inR s.size 1 most:=by
 unfold ZhR;rw[h];rfl
theorem Zms {c:UInt8} (h:(c.toNat:Int)<97):ZhQ c=false:=by simp[ZhQ];omega
theorem Zmr {c:UInt8} (h:(122:Int)<c.toNat):ZhQ c=false:=by simp[ZhQ];omega
theorem Zmt {c:UInt8} (h1:(97:Int)≤c.toNat) (h2:(c.toNat:Int)≤122):ZhQ c=true:=by simp[ZhQ];omega
theorem Zbr {s:ByteArray} (h:Zaj s=true):1≤s.size∧s.size≤8:=by
 unfold Zaj ZhR at h
 rw[Bool.and_eq_true] at h
 have:=ZbZ h.2
 omega
def ZJ (n:Nat):List UInt8:=if h:n<128 then [UInt8.ofNat n] else UInt8.ofNat (n % 128+128)::ZJ (n / 128)
termination_by n
decreasing_by omega
theorem ZcD {n:Nat} (h:n<128):ZJ n=[UInt8.ofNat n]:=by rw[ZJ,dif_pos h]
theorem ZcL {n:Nat} (h:¬n<128):ZJ n=UInt8.ofNat (n % 128+128)::ZJ (n / 128):=by rw[ZJ,dif_neg h]
theorem Zcl {n:Nat} (h:n<256):(UInt8.ofNat n).toNat=n:=by simp[UInt8.toNat_ofNat'];omega
theorem ZfR:∀n:Nat,0<(ZJ n).length:=λn=>by
 by_cases h:n<128
 ·rw[ZcD h];simp
 ·rw[ZcL h];simp
theorem Zax:∀(k n:Nat),n<128 ^ (k+1)→(ZJ n).length≤k+1
 | 0,n,h=>by rw[ZcD (by simpa using h)];simp
 | k+1,n,h=>by
  by_cases hl:n<128
  ·rw[ZcD hl];simp
  ·rw[ZcL hl,List.length_cons]
   have:=Zax k (n / 128) (by rw[Nat.div_lt_iff_lt_mul (by omega)];rw[Nat.pow_succ] at h;exact h)
   omega
def ZdJ (b:List UInt8) (at_:Nat):(fuel k n:Nat)→Option (Nat×Nat)
 | 0,_,_=>none
 | f+1,k,n=>match b[at_+k]? with
  | none=>none
  | some x=>if x.toNat<128 then (if (0<k∧x.toNat=0)∨1000000000000<n+x.toNat % 128*128 ^ k then none else some (n+x.toNat % 128*128 ^ k,at_+k+1)) else ZdJ b at_ f (k+1) (n+x.toNat % 128*128 ^ k)
def Zbj (b:List UInt8) (at_:Nat):Option (Nat×Nat):=ZdJ b at_ 6 0 0
theorem Zij {b:List UInt8} {at_:Nat}:∀(f k n:Nat) {m nx:Nat},ZdJ b at_ f k n=some (m,nx)→∃q:Nat,m=n+q*128 ^ k∧(0<k→0<q)∧m≤1000000000000∧at_+k<nx∧nx≤b.length∧(b.drop (at_+k)).take (nx-(at_+k))=ZJ q
 | 0,k,n,m,nx,h=>by simp[ZdJ] at h
 | f+1,k,n,m,nx,h=>by
  unfold ZdJ at h
  cases hx:b[at_+k]? with
  | none=>rw[hx] at h;simp at h
  | some x =>
   rw[hx] at h
   simp only at h
   obtain⟨hlt,hxe⟩:=List.getElem?_eq_some_iff.1 hx
   have hdr:b.drop (at_+k)=x::b.drop (at_+k+1):=by rw[List.drop_eq_getElem_cons hlt,hxe]
   by_cases hl:x.toNat<128
   ·rw[if_pos hl] at h
    split at h
    ·simp at h
    ·rename_i hno
     simp only[Option.some.injEq,Prod.mk.injEq] at h
     obtain⟨rfl,rfl⟩:=h
     have hm:x.toNat % 128=x.toNat:=Nat.mod_eq_of_lt hl
     refine⟨x.toNat,by rw[hm],λhk=>by omega,by omega,by omega,by omega,?_⟩
     rw[hdr,show at_+k+1-(at_+k)=1 by omega,ZcD hl]
     simp
   ·rw[if_neg hl] at h
    obtain⟨q,hq,hp,hm,h1,h2,h3⟩:=Zij f (k+1) _ h
    have hq0:=hp (by omega)
    have hx8:x.toNat<256:=x.toNat_lt
    refine⟨x.toNat % 128+128*q,?_,λ_=>by omega,hm,by omega,h2,?_⟩
    ·rw[hq,Nat.pow_succ,Nat.add_mul,Nat.add_assoc,Nat.mul_comm (128 ^ k) 128,← Nat.mul_assoc,Nat.mul_comm q 128]
    ·rw[hdr,show nx-(at_+k)=(nx-(at_+(k+1)))+1 by omega,List.take_succ_cons,show at_+k+1=at_+(k+1) by omega,h3]
     rw[ZcL (n:=x.toNat % 128+128*q) (by omega),show (x.toNat % 128+128*q) % 128+128=x.toNat by omega,show (x.toNat % 128+128*q) / 128=q by omega]
     simp
theorem Zas {b:List UInt8} {at_ m nx:Nat} (h:Zbj b at_=some (m,nx)):m≤1000000000000∧at_<nx∧nx≤b.length∧(b.drop at_).take (nx-at_)=ZJ m:=by
 obtain⟨q,h1,-,h2,h3,h4,h5⟩:=Zij 6 0 0 h
 obtain rfl:m=q:=by omega
 exact⟨h2,h3,h4,h5⟩
theorem ZfN {b:List UInt8} {i j:Nat} (h:i≤j):b.take j=b.take i++(b.drop i).take (j-i):=by
 obtain⟨d,rfl⟩:∃d,j=i+d:=⟨j-i,by omega⟩
 rw[List.take_add,Nat.add_sub_cancel_left]
theorem Zik {suf:List UInt8}:∀(f k n q:Nat),q<128 ^ f→0<f→(0<k→0<q)→n+q*128 ^ k≤1000000000000→∀{b:List UInt8} {at_:Nat},b.drop (at_+k)=ZJ q++suf→ZdJ b at_ f k n=some (n+q*128 ^ k,at_+k+(ZJ q).length)
 | 0,k,n,q,_,h,_,_,_,_,_=>by omega
 | f+1,k,n,q,hq,_,hp,hm,b,at_,hb=>by
  unfold ZdJ
  by_cases hl:q<128
  ·rw[ZcD hl] at hb
   have hx:b[at_+k]?=some (UInt8.ofNat q):=by
    have:=congrArg (λl=>l[0]?) hb
    simpa [List.getElem?_drop] using this
   have h8:=Zcl (n:=q) (by omega)
   rw[hx]
   simp only
   rw[h8,if_pos hl,Nat.mod_eq_of_lt hl,if_neg (by omega),ZcD hl]
   rfl
  ·rw[ZcL hl] at hb
   have hx:b[at_+k]?=some (UInt8.ofNat (q % 128+128)):=by
    have:=congrArg (λl=>l[0]?) hb
    simpa [List.getElem?_drop] using this
   have h8:=Zcl (n:=q % 128+128) (by omega)
   have hb2:b.drop (at_+(k+1))=ZJ (q / 128)++suf:=by
    have:=congrArg (List.drop 1) hb
    rw[List.drop_drop] at this
    simpa [Nat.add_assoc] using this
   rw[hx]
   simp only
   rw[h8,if_neg (by omega),show (q % 128+128) % 128=q % 128 by omega]
   have hpow:n+q % 128*128 ^ k+q / 128*128 ^ (k+1)=n+q*128 ^ k:=by
    rw[Nat.pow_succ,Nat.add_assoc,← Nat.mul_assoc,Nat.mul_right_comm,← Nat.add_mul]
    congr 2
    omega
   have hf:0<f:=by
    rcases Nat.eq_zero_or_pos f with h0|h0
    ·subst h0;simp at hq;omega
    ·exact h0
   rw[Zik f (k+1) _ (q / 128) (by rw[Nat.div_lt_iff_lt_mul (by omega)];rw[Nat.pow_succ] at hq;exact hq) hf (λ_=>by omega) (by rw[hpow];exact hm) hb2,hpow,ZcL hl,List.length_cons]
   congr 2
   omega
theorem Zfj {b suf:List UInt8} {at_ n:Nat} (hn:n≤1000000000000) (h:b.drop at_=ZJ n++suf):Zbj b at_=some (n,at_+(ZJ n).length):=by
 have:=Zik (suf:=suf) 6 0 0 n (by omega) (by omega) (λh=>by omega) (by omega) (b:=b) (at_:=at_) h
 simpa [Zbj] using this
def ZB (s:List UInt8):List UInt8:=ZJ s.length++s
def Zbb (b:List UInt8) (at_ most:Nat):Option (List UInt8×Nat) :=
 match Zbj b at_ with
 | none=>none
 | some (n,nx)=>if most<n∨b.length-nx<n then none else some ((b.drop nx).take n,nx+n)
theorem Zbc {b s:List UInt8} {at_ most nx:Nat} (h:Zbb b at_ most=some (s,nx)):s.length≤most∧at_<nx∧nx≤b.length∧(b.drop at_).take (nx-at_)=ZB s:=by
 unfold Zbb at h
 cases hu:Zbj b at_ with
 | none=>rw[hu] at h;simp at h
 | some r =>
  obtain⟨n,mx⟩:=r
  rw[hu] at h
  simp only at h
  split at h
  ·simp at h
  ·rename_i hno
   simp only[Option.some.injEq,Prod.mk.injEq] at h
   obtain⟨rfl,rfl⟩:=h
   obtain⟨h1,h2,h3,h4⟩:=Zas hu
   have hl:((b.drop mx).take n).length=n:=by rw[List.length_take,List.length_drop];omega
   refine⟨by omega,by omega,by omega,?_⟩
   unfold ZB
   rw[hl,← h4,ZfN (b:=b.drop at_) (i:=mx-at_) (j:=mx+n-at_) (by omega),List.drop_drop,show at_+(mx-at_)=mx by omega,show mx+n-at_-(mx-at_)=n by omega]
theorem ZdV {b s suf:List UInt8} {at_ most:Nat} (hs:s.length≤most) (h10:s.length≤1000000000000) (h:b.drop at_=ZB s++suf):Zbb b at_ most=some (s,at_+(ZB s).length):=by
 unfold ZB at h⊢
 have h1:=Zfj (suf:=s++suf) h10 (by rw[h,List.append_assoc])
 unfold Zbb
 rw[h1]
 simp only
 have hd:b.drop (at_+(ZJ s.length).length)=s++suf:=by
  rw[← List.drop_drop,h,List.append_assoc,List.drop_left]
 have hl:=congrArg List.length hd
 rw[List.length_drop,List.length_append] at hl
 rw[if_neg (by omega),hd,List.take_left]
 simp only[List.length_append,Option.some.injEq,Prod.mk.injEq,true_and]
 omega
theorem ZeD {b s:List UInt8} {at_ most m2 nx:Nat} (h:Zbb b at_ most=some (s,nx)) (hm:s.length≤m2):Zbb b at_ m2=some (s,nx):=by
 unfold Zbb at h⊢
 cases hu:Zbj b at_ with
 | none=>rw[hu] at h;simp at h
 | some r =>
  obtain⟨n,mx⟩:=r
  rw[hu] at h
  simp only at h⊢
  split at h
  ·simp at h
  ·rename_i hno
   simp only[Option.some.injEq,Prod.mk.injEq] at h
   obtain⟨rfl,rfl⟩:=h
   have hl:((b.drop mx).take n).length=n:=by rw[List.length_take,List.length_drop];omega
   rw[if_neg (by omega)]
theorem ZpH (a b:UInt8):a<b∨a=b∨b<a:=by
 rcases Nat.lt_trichotomy a.toNat b.toNat with h|h|h
 ·exact .inl (UInt8.lt_iff_toNat_lt.2 h)
 ·exact .inr (.inl (UInt8.toNat_inj.1 h))
 ·exact .inr (.inr (UInt8.lt_iff_toNat_lt.2 h))
theorem ZoB (a:UInt8):¬a<a:=λh=>Nat.lt_irrefl _ (UInt8.lt_iff_toNat_lt.1 h)
theorem Zqn {a b:UInt8} (h:a<b):¬b<a:=λk=>Nat.lt_asymm (UInt8.lt_iff_toNat_lt.1 h) (UInt8.lt_iff_toNat_lt.1 k)
theorem Zqo {a b c:UInt8} (h:a<b) (k:b<c):a<c:=UInt8.lt_iff_toNat_lt.2 (Nat.lt_trans (UInt8.lt_iff_toNat_lt.1 h) (UInt8.lt_iff_toNat_lt.1 k))
theorem ZbV (a b:UInt8) (x y:List UInt8):Op.bytesLess (a::x) (b::y)=true↔a<b∨(a=b∧Op.bytesLess x y=true):=by simp[Op.bytesLess]
theorem ZcP:∀x:List UInt8,Op.bytesLess x x=false
 | []=>rfl
 | a::x=>by
  cases h:Op.bytesLess (a::x) (a::x) with
  | false=>rfl
  | true =>
   rcases (ZbV a a x x).1 h with h1|⟨-,h1⟩
   ·exact absurd h1 (ZoB a)
   ·rw[ZcP x] at h1;cases h1
theorem Zfz:∀x y:List UInt8,Op.bytesLess x y=true∨x=y∨Op.bytesLess y x=true
 | [],[]=>.inr (.inl rfl)
 | [],_::_=>.inl rfl
 | _::_,[]=>.inr (.inr rfl)
 | a::x,b::y=>by
  rcases ZpH a b with h|h|h
  ·exact .inl ((ZbV _ _ _ _).2 (.inl h))
  ·subst h
   rcases Zfz x y with h|h|h
   ·exact .inl ((ZbV _ _ _ _).2 (.inr ⟨rfl,h⟩))
   ·exact .inr (.inl (by rw[h]))
   ·exact .inr (.inr ((ZbV _ _ _ _).2 (.inr ⟨rfl,h⟩)))
  ·exact .inr (.inr ((ZbV _ _ _ _).2 (.inl h)))
theorem Zfy:∀x y z:List UInt8,Op.bytesLess x y=true→Op.bytesLess y z=true→Op.bytesLess x z=true
 | _,[],_,h,_=>by simp[Op.bytesLess] at h
 | _,_::_,[],_,h=>by simp[Op.bytesLess] at h
 | [],_::_,_::_,_,_=>rfl
 | a::x,b::y,c::z,h,k=>by
  rw[ZbV] at h k⊢
  rcases h with h|⟨rfl,h⟩
  ·rcases k with k|⟨rfl,k⟩
   ·exact .inl (Zqo h k)
   ·exact .inl h
  ·rcases k with k|⟨rfl,k⟩
   ·exact .inl k
   ·exact .inr ⟨rfl,Zfy x y z h k⟩
theorem ZeA {x y:List UInt8} (h:Op.bytesLess x y=true):Op.bytesLess y x=false:=by
 cases k:Op.bytesLess y x with
 | false=>rfl
 | true=>have:=Zfy x y x h k;rw[ZcP] at this;cases this
theorem Zmd:∀x y:List UInt8,Lib.compareBytes x y=if Op.bytesLess x y=true then -1 else if Op.bytesLess y x=true then 1 else 0
 | [],[]=>rfl
 | [],_::_=>rfl
 | _::_,[]=>rfl
 | a::x,b::y=>by
  unfold Lib.compareBytes
  rw[Zmd x y]
  rcases ZpH a b with h|h|h
  ·rw[if_pos h,if_pos ((ZbV _ _ _ _).2 (.inl h))]
  ·subst h
   rw[if_neg (ZoB a),if_neg (ZoB a)]
   have e:∀x y:List UInt8,Op.bytesLess (a::x) (a::y)=Op.bytesLess x y:=λx y=>by
    have:=ZbV a a x y
    cases h1:Op.bytesLess (a::x) (a::y)<;>cases h2:Op.bytesLess x y<;>simp_all
   rw[e,e]
  ·rw[if_neg (Zqn h),if_pos h,if_neg (by rw[ZeA ((ZbV _ _ _ _).2 (.inl h))];simp),if_pos ((ZbV _ _ _ _).2 (.inl h))]
def ZoG (c:UInt8):Bool:=(decide (97≤(c.toNat:Int))&&decide ((c.toNat:Int)≤122))||(decide (48≤(c.toNat:Int))&&decide ((c.toNat:Int)≤57))
def Znd (s:ByteArray) (k:Nat):Bool:=(s.data.toList.take k).all ZoG
def Zby (s:ByteArray):Bool:=Znd s s.size&&decide ((s.size:Int)≤12)
def ZeR (s:ByteArray):Bool:=s.toList==(⟨#[]⟩:ByteArray).toList
def ZG (k:TKey):Bool:=inR k.kind 1 3&&inR k.n (-1000000000000) 1000000000000&&Zby k.text&&(k.kind !=2||k.n==0)&&(k.kind !=1||ZeR k.text)
def ZdY (a b:Int):Int:=if a<b then -1 else if b<a then 1 else 0
def Zmc (a b:ByteArray):Int:=if Op.bytesLess a.toList b.toList=true then -1 else if Op.bytesLess b.toList a.toList=true then 1 else 0
def ZiK (a b:TKey):Int:=if ZdY a.kind b.kind≠0 then ZdY a.kind b.kind else if ZdY a.n b.n≠0 then ZdY a.n b.n else Zmc a.text b.text
def Zf (a b:TKey):Int:=bif ZG a&&ZG b then ZiK a b else 0
theorem cmpI_zero {a b:Int}:ZdY a b=0↔a=b:=by unfold ZdY;split<;>(try split)<;>omega
theorem Zkm (a b:Int):ZdY b a=- ZdY a b:=by unfold ZdY;split<;>(try split)<;>(try split)<;>omega
theorem ZfO {a b:ByteArray} (h:a.toList=b.toList):a=b:=by
 rw[ByteArray.toList_eq,ByteArray.toList_eq] at h
 exact WideShapes.bytes_inj h
theorem ZnI {a b:ByteArray}:Zmc a b=0↔a=b:=by
 unfold Zmc
 rcases Zfz a.toList b.toList with h|h|h
 ·rw[if_pos h]
  refine⟨λh=>by omega,λe=>?_⟩
  subst e;rw[ZcP] at h;cases h
 ·have:=ZfO h
  subst this
  simp[ZcP]
 ·rw[if_neg (by rw[ZeA h];simp),if_pos h]
  refine⟨λh=>by omega,λe=>?_⟩
  subst e;rw[ZcP] at h;cases h
theorem ZnH (a b:ByteArray):Zmc b a=- Zmc a b:=by
 unfold Zmc
 rcases Zfz a.toList b.toList with h|h|h
 ·rw[if_pos h,if_neg (by rw[ZeA h];simp),if_pos h];rfl
 ·rw[h];simp[ZcP]
 ·rw[if_pos h,if_neg (by rw[ZeA h];simp),if_pos h]
theorem ZoO {a b:ByteArray}:Zmc a b<0↔Op.bytesLess a.toList b.toList=true:=by
 unfold Zmc
 split
 ·rename_i h;simp[h]
 ·rename_i h
  split<;>simp[h]
theorem Zpt {a b:TKey} (h:ZdY a.kind b.kind≠0):ZiK a b=ZdY a.kind b.kind:=if_pos h
theorem Zpu {a b:TKey} (h:ZdY a.kind b.kind=0) (h2:ZdY a.n b.n≠0):ZiK a b=ZdY a.n b.n:=(if_neg (not_not_intro h)).trans (if_pos h2)
theorem Zpv {a b:TKey} (h:ZdY a.kind b.kind=0) (h2:ZdY a.n b.n=0):ZiK a b=Zmc a.text b.text:=(if_neg (not_not_intro h)).trans (if_neg (not_not_intro h2))
theorem cmpK_zero {a b:TKey}:ZiK a b=0↔a=b:=by
 by_cases h1:ZdY a.kind b.kind=0
 ·by_cases h2:ZdY a.n b.n=0
  ·rw[Zpv h1 h2,ZnI]
   obtain⟨k1,n1,t1⟩:=a
   obtain⟨k2,n2,t2⟩:=b
   have e1:=cmpI_zero.1 h1
   have e2:=cmpI_zero.1 h2
   simp only at e1 e2
   subst e1;subst e2
   simp
  ·rw[Zpu h1 h2]
   exact⟨λh=>absurd h h2,λh=>by rw[h];exact cmpI_zero.2 rfl⟩
 ·rw[Zpt h1]
  exact⟨λh=>absurd h h1,λh=>by rw[h];exact cmpI_zero.2 rfl⟩
theorem Zkn (a b:TKey):ZiK b a=- ZiK a b:=by
 unfold ZiK
 rw[Zkm a.kind b.kind,Zkm a.n b.n,ZnH a.text b.text]
 simp only[ne_eq,Int.neg_eq_zero]
 split<;>(try split)<;>rfl
theorem Zma {a b:Int}:ZdY a b<0↔a<b:=by unfold ZdY;split<;>(try split)<;>omega
theorem ZoN {a b:TKey}:ZiK a b<0↔a.kind<b.kind∨(a.kind=b.kind∧(a.n<b.n∨(a.n=b.n∧Op.bytesLess a.text.toList b.text.toList=true))):=by
 by_cases h1:ZdY a.kind b.kind=0
 ·have e1:=cmpI_zero.1 h1
  by_cases h2:ZdY a.n b.n=0
  ·have e2:=cmpI_zero.1 h2
   rw[Zpv h1 h2,ZoO]
   exact⟨λh=>.inr ⟨e1,.inr ⟨e2,h⟩⟩,λh=>by
    rcases h with h|⟨-,h|⟨-,h⟩⟩
    ·omega
    ·omega
    ·exact h⟩
  ·have e2:¬a.n=b.n:=λe=>h2 (cmpI_zero.2 e)
   rw[Zpu h1 h2,Zma]
   exact⟨λh=>.inr ⟨e1,.inl h⟩,λh=>by
    rcases h with h|⟨-,h|⟨h,-⟩⟩
    ·omega
    ·exact h
    ·exact absurd h e2⟩
 ·have e1:¬a.kind=b.kind:=λe=>h1 (cmpI_zero.2 e)
  rw[Zpt h1,Zma]
  exact⟨λh=>.inl h,λh=>by
   rcases h with h|⟨h,-⟩
   ·exact h
   ·exact absurd h e1⟩
theorem Zmb {a b c:TKey} (h:ZiK a b<0) (k:ZiK b c<0):ZiK a c<0:=by
 rw[ZoN] at h k⊢
 rcases h with h|⟨h1,h⟩
 ·rcases k with k|⟨k1,k⟩
  ·exact .inl (by omega)
  ·exact .inl (by omega)
 ·rcases k with k|⟨k1,k⟩
  ·exact .inl (by omega)
  ·refine .inr ⟨by omega,?_⟩
   rcases h with h|⟨h2,h⟩
   ·rcases k with k|⟨k2,k⟩
    ·exact .inl (by omega)
    ·exact .inl (by omega)
   ·rcases k with k|⟨k2,k⟩
    ·exact .inl (by omega)
    ·exact .inr ⟨by omega,Zfy _ _ _ h k⟩
theorem Zcg {a b:TKey} (ha:ZG a=true) (hb:ZG b=true):Zf a b=ZiK a b:=by unfold Zf;rw[ha,hb];rfl
def be6 (m:Nat):List UInt8:=[UInt8.ofNat (m / 1099511627776 % 256),UInt8.ofNat (m / 4294967296 % 256),UInt8.ofNat (m / 16777216 % 256),UInt8.ofNat (m / 65536 % 256),UInt8.ofNat (m / 256 % 256),UInt8.ofNat (m % 256)]
def Zhi (b:List UInt8):Nat:=b.foldl (λn x=>n*256+x.toNat) 0
theorem ZoM {b:List UInt8} (h:b.length=6):be6 (Zhi b)=b∧Zhi b<281474976710656:=by
 match b,h with
 | [a,b,c,d,e,f],_ =>
  have ha:=a.toNat_lt;have hb:=b.toNat_lt;have hc:=c.toNat_lt;have hd:=d.toNat_lt;have he:=e.toNat_lt;have hf:=f.toNat_lt
  have hn:Zhi [a,b,c,d,e,f]=((((a.toNat*256+b.toNat)*256+c.toNat)*256+d.toNat)*256+e.toNat)*256+f.toNat:=by simp[Zhi]
  rw[hn]
  refine⟨?_,by omega⟩
  have g:∀(x:UInt8) (k:Nat),k=x.toNat→UInt8.ofNat k=x:=λx k h=>by rw[h];simp
  unfold be6
  rw[g a _ (by omega),g b _ (by omega),g c _ (by omega),g d _ (by omega),g e _ (by omega),g f _ (by omega)]
def Zp (s:ByteArray):List UInt8:=s.data.toList
def Zg (b:List UInt8):ByteArray:=⟨b.toArray⟩
theorem Zdy (b:List UInt8):Zp (Zg b)=b:=rfl
theorem Zbp (s:ByteArray):(Zp s).length=s.size:=rfl
def Zdt (k:TKey):List UInt8:=UInt8.ofNat k.kind.toNat::((bif k.kind==2 then [] else be6 (k.n+1000000000000).toNat)++Zp k.text)
def ZE (k:TKey):List UInt8:=bif ZG k then Zdt k else []
def noKey:TKey:=⟨0,0,⟨#[]⟩⟩
def ZcF:List UInt8→Option TKey
 | []=>none
 | c::rest=>bif (c.toNat:Int)==2 then some ⟨c.toNat,0,Zg rest⟩ else if rest.length<6 then none else some ⟨c.toNat,(Zhi (rest.take 6):Int)-1000000000000,Zg (rest.drop 6)⟩
def Zv (b:List UInt8):TKey×Bool:=match ZcF b with
 | none=>(noKey,false)
 | some k=>bif ZG k then (k,true) else (noKey,false)
theorem Zon {b:List UInt8} {k:TKey} (h:ZcF b=some k):Zdt k=b:=by
 cases b with
 | nil=>simp[ZcF] at h
 | cons c rest =>
  have hc:UInt8.ofNat ((c.toNat:Int).toNat)=c:=by simp
  simp only[ZcF] at h
  cases h2:(c.toNat:Int)==2 with
  | true =>
   rw[h2] at h
   simp only[cond_true,Option.some.injEq] at h
   subst h
   unfold Zdt
   simp only[h2,cond_true,List.nil_append]
   rw[hc,Zdy]
  | false =>
   rw[h2] at h
   simp only[cond_false] at h
   split at h
   ·simp at h
   ·rename_i hl
    simp only[Option.some.injEq] at h
    subst h
    unfold Zdt
    simp only[h2,cond_false]
    have h6:(rest.take 6).length=6:=by rw[List.length_take];omega
    have hb:=(ZoM h6).1
    rw[hc,Zdy,show ((Zhi (rest.take 6):Int)-1000000000000+1000000000000).toNat=Zhi (rest.take 6) by omega,hb,List.take_append_drop]
theorem Zep {k:TKey} (h:ZG k=true):(1≤k.kind∧k.kind≤3)∧(-1000000000000≤k.n∧k.n≤1000000000000)∧(k.kind=2→k.n=0)∧k.text.size≤12:=by
 unfold ZG at h
 simp only[Bool.and_eq_true,Bool.or_eq_true,bne_iff_ne,ne_eq,beq_iff_eq] at h
 refine⟨ZbZ h.1.1.1.1,ZbZ h.1.1.1.2,λe=>?_,?_⟩
 ·rcases h.1.2 with h9|h9
  ·exact absurd e h9
  ·exact h9
 ·have h9:=h.1.1.2
  unfold Zby at h9
  simp only[Bool.and_eq_true,decide_eq_true_eq] at h9
  omega
theorem Zfs {b:List UInt8} {k:TKey} (h:ZcF b=some k):(ZE k==b)=ZG k:=by
 unfold ZE
 cases hk:ZG k with
 | true =>
  show (Zdt k==b)=true
  rw[Zon h];simp
 | false =>
  show (([]:List UInt8)==b)=false
  cases b with
  | nil=>simp[ZcF] at h
  | cons c rest=>rfl
theorem ZcX (k:TKey):(ZE k).length≤19:=by
 unfold ZE
 cases h:ZG k with
 | false=>simp
 | true =>
  obtain⟨-,-,-,h4⟩:=Zep h
  simp only[cond_true,Zdt,List.length_cons,List.length_append,Zbp]
  cases k.kind==2
  ·simp only[cond_false];have:(be6 (k.n+1000000000000).toNat).length=6:=rfl;omega
  ·simp only[cond_true,List.length_nil];omega
structure TField where
 name:ByteArray
 n:Int
def cField:Cod TField:=cM (cP cS cI) (λx=>(x.name,x.n)) (λa=>⟨a.1,a.2⟩) (λ_=>rfl)
structure TField.Ok (x:TField):Prop where
 h0:x.name.size≤maxLen
 h1:-9223372036854775808≤x.n∧x.n≤9223372036854775807
theorem TField.out {w:World} {vs:List Value} {x:TField} {F:List Nat} (h:cField.rep w vs x F) :
  vs=[Value.string x.name,.int .i64 x.n]∧F=[]∧x.Ok:=by
 obtain⟨a0,b0,G0,H0,rfl,rfl,⟨rfl,rfl,h0⟩,rfl,rfl,h1⟩:=h
 exact⟨rfl,by simp,⟨h0,h1⟩⟩
theorem TField.mk_ {w:World} {x:TField} (h:x.Ok):cField.rep w [Value.string x.name,.int .i64 x.n] x ([]):=by
 exact⟨[_],_,[],[],rfl,by simp,⟨rfl,rfl,h.h0⟩,⟨rfl,rfl,h.h1⟩⟩
theorem ZkO:Opens Tryz.prog 167 cField:=Zcv (ZaZ Tryz.underlying167 (by kernel_rfl) (ZZ rfl (Zbn Tryz.underlying9 (by kernel_rfl)) (Zbv rfl (Zdj Tryz.underlying3 (by kernel_rfl)))))
def cFieldS:Cod (List TField):=cL cField (by decide) (by decide)
theorem ZjX:Opens Tryz.prog 62 cFieldS:=ZcK Tryz.underlying62 ZkO (by kernel_rfl)
structure TRec where
 fields:List TField
def cRec:Cod TRec:=cM cFieldS (λx=>x.fields) (λa=>⟨a⟩) (λ_=>rfl)
def TRec.Ok (_x:TRec):Prop:=True
theorem TRec.out {w:World} {vs:List Value} {x:TRec} {F:List Nat} (h:cRec.rep w vs x F) :
  ∃v0 F0,vs=[v0]∧F=F0∧x.Ok∧cFieldS.rep w [v0] x.fields F0:=by
 obtain⟨A,cp,rfl,h0⟩:=h
 exact⟨_,F,rfl,rfl,trivial,A,cp,rfl,h0⟩
theorem TRec.mk_ {w:World} {x:TRec} {v0:Value} {F0:List Nat} (h:x.Ok) (k0:cFieldS.rep w [v0] x.fields F0):cRec.rep w [v0] x (F0):=by
 clear h
 exact k0
theorem Zjs:Opens Tryz.prog 64 cRec:=Zcv (ZaZ Tryz.underlying64 (by kernel_rfl) (Zbv rfl ZjX))
theorem TRec.outA {w:World} {vs:Array Value} {x:TRec} {F:List Nat} (h:cRec.rep w vs.toList x F) :
  ∃v0 F0,vs=#[v0]∧F=F0∧x.Ok∧cFieldS.rep w [v0] x.fields F0:=by
 obtain⟨a0,a1,e,f,r⟩:=TRec.out h
 exact⟨a0,a1,Array.toList_inj.1 e,f,r⟩
def Zbo (p:Nat→Bool) (k:Nat):Bool:=(List.range k).all p
theorem ZbE (p:Nat→Bool):Zbo p 0=true:=rfl
theorem Zay (p:Nat→Bool) (k:Nat):Zbo p (k+1)=(Zbo p k&&p k):=by simp[Zbo,List.range_succ]
theorem Zek {p:Nat→Bool} {k n:Nat} (h:k<n) (hp:p k=false):Zbo p n=false:=by
 cases hn:Zbo p n with
 | false=>rfl
 | true =>
  unfold Zbo at hn
  rw[List.all_eq_true] at hn
  have:=hn k (by simpa using h)
  rw[hp] at this;cases this
theorem ZdB {p:Nat→Bool} {k n:Nat} (h:Zbo p n=true) (hk:k<n):p k=true:=by
 unfold Zbo at h
 rw[List.all_eq_true] at h
 exact h k (by simpa using hk)
theorem Zhw {p:Nat→Bool} {n:Nat} (h:∀k,k<n→p k=true):Zbo p n=true:=by
 unfold Zbo
 rw[List.all_eq_true]
 intro x hx;exact h x (by simpa using hx)
def ZlR (a b:ByteArray):Bool:=Op.bytesLess a.toList b.toList
theorem ZeM:∀x y:List UInt8,(Op.bytesLess x y||x==y)=!Op.bytesLess y x
 | [],[]=>by simp[Op.bytesLess]
 | [],y::ys=>by simp[Op.bytesLess]
 | x::xs,[]=>by simp[Op.bytesLess]
 | x::xs,y::ys=>by
  have ih:=ZeM xs ys
  simp only[Op.bytesLess]
  rcases Nat.lt_trichotomy x.toNat y.toNat with h|h|h
  ·have h1:x<y:=UInt8.lt_iff_toNat_lt.2 h
   have h2:¬y<x:=λe=>by have:=UInt8.lt_iff_toNat_lt.1 e;omega
   have h3:(y==x)=false:=by simp;intro e;subst e;omega
   simp[h1,h2,h3]
  ·obtain rfl:x=y:=UInt8.toNat_inj.1 h
   have h1:¬x<x:=λe=>by have:=UInt8.lt_iff_toNat_lt.1 e;omega
   simp[h1,ih]
  ·have h1:y<x:=UInt8.lt_iff_toNat_lt.2 h
   have h2:¬x<y:=λe=>by have:=UInt8.lt_iff_toNat_lt.1 e;omega
   have h3:(x==y)=false:=by simp;intro e;subst e;omega
   simp[h1,h2,h3]
theorem ZgX (a b:ByteArray):(Op.bytesLess a.toList b.toList||a.toList==b.toList)=!ZlR b a:=ZeM _ _
def Zaz (a b:ByteArray):Bool:=a.toList==b.toList
theorem ZjB (a b:ByteArray):Zaz a b=Zaz b a:=by
 unfold Zaz;exact BEq.comm
section
variable {α:Type} (p:α→Bool)
def ZaQ (xs:List α) (k:Nat):Bool:=(xs.take k).all λy=>!p y
theorem Zbu (xs:List α):ZaQ p xs 0=true:=by simp[ZaQ]
theorem Zbt (xs:List α) (k:Nat) (h:k<xs.length) (h1:ZaQ p xs k=true) (h2:p xs[k]=false):ZaQ p xs (k+1)=true:=by
 unfold ZaQ at h1⊢
 rw[List.take_succ_eq_append_getElem h,List.all_append,h1];simp[h2]
def Zcm:List α→Int
 | []=>-1
 | x::xs=>bif p x then 0 else if Zcm xs<0 then -1 else Zcm xs+1
theorem ZhJ (xs:List α):-1≤Zcm p xs:=by
 induction xs with
 | nil=>simp[Zcm]
 | cons x xs ih =>
  simp only[Zcm]
  cases p x
  ·simp only[cond_false];split<;>omega
  ·simp
theorem ZcY:∀(xs:List α) (k:Nat) (h:k<xs.length),ZaQ p xs k=true→p xs[k]=true→Zcm p xs=k
 | x::xs,0,_,_,h2=>by
  simp only[List.getElem_cons_zero] at h2
  simp[Zcm,h2]
 | x::xs,k+1,h,h1,h2=>by
  simp only[ZaQ,List.take_succ_cons,List.all_cons,Bool.and_eq_true,Bool.not_eq_true'] at h1
  have:=ZcY xs k (by simpa using h) h1.2 (by simpa using h2)
  simp only[Zcm,h1.1,cond_false,this]
  rw[if_neg (by omega)];omega
theorem Zcp:∀(xs:List α),ZaQ p xs xs.length=true→Zcm p xs=-1
 | [],_=>rfl
 | x::xs,h=>by
  simp only[ZaQ,List.length_cons,List.take_succ_cons,List.all_cons,Bool.and_eq_true,Bool.not_eq_true'] at h
  have:=Zcp xs h.2
  simp[Zcm,h.1,this]
end
def ZcJ (a b:ByteArray):Bool:=Op.bytesLess a.toList b.toList
def Zbq (fs:List TField) (k:Nat):Bool :=
 match fs[k]? with
 | some f=>Zaj f.name&&inR f.n 0 1000000000&&(k==0||match fs[k-1]? with|some g=>ZcJ g.name f.name|none=>false)
 | none=>false
def Ze (r:TRec):Bool:=Zbo (Zbq r.fields) r.fields.length&&decide ((r.fields.length:Int)≤6)
theorem Zda {fs:List TField} {k:Nat} (h:k<fs.length):Zbq fs k=(Zaj fs[k].name&&inR fs[k].n 0 1000000000&&(k==0||match fs[k-1]? with|some g=>ZcJ g.name fs[k].name|none=>false)):=by
 unfold Zbq;rw[List.getElem?_eq_getElem h]
theorem Zdo {fs:List TField} {k:Nat} (h:k+1<fs.length) (h1:k<fs.length):Zbq fs (k+1)=(Zaj fs[k+1].name&&inR fs[k+1].n 0 1000000000&&ZcJ fs[k].name fs[k+1].name):=by
 rw[Zda h];simp[List.getElem?_eq_getElem h1]
theorem Zbm (r:TRec):Ze r=true↔(∀f,f∈r.fields→Zaj f.name=true∧inR f.n 0 1000000000=true)∧r.fields.Pairwise (λa b=>ZcJ a.name b.name=true)∧r.fields.length≤6:=by
 unfold Ze
 rw[Bool.and_eq_true,decide_eq_true_eq]
 constructor
 ·intro ⟨h,hl⟩
  have hs:∀(j i:Nat) (hj:j<r.fields.length) (hi:i<j),ZcJ r.fields[i].name r.fields[j].name=true:=by
   intro j
   induction j with
   | zero=>intro i hj hi;omega
   | succ j ih =>
    intro i hj hi
    have h1:=ZdB h hj
    rw[Zdo hj (by omega)] at h1
    simp only[Bool.and_eq_true] at h1
    rcases Nat.lt_or_eq_of_le (Nat.le_of_lt_succ hi) with h2|h2
    ·exact Zfy _ _ _ (ih i (by omega) h2) h1.2
    ·subst h2;exact h1.2
  refine⟨λf hf=>?_,List.pairwise_iff_getElem.2 λi j hi hj hij=>hs j i hj hij,by omega⟩
  obtain⟨k,hk,rfl⟩:=List.getElem_of_mem hf
  have h1:=ZdB h hk
  rw[Zda hk] at h1
  simp only[Bool.and_eq_true] at h1
  exact h1.1
 ·intro ⟨h1,h2,h3⟩
  refine⟨Zhw λk hk=>?_,by omega⟩
  have h4:=h1 _ (List.getElem_mem hk)
  cases k with
  | zero=>rw[Zda hk,h4.1,h4.2];rfl
  | succ k =>
   have h5:=List.pairwise_iff_getElem.1 h2 k (k+1) (by omega) hk (by omega)
   rw[Zdo hk (by omega),h4.1,h4.2,h5];rfl
def Zav (fs:List TField) (name:ByteArray):Int:=Zcm (λf=>Zaz f.name name) fs
def Zk (r:TRec) (name:ByteArray):Int×Bool:=match r.fields.find? (λf=>Zaz f.name name) with|some f=>(f.n,true)|none=>(0,false)
def Zaw (name:ByteArray):List TField→Nat
 | []=>0
 | f::fs=>bif ZcJ f.name name then Zaw name fs+1 else 0
theorem Zhz (name:ByteArray):∀fs:List TField,Zaw name fs≤fs.length
 | []=>Nat.le_refl _
 | f::fs=>by
  unfold Zaw
  cases ZcJ f.name name with
  | true=>have:=Zhz name fs;simp only[cond_true,List.length_cons];omega
  | false=>simp
def Zfk (fs:List TField) (name:ByteArray) (n:Int):List TField :=
 match fs[Zaw name fs]? with
 | some f=>bif Zaz f.name name then fs.set (Zaw name fs) ⟨f.name,n⟩ else fs.take (Zaw name fs)++⟨name,n⟩::fs.drop (Zaw name fs)
 | none=>fs.take (Zaw name fs)++⟨name,n⟩::fs.drop (Zaw name fs)
def ZeT (fs:List TField) (name:ByteArray) (n:Int):List TField :=
 if Zav fs name<0 then fs.take (Zaw name fs)++⟨name,n⟩::fs.drop (Zaw name fs) else match fs[(Zav fs name).toNat]? with
 | some f=>fs.set (Zav fs name).toNat ⟨f.name,n⟩
 | none=>fs
def Zan (r:TRec) (name:ByteArray) (n:Int):TRec×Bool:=bif Ze r&&Ze ⟨Zfk r.fields name n⟩ then (⟨Zfk r.fields name n⟩,true) else (r,false)
def ZaJ (r:TRec) (name:ByteArray) (n:Int):TRec×Bool:=bif Ze r&&Ze ⟨ZeT r.fields name n⟩ then (⟨ZeT r.fields name n⟩,true) else (r,false)
theorem strEq_iff {a b:ByteArray}:Zaz a b=true↔a=b:=by
 unfold Zaz
 constructor
 ·intro h
  exact ZfO (by simpa using h)
 ·intro h;subst h;simp
theorem Zjx (name:ByteArray) (n:Int):∀fs:List TField,fs.Pairwise (λa b=>ZcJ a.name b.name=true)→ZeT fs name n=Zfk fs name n
 | [],_=>rfl
 | f::fs,hp=>by
  have ih:=Zjx name n fs (List.pairwise_cons.1 hp).2
  have hlow:=(List.pairwise_cons.1 hp).1
  cases he:Zaz f.name name with
  | true =>
   have e:=strEq_iff.1 he
   have h1:Zav (f::fs) name=0:=by unfold Zav;simp[Zcm,he]
   have h2:Zaw name (f::fs)=0:=by rw[Zaw,e,show ZcJ name name=false from ZcP _];rfl
   unfold ZeT Zfk
   rw[h1,h2,if_neg (by omega)]
   simp[he]
  | false =>
   have hne:f.name≠name:=λe=>by rw[e,strEq_iff.2 rfl] at he;cases he
   have h1:Zav (f::fs) name=if Zav fs name<0 then -1 else Zav fs name+1:=by unfold Zav;simp[Zcm,he]
   have hge:-1≤Zav fs name:=ZhJ _ _
   cases hl:ZcJ f.name name with
   | true =>
    have h2:Zaw name (f::fs)=Zaw name fs+1:=by rw[Zaw,hl];rfl
    unfold ZeT Zfk at ih⊢
    rw[h1,h2]
    simp only[List.getElem?_cons_succ,List.take_succ_cons,List.drop_succ_cons,List.set_cons_succ,List.cons_append]
    by_cases hn:Zav fs name<0
    ·rw[if_pos hn] at ih⊢
     rw[if_pos (by omega)]
     cases hx:fs[Zaw name fs]? with
     | none=>simp only
     | some g =>
      rw[hx] at ih
      simp only at ih⊢
      cases hg:Zaz g.name name with
      | true =>
       rw[hg] at ih
       simp only[cond_true] at ih⊢
       rw[ih]
      | false=>simp only[cond_false]
    ·rw[if_neg hn] at ih⊢
     rw[if_neg (by omega),show (Zav fs name+1).toNat=(Zav fs name).toNat+1 by omega,List.getElem?_cons_succ]
     have ih2:f::(match fs[(Zav fs name).toNat]? with|some f=>fs.set (Zav fs name).toNat ⟨f.name,n⟩|none=>fs)=f::(match fs[Zaw name fs]? with|some f=>bif Zaz f.name name then fs.set (Zaw name fs) ⟨f.name,n⟩ else fs.take (Zaw name fs)++⟨name,n⟩::fs.drop (Zaw name fs)|none=>fs.take (Zaw name fs)++⟨name,n⟩::fs.drop (Zaw name fs)):=by rw[ih]
     cases hx:fs[(Zav fs name).toNat]?<;>cases hy:fs[Zaw name fs]?<;>rw[hx,hy] at ih2<;>simp only at ih2⊢
     ·exact ih2
     ·rename_i g;cases hg:Zaz g.name name<;>rw[hg] at ih2<;>simpa using ih2
     ·simpa using ih2
     ·rename_i g1 g;cases hg:Zaz g.name name<;>rw[hg] at ih2<;>simpa using ih2
   | false =>
    have h2:Zaw name (f::fs)=0:=by rw[Zaw,hl];rfl
    have hgt:ZcJ name f.name=true:=by
     rcases Zfz f.name.toList name.toList with h|h|h
     ·rw[show ZcJ f.name name=true from h] at hl;cases hl
     ·exact absurd (ZfO h) hne
     ·exact h
    have hno:Zav fs name=-1:=by
     unfold Zav
     have:∀x,x∈fs→Zaz x.name name=false:=λx hx=>by
      cases hs:Zaz x.name name with
      | false=>rfl
      | true =>
       have e:=strEq_iff.1 hs
       have h3:=hlow x hx
       rw[e] at h3
       have h4:=Zfy _ _ _ h3 hgt
       rw[ZcP] at h4;cases h4
     clear ih hp hlow h1 hge h2
     induction fs with
     | nil=>rfl
     | cons y ys ih2 =>
      have e:Zcm (λf:TField=>Zaz f.name name) (y::ys)=if Zcm (λf:TField=>Zaz f.name name) ys<0 then -1 else Zcm (λf:TField=>Zaz f.name name) ys+1:=by simp[Zcm,this y (by simp)]
      rw[e,ih2 λx hx=>this x (by simp[hx])];rfl
    unfold ZeT Zfk
    rw[h1,h2,hno]
    simp[he]
theorem Zkd (r:TRec) (name:ByteArray) (n:Int):ZaJ r name n=Zan r name n:=by
 unfold ZaJ Zan
 cases h:Ze r with
 | false=>rfl
 | true=>rw[Zjx name n r.fields ((Zbm r).1 h).2.1]
def ZcH (f:TField):List UInt8:=ZB (Zp f.name)++ZJ f.n.toNat
def ZfG (fs:List TField):List UInt8:=ZJ fs.length++(fs.map ZcH).flatten
def Zx (r:TRec):List UInt8:=bif Ze r then ZfG r.fields else []
def Zbi (b:List UInt8):(n at_:Nat)→Option (List TField×Nat)
 | 0,at_=>some ([],at_)
 | n+1,at_=>match Zbb b at_ 8 with
  | none=>none
  | some (s,nx)=>match Zbj b nx with
   | none=>none
   | some (v,mx)=>match Zbi b n mx with
    | none=>none
    | some (fs,e)=>some (⟨Zg s,v⟩::fs,e)
def Zcw (b:List UInt8):Option (List TField×Nat):=match Zbj b 0 with
 | none=>none
 | some (n,nx)=>if 6<n then none else Zbi b n nx
def Zgi:TRec:=⟨[]⟩
def ZC (b:List UInt8):TRec×Bool:=match Zcw b with
 | none=>(Zgi,false)
 | some (fs,e)=>bif Ze ⟨fs⟩&&e==b.length then (⟨fs⟩,true) else (Zgi,false)
theorem ZgP {b:List UInt8}:∀(n at_:Nat) {fs:List TField} {e:Nat},at_≤b.length→Zbi b n at_=some (fs,e)→fs.length=n∧at_≤e∧e≤b.length∧(b.drop at_).take (e-at_)=(fs.map ZcH).flatten
 | 0,at_,fs,e,hl,h=>by
  simp only[Zbi,Option.some.injEq,Prod.mk.injEq] at h
  obtain⟨rfl,rfl⟩:=h
  exact⟨rfl,Nat.le_refl _,hl,by simp⟩
 | n+1,at_,fs,e,hl,h=>by
  simp only[Zbi] at h
  cases h1:Zbb b at_ 8 with
  | none=>rw[h1] at h;simp at h
  | some r1 =>
   obtain⟨s,nx⟩:=r1
   rw[h1] at h
   simp only at h
   cases h2:Zbj b nx with
   | none=>rw[h2] at h;simp at h
   | some r2 =>
    obtain⟨v,mx⟩:=r2
    rw[h2] at h
    simp only at h
    cases h3:Zbi b n mx with
    | none=>rw[h3] at h;simp at h
    | some r3 =>
     obtain⟨gs,e3⟩:=r3
     rw[h3] at h
     simp only[Option.some.injEq,Prod.mk.injEq] at h
     obtain⟨rfl,rfl⟩:=h
     obtain⟨-,a1,a2,a3⟩:=Zbc h1
     obtain⟨b0,b1,b2,b3⟩:=Zas h2
     obtain⟨c0,c1,c2,c3⟩:=ZgP n mx b2 h3
     refine⟨by simp[c0],by omega,c2,?_⟩
     rw[ZfN (b:=b.drop at_) (i:=nx-at_) (j:=e3-at_) (by omega),a3,List.drop_drop,show at_+(nx-at_)=nx by omega,show e3-at_-(nx-at_)=e3-nx by omega]
     rw[ZfN (b:=b.drop nx) (i:=mx-nx) (j:=e3-nx) (by omega),b3,List.drop_drop,show nx+(mx-nx)=mx by omega,show e3-nx-(mx-nx)=e3-mx by omega,c3]
     simp[ZcH,Zdy,List.append_assoc]
theorem ZkT {b:List UInt8} {fs:List TField} {e:Nat} (h:Zcw b=some (fs,e)):e≤b.length∧b.take e=ZfG fs:=by
 unfold Zcw at h
 cases h1:Zbj b 0 with
 | none=>rw[h1] at h;simp at h
 | some r1 =>
  obtain⟨n,nx⟩:=r1
  rw[h1] at h
  simp only at h
  split at h
  ·simp at h
  ·obtain⟨a0,a1,a2,a3⟩:=Zas h1
   obtain⟨c0,c1,c2,c3⟩:=ZgP n nx a2 h
   refine⟨c2,?_⟩
   unfold ZfG
   rw[c0,← c3,← a3,List.drop_zero,Nat.sub_zero,← ZfN (by omega)]
theorem Zop {b:List UInt8} {fs:List TField} {e:Nat} (h:Zcw b=some (fs,e)):(Zx ⟨fs⟩==b)=(Ze ⟨fs⟩&&e==b.length):=by
 obtain⟨h1,h2⟩:=ZkT h
 unfold Zx
 cases hr:Ze ⟨fs⟩ with
 | false =>
  show (([]:List UInt8)==b)=false
  cases b with
  | nil=>simp[Zcw,Zbj,ZdJ] at h
  | cons c rest=>rfl
 | true =>
  show (ZfG fs==b)=(e==b.length)
  rw[← h2]
  cases he:e==b.length with
  | true =>
   rw[show b.take e=b from List.take_of_length_le (by have:=beq_iff_eq.1 he;omega)];simp
  | false =>
   have hne:e≠b.length:=by simpa using he
   have:¬b.take e=b:=λh9=>by
    have:=congrArg List.length h9
    rw[List.length_take] at this
    omega
   simpa using this
structure TItem where
 key:TKey
 rcd:TRec
def cItem:Cod TItem:=cM (cP cI (cP cI (cP cS cFieldS))) (λx=>(x.key.kind,x.key.n,x.key.text,x.rcd.fields)) (λa=>⟨⟨a.1,a.2.1,a.2.2.1⟩,⟨a.2.2.2⟩⟩) (λ_=>rfl)
structure TItem.Ok (x:TItem):Prop where
 h0:-9223372036854775808≤x.key.kind∧x.key.kind≤9223372036854775807
 h1:-9223372036854775808≤x.key.n∧x.key.n≤9223372036854775807
 h2:x.key.text.size≤maxLen
theorem TItem.out {w:World} {vs:List Value} {x:TItem} {F:List Nat} (h:cItem.rep w vs x F) :
  ∃v3 F3,vs=[Value.int .i64 x.key.kind,.int .i64 x.key.n,.string x.key.text,v3]∧F=F3∧x.Ok∧cFieldS.rep w [v3] x.rcd.fields F3:=by
 obtain⟨a0,b0,G0,H0,rfl,rfl,⟨rfl,rfl,h0⟩,a1,b1,G1,H1,rfl,rfl,⟨rfl,rfl,h1⟩,a2,b2,G2,H2,rfl,rfl,⟨rfl,rfl,h2⟩,h3⟩:=h
 obtain⟨A3,cp3,rfl,k3⟩:=h3
 exact⟨_,H2,rfl,by simp,⟨h0,h1,h2⟩,⟨A3,cp3,rfl,k3⟩⟩
theorem TItem.mk_ {w:World} {x:TItem} {v3:Value} {F3:List Nat} (h:x.Ok) (k3:cFieldS.rep w [v3] x.rcd.fields F3):cItem.rep w [Value.int .i64 x.key.kind,.int .i64 x.key.n,.string x.key.text,v3] x (F3):=by
 exact⟨[_],_,[],F3,rfl,by simp,⟨rfl,rfl,h.h0⟩,⟨[_],_,[],F3,rfl,by simp,⟨rfl,rfl,h.h1⟩,⟨[_],_,[],F3,rfl,by simp,⟨rfl,rfl,h.h2⟩,k3⟩⟩⟩
def cItemN:Cod TItem:=cM (cP cKey cRec) (λx=>(x.key,x.rcd)) (λa=>⟨a.1,a.2⟩) (λ_=>rfl)
theorem Zlt {w:World} {vs:List Value} {x:TItem} {F:List Nat} (h:cItemN.rep w vs x F):cItem.rep w vs x F:=by
 obtain⟨a0,b0,G0,H0,rfl,rfl,n0,n1⟩:=h
 obtain⟨rfl,rfl,e0⟩:=TKey.out n0
 obtain⟨w1_0,Q1_0,rfl,rfl,e1,m1_0⟩:=TRec.out n1
 have key:=TItem.mk_ (w:=w) (x:=x) ⟨e0.h0,e0.h1,e0.h2⟩ m1_0
 simpa using key
theorem ZlF:Opens Tryz.prog 189 cItem:=by
 have h:Opens Tryz.prog 189 cItemN:=Zcv (ZaZ Tryz.underlying189 (by kernel_rfl) (ZZ rfl Zjr (Zbv rfl Zjs)))
 exact⟨h.1,λH enc w fuel cs x hx hz=>by obtain⟨a,F,ha⟩:=h.2 H enc w fuel cs x hx hz;exact⟨a,F,Zlt ha⟩⟩
theorem TItem.outA {w:World} {vs:Array Value} {x:TItem} {F:List Nat} (h:cItem.rep w vs.toList x F) :
  ∃v3 F3,vs=#[Value.int .i64 x.key.kind,.int .i64 x.key.n,.string x.key.text,v3]∧F=F3∧x.Ok∧cFieldS.rep w [v3] x.rcd.fields F3:=by
 obtain⟨a0,a1,e,f,r⟩:=TItem.out h
 exact⟨a0,a1,Array.toList_inj.1 e,f,r⟩
def cItemS:Cod (List TItem):=cL cItem (by decide) (by decide)
theorem ZkP:Opens Tryz.prog 116 cItemS:=ZcK Tryz.underlying116 ZlF (by kernel_rfl)
structure TStore where
 name:ByteArray
 items:List TItem
 auto:Int
def cStore:Cod TStore:=cM (cP cS (cP cItemS cI)) (λx=>(x.name,x.items,x.auto)) (λa=>⟨a.1,a.2.1,a.2.2⟩) (λ_=>rfl)
structure TStore.Ok (x:TStore):Prop where
 h0:x.name.size≤maxLen
 h2:-9223372036854775808≤x.auto∧x.auto≤9223372036854775807
theorem TStore.out {w:World} {vs:List Value} {x:TStore} {F:List Nat} (h:cStore.rep w vs x F) :
  ∃v1 F1,vs=[Value.string x.name,v1,.int .i64 x.auto]∧F=F1∧x.Ok∧cItemS.rep w [v1] x.items F1:=by
 obtain⟨a0,b0,G0,H0,rfl,rfl,⟨rfl,rfl,h0⟩,a1,b1,G1,H1,rfl,rfl,h1,rfl,rfl,h2⟩:=h
 obtain⟨A1,cp1,rfl,k1⟩:=h1
 exact⟨_,G1,rfl,by simp,⟨h0,h2⟩,⟨A1,cp1,rfl,k1⟩⟩
theorem TStore.mk_ {w:World} {x:TStore} {v1:Value} {F1:List Nat} (h:x.Ok) (k1:cItemS.rep w [v1] x.items F1):cStore.rep w [Value.string x.name,v1,.int .i64 x.auto] x (F1):=by
 exact⟨[_],_,[],F1,rfl,by simp,⟨rfl,rfl,h.h0⟩,⟨[_],_,F1,[],rfl,by simp,k1,⟨rfl,rfl,h.h2⟩⟩⟩
theorem ZkQ:Opens Tryz.prog 118 cStore:=Zcv (ZaZ Tryz.underlying118 (by kernel_rfl) (ZZ rfl (Zbn Tryz.underlying9 (by kernel_rfl)) (ZZ rfl ZkP (Zbv rfl (Zdj Tryz.underlying3 (by kernel_rfl))))))
theorem TStore.outA {w:World} {vs:Array Value} {x:TStore} {F:List Nat} (h:cStore.rep w vs.toList x F) :
  ∃v1 F1,vs=#[Value.string x.name,v1,.int .i64 x.auto]∧F=F1∧x.Ok∧cItemS.rep w [v1] x.items F1:=by
 obtain⟨a0,a1,e,f,r⟩:=TStore.out h
 exact⟨a0,a1,Array.toList_inj.1 e,f,r⟩
def Zct (xs:List TItem) (k:Nat):Bool :=
 match xs[k]? with
 | some x=>ZG x.key&&Ze x.rcd&&(k==0||match xs[k-1]? with|some y=>decide (Zf y.key x.key<0)|none=>false)
 | none=>false
def Zs (s:TStore):Bool:=Zbo (Zct s.items) s.items.length&&Zaj s.name&&decide ((s.items.length:Int)≤16)&&inR s.auto 0 1000000
theorem ZdG {xs:List TItem} {k:Nat} (h:k<xs.length):Zct xs k=(ZG xs[k].key&&Ze xs[k].rcd&&(k==0||match xs[k-1]? with|some y=>decide (Zf y.key xs[k].key<0)|none=>false)):=by
 unfold Zct;rw[List.getElem?_eq_getElem h]
theorem ZdS {xs:List TItem} {k:Nat} (h:k+1<xs.length) (h1:k<xs.length):Zct xs (k+1)=(ZG xs[k+1].key&&Ze xs[k+1].rcd&&decide (Zf xs[k].key xs[k+1].key<0)):=by
 rw[ZdG h];simp[List.getElem?_eq_getElem h1]
structure Zhr (xs:List TItem):Prop where
 ok:∀x,x∈xs→ZG x.key=true∧Ze x.rcd=true
 ord:xs.Pairwise λa b=>ZiK a.key b.key<0
theorem ZnX (xs:List TItem):Zbo (Zct xs) xs.length=true↔Zhr xs:=by
 constructor
 ·intro h
  have hk:∀(j:Nat) (hj:j<xs.length),ZG xs[j].key=true∧Ze xs[j].rcd=true:=λj hj=>by
   have h1:=ZdB h hj
   rw[ZdG hj] at h1
   simp only[Bool.and_eq_true] at h1
   exact h1.1
  have hs:∀(j i:Nat) (hj:j<xs.length) (hi:i<j),ZiK xs[i].key xs[j].key<0:=by
   intro j
   induction j with
   | zero=>intro i hj hi;omega
   | succ j ih =>
    intro i hj hi
    have h1:=ZdB h hj
    rw[ZdS hj (by omega)] at h1
    simp only[Bool.and_eq_true,decide_eq_true_eq] at h1
    rw[Zcg (hk j (by omega)).1 (hk (j+1) hj).1] at h1
    rcases Nat.lt_or_eq_of_le (Nat.le_of_lt_succ hi) with h2|h2
    ·exact Zmb (ih i (by omega) h2) h1.2
    ·subst h2;exact h1.2
  refine⟨λx hx=>?_,List.pairwise_iff_getElem.2 λi j hi hj hij=>hs j i hj hij⟩
  obtain⟨k,hk2,rfl⟩:=List.getElem_of_mem hx
  exact hk k hk2
 ·intro h
  refine Zhw λk hk=>?_
  have h4:=h.ok _ (List.getElem_mem hk)
  cases k with
  | zero=>rw[ZdG hk,h4.1,h4.2];rfl
  | succ k =>
   have h5:=List.pairwise_iff_getElem.1 h.ord k (k+1) (by omega) hk (by omega)
   have h6:=h.ok _ (List.getElem_mem (show k<xs.length by omega))
   rw[ZdS hk (by omega),Zcg h6.1 h4.1,h4.1,h4.2]
   simpa using h5
theorem ZbW (s:TStore):Zs s=true↔Zhr s.items∧Zaj s.name=true∧s.items.length≤16∧(0≤s.auto∧s.auto≤1000000):=by
 unfold Zs
 simp only[Bool.and_eq_true,decide_eq_true_eq,ZnX]
 constructor
 ·intro ⟨⟨⟨h1,h2⟩,h3⟩,h4⟩
  exact⟨h1,h2,by omega,ZbZ h4⟩
 ·intro ⟨h1,h2,h3,h4⟩
  exact⟨⟨⟨h1,h2⟩,by omega⟩,Zjh h4.1 h4.2⟩
def Zeg (a b:TKey):Bool:=a.kind==b.kind&&a.n==b.n&&Zaz a.text b.text
theorem keyEq_iff {a b:TKey}:Zeg a b=true↔a=b:=by
 obtain⟨k1,n1,t1⟩:=a
 obtain⟨k2,n2,t2⟩:=b
 unfold Zeg
 simp only[Bool.and_eq_true,beq_iff_eq,strEq_iff,TKey.mk.injEq,and_assoc]
def ZF (s:TStore) (k:TKey):Int:=Zcm (λx=>Zeg x.key k) s.items
def ZaW (k:TKey):List TItem→Nat
 | []=>0
 | x::xs=>if Zf x.key k<0 then ZaW k xs+1 else 0
theorem Zhl (k:TKey):∀xs:List TItem,ZaW k xs≤xs.length
 | []=>Nat.le_refl _
 | x::xs=>by
  unfold ZaW
  split
  ·have:=Zhl k xs;simp only[List.length_cons];omega
  ·simp
def ZfD (xs:List TItem) (i:Nat) (r:TRec):List TItem:=match xs[i]? with|some x=>xs.set i ⟨x.key,r⟩|none=>xs
def ZcU (s:TStore) (k:TKey):Int:=bif k.kind==1&&inR k.n (s.auto+1) 1000000 then k.n else s.auto
def Zfg (s:TStore) (k:TKey) (r:TRec):TStore:=⟨s.name,s.items.take (ZaW k s.items)++⟨k,r⟩::s.items.drop (ZaW k s.items),ZcU s k⟩
def ZO (s:TStore) (k:TKey) (r:TRec):TStore×Bool :=
 bif Zs s&&ZG k&&Ze r then
  (if 0≤ZF s k then (⟨s.name,ZfD s.items (ZF s k).toNat r,s.auto⟩,true)
  else if 16≤s.items.length then (s,false) else (Zfg s k r,true))
 else (s,false)
def ZbP (s:TStore) (k:TKey) (r:TRec):TStore:=if 0≤ZF s k then ⟨s.name,ZfD s.items (ZF s k).toNat r,s.auto⟩ else Zfg s k r
def Zca (s:TStore) (k:TKey) (r:TRec):TStore×Bool:=bif Zs s&&ZG k&&Zs (ZbP s k r) then (ZbP s k r,true) else (s,false)
theorem ZpR (s:TStore) (k:TKey):-1≤ZF s k:=ZhJ _ _
theorem Zom {xs:List TItem} {i:Nat} (h:i<xs.length) (r:TRec):ZfD xs i r=xs.set i ⟨xs[i].key,r⟩:=by unfold ZfD;rw[List.getElem?_eq_getElem h]
theorem ZjO {α:Type} (p:α→Bool):∀xs:List α,0≤Zcm p xs→(Zcm p xs).toNat<xs.length
 | [],h=>by have:(0:Int)≤-1:=h;omega
 | x::xs,h=>by
  cases hp:p x with
  | true =>
   have e:Zcm p (x::xs)=0:=by simp[Zcm,hp]
   rw[e];simp
  | false =>
   have e:Zcm p (x::xs)=if Zcm p xs<0 then -1 else Zcm p xs+1:=by simp[Zcm,hp]
   rw[e] at h⊢
   split at h
   ·omega
   ·rename_i hn
    rw[if_neg hn]
    have:=ZjO p xs (by omega)
    simp only[List.length_cons];omega
theorem Zku {α:Type} (p:α→Bool):∀xs:List α,Zcm p xs<0→∀x,x∈xs→p x=false
 | [],_,x,hx=>by simp at hx
 | y::ys,h,x,hx=>by
  cases hp:p y with
  | true =>
   have e:Zcm p (y::ys)=0:=by simp[Zcm,hp]
   rw[e] at h;omega
  | false =>
   have e:Zcm p (y::ys)=if Zcm p ys<0 then -1 else Zcm p ys+1:=by simp[Zcm,hp]
   rw[e] at h
   split at h
   ·rename_i hn
    rcases List.mem_cons.1 hx with rfl|hx
    ·exact hp
    ·exact Zku p ys hn x hx
   ·have:=ZhJ (p:=p) ys;omega
theorem ZnZ {xs:List TItem} {i:Nat} (h:Zhr xs) (hi:i<xs.length) (r:TRec):Zhr (ZfD xs i r)↔Ze r=true:=by
 rw[Zom hi]
 constructor
 ·intro h1
  exact(h1.ok ⟨xs[i].key,r⟩ (List.mem_iff_getElem.2 ⟨i,by simpa using hi,by simp⟩)).2
 ·intro hr
  have hkey:∀(j:Nat) (hj:j<(xs.set i ⟨xs[i].key,r⟩).length),((xs.set i ⟨xs[i].key,r⟩)[j]).key=(xs[j]'(by simpa using hj)).key:=λj hj=>by
   rw[List.getElem_set]
   split
   ·rename_i e;subst e;rfl
   ·rfl
  refine⟨λx hx=>?_,List.pairwise_iff_getElem.2 λa b ha hb hab=>?_⟩
  ·obtain⟨j,hj,rfl⟩:=List.getElem_of_mem hx
   have hj2:j<xs.length:=by simpa using hj
   refine⟨by rw[hkey];exact(h.ok _ (List.getElem_mem hj2)).1,?_⟩
   rw[List.getElem_set]
   split
   ·exact hr
   ·exact(h.ok _ (List.getElem_mem hj2)).2
  ·rw[hkey,hkey]
   exact List.pairwise_iff_getElem.1 h.ord a b (by simpa using ha) (by simpa using hb) hab
theorem Zkj {k:TKey} (hk:ZG k=true):∀{xs:List TItem},Zhr xs→∀x,x∈xs.take (ZaW k xs)→ZiK x.key k<0
 | [],_,x,hx=>by simp at hx
 | y::ys,h,x,hx=>by
  have hy:=h.ok y (by simp)
  have ht:Zhr ys:=⟨λx hx=>h.ok x (by simp[hx]),(List.pairwise_cons.1 h.ord).2⟩
  by_cases hc:Zf y.key k<0
  ·have e:ZaW k (y::ys)=ZaW k ys+1:=by rw[ZaW,if_pos hc]
   rw[e,List.take_succ_cons] at hx
   rcases List.mem_cons.1 hx with rfl|hx
   ·rw[Zcg hy.1 hk] at hc;exact hc
   ·exact Zkj hk ht x hx
  ·have e:ZaW k (y::ys)=0:=by rw[ZaW,if_neg hc]
   rw[e] at hx;simp at hx
theorem ZiZ {k:TKey} (hk:ZG k=true):∀{xs:List TItem},Zhr xs→(∀x,x∈xs→x.key≠k)→∀x,x∈xs.drop (ZaW k xs)→ZiK k x.key<0
 | [],_,_,x,hx=>by simp at hx
 | y::ys,h,hne,x,hx=>by
  have hy:=h.ok y (by simp)
  have ht:Zhr ys:=⟨λx hx=>h.ok x (by simp[hx]),(List.pairwise_cons.1 h.ord).2⟩
  by_cases hc:Zf y.key k<0
  ·have e:ZaW k (y::ys)=ZaW k ys+1:=by rw[ZaW,if_pos hc]
   rw[e,List.drop_succ_cons] at hx
   exact ZiZ hk ht (λx hx=>hne x (by simp[hx])) x hx
  ·have e:ZaW k (y::ys)=0:=by rw[ZaW,if_neg hc]
   rw[e,List.drop_zero] at hx
   have h0:¬ZiK y.key k=0:=λe=>hne y (by simp) (cmpK_zero.1 e)
   rw[Zcg hy.1 hk] at hc
   have h1:ZiK k y.key<0:=by rw[Zkn];omega
   rcases List.mem_cons.1 hx with rfl|hx
   ·exact h1
   ·exact Zmb h1 ((List.pairwise_cons.1 h.ord).1 x hx)
theorem ZnY {xs:List TItem} {k:TKey} {r:TRec} (h:Zhr xs) (hk:ZG k=true) (hne:∀x,x∈xs→x.key≠k):Zhr (xs.take (ZaW k xs)++⟨k,r⟩::xs.drop (ZaW k xs))↔Ze r=true:=by
 constructor
 ·intro h1
  exact(h1.ok ⟨k,r⟩ (by simp)).2
 ·intro hr
  have hlow:=Zkj hk h
  have hhigh:=ZiZ hk h hne
  refine⟨λx hx=>?_,?_⟩
  ·rcases List.mem_append.1 hx with hx|hx
   ·exact h.ok x (List.mem_of_mem_take hx)
   ·rcases List.mem_cons.1 hx with rfl|hx
    ·exact⟨hk,hr⟩
    ·exact h.ok x (List.mem_of_mem_drop hx)
  ·have ho:=h.ord
   rw[← List.take_append_drop (ZaW k xs) xs] at ho
   obtain⟨p1,p2,p3⟩:=List.pairwise_append.1 ho
   refine List.pairwise_append.2 ⟨p1,List.pairwise_cons.2 ⟨λx hx=>hhigh x hx,p2⟩,λa ha b hb=>?_⟩
   rcases List.mem_cons.1 hb with rfl|hb
   ·exact hlow a ha
   ·exact p3 a ha b hb
theorem Zkk {s:TStore} {k:TKey} (h:0≤s.auto∧s.auto≤1000000):0≤ZcU s k∧ZcU s k≤1000000:=by
 unfold ZcU
 cases hc:k.kind==1&&inR k.n (s.auto+1) 1000000 with
 | false=>exact h
 | true =>
  simp only[Bool.and_eq_true] at hc
  have:=ZbZ hc.2
  simp only[cond_true];omega
theorem ZgM (s:TStore) (k:TKey) (r:TRec):Zca s k r=ZO s k r:=by
 unfold Zca ZO
 cases hs:Zs s with
 | false=>rfl
 | true =>
  cases hk:ZG k with
  | false=>rfl
  | true =>
   obtain⟨h1,h2,h3,h4⟩:=(ZbW s).1 hs
   simp only[Bool.true_and]
   by_cases hf:0≤ZF s k
   ·have hlt:=ZjO (λx:TItem=>Zeg x.key k) s.items hf
    have e:Zs (ZbP s k r)=Ze r:=by
     have hp:=ZnZ h1 hlt r
     have:Zs (ZbP s k r)=true↔Ze r=true:=by
      rw[ZbW,show ZbP s k r=⟨s.name,ZfD s.items (ZF s k).toNat r,s.auto⟩ from if_pos hf]
      simp only
      rw[show Zhr (ZfD s.items (ZF s k).toNat r)↔Ze r=true from hp]
      refine⟨λh=>h.1,λh=>⟨h,h2,?_,h4⟩⟩
      unfold ZfD
      split<;>simp[h3]
     cases h5:Zs (ZbP s k r)<;>cases h6:Ze r<;>simp_all
    rw[e,if_pos hf,show ZbP s k r=⟨s.name,ZfD s.items (ZF s k).toNat r,s.auto⟩ from if_pos hf]
   ·have hno:∀x,x∈s.items→x.key≠k:=λx hx e=>by
     have:=Zku (λx:TItem=>Zeg x.key k) s.items (by unfold ZF at hf;omega) x hx
     rw[keyEq_iff.2 e] at this;cases this
    have hp:=ZnY (r:=r) h1 hk hno
    have hl:(s.items.take (ZaW k s.items)++(⟨k,r⟩:TItem)::s.items.drop (ZaW k s.items)).length=s.items.length+1:=by
     have:=Zhl k s.items
     simp only[List.length_append,List.length_take,List.length_cons,List.length_drop];omega
    have e:Zs (ZbP s k r)=(Ze r&&decide (s.items.length<16)):=by
     have:Zs (ZbP s k r)=true↔(Ze r&&decide (s.items.length<16))=true:=by
      rw[ZbW,show ZbP s k r=Zfg s k r from if_neg hf]
      unfold Zfg
      simp only[Bool.and_eq_true,decide_eq_true_eq]
      rw[hp,hl]
      exact⟨λh=>⟨h.1,by omega⟩,λh=>⟨h.1,h2,by omega,Zkk h4⟩⟩
     cases h5:Zs (ZbP s k r)<;>cases h6:(Ze r&&decide (s.items.length<16))<;>simp_all
    rw[e,show ZbP s k r=Zfg s k r from if_neg hf,if_neg hf]
    cases hr:Ze r with
    | false=>rfl
    | true =>
     simp only[Bool.true_and,cond_true]
     by_cases h16:s.items.length<16
     ·rw[if_neg (by omega),decide_eq_true h16];rfl
     ·rw[if_pos (by omega),decide_eq_false h16];rfl
def Zcd (s:TStore) (k:TKey) (r:TRec):TStore×Bool:=if 0≤ZF s k then (s,false) else ZO s k r
def Zu (k:TKey) (hl hh:Bool) (lo hi:TKey):Bool:=ZG k&&(!hl||ZG lo)&&(!hh||ZG hi)&&(!hl||decide (Zf lo k≤0))&&(!hh||decide (Zf k hi≤0))
theorem Zgy (a b:TKey):Zf b a=- Zf a b:=by
 unfold Zf
 rw[Bool.and_comm,Zkn a b]
 cases ZG a&&ZG b<;>rfl
def ZD (s:TStore) (hl hh:Bool) (lo hi:TKey):TStore×Int :=
 bif Zs s then (⟨s.name,s.items.filter (λx=>!Zu x.key hl hh lo hi),s.auto⟩,(s.items.length:Int)-(s.items.filter (λx=>!Zu x.key hl hh lo hi)).length) else (s,0)
structure TIdx where
 store:ByteArray
 field:ByteArray
def cIdx:Cod TIdx:=cM (cP cS cS) (λx=>(x.store,x.field)) (λa=>⟨a.1,a.2⟩) (λ_=>rfl)
structure TIdx.Ok (x:TIdx):Prop where
 h0:x.store.size≤maxLen
 h1:x.field.size≤maxLen
theorem TIdx.out {w:World} {vs:List Value} {x:TIdx} {F:List Nat} (h:cIdx.rep w vs x F) :
  vs=[Value.string x.store,.string x.field]∧F=[]∧x.Ok:=by
 obtain⟨a0,b0,G0,H0,rfl,rfl,⟨rfl,rfl,h0⟩,rfl,rfl,h1⟩:=h
 exact⟨rfl,by simp,⟨h0,h1⟩⟩
theorem TIdx.mk_ {w:World} {x:TIdx} (h:x.Ok):cIdx.rep w [Value.string x.store,.string x.field] x ([]):=by
 exact⟨[_],_,[],[],rfl,by simp,⟨rfl,rfl,h.h0⟩,⟨rfl,rfl,h.h1⟩⟩
theorem Zni:Opens Tryz.prog 121 cIdx:=Zcv (ZaZ Tryz.underlying121 (by kernel_rfl) (ZZ rfl (Zbn Tryz.underlying9 (by kernel_rfl)) (Zbv rfl (Zbn Tryz.underlying9 (by kernel_rfl)))))
def cIdxS:Cod (List TIdx):=cL cIdx (by decide) (by decide)
theorem ZlE:Opens Tryz.prog 23 cIdxS:=ZcK Tryz.underlying23 Zni (by kernel_rfl)
def cStoreS:Cod (List TStore):=cL cStore (by decide) (by decide)
theorem ZjY:Opens Tryz.prog 22 cStoreS:=ZcK Tryz.underlying22 ZkQ (by kernel_rfl)
structure TDb where
 name:ByteArray
 ver:Int
 stores:List TStore
 uniq:List TIdx
def cDb:Cod TDb:=cM (cP cS (cP cI (cP cStoreS cIdxS))) (λx=>(x.name,x.ver,x.stores,x.uniq)) (λa=>⟨a.1,a.2.1,a.2.2.1,a.2.2.2⟩) (λ_=>rfl)
structure TDb.Ok (x:TDb):Prop where
 h0:x.name.size≤maxLen
 h1:-9223372036854775808≤x.ver∧x.ver≤9223372036854775807
theorem TDb.out {w:World} {vs:List Value} {x:TDb} {F:List Nat} (h:cDb.rep w vs x F) :
  ∃v2 v3 F2 F3,vs=[Value.string x.name,.int .i64 x.ver,v2,v3]∧F=F2++F3∧x.Ok∧cStoreS.rep w [v2] x.stores F2∧cIdxS.rep w [v3] x.uniq F3:=by
 obtain⟨a0,b0,G0,H0,rfl,rfl,⟨rfl,rfl,h0⟩,a1,b1,G1,H1,rfl,rfl,⟨rfl,rfl,h1⟩,a2,b2,G2,H2,rfl,rfl,h2,h3⟩:=h
 obtain⟨A2,cp2,rfl,k2⟩:=h2
 obtain⟨A3,cp3,rfl,k3⟩:=h3
 exact⟨_,_,G2,H2,rfl,by simp,⟨h0,h1⟩,⟨A2,cp2,rfl,k2⟩,⟨A3,cp3,rfl,k3⟩⟩
theorem TDb.mk_ {w:World} {x:TDb} {v2:Value} {v3:Value} {F2:List Nat} {F3:List Nat} (h:x.Ok) (k2:cStoreS.rep w [v2] x.stores F2) (k3:cIdxS.rep w [v3] x.uniq F3):cDb.rep w [Value.string x.name,.int .i64 x.ver,v2,v3] x (F2++F3):=by
 exact⟨[_],_,[],F2++F3,rfl,by simp,⟨rfl,rfl,h.h0⟩,⟨[_],_,[],F2++F3,rfl,by simp,⟨rfl,rfl,h.h1⟩,⟨[_],_,F2,F3,rfl,by simp,k2,k3⟩⟩⟩
theorem Zok:Opens Tryz.prog 25 cDb:=Zcv (ZaZ Tryz.underlying25 (by kernel_rfl) (ZZ rfl (Zbn Tryz.underlying9 (by kernel_rfl)) (ZZ rfl (Zdj Tryz.underlying3 (by kernel_rfl)) (ZZ rfl ZjY (Zbv rfl ZlE)))))
theorem TDb.outA {w:World} {vs:Array Value} {x:TDb} {F:List Nat} (h:cDb.rep w vs.toList x F) :
  ∃v2 v3 F2 F3,vs=#[Value.string x.name,.int .i64 x.ver,v2,v3]∧F=F2++F3∧x.Ok∧cStoreS.rep w [v2] x.stores F2∧cIdxS.rep w [v3] x.uniq F3:=by
 obtain⟨a0,a1,a2,a3,e,f,r⟩:=TDb.out h
 exact⟨a0,a1,a2,a3,Array.toList_inj.1 e,f,r⟩
structure TOp where
 kind:Int
 store:ByteArray
 key:TKey
 rcd:TRec
 field:ByteArray
def cOp:Cod TOp:=cM (cP cI (cP cS (cP cI (cP cI (cP cS (cP cFieldS cS)))))) (λx=>(x.kind,x.store,x.key.kind,x.key.n,x.key.text,x.rcd.fields,x.field)) (λa=>⟨a.1,a.2.1,⟨a.2.2.1,a.2.2.2.1,a.2.2.2.2.1⟩,⟨a.2.2.2.2.2.1⟩,a.2.2.2.2.2.2⟩) (λ_=>rfl)
structure TOp.Ok (x:TOp):Prop where
 h0:-9223372036854775808≤x.kind∧x.kind≤9223372036854775807
 h1:x.store.size≤maxLen
 h2:-9223372036854775808≤x.key.kind∧x.key.kind≤9223372036854775807
 h3:-9223372036854775808≤x.key.n∧x.key.n≤9223372036854775807
 h4:x.key.text.size≤maxLen
 h6:x.field.size≤maxLen
theorem TOp.out {w:World} {vs:List Value} {x:TOp} {F:List Nat} (h:cOp.rep w vs x F) :
  ∃v5 F5,vs=[Value.int .i64 x.kind,.string x.store,.int .i64 x.key.kind,.int .i64 x.key.n,.string x.key.text,v5,.string x.field]∧F=F5∧x.Ok∧cFieldS.rep w [v5] x.rcd.fields F5:=by
 obtain⟨a0,b0,G0,H0,rfl,rfl,⟨rfl,rfl,h0⟩,a1,b1,G1,H1,rfl,rfl,⟨rfl,rfl,h1⟩,a2,b2,G2,H2,rfl,rfl,⟨rfl,rfl,h2⟩,a3,b3,G3,H3,rfl,rfl,⟨rfl,rfl,h3⟩,a4,b4,G4,H4,rfl,rfl,⟨rfl,rfl,h4⟩,a5,b5,G5,H5,rfl,rfl,h5,rfl,rfl,h6⟩:=h
 obtain⟨A5,cp5,rfl,k5⟩:=h5
 exact⟨_,G5,rfl,by simp,⟨h0,h1,h2,h3,h4,h6⟩,⟨A5,cp5,rfl,k5⟩⟩
theorem TOp.mk_ {w:World} {x:TOp} {v5:Value} {F5:List Nat} (h:x.Ok) (k5:cFieldS.rep w [v5] x.rcd.fields F5):cOp.rep w [Value.int .i64 x.kind,.string x.store,.int .i64 x.key.kind,.int .i64 x.key.n,.string x.key.text,v5,.string x.field] x (F5):=by
 exact⟨[_],_,[],F5,rfl,by simp,⟨rfl,rfl,h.h0⟩,⟨[_],_,[],F5,rfl,by simp,⟨rfl,rfl,h.h1⟩,⟨[_],_,[],F5,rfl,by simp,⟨rfl,rfl,h.h2⟩,⟨[_],_,[],F5,rfl,by simp,⟨rfl,rfl,h.h3⟩,⟨[_],_,[],F5,rfl,by simp,⟨rfl,rfl,h.h4⟩,⟨[_],_,F5,[],rfl,by simp,k5,⟨rfl,rfl,h.h6⟩⟩⟩⟩⟩⟩⟩
def cOpN:Cod TOp:=cM (cP cI (cP cS (cP cKey (cP cRec cS)))) (λx=>(x.kind,x.store,x.key,x.rcd,x.field)) (λa=>⟨a.1,a.2.1,a.2.2.1,a.2.2.2.1,a.2.2.2.2⟩) (λ_=>rfl)
theorem ZnF {w:World} {vs:List Value} {x:TOp} {F:List Nat} (h:cOpN.rep w vs x F):cOp.rep w vs x F:=by
 obtain⟨a0,b0,G0,H0,rfl,rfl,⟨rfl,rfl,n0⟩,a1,b1,G1,H1,rfl,rfl,⟨rfl,rfl,n1⟩,a2,b2,G2,H2,rfl,rfl,n2,a3,b3,G3,H3,rfl,rfl,n3,rfl,rfl,n4⟩:=h
 obtain⟨rfl,rfl,e2⟩:=TKey.out n2
 obtain⟨w3_0,Q3_0,rfl,rfl,e3,m3_0⟩:=TRec.out n3
 have key:=TOp.mk_ (w:=w) (x:=x) ⟨n0,n1,e2.h0,e2.h1,e2.h2,n4⟩ m3_0
 simpa using key
theorem Zol:Opens Tryz.prog 66 cOp:=by
 have h:Opens Tryz.prog 66 cOpN:=Zcv (ZaZ Tryz.underlying66 (by kernel_rfl) (ZZ rfl (Zdj Tryz.underlying3 (by kernel_rfl)) (ZZ rfl (Zbn Tryz.underlying9 (by kernel_rfl)) (ZZ rfl Zjr (ZZ rfl Zjs (Zbv rfl (Zbn Tryz.underlying9 (by kernel_rfl))))))))
 exact⟨h.1,λH enc w fuel cs x hx hz=>by obtain⟨a,F,ha⟩:=h.2 H enc w fuel cs x hx hz;exact⟨a,F,ZnF ha⟩⟩
theorem TOp.outA {w:World} {vs:Array Value} {x:TOp} {F:List Nat} (h:cOp.rep w vs.toList x F) :
  ∃v5 F5,vs=#[Value.int .i64 x.kind,.string x.store,.int .i64 x.key.kind,.int .i64 x.key.n,.string x.key.text,v5,.string x.field]∧F=F5∧x.Ok∧cFieldS.rep w [v5] x.rcd.fields F5:=by
 obtain⟨a0,a1,e,f,r⟩:=TOp.out h
 exact⟨a0,a1,Array.toList_inj.1 e,f,r⟩
def Zhn (x:TItem) (field:ByteArray):Bool:=(Zk x.rcd field).2
def ZX (x:TItem) (field:ByteArray):Int:=(Zk x.rcd field).1
def Zdu (field:ByteArray) (a b:TItem):Bool:=decide (ZX a field<ZX b field)||(ZX a field==ZX b field&&decide (Zf a.key b.key<0))
def Zbe (field:ByteArray) (out:List TItem) (x:TItem):Nat→Nat
 | 0=>0
 | k+1=>match out[k]? with|some y=>bif Zdu field x y then Zbe field out x k else k+1|none=>k+1
def ZoU (field:ByteArray) (out:List TItem) (x:TItem):List TItem:=out.take (Zbe field out x out.length)++x::out.drop (Zbe field out x out.length)
def ZaH (xs:List TItem) (field:ByteArray):Nat→List TItem
 | 0=>[]
 | k+1=>match xs[k]? with|some x=>bif Zhn x field then ZoU field (ZaH xs field k) x else ZaH xs field k|none=>ZaH xs field k
theorem Zfn (field:ByteArray) (out:List TItem) (x:TItem):∀k,Zbe field out x k≤k
 | 0=>Nat.le_refl _
 | k+1=>by
  unfold Zbe
  cases out[k]? with
  | none=>exact Nat.le_refl _
  | some y =>
   have:=Zfn field out x k
   cases h:Zdu field x y<;>simp only[h,cond_true,cond_false]<;>omega
theorem ZnV (field:ByteArray) (out:List TItem) (x:TItem):(ZoU field out x).length=out.length+1:=by
 have:=Zfn field out x out.length
 unfold ZoU
 simp only[List.length_append,List.length_take,List.length_cons,List.length_drop];omega
theorem Zdi (xs:List TItem) (field:ByteArray):∀k,(ZaH xs field k).length≤k
 | 0=>Nat.le_refl _
 | k+1=>by
  have ih:=Zdi xs field k
  unfold ZaH
  cases xs[k]? with
  | none=>simp only;omega
  | some x =>
   have h2:=ZnV field (ZaH xs field k) x
   cases h:Zhn x field<;>simp only[h,cond_true,cond_false]<;>omega
def ZbJ (s:TStore) (field:ByteArray):List TItem:=ZaH s.items field s.items.length
def ZfQ (l:List TItem) (field:ByteArray) (k:Nat):Bool:=match l[k]?,l[k+1]? with|some a,some b=>ZX a field==ZX b field|_,_=>false
def Zal (s:TStore) (field:ByteArray):Bool:=!Zbo (λk=>!ZfQ (ZbJ s field) field k) ((ZbJ s field).length-1)
def Zap (d:TDb) (name:ByteArray):Int:=Zcm (λs=>Zaz s.name name) d.stores
def Zbx (ss:List TStore) (k:Nat):Bool :=
 match ss[k]? with
 | some s=>Zs s&&(k==0||match ss[k-1]? with|some t=>ZcJ t.name s.name|none=>false)
 | none=>false
def Zef (a b:TIdx):Bool:=Zaz a.store b.store&&Zaz a.field b.field
def Zdm (d:TDb) (k:Nat):Bool :=
 match d.uniq[k]? with
 | some u=>decide (0≤Zap d u.store)&&Zaj u.field&&ZaQ (λy=>Zef y u) d.uniq k&&(match d.stores[(Zap d u.store).toNat]? with|some s=>!Zal s u.field|none=>false)
 | none=>false
def Zi (d:TDb):Bool:=Zaj d.name&&inR d.ver 0 1000&&decide ((d.stores.length:Int)≤4)&&decide ((d.uniq.length:Int)≤4)&&Zbo (Zbx d.stores) d.stores.length&&Zbo (Zdm d) d.uniq.length
def ZdR (o:TOp):Bool:=inR o.kind 1 6&&Zaj o.store&&(o.kind==5||ZG o.key)&&Ze o.rcd&&(bif o.kind==6 then Zaj o.field else ZeR o.field)
def Zdh (s:TStore) (k:TKey) (field:ByteArray):TStore×Int×Bool :=
 let r:TRec:=if 0≤ZF s k then (match s.items[(ZF s k).toNat]? with|some x=>x.rcd|none=>⟨[]⟩) else ⟨[]⟩
 let n:=(Zk r field).1
 let x:=Zan r field (n+1)
 let y:=ZO s k x.1
 (y.1,n+1,x.2&&y.2)
def ZdO (s:TStore) (o:TOp):TStore×Int×Bool :=
 if o.kind=1 then ((ZO s o.key o.rcd).1,1,(ZO s o.key o.rcd).2)
 else if o.kind=2 then ((Zcd s o.key o.rcd).1,1,(Zcd s o.key o.rcd).2)
 else if o.kind=3 then ((ZD s true true o.key o.key).1,(ZD s true true o.key o.key).2,true)
 else if o.kind=5 then ((ZD s false false noKey noKey).1,(ZD s false false noKey noKey).2,true)
 else if o.kind=4 then (s,(if 0≤ZF s o.key then (match s.items[(ZF s o.key).toNat]? with|some x=>(x.rcd.fields.length:Int)|none=>-1) else -1),true)
 else Zdh s o.key o.field
def ZaA (d:TDb) (k:Nat) (s:TStore):TDb:=⟨d.name,d.ver,d.stores.set k s,d.uniq⟩
def Zla (d:TDb) (k:Nat) (o:TOp):TDb×Int×Bool:=match d.stores[k]? with
 | some s=>bif (ZdO s o).2.2&&Zi (ZaA d k (ZdO s o).1) then (ZaA d k (ZdO s o).1,(ZdO s o).2.1,true) else (d,0,false)
 | none=>(d,0,false)
def ZaR (d:TDb) (o:TOp):TDb×Int×Bool:=bif Zi d&&ZdR o&&decide (0≤Zap d o.store) then Zla d (Zap d o.store).toNat o else (d,0,false)
def ZaV:TDb→List TOp→Option TDb
 | d,[]=>some d
 | d,o::l=>bif (ZaR d o).2.2 then ZaV (ZaR d o).1 l else none
def Zba (d:TDb) (l:List TOp):TDb×Bool:=bif Zi d&&decide ((l.length:Int)≤6) then (match ZaV d l with|some e=>(e,true)|none=>(d,false)) else (d,false)
theorem Zim:∀(l:List TOp) (d:TDb) (o:TOp),ZaV d (l++[o])=match ZaV d l with|some e=>(bif (ZaR e o).2.2 then some (ZaR e o).1 else none)|none=>none
 | [],d,o=>by simp only[List.nil_append,ZaV]
 | p::l,d,o=>by
  simp only[List.cons_append,ZaV]
  cases (ZaR d p).2.2 with
  | true=>exact Zim l _ o
  | false=>rfl
def ZbK (o:TOp):List UInt8:=ZJ o.kind.toNat++(ZB (Zp o.store)++(ZB (ZE o.key)++(ZB (Zx o.rcd)++ZB (Zp o.field))))
def ZjZ (l:List TOp):List UInt8:=ZJ l.length++(l.map ZbK).flatten
def ZdC (l:List TOp):Bool:=l.all ZdR&&decide ((l.length:Int)≤6)
def Zn (l:List TOp):List UInt8:=bif ZdC l then ZjZ l else []
def ZaM (b:List UInt8) (most:Nat×Nat×Nat×Nat) (at_:Nat):Option (TOp×Nat) :=
 match Zbj b at_ with
 | none=>none
 | some (kind,p)=>match Zbb b p most.1 with
  | none=>none
  | some (st,q)=>match Zbb b q most.2.1 with
   | none=>none
   | some (ky,r)=>match Zbb b r most.2.2.1 with
    | none=>none
    | some (rc,s)=>match Zbb b s most.2.2.2 with
     | none=>none
     | some (fl,t)=>some (⟨kind,Zg st,(Zv ky).1,(ZC rc).1,Zg fl⟩,t)
def Zad (b:List UInt8) (most:Nat×Nat×Nat×Nat):(n at_:Nat)→Option (List TOp)
 | 0,_=>some []
 | n+1,at_=>match ZaM b most at_ with
  | none=>none
  | some (o,t)=>match Zad b most n t with
   | none=>none
   | some l=>some (o::l)
def ZaB (b:List UInt8) (most:Nat×Nat×Nat×Nat):List TOp×Bool:=match Zbj b 0 with
 | none=>([],false)
 | some (n,nx)=>if 6<n then ([],false) else match Zad b most n nx with
  | none=>([],false)
  | some l=>bif Zn l==b then (l,true) else ([],false)
def ZW (b:List UInt8):List TOp×Bool:=ZaB b (100,100,200,100)
def Zex (b:List UInt8):List TOp×Bool:=ZaB b (b.length,b.length,b.length,b.length)
def cUS:Cod (List UInt8):=cL cU (by decide) (by decide)
theorem Zpa:Opens Tryz.prog 26 cUS:=ZcK Tryz.underlying26 (Zpb Tryz.underlying5 (by kernel_rfl)) (by kernel_rfl)
structure TDisk where
 base:TDb
 log:List UInt8
 count:Int
def cDisk:Cod TDisk:=cM (cP cS (cP cI (cP cStoreS (cP cIdxS (cP cUS cI))))) (λx=>(x.base.name,x.base.ver,x.base.stores,x.base.uniq,x.log,x.count)) (λa=>⟨⟨a.1,a.2.1,a.2.2.1,a.2.2.2.1⟩,a.2.2.2.2.1,a.2.2.2.2.2⟩) (λ_=>rfl)
structure TDisk.Ok (x:TDisk):Prop where
 h0:x.base.name.size≤maxLen
 h1:-9223372036854775808≤x.base.ver∧x.base.ver≤9223372036854775807
 h5:-9223372036854775808≤x.count∧x.count≤9223372036854775807
theorem TDisk.out {w:World} {vs:List Value} {x:TDisk} {F:List Nat} (h:cDisk.rep w vs x F) :
  ∃v2 v3 v4 F2 F3 F4,vs=[Value.string x.base.name,.int .i64 x.base.ver,v2,v3,v4,.int .i64 x.count]∧F=F2++F3++F4∧x.Ok∧cStoreS.rep w [v2] x.base.stores F2∧cIdxS.rep w [v3] x.base.uniq F3∧cUS.rep w [v4] x.log F4:=by
 obtain⟨a0,b0,G0,H0,rfl,rfl,⟨rfl,rfl,h0⟩,a1,b1,G1,H1,rfl,rfl,⟨rfl,rfl,h1⟩,a2,b2,G2,H2,rfl,rfl,h2,a3,b3,G3,H3,rfl,rfl,h3,a4,b4,G4,H4,rfl,rfl,h4,rfl,rfl,h5⟩:=h
 obtain⟨A2,cp2,rfl,k2⟩:=h2
 obtain⟨A3,cp3,rfl,k3⟩:=h3
 obtain⟨A4,cp4,rfl,k4⟩:=h4
 exact⟨_,_,_,G2,G3,G4,rfl,by simp,⟨h0,h1,h5⟩,⟨A2,cp2,rfl,k2⟩,⟨A3,cp3,rfl,k3⟩,⟨A4,cp4,rfl,k4⟩⟩
theorem TDisk.mk_ {w:World} {x:TDisk} {v2:Value} {v3:Value} {v4:Value} {F2:List Nat} {F3:List Nat} {F4:List Nat} (h:x.Ok) (k2:cStoreS.rep w [v2] x.base.stores F2) (k3:cIdxS.rep w [v3] x.base.uniq F3) (k4:cUS.rep w [v4] x.log F4):cDisk.rep w [Value.string x.base.name,.int .i64 x.base.ver,v2,v3,v4,.int .i64 x.count] x (F2++F3++F4):=by
 exact⟨[_],_,[],F2++F3++F4,rfl,by simp,⟨rfl,rfl,h.h0⟩,⟨[_],_,[],F2++F3++F4,rfl,by simp,⟨rfl,rfl,h.h1⟩,⟨[_],_,F2,F3++F4,rfl,by simp,k2,⟨[_],_,F3,F4,rfl,by simp,k3,⟨[_],_,F4,[],rfl,by simp,k4,⟨rfl,rfl,h.h5⟩⟩⟩⟩⟩⟩
def cDiskN:Cod TDisk:=cM (cP cDb (cP cUS cI)) (λx=>(x.base,x.log,x.count)) (λa=>⟨a.1,a.2.1,a.2.2⟩) (λ_=>rfl)
theorem Zls {w:World} {vs:List Value} {x:TDisk} {F:List Nat} (h:cDiskN.rep w vs x F):cDisk.rep w vs x F:=by
 obtain⟨a0,b0,G0,H0,rfl,rfl,n0,a1,b1,G1,H1,rfl,rfl,n1,rfl,rfl,n2⟩:=h
 obtain⟨w0_2,w0_3,Q0_2,Q0_3,rfl,rfl,e0,m0_2,m0_3⟩:=TDb.out n0
 obtain⟨A1,cp1,rfl,k1⟩:=n1
 have key:=TDisk.mk_ (w:=w) (x:=x) ⟨e0.h0,e0.h1,n2⟩ m0_2 m0_3 ⟨A1,cp1,rfl,k1⟩
 simpa using key
theorem opens_lDisk:Opens Tryz.prog 28 cDisk:=by
 have h:Opens Tryz.prog 28 cDiskN:=Zcv (ZaZ Tryz.underlying28 (by kernel_rfl) (ZZ rfl Zok (ZZ rfl Zpa (Zbv rfl (Zdj Tryz.underlying3 (by kernel_rfl))))))
 exact⟨h.1,λH enc w fuel cs x hx hz=>by obtain⟨a,F,ha⟩:=h.2 H enc w fuel cs x hx hz;exact⟨a,F,Zls ha⟩⟩
theorem TDisk.outA {w:World} {vs:Array Value} {x:TDisk} {F:List Nat} (h:cDisk.rep w vs.toList x F) :
  ∃v2 v3 v4 F2 F3 F4,vs=#[Value.string x.base.name,.int .i64 x.base.ver,v2,v3,v4,.int .i64 x.count]∧F=F2++F3++F4∧x.Ok∧cStoreS.rep w [v2] x.base.stores F2∧cIdxS.rep w [v3] x.base.uniq F3∧cUS.rep w [v4] x.log F4:=by
 obtain⟨a0,a1,a2,a3,a4,a5,e,f,r⟩:=TDisk.out h
 exact⟨a0,a1,a2,a3,a4,a5,Array.toList_inj.1 e,f,r⟩
def Zac:Value→Option Nat
 | .slice (some a) _ (_+1)=>some a.block
 | _=>none
theorem Zpc:∀{v:Value} {g:Nat},Zac v=some g→v.ownBlock=some g
 | .slice (some a) _ (_+1),_,h=>h
 | .slice (some a) _ 0,_,h=>by simp[Zac] at h
 | .slice none _ _,_,h=>by simp[Zac] at h
section
variable {α:Type}
def Own (c:Cod α) (e:TypeId) (B:Nat) (w:World) (v:Value) (xs:List α) (Fi:List Nat):Prop :=
 (xs=[]∧Fi=[]∧∃A,v=.slice A 0 0)∨∃us,w.ownsRow B e c.wd v xs.length us∧c.reps w us xs Fi
variable {c:Cod α} {e:TypeId} {B:Nat} {w w':World} {v:Value} {xs ys:List α} {Fi Fy:List Nat}
theorem Own.empty (A:Option Addr):Own c e B w (.slice A 0 0) [] []:=.inl ⟨rfl,rfl,A,rfl⟩
theorem Own.form (h:Own c e B w v xs Fi):(xs=[]∧Fi=[]∧∃A,v=.slice A 0 0) ∨
  ∃g cap cur us,v=.slice (some ⟨g,0,none⟩) xs.length (cap+1)∧B≤g∧w.heap[g]?=some (.cells cur e)∧xs.length≤cap+1∧cap+1≤maxLen ∧
   cur.size=(cap+1)*c.wd∧cur.toList.take (xs.length*c.wd)=us∧w.ownsRow B e c.wd v xs.length us∧c.reps w us xs Fi:=by
 rcases h with h|⟨us,h,hr⟩
 ·exact .inl h
 ·have h':=h
  obtain⟨hl,⟨rfl,hn⟩|⟨g,cap,cur,rfl,hB,hg,hnc,hcm,hsz,ht⟩⟩:=h'
  ·have hx:xs=[]:=List.eq_nil_of_length_eq_zero hn
   subst hx
   exact .inl ⟨rfl,hr.2,none,rfl⟩
  ·cases cap with
   | zero =>
    have hx:xs=[]:=List.eq_nil_of_length_eq_zero (by omega)
    subst hx
    exact .inl ⟨rfl,hr.2,_,rfl⟩
   | succ cap=>exact .inr ⟨g,cap,cur,us,rfl,hB,hg,hnc,hcm,hsz,ht,h,hr⟩
theorem Own.slice (h:Own c e B w v xs Fi):∃A cp,v=.slice A xs.length cp:=by
 rcases h.form with ⟨rfl,-,A,rfl⟩|⟨g,cap,cur,us,rfl,-⟩
 ·exact⟨A,0,rfl⟩
 ·exact⟨_,_,rfl⟩
theorem Own.lt (h:Own c e B w v xs Fi):∀g,Zac v=some g→B≤g∧g<w.heap.size:=by
 intro g hg
 rcases h.form with ⟨-,-,A,rfl⟩|⟨g',cap,cur,us,rfl,hB,hh,-⟩
 ·cases A<;>simp[Zac] at hg
 ·simp only[Zac,Option.some.injEq] at hg
  subst hg
  exact⟨hB,(Array.getElem?_eq_some_iff.1 hh).1⟩
theorem Own.inner_lt (h:Own c e B w v xs Fi):∀b,b∈Fi→b<w.heap.size:=by
 intro b hb
 rcases h.form with ⟨-,rfl,-⟩|⟨g',cap,cur,us,-,-,-,-,-,-,-,-,hr⟩
 ·simp at hb
 ·exact Cod.reps_lt hr b hb
theorem Own.mono {B':Nat} (h:Own c e B w v xs Fi) (hB:B'≤B):Own c e B' w v xs Fi:=by
 rcases h with h|⟨us,⟨hl,h⟩,hr⟩
 ·exact .inl h
 ·refine .inr ⟨us,⟨hl,?_⟩,hr⟩
  rcases h with h|⟨g,cap,cur,h1,h2,h3⟩
  ·exact .inl h
  ·exact .inr ⟨g,cap,cur,h1,Nat.le_trans hB h2,h3⟩
theorem Own.keep (h:Own c e B w v xs Fi) (hg:∀g,Zac v=some g→w'.heap[g]?=w.heap[g]?) (hi:∀b,b∈Fi→w'.heap[b]?=w.heap[b]?):Own c e B w' v xs Fi:=by
 rcases h.form with h|⟨g,cap,cur,us,rfl,hB,hh,hn,hm,hs,ht,ho,hr⟩
 ·exact .inl h
 ·exact .inr ⟨us,⟨ho.1,.inr ⟨g,cap+1,cur,rfl,hB,(hg g rfl).trans hh,hn,hm,hs,ht⟩⟩,Cod.reps_keep hr hi⟩
theorem Own.bel (h:Own c e B w v xs Fi) (hb:Below w.heap.size w w'):Own c e B w' v xs Fi :=
 h.keep (λg hg=>hb.block g (h.lt g hg).2) (λb hm=>hb.block b (h.inner_lt b hm))
theorem Own.rep {hw:0<c.wd} {hw2:c.wd≤32} (h:Own c e B w v xs Fi):∃F,(cL c hw hw2).rep w [v] xs F∧(∀b,b∈F→Zac v=some b∨b∈Fi)∧((∀g,Zac v=some g→g∉Fi)→Fi.Nodup→F.Nodup):=by
 rcases h.form with ⟨rfl,rfl,A,rfl⟩|⟨g,cap,cur,us,rfl,hB,hh,hn,hm,hs,ht,ho,hr⟩
 ·exact⟨[],⟨A,0,rfl,Nat.le_refl _,by decide,.inl ⟨rfl,rfl⟩⟩,by simp,by simp⟩
 ·cases xs with
  | nil=>exact⟨[],⟨_,cap+1,rfl,hn,hm,.inl ⟨rfl,rfl⟩⟩,by simp,by simp⟩
  | cons x xs =>
   refine⟨g::Fi,⟨_,cap+1,rfl,hn,hm,.inr ⟨by simp,g,0,Fi,us,rfl,rfl,λj u hu=>?_,hr⟩⟩,λb hb=>?_,λh1 h2=>?_⟩
   ·have hj:=(List.getElem?_eq_some_iff.1 hu).1
    rw[ho.1] at hj
    rw[Nat.zero_add]
    exact⟨(ho.cellAt j hj).trans hu,ho.frozenAt j⟩
   ·rcases List.mem_cons.1 hb with rfl|hb
    ·exact .inl rfl
    ·exact .inr hb
   ·exact List.nodup_cons.2 ⟨h1 g rfl,h2⟩
theorem Own.fresh {hw:0<c.wd} {hw2:c.wd≤32} (h:Own c e B w v xs []):∃F,(cL c hw hw2).rep w [v] xs F∧Fresh B F∧∀b,b∈F→Zac v=some b:=by
 obtain⟨F,h1,h2,h3⟩:=h.rep (hw:=hw) (hw2:=hw2)
 have h4:∀b,b∈F→Zac v=some b:=λb hb=>by
  rcases h2 b hb with h|h
  ·exact h
  ·simp at h
 exact⟨F,h1,⟨λb hb=>(h.lt b (h4 b hb)).1,h3 (by simp) (by simp)⟩,h4⟩
end
theorem Zat {B:Nat} {a w:World} (hB:B≤a.heap.size) (h:Below B a w) (o:Obj):Below B a (w.alloc o):=h.trans ((ZM (Below.refl _ _) o).mono (Nat.le_trans hB h.size))
theorem Zel {B:Nat} {a w:World} (h:Below B a w):Below B a w.drew:=h.drew
theorem Zqr {B:Nat} {a w:World} (h:Below B a w) (n:Nat):Below B a (w.drewN n):=⟨h.os,h.tape,h.output,h.size,h.block⟩
theorem ZcN {B:Nat} {a w:World} {p:Addr} (hp:B≤p.block) (h:Below B a w) (u:Value):Below B a (w.setCell p u) :=
 h.trans ⟨rfl,rfl,rfl,by simp,λi hi=>Below.heap_setCell _ _ _ _ (by omega)⟩
theorem Own.keepF {α:Type} {c:Cod α} {e:TypeId} {B:Nat} {w w':World} {v:Value} {xs:List α} (h:Own c e B w v xs []) (hk:Keep B w w'):Own c e B w' v xs [] :=
 h.keep (λg hg=>hk.block g (h.lt g hg).1 (h.lt g hg).2) (λb hb=>by simp at hb)
theorem Own.set_ {α:Type} {c:Cod α} {e:TypeId} {B:Nat} {w:World} {v:Value} {xs:List α} (h:Own c e B w v xs []) {p:Addr} (hp:Zac v≠some p.block) (u:Value):Own c e B (w.setCell p u) v xs [] :=
 h.keep (λg hg=>Below.heap_setCell _ _ _ _ (λe=>hp (e ▸ hg))) (λb hb=>by simp at hb)
section
variable {α:Type} {c:Cod α} {e:TypeId} {B:Nat} {v:Value} {xs ys:List α} {Fi Fy:List Nat} {P:Program} (w:World)
theorem Zer (t ty e:TypeId) (i:TypeInfo) (ht:P.underlying t=some (.slice e)) (hi:P.info? e=some i) (A D:Option Addr) (n cap d:Nat) (hn:n≤cap) :
  (Builtin.append_ #[t,t] ty #[.slice A n cap,.slice D 0 d]).run P w=.ok (.slice A n cap) w:=by
 cases A<;>cases D<;>simp[Builtin.append_,run_underlying ht,sizeOf,typeInfo,hi,Builtin.lenOf,Builtin.firstCells,hn,storeCells,loadCells,loadCellsFrom]
def AppSrc (c:Cod α) (w:World) (x:Value) (ys:List α) (Fy:List Nat):Prop :=
 ∃A d news,x=.slice A ys.length d∧c.reps w news ys Fy∧(0<ys.length→∃ad,A=some ad∧∀j u,news[j]?=some u→w.cell? (ad.add j)=some u)
theorem AppSrc.of_rep {hw:0<c.wd} {hw2:c.wd≤32} {x:Value} {F:List Nat} (h:(cL c hw hw2).rep w [x] ys F):∃Fy,AppSrc c w x ys Fy∧∀b,b∈Fy→b∈F:=by
 obtain⟨A,cp,hx,hl,hm,⟨rfl,rfl⟩|⟨hne,g,o,Fs,us,rfl,rfl,hc,hr⟩⟩:=h
 ·simp only[List.cons.injEq,and_true] at hx
  subst hx
  exact⟨[],⟨A,cp,[],rfl,⟨rfl,rfl⟩,λh=>by simp at h⟩,by simp⟩
 ·simp only[List.cons.injEq,and_true] at hx
  subst hx
  refine⟨Fs,⟨_,cp,us,rfl,hr,λ_=>⟨_,rfl,λj u hu=>?_⟩⟩,λb hb=>by simp[hb]⟩
  rw[Addr.add_lit];exact(hc j u hu).1
theorem ZpX (t ty:TypeId) (i:TypeInfo) (z:Value) (bytes:Nat) (ht:P.underlying t=some (.slice e)) (hi:P.info? e=some i) (hz:i.zero=some z)
  (hsize:i.size=c.wd) (hby:i.bytes=bytes) (hzs:z.cells.size=c.wd) (hw:0<c.wd)
  (hown:Own c e B w v xs Fi) (x:Value) (hx:AppSrc c w x ys Fy)
  (h63:xs.length+ys.length≤maxLen) (hbytes:(xs.length+ys.length)*bytes≤140737488355328) (hB:B≤w.heap.size)
  (hd:∀g,Zac v=some g→g∉Fi∧g∉Fy) :
  ∃v' w',(Builtin.append_ #[t,t] ty #[v,x]).run P w=.ok v' w'∧Own c e B w' v' (xs++ys) (Fi++Fy)∧w.grownBy w' (Zac v) ∧
   (∀g,Zac v'=some g→Zac v=some g∨w.heap.size≤g):=by
 obtain⟨A,d,news,rfl,hr,hA⟩:=hx
 cases ys with
 | nil =>
  obtain rfl:Fy=[]:=hr.2
  rcases hown.form with ⟨rfl,rfl,A',rfl⟩|⟨g,cap,cur,us,rfl,hBg,hg,hn,hm,hs,hu,ho,hro⟩
  ·exact⟨_,w,Zer w t ty e i ht hi A' A 0 0 d (Nat.le_refl _),.inl ⟨rfl,rfl,A',rfl⟩,World.grownBy.refl w _,λg h=>.inl h⟩
  ·exact⟨_,w,Zer w t ty e i ht hi _ A _ _ d hn,by simpa using hown,World.grownBy.refl w _,λg h=>.inl h⟩
 | cons y ys =>
  obtain⟨ad,rfl,hc⟩:=hA (by simp)
  have hl:=Cod.reps_len hr
  have h1:=Cod.reps_ones hr
  rcases hown.form with ⟨rfl,rfl,A',rfl⟩|⟨g,cap,cur,us,rfl,hBg,hg,hn,hm,hs,hu,ho,hro⟩
  ·have key:∃v' w',(Builtin.append_ #[t,t] ty #[.slice A' 0 0,.slice (some ad) (y::ys).length d]).run P w=.ok v' w'∧w'.ownsRow w.heap.size e c.wd v' (0+(y::ys).length) ([]++news)∧w.grownBy w' none:=by
    cases A' with
    | none =>
     obtain⟨v',w',k1,k2,k3,-⟩:=run_append_own (P:=P) w w.heap.size t ty e i z c.wd bytes ht hi hz hsize hby hzs hw (.slice none 0 0) 0 [] ⟨by simp,.inl ⟨rfl,rfl⟩⟩ ad (y::ys).length d news hl hc h1 (by simpa using h63) (by simpa using hbytes) (Nat.le_refl _)
     exact⟨v',w',k1,k2,k3⟩
    | some b =>
     exact run_append_arg_grows (P:=P) w t ty e i z c.wd bytes ht hi hz hsize hby hzs hw b 0 0 [] (by simp) (λj u h=>by simp at h) ad (y::ys).length d news hl hc (by simp) (by simpa using h63) (by simpa using hbytes)
   obtain⟨v',w',k1,k2,k3⟩:=key
   have hown':Own c e w.heap.size w' v' (y::ys) Fy:=by
    refine .inr ⟨news,by simpa using k2,Cod.reps_keep hr λb hb=>k3.block b (Cod.reps_lt hr b hb) (by simp)⟩
   refine⟨v',w',k1,by simpa using hown'.mono hB,by cases A'<;>exact k3,λg h=>.inr (hown'.lt g h).1⟩
  ·obtain⟨v',w',k1,k2,k3,-,k5⟩:=run_append_own_at (P:=P) w B t ty e i z c.wd bytes ht hi hz hsize hby hzs hw _ xs.length us ho ad (y::ys).length d news hl hc h1 h63 hbytes hB
   have hdg:=hd g rfl
   refine⟨v',w',k1,?_,k3,λg' h=>?_⟩
   ·refine .inr ⟨us++news,by rw[List.length_append];exact k2,Cod.reps_app (Cod.reps_keep hro λb hb=>k3.block b (Cod.reps_lt hro b hb) (λh=>?_)) (Cod.reps_keep hr λb hb=>k3.block b (Cod.reps_lt hr b hb) (λh=>?_))⟩
    ·simp only[Value.ownBlock,Option.some.injEq] at h;subst h;exact hdg.1 hb
    ·simp only[Value.ownBlock,Option.some.injEq] at h;subst h;exact hdg.2 hb
   ·have h2:=Zpc h
    rcases k5 with k5|k5
    ·rw[k5] at h2;exact .inl h2
    ·rw[k5,Option.some.injEq] at h2;exact .inr (by omega)
theorem ZpI {o:Oper} {a:Act} {K:Act→World→Prop} {Q:Exit→Act→World→Prop} (s x':Operand) (t:TypeId)
  (ho:o.op=.call { callee:=.builtin .append,args:=#[s,x'],argTypes:=#[t,t] })
  (i:TypeInfo) (z:Value) (bytes:Nat) (ht:P.underlying t=some (.slice e)) (hi:P.info? e=some i) (hz:i.zero=some z)
  (hsize:i.size=c.wd) (hby:i.bytes=bytes) (hzs:z.cells.size=c.wd) (hw:0<c.wd)
  (hs:a.eval s=v) (hown:Own c e B w v xs Fi) (x:Value) (hx':a.eval x'=x) (hx:AppSrc c w x ys Fy)
  (h63:xs.length+ys.length≤maxLen) (hbytes:(xs.length+ys.length)*bytes≤140737488355328) (hB:B≤w.heap.size)
  (hd:∀g,Zac v=some g→g∉Fi∧g∉Fy)
  (h:∀v' w',Own c e B w' v' (xs++ys) (Fi++Fy)→w.grownBy w' (Zac v)→(∀g,Zac v'=some g→Zac v=some g∨w.heap.size≤g)→K (a.put o.dst v') w'):o.wp P a w K Q:=by
 obtain⟨v',w',hrun,h2,h3,h4⟩:=ZpX (P:=P) w t o.type i z bytes ht hi hz hsize hby hzs hw hown x hx h63 hbytes hB hd
 unfold Oper.wp execOp
 simp only[ho,resolve,invoke,builtin,Sem.run_bind,Sem.run_pure,Result.andThen_ok,List.map_toArray,List.map_cons,List.map_nil,hs,hx',hrun]
 exact h v' w' h2 h3 h4
theorem Zl {ops:Array Oper} {rest:List Oper} {o:Oper} {a:Act} {Q:Exit→Act→World→Prop} (hgd:o.guard=none) (s x':Operand) (t:TypeId)
  (ho:o.op=.call { callee:=.builtin .append,args:=#[s,x'],argTypes:=#[t,t] })
  (i:TypeInfo) (z:Value) (bytes:Nat) (ht:P.underlying t=some (.slice e)) (hi:P.info? e=some i) (hz:i.zero=some z)
  (hsize:i.size=c.wd) (hby:i.bytes=bytes) (hzs:z.cells.size=c.wd) (hw:0<c.wd)
  (hs:a.eval s=v) (hown:Own c e B w v xs Fi) (x:Value) (hx':a.eval x'=x) (hx:AppSrc c w x ys Fy)
  (h63:xs.length+ys.length≤maxLen) (hbytes:(xs.length+ys.length)*bytes≤140737488355328) (hB:B≤w.heap.size)
  (hd:∀g,Zac v=some g→g∉Fi∧g∉Fy)
  (h:∀v' w',Own c e B w' v' (xs++ys) (Fi++Fy)→w.grownBy w' (Zac v)→(∀g,Zac v'=some g→Zac v=some g∨w.heap.size≤g)→wpList P ops Q rest (a.put o.dst v') w'):wpList P ops Q (o::rest) a w :=
 wpList_plain hgd λ_ hK=>ZpI w s x' t ho i z bytes ht hi hz hsize hby hzs hw hs hown x hx' hx h63 hbytes hB hd λv' w' h2 h3 h4=>hK _ _ (h v' w' h2 h3 h4)
theorem ZcA {ops:Array Oper} {o:Oper} {a:Act} {K:Act→World→Prop} {Q:Exit→Act→World→Prop} {E:Prop} (hgd:o.guard=none) (s x':Operand) (t:TypeId)
  (ho:o.op=.call { callee:=.builtin .append,args:=#[s,x'],argTypes:=#[t,t] })
  (i:TypeInfo) (z:Value) (bytes:Nat) (ht:P.underlying t=some (.slice e)) (hi:P.info? e=some i) (hz:i.zero=some z)
  (hsize:i.size=c.wd) (hby:i.bytes=bytes) (hzs:z.cells.size=c.wd) (hw:0<c.wd)
  (hs:a.eval s=v) (hown:Own c e B w v xs Fi) (x:Value) (hx':a.eval x'=x) (hx:AppSrc c w x ys Fy)
  (h63:xs.length+ys.length≤maxLen) (hbytes:(xs.length+ys.length)*bytes≤140737488355328) (hB:B≤w.heap.size)
  (hd:∀g,Zac v=some g→g∉Fi∧g∉Fy)
  (h:∀v' w',Own c e B w' v' (xs++ys) (Fi++Fy)→w.grownBy w' (Zac v)→(∀g,Zac v'=some g→Zac v=some g∨w.heap.size≤g)→K (a.put o.dst v') w') :
  if Region.wanted o (yielded ops a.tmps)=true then Oper.wp P o a w K Q else E:=by
 have hw':Region.wanted o (yielded ops a.tmps)=true:=by simp[Region.wanted,hgd]
 rw[if_pos hw']
 exact ZpI w s x' t ho i z bytes ht hi hz hsize hby hzs hw hs hown x hx' hx h63 hbytes hB hd h
end
def Flat {α:Type} (c:Cod α):Prop:=∀{w vs x F},c.rep w vs x F→F=[]
theorem Zpx:Flat cI:=λh=>h.2.1
theorem ZeN:Flat cU:=λh=>h.2
theorem Flat.reps {α:Type} {c:Cod α} (hf:Flat c) {w:World}:∀{us:List Value} {xs:List α} {F:List Nat},c.reps w us xs F→F=[]
 | us,[],F,h=>h.2
 | us,x::xs,F,⟨v1,v2,F1,F2,_,hF,h1,h2⟩=>by rw[hF,hf h1,Flat.reps hf h2];rfl
theorem AppSrc.flat {α:Type} {c:Cod α} {hw:0<c.wd} {hw2:c.wd≤32} (hf:Flat c) {w:World} {x:Value} {ys:List α} {F:List Nat} (h:(cL c hw hw2).rep w [x] ys F):AppSrc c w x ys []:=by
 obtain⟨Fy,h1,-⟩:=AppSrc.of_rep _ h
 obtain⟨A,d,news,e1,hr,hA⟩:=h1
 obtain rfl:=hf.reps hr
 exact⟨A,d,news,e1,hr,hA⟩
theorem Zgx {α:Type} {c:Cod α} {hw:0<c.wd} {hw2:c.wd≤32} {w:World} {A:Option Addr} {n cp:Nat} {xs:List α} {F:List Nat}
  (h:(cL c hw hw2).rep w [.slice A n cp] xs F) (k:Nat) (hk:k≤n):∃G,(cL c hw hw2).rep w [.slice (if cp=k then A else A.map (·.add (k*c.wd))) (n-k) (cp-k)] (xs.drop k) G∧(∀b,b∈G→b∈F)∧(F.Nodup→G.Nodup):=by
 obtain⟨A',cp',hv,hl,hm,hr⟩:=h
 simp only[List.cons.injEq,Value.slice.injEq,and_true] at hv
 obtain⟨rfl,rfl,rfl⟩:=hv
 have hlen:(xs.drop k).length=xs.length-k:=List.length_drop
 by_cases hd:xs.drop k=[]
 ·exact⟨[],⟨_,_,by rw[hlen],by rw[hlen];omega,by omega,.inl ⟨hd,rfl⟩⟩,by simp,by simp⟩
 ·rcases hr with ⟨rfl,-⟩|⟨hne,g,o,Fs,us,rfl,rfl,hc,hr⟩
  ·simp at hd
  ·rw[← List.take_append_drop k xs] at hr
   obtain⟨u1,u2,F1,F2,rfl,rfl,h1,h2⟩:=Cod.reps_cut hr
   have hl1:=Cod.reps_len h1
   rw[List.length_take,Nat.min_eq_left hk] at hl1
   have hpos:0<(xs.drop k).length:=List.length_pos_iff.2 hd
   refine⟨g::F2,⟨_,_,by rw[hlen],by rw[hlen];omega,by omega,.inr ⟨hd,g,o+k*c.wd,F2,u2,?_,rfl,?_,h2⟩⟩,λb hb=>?_,λhnd=>?_⟩
   ·rw[if_neg (by omega)];simp[Addr.add_lit]
   ·rw[← hl1];exact hc.right
   ·rcases List.mem_cons.1 hb with rfl|hb
    ·simp
    ·simp[hb]
   ·rw[List.nodup_cons,List.nodup_append] at hnd
    exact List.nodup_cons.2 ⟨λhm=>hnd.1 (by simp[hm]),hnd.2.2.1⟩
def cIS:Cod (List Int):=cL cI (by decide) (by decide)
theorem ZV (n lo hi:Int) (w:World):Calls Tryz.prog 114 #[.int .i64 n,.int .i64 lo,.int .i64 hi] w λe w'=>e=.returned (.bool (inR n lo hi))∧w=w':=by
 go_enter Tryz.func114,Tryz.ntmps114
 go_wp2
 all_goals go_ret
 all_goals refine⟨Zd ?_,rfl⟩
 all_goals (rw[Bool.eq_iff_iff];simp[inR];try omega)
theorem Zbf (n lo hi:Int) (w:World):Calls Tryz.prog 106 #[.int .i64 n,.int .i64 lo,.int .i64 hi] w λe w'=>e=.returned (.bool (inR n lo hi))∧w=w':=by
 go_enter Tryz.func106,Tryz.ntmps106
 go_wp2
 all_goals go_ret
 all_goals refine⟨Zd ?_,rfl⟩
 all_goals (rw[Bool.eq_iff_iff];simp[inR];try omega)
theorem Znc (s:ByteArray) (most:Int) (w:World) (hs:s.size≤maxLen) :
  Calls Tryz.prog 147 #[.string s,.int .i64 most,.bool false] w λe w'=>e=.returned (.bool (ZhR s most))∧w=w':=by
 unfold maxLen at hs
 go_enter Tryz.func147,Tryz.ntmps147
 go_wp2
 go_loop [7] (λi=>∃k:Nat,k≤s.size∧i=.int .i64 k∧Zgf s k=true) (λi=>s.size-(intOf i).toNat)
 case atStart=>exact⟨0,Nat.zero_le _,rfl,Zjo s⟩
 case round =>
  obtain⟨k,hk,rfl,hl⟩:=hrel
  have HL:=zh hl
  clear hl
  by_cases hlt:k<s.size
  ·have HS:=zh (Zgg s k hlt)
   by_cases c1:(s[k].toNat:Int)<97
   ·go_wp2_with (first|(go_at_call 114;refine(ZV _ _ _ _).mono ?_;rintro e w1 ⟨rfl,rfl⟩))
    go_ret
    exact⟨Zd (Zez hlt (Zms c1)).symm,rfl⟩
   ·by_cases c2:(122:Int)<s[k].toNat
    ·have c3:(97:Int)≤s[k].toNat:=by omega
     have c5:decide ((s[k].toNat:Int)≤122)=false:=by simp;omega
     go_wp2_with (first|(go_at_call 114;refine(ZV _ _ _ _).mono ?_;rintro e w1 ⟨rfl,rfl⟩))
     go_ret
     exact⟨Zd (Zez hlt (Zmr c2)).symm,rfl⟩
    ·have c3:(97:Int)≤s[k].toNat:=by omega
     have c4:(s[k].toNat:Int)≤122:=by omega
     go_wp2_with (first|(go_at_call 114;refine(ZV _ _ _ _).mono ?_;rintro e w1 ⟨rfl,rfl⟩))
     go_round
     case rel=>exact⟨k+1,by omega,by go_num,by rw[HS.out,HL.out,Zmt c3 c4];rfl⟩
     case measure=>simp[intOf];omega
  ·obtain rfl:k=s.size:=by omega
   go_wp2_with (first|(go_at_call 114;refine(ZV _ _ _ _).mono ?_;rintro e w1 ⟨rfl,rfl⟩))
   go_ret
   exact⟨Zd (Zji HL.out).symm,rfl⟩
theorem ZK (s:ByteArray) (w:World) (hs:s.size≤maxLen):Calls Tryz.prog 113 #[.string s] w λe w'=>e=.returned (.bool (Zaj s))∧w=w':=by
 go_enter Tryz.func113,Tryz.ntmps113
 go_wp2_with (first|(go_at_call 147;refine(Znc _ _ _ hs).mono ?_;rintro e w1 ⟨rfl,rfl⟩))
 go_ret
 exact⟨rfl,rfl⟩
theorem Zaa (s:ByteArray) (w:World) (hs:s.size≤maxLen):Calls Tryz.prog 104 #[.string s] w λe w'=>e=.returned (.bool (Zaj s))∧w=w':=by
 unfold maxLen at hs
 go_enter Tryz.func104,Tryz.ntmps104
 go_wp2
 go_loop [3] (λi=>∃k:Nat,k≤s.size∧i=.int .i64 k∧Zgf s k=true) (λi=>s.size-(intOf i).toNat)
 case atStart=>exact⟨0,Nat.zero_le _,rfl,Zjo s⟩
 case round =>
  obtain⟨k,hk,rfl,hl⟩:=hrel
  have HL:=zh hl
  clear hl
  by_cases hlt:k<s.size
  ·have HS:=zh (Zgg s k hlt)
   by_cases c1:(s[k].toNat:Int)<97
   ·go_wp2
    go_ret
    exact⟨Zd (Zez hlt (Zms c1)).symm,rfl⟩
   ·by_cases c2:(122:Int)<s[k].toNat
    ·have c3:(97:Int)≤s[k].toNat:=by omega
     go_wp2
     go_ret
     exact⟨Zd (Zez hlt (Zmr c2)).symm,rfl⟩
    ·have c3:(97:Int)≤s[k].toNat:=by omega
     have c4:(s[k].toNat:Int)≤122:=by omega
     go_wp2
     go_round
     case rel=>exact⟨k+1,by omega,by go_num,by rw[HS.out,HL.out,Zmt c3 c4];rfl⟩
     case measure=>simp[intOf];omega
  ·obtain rfl:k=s.size:=by omega
   go_wp2_with (first|(go_at_call 106;refine(Zbf _ _ _ _).mono ?_;rintro e w1 ⟨rfl,rfl⟩))
   go_ret
   exact⟨Zd (Zji HL.out).symm,rfl⟩
def cOpS:Cod (List TOp):=cL cOp (by decide) (by decide)
theorem opens_lOpS:Opens Tryz.prog 41 cOpS:=ZcK Tryz.underlying41 Zol (by kernel_rfl)
section
variable {w:World} {A:Option Addr} {n cp k:Nat} {F:List Nat}
theorem ZbS {xs:List TField} (h:cFieldS.rep w [.slice A n cp] xs F) (hk:k<xs.length):∃g o,A=some ⟨g,o,none⟩∧g∈F∧g<w.heap.size∧xs[k].Ok∧w.cell? ⟨g,o+k*2,none⟩=some (.string xs[k].name)∧w.cell? ⟨g,o+k*2+1,none⟩=some (.int .i64 xs[k].n):=by
 obtain⟨g,o,vs,F1,rfl,hg,hx,-,hc⟩:=ZN (hw:=by decide) (hw2:=by decide) h hk
 obtain⟨rfl,-,hok⟩:=TField.out hx
 exact⟨g,o,rfl,hg,Cod.lt _ h g hg,hok,(hc 0 _ rfl).1,(hc 1 _ rfl).1⟩
theorem Zky {xs:List TIdx} (h:cIdxS.rep w [.slice A n cp] xs F) (hk:k<xs.length):∃g o,A=some ⟨g,o,none⟩∧g∈F∧g<w.heap.size∧xs[k].Ok∧w.cell? ⟨g,o+k*2,none⟩=some (.string xs[k].store)∧w.cell? ⟨g,o+k*2+1,none⟩=some (.string xs[k].field):=by
 obtain⟨g,o,vs,F1,rfl,hg,hx,-,hc⟩:=ZN (hw:=by decide) (hw2:=by decide) h hk
 obtain⟨rfl,-,hok⟩:=TIdx.out hx
 exact⟨g,o,rfl,hg,Cod.lt _ h g hg,hok,(hc 0 _ rfl).1,(hc 1 _ rfl).1⟩
theorem ZaO {xs:List TItem} (h:cItemS.rep w [.slice A n cp] xs F) (hk:k<xs.length):∃g o A3 c3 F3,A=some ⟨g,o,none⟩∧g∈F∧g<w.heap.size∧xs[k].Ok∧w.cell? ⟨g,o+k*4,none⟩=some (.int .i64 xs[k].key.kind)∧w.cell? ⟨g,o+k*4+1,none⟩=some (.int .i64 xs[k].key.n)∧w.cell? ⟨g,o+k*4+2,none⟩=some (.string xs[k].key.text)∧w.cell? ⟨g,o+k*4+3,none⟩=some (.slice A3 xs[k].rcd.fields.length c3)∧cFieldS.rep w [.slice A3 xs[k].rcd.fields.length c3] xs[k].rcd.fields F3∧(∀b,b∈F3→b∈F):=by
 obtain⟨g,o,vs,F1,rfl,hg,hx,hs,hc⟩:=ZN (hw:=by decide) (hw2:=by decide) h hk
 obtain⟨v3,F3,rfl,rfl,hok,hr⟩:=TItem.out hx
 obtain⟨A3,c3,rfl⟩:=Zb hr
 exact⟨g,o,A3,c3,F1,rfl,hg,Cod.lt _ h g hg,hok,(hc 0 _ rfl).1,(hc 1 _ rfl).1,(hc 2 _ rfl).1,(hc 3 _ rfl).1,hr,hs⟩
theorem ZcC {xs:List TStore} (h:cStoreS.rep w [.slice A n cp] xs F) (hk:k<xs.length):∃g o A3 c3 F3,A=some ⟨g,o,none⟩∧g∈F∧g<w.heap.size∧xs[k].Ok∧w.cell? ⟨g,o+k*3,none⟩=some (.string xs[k].name)∧w.cell? ⟨g,o+k*3+1,none⟩=some (.slice A3 xs[k].items.length c3)∧w.cell? ⟨g,o+k*3+2,none⟩=some (.int .i64 xs[k].auto)∧cItemS.rep w [.slice A3 xs[k].items.length c3] xs[k].items F3∧(∀b,b∈F3→b∈F):=by
 obtain⟨g,o,vs,F1,rfl,hg,hx,hs,hc⟩:=ZN (hw:=by decide) (hw2:=by decide) h hk
 obtain⟨v3,F3,rfl,rfl,hok,hr⟩:=TStore.out hx
 obtain⟨A3,c3,rfl⟩:=Zb hr
 exact⟨g,o,A3,c3,F1,rfl,hg,Cod.lt _ h g hg,hok,(hc 0 _ rfl).1,(hc 1 _ rfl).1,(hc 2 _ rfl).1,hr,hs⟩
theorem Zoi {xs:List TOp} (h:cOpS.rep w [.slice A n cp] xs F) (hk:k<xs.length):∃g o A3 c3 F3,A=some ⟨g,o,none⟩∧g∈F∧g<w.heap.size∧xs[k].Ok∧w.cell? ⟨g,o+k*7,none⟩=some (.int .i64 xs[k].kind)∧w.cell? ⟨g,o+k*7+1,none⟩=some (.string xs[k].store)∧w.cell? ⟨g,o+k*7+2,none⟩=some (.int .i64 xs[k].key.kind)∧w.cell? ⟨g,o+k*7+3,none⟩=some (.int .i64 xs[k].key.n)∧w.cell? ⟨g,o+k*7+4,none⟩=some (.string xs[k].key.text)∧w.cell? ⟨g,o+k*7+5,none⟩=some (.slice A3 xs[k].rcd.fields.length c3)∧w.cell? ⟨g,o+k*7+6,none⟩=some (.string xs[k].field)∧cFieldS.rep w [.slice A3 xs[k].rcd.fields.length c3] xs[k].rcd.fields F3∧(∀b,b∈F3→b∈F):=by
 obtain⟨g,o,vs,F1,rfl,hg,hx,hs,hc⟩:=ZN (hw:=by decide) (hw2:=by decide) h hk
 obtain⟨v3,F3,rfl,rfl,hok,hr⟩:=TOp.out hx
 obtain⟨A3,c3,rfl⟩:=Zb hr
 exact⟨g,o,A3,c3,F1,rfl,hg,Cod.lt _ h g hg,hok,(hc 0 _ rfl).1,(hc 1 _ rfl).1,(hc 2 _ rfl).1,(hc 3 _ rfl).1,(hc 4 _ rfl).1,(hc 5 _ rfl).1,(hc 6 _ rfl).1,hr,hs⟩
theorem ZjJ {xs:List UInt8} (h:cUS.rep w [.slice A n cp] xs F) (hk:k<xs.length):∃g o,A=some ⟨g,o,none⟩∧g∈F∧g<w.heap.size∧w.cell? ⟨g,o+k,none⟩=some (.int .u8 (xs[k].toNat:Int)):=by
 obtain⟨g,o,vs,F1,rfl,hg,hx,-,hc⟩:=ZN (hw:=by decide) (hw2:=by decide) h hk
 obtain⟨rfl,-⟩:=hx
 exact⟨g,o,rfl,hg,Cod.lt _ h g hg,(by have h1:=(hc 0 _ rfl).1;rwa [show (cU).wd=1 from rfl,Nat.mul_one,Nat.add_zero] at h1)⟩
end
theorem Zgc:(Tryz.prog.info? 3).map (λi=>(i.zero,i.size,i.bytes))=some (some (Value.int .i64 0),1,8):=by kernel_rfl
def ZdQ (d x:Int):Int:=(d*1000003+x % 2147483647+13) % 2147483647
def Zhe (l:List Int):Int:=l.foldl ZdQ 11
theorem Zfc (l:List Int):0≤Zhe l∧Zhe l<2147483647:=by
 have:∀(l:List Int) (d:Int),0≤d∧d<2147483647→0≤l.foldl ZdQ d∧l.foldl ZdQ d<2147483647:=by
  intro l
  induction l with
  | nil=>exact λd h=>h
  | cons x l ih=>exact λd h=>ih _ (by unfold ZdQ;omega)
 exact this l 11 (by omega)
theorem Zjg {l:List Int} {k:Nat} (h:k<l.length):Zhe (l.take (k+1))=ZdQ (Zhe (l.take k)) l[k]:=by
 unfold Zhe
 rw[List.take_succ_eq_append_getElem h,List.foldl_append];rfl
def ZaG (b:List UInt8):List Int:=(b.length:Int)::b.map λx=>(x.toNat:Int)
theorem Zpi (n:Int):(n.tmod 2147483647+2147483647).tmod 2147483647=n % 2147483647:=by
 rcases Int.le_total 0 n with h|h
 ·rw[Int.tmod_eq_emod_of_nonneg h,Int.tmod_eq_emod_of_nonneg (by omega)];omega
 ·have h1:n.tmod 2147483647=-((-n) % 2147483647):=by rw[← Int.tmod_eq_emod_of_nonneg (by omega:0≤-n),Int.neg_tmod,Int.neg_neg]
  rw[h1,Int.tmod_eq_emod_of_nonneg (by omega)];omega
theorem Zpj {n:Int} (h:n.tmod 2147483647<0):n.tmod 2147483647+2147483647=n % 2147483647:=by
 rcases Int.le_total 0 n with h0|h0
 ·rw[Int.tmod_eq_emod_of_nonneg h0] at h;omega
 ·have h1:n.tmod 2147483647=-((-n) % 2147483647):=by rw[← Int.tmod_eq_emod_of_nonneg (by omega:0≤-n),Int.neg_tmod,Int.neg_neg]
  rw[h1] at h⊢;omega
theorem Zpk {n:Int} (h:¬n.tmod 2147483647<0):n.tmod 2147483647=n % 2147483647:=by
 rcases Int.le_total 0 n with h0|h0
 ·rw[Int.tmod_eq_emod_of_nonneg h0]
 ·have h1:n.tmod 2147483647=-((-n) % 2147483647):=by rw[← Int.tmod_eq_emod_of_nonneg (by omega:0≤-n),Int.neg_tmod,Int.neg_neg]
  rw[h1] at h⊢;omega
theorem ZiD (n:Int):-2147483647<n.tmod 2147483647∧n.tmod 2147483647<2147483647:=by
 rcases Int.le_total 0 n with h0|h0
 ·rw[Int.tmod_eq_emod_of_nonneg h0];omega
 ·have h1:n.tmod 2147483647=-((-n) % 2147483647):=by rw[← Int.tmod_eq_emod_of_nonneg (by omega:0≤-n),Int.neg_tmod,Int.neg_neg]
  rw[h1];omega
theorem ZlQ (n:Int) (w:World) (hn:-9223372036854775808≤n∧n≤9223372036854775807) :
  Calls Tryz.prog 145 #[.int .i64 n,.int .i64 2147483647] w λe w'=>e=.returned (.int .i64 (n % 2147483647))∧w=w':=by
 have h1:=ZiD n
 have h2:=Zpi n
 obtain⟨q,hq⟩:∃q,n.tmod 2147483647=q:=⟨_,rfl⟩
 rw[hq] at h1 h2
 go_enter Tryz.func145,Tryz.ntmps145
 go_wp2_with (first|(go_at_call 106;refine(Zbf _ _ _ _).mono ?_;rintro e w1 ⟨rfl,rfl⟩))
 all_goals go_ret
 all_goals (first|exact⟨Zh h2,rfl⟩|(simp_all [inR];done)|skip)
theorem ZlB (n:Int) (w:World) (hn:-9223372036854775808≤n∧n≤9223372036854775807) :
  Calls Tryz.prog 160 #[.int .i64 n,.int .i64 2147483647] w λe w'=>e=.returned (.int .i64 (n % 2147483647))∧w=w':=by
 have h1:=ZiD n
 have h2:=@Zpj n
 have h3:=@Zpk n
 obtain⟨q,hq⟩:∃q,n.tmod 2147483647=q:=⟨_,rfl⟩
 rw[hq] at h1 h2 h3
 by_cases hneg:q<0
 ·have h4:=h2 hneg
  clear h2 h3
  go_enter Tryz.func160,Tryz.ntmps160
  go_wp2_with (first|(go_at_call 114;refine(ZV _ _ _ _).mono ?_;rintro e w1 ⟨rfl,rfl⟩))
  all_goals go_ret
  all_goals (first|exact⟨Zh h4,rfl⟩|(simp_all [inR];done)|skip)
 ·have h4:=h3 hneg
  clear h2 h3
  go_enter Tryz.func160,Tryz.ntmps160
  go_wp2_with (first|(go_at_call 114;refine(ZV _ _ _ _).mono ?_;rintro e w1 ⟨rfl,rfl⟩))
  all_goals go_ret
  all_goals (first|exact⟨Zh h4,rfl⟩|(simp_all [inR];done)|skip)
theorem Own.of_new {α:Type} {c:Cod α} {w:World} {vs:Array Value} {xs:List α} {F:List Nat} (T:TypeId) (n:Nat) (hn:n=xs.length) (hc:0<n) (hm:n≤maxLen) (hs:vs.size=n*c.wd) (h:c.reps (w.alloc (.cells vs T)) vs.toList xs F) :
  Own c T w.heap.size (w.alloc (.cells vs T)) (.slice (some ⟨w.heap.size,0,none⟩) n n) xs F:=by
 subst hn
 refine .inr ⟨vs.toList,⟨by simpa using hs,.inr ⟨w.heap.size,xs.length,vs,rfl,Nat.le_refl _,heap_alloc_new w _,Nat.le_refl _,hm,hs,?_⟩⟩,h⟩
 rw[List.take_of_length_le (by simpa using Nat.le_of_eq hs)]
theorem ZpW {w:World} {n:Int} (h:-9223372036854775808≤n∧n≤9223372036854775807):cI.reps w (#[Value.int .i64 n]:Array Value).toList [n] []:=Cod.reps_one ⟨rfl,rfl,h.1,h.2⟩
theorem Zld (v:Value) (xs:List Int) (F:List Nat) (w:World) (h:cIS.rep w [v] xs F) (hn:xs.length≤8000000) :
  Calls Tryz.prog 110 #[v] w λe w'=>e=.returned (.int .i64 (Zhe xs))∧w=w':=by
 obtain⟨A,cp,rfl⟩:=Zb h
 obtain⟨-,hcp,hm⟩:=Zq h
 unfold maxLen at hm
 obtain⟨n,hxn⟩:∃n,xs.length=n:=⟨_,rfl⟩
 have HN:=zh hxn
 rw[hxn] at h hcp hn⊢
 clear hxn
 go_enter Tryz.func110,Tryz.ntmps110
 go_wp2
 go_loopw [3,4] (λa i wr=>∃k:Nat,k≤n∧i=.int .i64 k∧(∃d:Int,a=.int .i64 d∧d=Zhe (xs.take k))∧wr=w) (λ_ i _=>n-(intOf i).toNat)
 case atStart=>exact⟨0,Nat.zero_le _,rfl,⟨11,rfl,rfl⟩,rfl⟩
 case round =>
  obtain⟨k,hk,rfl,⟨d,rfl,hd⟩,rfl⟩:=hrel
  have hr:=Zfc (xs.take k)
  rw[← hd] at hr
  by_cases hlt:k<n
  ·have hkx:k<xs.length:=by rw[HN.out];exact hlt
   obtain⟨g,o,vs,F1,rfl,hgF,⟨rfl,-,hx1,hx2⟩,-,hc⟩:=ZN (hw:=by decide) (hw2:=by decide) h hkx
   have q0:=(hc 0 _ rfl).1
   rw[show cI.wd=1 from rfl,Nat.mul_one,Nat.add_zero] at q0
   have hki:(k:Int)<(n:Int):=by omega
   have hs:=Zjg hkx
   rw[← hd] at hs
   have HS:=zh hs
   have hxb:-9223372036854775808≤xs[k]∧xs[k]≤9223372036854775807:=⟨hx1,hx2⟩
   have hmb:0≤xs[k] % 2147483647∧xs[k] % 2147483647<2147483647:=by omega
   have he:(d*1000003+xs[k] % 2147483647+13).tmod 2147483647=ZdQ d xs[k]:=by rw[Int.tmod_eq_emod_of_nonneg (by omega)];rfl
   have hw1:IntKind.i64.wrap (d*1000003)=d*1000003:=IntWalk.i64_in _ (by omega)
   clear hc hs hd
   obtain⟨xk,hxk⟩:∃xk,xs[k]=xk:=⟨_,rfl⟩
   rw[hxk] at q0 hxb hmb he HS
   clear hxk hx1 hx2
   obtain⟨mk,hmk⟩:∃mk,xk % 2147483647=mk:=⟨_,rfl⟩
   have HM:=zh hmk
   rw[hmk] at hmb he
   clear hmk
   go_wp2_with (go_at_call 145;refine(ZlQ _ _ hxb).mono ?_;rw[HM.out];rintro e w1 ⟨rfl,rfl⟩)
   go_roundw
   case rel=>exact⟨k+1,by omega,by go_num,⟨_,rfl,by first|rw[he,HS.out]|(rw[HS.out,← he])⟩,by first|rfl|trivial⟩
   case measure=>simp[intOf];omega
  ·obtain rfl:k=n:=by omega
   have HD:=zh (show d=Zhe xs by rw[hd,List.take_of_length_le (by rw[HN.out];exact Nat.le_refl _)])
   clear hd
   go_wp2
   go_ret
   exact⟨Zh HD.out,rfl⟩
theorem ZkA (v:Value) (xs:List Int) (F:List Nat) (w:World) (h:cIS.rep w [v] xs F) (hn:xs.length≤8000000) :
  Calls Tryz.prog 123 #[v] w λe w'=>e=.returned (.int .i64 (Zhe xs))∧w=w':=by
 obtain⟨A,cp,rfl⟩:=Zb h
 obtain⟨-,hcp,hm⟩:=Zq h
 unfold maxLen at hm
 obtain⟨n,hxn⟩:∃n,xs.length=n:=⟨_,rfl⟩
 have HN:=zh hxn
 rw[hxn] at h hcp hn⊢
 clear hxn
 go_enter Tryz.func123,Tryz.ntmps123
 go_wp2
 go_loopw [3,8] (λa i wr=>∃k:Nat,k≤n∧i=.int .i64 k∧(∃d:Int,a=.int .i64 d∧d=Zhe (xs.take k))∧wr=w) (λ_ i _=>n-(intOf i).toNat)
 case atStart=>exact⟨0,Nat.zero_le _,rfl,⟨11,rfl,rfl⟩,rfl⟩
 case round =>
  obtain⟨k,hk,rfl,⟨d,rfl,hd⟩,rfl⟩:=hrel
  have hr:=Zfc (xs.take k)
  rw[← hd] at hr
  by_cases hlt:k<n
  ·have hkx:k<xs.length:=by rw[HN.out];exact hlt
   obtain⟨g,o,vs,F1,rfl,hgF,⟨rfl,-,hx1,hx2⟩,-,hc⟩:=ZN (hw:=by decide) (hw2:=by decide) h hkx
   have q0:=(hc 0 _ rfl).1
   rw[show cI.wd=1 from rfl,Nat.mul_one,Nat.add_zero] at q0
   have hki:(k:Int)<(n:Int):=by omega
   have hs:=Zjg hkx
   rw[← hd] at hs
   have HS:=zh hs
   have hxb:-9223372036854775808≤xs[k]∧xs[k]≤9223372036854775807:=⟨hx1,hx2⟩
   have hmb:0≤xs[k] % 2147483647∧xs[k] % 2147483647<2147483647:=by omega
   have he:(d*1000003+xs[k] % 2147483647+13).tmod 2147483647=ZdQ d xs[k]:=by rw[Int.tmod_eq_emod_of_nonneg (by omega)];rfl
   have hw1:IntKind.i64.wrap (d*1000003)=d*1000003:=IntWalk.i64_in _ (by omega)
   clear hc hs hd
   obtain⟨xk,hxk⟩:∃xk,xs[k]=xk:=⟨_,rfl⟩
   rw[hxk] at q0 hxb hmb he HS
   clear hxk hx1 hx2
   obtain⟨mk,hmk⟩:∃mk,xk % 2147483647=mk:=⟨_,rfl⟩
   have HM:=zh hmk
   rw[hmk] at hmb he
   clear hmk
   go_wp2_with (go_at_call 160;refine(ZlB _ _ hxb).mono ?_;rw[HM.out];rintro e w1 ⟨rfl,rfl⟩)
   go_roundw
   case rel=>exact⟨k+1,by omega,by go_num,⟨_,rfl,by first|rw[he,HS.out]|(rw[HS.out,← he])⟩,by first|rfl|trivial⟩
   case measure=>simp[intOf];omega
  ·obtain rfl:k=n:=by omega
   have HD:=zh (show d=Zhe xs by rw[hd,List.take_of_length_le (by rw[HN.out];exact Nat.le_refl _)])
   clear hd
   go_wp2
   go_ret
   exact⟨Zh HD.out,rfl⟩
theorem Zql (w:World):∀l:List UInt8,cU.reps w (l.map λb=>Value.int .u8 (b.toNat:Int)) l []
 | []=>⟨rfl,rfl⟩
 | b::l=>⟨[_],_,[],[],rfl,rfl,⟨rfl,rfl⟩,Zql w l⟩
theorem ZoQ (w:World) (s:ByteArray) (hs:s.size≤maxLen):∃cp w' F,Sem.run Tryz.prog (convert 9 26 (.string s)) w=.ok (.slice (some ⟨w.heap.size,0,none⟩) s.size cp) w'∧Below w.heap.size w w' ∧
  cUS.rep w' [.slice (some ⟨w.heap.size,0,none⟩) s.data.toList.length cp] s.data.toList F:=by
 have hlen:s.data.toList.length=s.size:=(Array.length_toList:s.data.toList.length=s.data.size)
 have hle:=grownCap_ge w s.size 0 5
 have hcm:=grownCap_le_maxLen w s.size 0 5 hs
 refine⟨grownCap w s.size 0 5,_,if s.data.toList=[] then [] else [w.heap.size],run_bytes_of_string (P:=Tryz.prog) w _ _ _ s Tryz.underlying9 Tryz.underlying26 Tryz.underlying5,ZM (Below.refl _ _).drew _,?_⟩
 by_cases h0:s.data.toList=[]
 ·rw[if_pos h0]
  rw[h0]
  exact⟨_,_,rfl,Nat.zero_le _,hcm,.inl ⟨rfl,rfl⟩⟩
 ·rw[if_neg h0]
  refine⟨_,_,rfl,by rw[hlen];exact hle,hcm,.inr ⟨h0,w.heap.size,0,[],_,rfl,rfl,λj u hu=>?_,Zql _ _⟩⟩
  have hj:j<s.data.size:=by
   have:=(List.getElem?_eq_some_iff.1 hu).1
   simpa using this
  have hu2:u=.int .u8 (s.data[j].toNat:Int):=by
   rw[List.getElem?_map] at hu
   simp at hu
   obtain⟨a,ha,hau⟩:=hu
   rw[Array.getElem?_eq_getElem hj,Option.some.injEq] at ha
   rw[← hau,← ha]
  subst hu2
  have hh:(w.drew.alloc (.cells (bytesRow s (grownCap w s.size 0 5)) 5 ((bytesRow s (grownCap w s.size 0 5)).size,(bytesRow s (grownCap w s.size 0 5)).size+1))).heap[w.heap.size]?=some (.cells (bytesRow s (grownCap w s.size 0 5)) 5 ((bytesRow s (grownCap w s.size 0 5)).size,(bytesRow s (grownCap w s.size 0 5)).size+1)):=heap_alloc_new w.drew _
  have hbs:j<(bytesRow s (grownCap w s.size 0 5)).size:=by
   have h9:=bytesRow_at s (grownCap w s.size 0 5) j hj
   exact(Array.getElem?_eq_some_iff.1 h9).1
  refine⟨?_,?_⟩
  ·rw[cell_of_row _ w.heap.size (0+j) _ _ _ hh,Nat.zero_add]
   exact bytesRow_at s _ j hj
  ·unfold World.frozen?
   rw[hh]
   simp;omega
end Go.Proofs.YtghndifnohkokaaGreat
