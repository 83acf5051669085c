/-
  DbO of the seat. No conditions but sizes.
-/
import Derived.Test.YtghndifnohkokaaGreatZBase
import Derived.Test.YtghndifnohkokaaGreatZOpsPlain
import Derived.Test.YtghndifnohkokaaGreatZInsFn
namespace Go.Proofs.YtghndifnohkokaaGreat
open Go.ChangeShapes Go.WideShapes Go.RowKit
set_option linter.unusedVariables false
set_option linter.unusedSimpArgs false
set_option maxRecDepth 100000
set_option maxHeartbeats 16000000
theorem ZkF:(Tryz.prog.info? 124).map (λi=>(i.zero,i.size,i.bytes))=some (some (Value.agg #[.string ByteArray.empty,.slice none 0 0,.int .i64 0]),3,48):=by kernel_rfl
theorem ZnT:(Tryz.prog.info? 133).map (λi=>(i.zero,i.size,i.bytes))=some (some (Value.agg #[.string ByteArray.empty,.string ByteArray.empty]),2,32):=by kernel_rfl
theorem Zmm:Flat cIdx:=λh=>by obtain⟨-,h,-⟩:=TIdx.out h;exact h
def cItemsO:Cod (List TItem):=cO cItem 162 (by decide)
def cStoreO:Cod TStore:=cM (cP cS (cP cItemsO cI)) (λx=>(x.name,x.items,x.auto)) (λa=>⟨a.1,a.2.1,a.2.2⟩) (λ_=>rfl)
def cStoresO:Cod (List TStore):=cO cStore 124 (by decide)
def cDbO:Cod TDb:=cM (cP cS (cP cI (cP cStoresO cIdxS))) (λx=>(x.name,x.ver,x.stores,x.uniq)) (λa=>⟨a.1,a.2.1,a.2.2.1,a.2.2.2⟩) (λ_=>rfl)
theorem weak_items:Weak cItemsO cItemS:=Weak.own (Weak.refl _)
theorem weak_store:Weak cStoreO cStore:=Weak.map (Weak.pair (Weak.refl _) (Weak.pair weak_items (Weak.refl _)))
theorem weak_stores:Weak cStoresO cStoreS:=Weak.own (Weak.refl _)
theorem TStore.outO {w:World} {vs:Array Value} {x:TStore} {F:List Nat} (h:cStoreO.rep w vs.toList x F) :
  ∃A cp,vs=#[.string x.name,.slice A x.items.length cp,.int .i64 x.auto]∧x.Ok∧cItemsO.rep w [.slice A x.items.length cp] x.items F:=by
 obtain⟨a0,b0,G0,H0,hv,rfl,⟨rfl,rfl,h0⟩,a1,b1,G1,H1,rfl,rfl,h1,rfl,rfl,h2⟩:=h
 obtain⟨v,Fi,rfl,ho,rfl⟩:=h1
 obtain⟨A,cp,rfl⟩:=ho.slice
 exact⟨A,cp,Array.toList_inj.1 hv,⟨h0,h2⟩,by simpa using ⟨_,Fi,rfl,ho,rfl⟩⟩
theorem TStore.mkO {w:World} {x:TStore} {v1:Value} {F1:List Nat} (h:x.Ok) (k1:cItemsO.rep w [v1] x.items F1):cStoreO.rep w [Value.string x.name,v1,.int .i64 x.auto] x F1 :=
 ⟨[_],_,[],F1,rfl,by simp,⟨rfl,rfl,h.h0⟩,[_],[_],F1,[],rfl,by simp,k1,rfl,rfl,h.h2⟩
theorem TDb.outO {w:World} {vs:Array Value} {x:TDb} {F:List Nat} (h:cDbO.rep w vs.toList x F) :
  ∃A cp B cq F2 F3,vs=#[.string x.name,.int .i64 x.ver,.slice A x.stores.length cp,.slice B x.uniq.length cq]∧x.Ok∧F=F2++F3∧cStoresO.rep w [.slice A x.stores.length cp] x.stores F2∧cIdxS.rep w [.slice B x.uniq.length cq] x.uniq F3:=by
 obtain⟨a0,b0,G0,H0,hv,rfl,⟨rfl,rfl,h0⟩,a1,b1,G1,H1,rfl,rfl,⟨rfl,rfl,h1⟩,a2,b2,G2,H2,rfl,rfl,h2,h3⟩:=h
 obtain⟨v,Fi,rfl,ho,rfl⟩:=h2
 obtain⟨A,cp,rfl⟩:=ho.slice
 obtain⟨B,cq,e,k3⟩:=h3
 subst e
 exact⟨A,cp,B,cq,_,H2,Array.toList_inj.1 hv,⟨h0,h1⟩,by simp,⟨_,Fi,rfl,ho,rfl⟩,B,cq,rfl,k3⟩
theorem TDb.mkO {w:World} {x:TDb} {v2 v3:Value} {F2 F3:List Nat} (h:x.Ok) (k2:cStoresO.rep w [v2] x.stores F2) (k3:cIdxS.rep w [v3] x.uniq F3):cDbO.rep w [Value.string x.name,.int .i64 x.ver,v2,v3] x (F2++F3) :=
 ⟨[_],_,[],F2++F3,rfl,by simp,⟨rfl,rfl,h.h0⟩,[_],_,[],F2++F3,rfl,by simp,⟨rfl,rfl,h.h1⟩,[_],[_],F2,F3,rfl,rfl,k2,k3⟩
def ZiY (x:TItem):Prop:=x.rcd.fields.length≤1048576
def ZcE (s:TStore):Prop:=s.items.length≤1048576∧∀x,x∈s.items→ZiY x
def Zbl (d:TDb):Prop:=d.stores.length≤1048576∧d.uniq.length≤1048576∧∀s,s∈d.stores→ZcE s
theorem ZcR {r:TRec} (h:Ze r=true):r.fields.length≤6:=by
 obtain⟨-,-,h3⟩:=(Zbm r).1 h
 exact h3
theorem Zbw {s:TStore} (h:Zs s=true):ZcE s:=by
 obtain⟨h1,-,h3,-⟩:=(ZbW s).1 h
 exact⟨by omega,λx hx=>by have:=ZcR (h1.ok x hx).2;unfold ZiY;omega⟩
theorem ZjM {d:TDb} (h:Zi d=true):Zaj d.name=true∧d.stores.length≤4∧d.uniq.length≤4∧Zbo (Zbx d.stores) d.stores.length=true∧Zbo (Zdm d) d.uniq.length=true:=by
 unfold Zi at h
 simp only[Bool.and_eq_true,decide_eq_true_eq] at h
 obtain⟨⟨⟨⟨⟨h1,-⟩,h2⟩,h3⟩,h4⟩,h5⟩:=h
 exact⟨h1,by omega,by omega,h4,h5⟩
theorem Zew {d:TDb} (h:Zi d=true) {k:Nat} (hk:k<d.stores.length):Zs d.stores[k]=true:=by
 have h1:=ZdB (ZjM h).2.2.2.1 hk
 unfold Zbx at h1
 rw[List.getElem?_eq_getElem hk] at h1
 simp only[Bool.and_eq_true] at h1
 exact h1.1
theorem Zke {d:TDb} (h:Zi d=true):Zbl d:=by
 obtain⟨-,h2,h3,-,-⟩:=ZjM h
 refine⟨by omega,by omega,λs hs=>?_⟩
 obtain⟨k,hk,rfl⟩:=List.getElem_of_mem hs
 exact Zbw (Zew h hk)
end Go.Proofs.YtghndifnohkokaaGreat
