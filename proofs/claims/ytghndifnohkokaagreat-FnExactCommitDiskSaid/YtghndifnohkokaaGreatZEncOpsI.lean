import Derived.Test.YtghndifnohkokaaGreatZEncOpsP
namespace Go.Proofs.YtghndifnohkokaaGreat
open Go.ChangeShapes Go.WideShapes Go.RowKit
set_option linter.unusedVariables false
set_option linter.unusedSimpArgs false
set_option maxRecDepth 100000
set_option maxHeartbeats 16000000
theorem ZdD (vl:Value) (l:List TOp) (FL:List Nat) (w:World) (hl:cOpS.rep w [vl] l FL) (hln:l.length≤1048576) :
  Calls Tryz.prog 38 #[vl] w (Zeh cU 5 w (Zn l)):=by
 obtain⟨LA,lc,rfl⟩:=Zb hl;obtain⟨-,hlc,hm⟩:=Zq hl
 unfold maxLen at hm
 obtain⟨n,hxn⟩:∃n,l.length=n:=⟨_,rfl⟩
 have HN:=zh hxn;rw[hxn] at hlc hl hln⊢
 clear hxn;go_enter Tryz.func38,Tryz.ntmps38
 go_wp2_with fail;refine(ZmS _ l FL _ (by exact hl)).mono ?_
 cases e0:ZdC l
 ·have HE:=zh (show Zn l=[] by unfold Zn;rw[e0];rfl)
  rintro e w1 ⟨rfl,hb1⟩;go_wp2_with fail;go_ret
  exact⟨_,rfl,bl,by rw[HE.out];exact Own.empty _⟩
 rintro e w1 ⟨rfl,hb1⟩;have hbw1:Below w.heap.size w w1:=hb1
 have hzw1:=hbw1.size
 have ⟨hall,h6⟩:l.all ZdR=true∧(n:Int)≤6:=by
  unfold ZdC at e0
  simp only[Bool.and_eq_true,decide_eq_true_eq,HN.out] at e0
  exact e0
 have HALL:=zh (show ∀j (hj:j<l.length),ZdR l[j]=true from λj hj=>by rw[List.all_eq_true] at hall;exact hall _ (List.getElem_mem hj))
 have HE:=zh (show Zn l=ZJ n++ZiI l n by rw[ZnO hall (by rw[HN.out];exact h6),HN.out])
 clear hall e0 hb1;go_wp2_with fail;refine(ZR _ [] n _ _ (by exact ZbQ _ _) (by simp)).mono ?_
 rw[Zhk [] (by omega),List.nil_append]
 rintro e w2 ⟨v2,rfl,hb2,ho2⟩;have hB2:Below w.heap.size w w2:=Za hbw1 (zt hb2)
 have HO2:=zh (ho2.mono (show w.heap.size≤_ by (try simp);(try omega)))
 clear ho2 hb2;have hul:=Zax 5 n (by omega)
 have hup:=ZfR n;generalize hxu:ZJ n=xu at *
 have HXU:=zh hxu;clear hxu;go_wp2_with fail;go_loopw [3,17] (λout i wr=>∃k:Nat,k≤n∧i=.int .i64 k∧Own cU 5 w.heap.size wr out (xu++ZiI l k) []∧Below w.heap.size w wr) (λ_ i _=>n-(intOf i).toNat)
 case atStart=>exact⟨0,Nat.zero_le _,rfl,by rw[Zic,List.append_nil];exact HO2.out,hB2⟩
 case round =>
  obtain⟨k,hk,rfl,hown,hbw⟩:=hrel;obtain⟨Ak,dk,e9⟩:=hown.slice;subst e9;have hol:=Zho (l:=l) (k:=k) (by rw[HN.out];omega) (λj hj _=>HALL.out j hj)
  have hfl:(xu++ZiI l k).length≤210000010:=by rw[List.length_append];omega
  obtain⟨FK,hrK,-,-⟩:=hown.fresh (hw:=by decide) (hw2:=by decide)
  have HK:=zh (And.intro hown hrK)
  have hzw:=hbw.size;clear hB2 hol
  by_cases hlt:k<n
  ·have hkx:k<l.length:=by rw[HN.out];exact hlt
   have hsucc:=Zib hkx;have hki:((k:Int)<(n:Int)):=by omega
   have hk0:(0:Int)≤(k:Int):=by omega
   obtain⟨g,o,A3,c3,F3,rfl,hgF,hgr,hok3,p0,p1,p2,p3,p4,p5,p6,r3,-⟩:=Zoi (zb hl hbw) hkx
   have HR3:=zh r3;generalize hx:xu++ZiI l k=x at *
   have HX:=zh (show xu++ZiI l (k+1)=x++ZbK l[k] by rw[hsucc,← hx,List.append_assoc])
   have e1:=HALL.out k hkx;have hpl:=ZfB e1;have hgk:=hpl.1;have hst:(Zp l[k].store).length≤8:=hpl.2.1
   have hfd:(Zp l[k].field).length≤8:=hpl.2.2
   have hstm:l[k].store.size≤maxLen:=Nat.le_trans hst (by decide)
   have hfdm:l[k].field.size≤maxLen:=Nat.le_trans hfd (by decide)
   have hu6:=Zax 5 l[k].kind.toNat (by omega)
   have hx1:(x++ZJ l[k].kind.toNat).length≤210000030:=by rw[List.length_append];omega
   have HPL:=zh (ZmA e1)
   have HPB:=zh (Zjt e1)
   have HX5:=zh (show x++ZJ l[k].kind.toNat++ZdI l[k] 4=x++ZbK l[k] by rw[ZjW,List.append_assoc])
   generalize hz1:x++ZJ l[k].kind.toNat=y1 at *
   have HZ1:=zh hz1;clear hown hrK hsucc hx r3 hz1 hpl e1;go_wp2_with fail;generalize hY:World.alloc _ _=Y
   have hbY:Below wr.heap.size wr Y:=by rw[← hY];exact bl
   have hYs:Y.heap.size=wr.heap.size+1:=by rw[← hY];clear hY;simp
   have ya0:Y.cell? ⟨wr.heap.size,0,none⟩=some (.int .i64 l[k].kind):=by rw[← hY];clear hY;go_simp
   have ya1:Y.cell? ⟨wr.heap.size,1,none⟩=some (.string l[k].store):=by rw[← hY];clear hY;go_simp
   have ya2:Y.cell? ⟨wr.heap.size,2,none⟩=some (.int .i64 l[k].key.kind):=by rw[← hY];clear hY;go_simp
   have ya3:Y.cell? ⟨wr.heap.size,3,none⟩=some (.int .i64 l[k].key.n):=by rw[← hY];clear hY;go_simp
   have ya4:Y.cell? ⟨wr.heap.size,4,none⟩=some (.string l[k].key.text):=by rw[← hY];clear hY;go_simp
   have ya5:Y.cell? ⟨wr.heap.size,5,none⟩=some (.slice A3 l[k].rcd.fields.length c3):=by rw[← hY];clear hY;go_simp
   have ya6:Y.cell? ⟨wr.heap.size,6,none⟩=some (.string l[k].field):=by rw[← hY];clear hY;go_simp
   clear hY;go_wp2_with fail;refine(ZR _ x l[k].kind FK _ (by exact zb HK.out.2 hbY) (by omega)).mono ?_
   rw[ZcM _ ⟨by omega,by omega⟩,HZ1.out]
   rintro e w6 ⟨v6,rfl,hb6,ho6⟩;have hbY6:Below Y.heap.size Y w6:=hb6
   have hbr6:Below wr.heap.size wr w6:=hbY.trans (hbY6.mono (by omega))
   have HO6:=zh (ho6.mono (show w.heap.size≤_ by omega))
   have hz6:=hbr6.size;have hz66:=hbY6.size;have h66:Below w6.heap.size w6 w6:=Below.refl _ _
   clear ho6 hb6
   go_upto_region 8 with (fail)
   have hS:=λw9 (hb:Below w6.heap.size w6 w9)=>zn8 hb (zcl hb (zcl hbY6 ya0)) (zcl hb (zcl hbY6 ya1)) (zcl hb (zcl hbY6 ya2)) (zcl hb (zcl hbY6 ya3)) (zcl hb (zcl hbY6 ya4)) (zcl hb (zcl hbY6 ya5)) (zcl hb (zcl hbY6 ya6))
   go_cut [37,38,39] from 25 to 36 (λt37 t38 t39 wq=>∃pb,t37=.slice (some ⟨pb,0,none⟩) 4 4∧t38=.int .i64 4∧t39=.int .i64 0∧Parts wq pb l[k]∧pb<wq.heap.size∧Below w6.heap.size w6 wq)
   case first =>
    refine wp_region_held_drew (S:=(λw9=>Below w6.heap.size w6 w9∧w9.cell? ⟨wr.heap.size,0,none⟩=some (.int .i64 l[k].kind)∧w9.cell? ⟨wr.heap.size,1,none⟩=some (.string l[k].store)∧w9.cell? ⟨wr.heap.size,2,none⟩=some (.int .i64 l[k].key.kind)∧w9.cell? ⟨wr.heap.size,3,none⟩=some (.int .i64 l[k].key.n)∧w9.cell? ⟨wr.heap.size,4,none⟩=some (.string l[k].key.text)∧w9.cell? ⟨wr.heap.size,5,none⟩=some (.slice A3 l[k].rcd.fields.length c3)∧w9.cell? ⟨wr.heap.size,6,none⟩=some (.string l[k].field))) (by kernel_rfl) (by (try dsimp only);exact hS _ bl) (λhHeld=>?_)
    all_goals (refine zrd (i:=0) 25 ?_;refine zrd (i:=1) 26 ?_;refine zrd (i:=3) 28 ?_;refine zrd (i:=4) 29 ?_;refine zrd (i:=6) 31 ?_;refine zrd (i:=7) 32 ?_;(try simp only[Act.put,zp0,zp1,zp2]);refine zrd (i:=9) 34 ?_;refine zrd (i:=10) 35 ?_;refine zrd (i:=14) 39 ?_;(try simp only[Act.put,zp0,zp1,zp2]))
    all_goals (refine wpAnyH_ready (rs:=[2,5,11]) (by kernel_rfl) (by simp) ?_;refine(AllReadyH.cons rfl (λK hK=>?_) (AllReadyH.cons rfl (λK hK=>?_) (AllReadyH.cons rfl (λK hK=>?_) AllReadyH.nil))))
    all_goals ((first|(refine ZcB (s:=l[k].store) rfl _ rfl (by rfl) hstm ?_;intro vs ws Fs hbs hrs;have hBs:=zt (w:=w6) hbs;obtain⟨As',cs',e9⟩:=Zb hrs;subst e9;have HRs:=zh (show cUS.rep ws [_] _ Fs from hrs);(try have hbk_s:=zt (w:=wk) hbs);(try have hbd_s:=zt (w:=wd) hbs);(try have hbf_s:=zt (w:=wf) hbs);clear hrs)|(refine ZcB (s:=l[k].field) rfl _ rfl (by rfl) hfdm ?_;intro vf wf Ff hbf hrf;have hBf:=zt (w:=w6) hbf;obtain⟨Af',cf',e9⟩:=Zb hrf;subst e9;have HRf:=zh (show cUS.rep wf [_] _ Ff from hrf);(try have hbk_f:=zt (w:=wk) hbf);(try have hbd_f:=zt (w:=wd) hbf);(try have hbs_f:=zt (w:=ws) hbf);clear hrf)|(go_simp;(first|(go_at_call 76;refine(Zbh l[k].key _ hok3.h4).mono ?_;rintro e wk ⟨vk,rfl,hbk,hok⟩;have hBk:=zt (w:=w6) hbk;obtain⟨Fk,hrk,-,-⟩:=hok.fresh (hw:=by decide) (hw2:=by decide);obtain⟨Ak',ck',e9⟩:=Zb hrk;subst e9;have HRk:=zh (show cUS.rep wk [_] _ Fk from hrk);(try have hbd_k:=zt (w:=wd) hbk);(try have hbs_k:=zt (w:=ws) hbk);(try have hbf_k:=zt (w:=wf) hbk);clear hok hrk)|(go_at_call 77;refine(ZcV _ l[k].rcd.fields F3 _ (by exact zb HR3.out (Za hbr6 bl))).mono ?_;rintro e wd ⟨vd,rfl,hbd,hod⟩;have hBd:=zt (w:=w6) hbd;obtain⟨Fd,hrd,-,-⟩:=hod.fresh (hw:=by decide) (hw2:=by decide);obtain⟨Ad',cd',e9⟩:=Zb hrd;subst e9;have HRd:=zh (show cUS.rep wd [_] _ Fd from hrd);(try have hbk_d:=zt (w:=wk) hbd);(try have hbs_d:=zt (w:=ws) hbd);(try have hbf_d:=zt (w:=wf) hbd);clear hod hrd));(try go_wp2_with fail)));refine hK.out _ _ (by (try dsimp only);exact hS _ bl) (λhHeld=>?_);clear hK K;(try simp only[Act.put,zp0,zp1,zp2]))
    refine wpAnyH_ready (rs:=[5,11]) (by kernel_rfl) (by simp) ?_;refine(AllReadyH.cons rfl (λK hK=>?_) (AllReadyH.cons rfl (λK hK=>?_) AllReadyH.nil));rotate_left 2
    refine wpAnyH_ready (rs:=[2,8,11]) (by kernel_rfl) (by simp) ?_;refine(AllReadyH.cons rfl (λK hK=>?_) (AllReadyH.cons rfl (λK hK=>?_) (AllReadyH.cons rfl (λK hK=>?_) AllReadyH.nil)));rotate_left 3
    refine wpAnyH_ready (rs:=[2,5]) (by kernel_rfl) (by simp) ?_;refine(AllReadyH.cons rfl (λK hK=>?_) (AllReadyH.cons rfl (λK hK=>?_) AllReadyH.nil));rotate_left 2
    all_goals ((first|(refine ZcB (s:=l[k].store) rfl _ rfl (by rfl) hstm ?_;intro vs ws Fs hbs hrs;have hBs:=zt (w:=w6) hbs;obtain⟨As',cs',e9⟩:=Zb hrs;subst e9;have HRs:=zh (show cUS.rep ws [_] _ Fs from hrs);(try have hbk_s:=zt (w:=wk) hbs);(try have hbd_s:=zt (w:=wd) hbs);(try have hbf_s:=zt (w:=wf) hbs);clear hrs)|(refine ZcB (s:=l[k].field) rfl _ rfl (by rfl) hfdm ?_;intro vf wf Ff hbf hrf;have hBf:=zt (w:=w6) hbf;obtain⟨Af',cf',e9⟩:=Zb hrf;subst e9;have HRf:=zh (show cUS.rep wf [_] _ Ff from hrf);(try have hbk_f:=zt (w:=wk) hbf);(try have hbd_f:=zt (w:=wd) hbf);(try have hbs_f:=zt (w:=ws) hbf);clear hrf)|(go_simp;(first|(go_at_call 76;refine(Zbh l[k].key _ hok3.h4).mono ?_;rintro e wk ⟨vk,rfl,hbk,hok⟩;have hBk:=zt (w:=w6) hbk;obtain⟨Fk,hrk,-,-⟩:=hok.fresh (hw:=by decide) (hw2:=by decide);obtain⟨Ak',ck',e9⟩:=Zb hrk;subst e9;have HRk:=zh (show cUS.rep wk [_] _ Fk from hrk);(try have hbd_k:=zt (w:=wd) hbk);(try have hbs_k:=zt (w:=ws) hbk);(try have hbf_k:=zt (w:=wf) hbk);clear hok hrk)|(go_at_call 77;refine(ZcV _ l[k].rcd.fields F3 _ (by exact zb HR3.out (Za hbr6 bl))).mono ?_;rintro e wd ⟨vd,rfl,hbd,hod⟩;have hBd:=zt (w:=w6) hbd;obtain⟨Fd,hrd,-,-⟩:=hod.fresh (hw:=by decide) (hw2:=by decide);obtain⟨Ad',cd',e9⟩:=Zb hrd;subst e9;have HRd:=zh (show cUS.rep wd [_] _ Fd from hrd);(try have hbk_d:=zt (w:=wk) hbd);(try have hbs_d:=zt (w:=ws) hbd);(try have hbf_d:=zt (w:=wf) hbd);clear hod hrd));(try go_wp2_with fail)));refine hK.out _ _ (by (try dsimp only);exact hS _ bl) (λhHeld=>?_);clear hK K;(try simp only[Act.put,zp0,zp1,zp2]))
    refine wpAnyH_ready (rs:=[8,11]) (by kernel_rfl) (by simp) ?_;refine(AllReadyH.cons rfl (λK hK=>?_) (AllReadyH.cons rfl (λK hK=>?_) AllReadyH.nil));rotate_left 2
    refine wpAnyH_ready (rs:=[5]) (by kernel_rfl) (by simp) ?_;refine(AllReadyH.cons rfl (λK hK=>?_) AllReadyH.nil);rotate_left 1
    refine wpAnyH_ready (rs:=[8,11]) (by kernel_rfl) (by simp) ?_;refine(AllReadyH.cons rfl (λK hK=>?_) (AllReadyH.cons rfl (λK hK=>?_) AllReadyH.nil));rotate_left 2
    refine wpAnyH_ready (rs:=[2,11]) (by kernel_rfl) (by simp) ?_;refine(AllReadyH.cons rfl (λK hK=>?_) (AllReadyH.cons rfl (λK hK=>?_) AllReadyH.nil));rotate_left 2
    refine wpAnyH_ready (rs:=[2,8]) (by kernel_rfl) (by simp) ?_;refine(AllReadyH.cons rfl (λK hK=>?_) (AllReadyH.cons rfl (λK hK=>?_) AllReadyH.nil));rotate_left 2
    refine wpAnyH_ready (rs:=[5]) (by kernel_rfl) (by simp) ?_;refine(AllReadyH.cons rfl (λK hK=>?_) AllReadyH.nil);rotate_left 1
    refine wpAnyH_ready (rs:=[2,8]) (by kernel_rfl) (by simp) ?_;refine(AllReadyH.cons rfl (λK hK=>?_) (AllReadyH.cons rfl (λK hK=>?_) AllReadyH.nil));rotate_left 2
    all_goals ((first|(refine ZcB (s:=l[k].store) rfl _ rfl (by rfl) hstm ?_;intro vs ws Fs hbs hrs;have hBs:=zt (w:=w6) hbs;obtain⟨As',cs',e9⟩:=Zb hrs;subst e9;have HRs:=zh (show cUS.rep ws [_] _ Fs from hrs);(try have hbk_s:=zt (w:=wk) hbs);(try have hbd_s:=zt (w:=wd) hbs);(try have hbf_s:=zt (w:=wf) hbs);clear hrs)|(refine ZcB (s:=l[k].field) rfl _ rfl (by rfl) hfdm ?_;intro vf wf Ff hbf hrf;have hBf:=zt (w:=w6) hbf;obtain⟨Af',cf',e9⟩:=Zb hrf;subst e9;have HRf:=zh (show cUS.rep wf [_] _ Ff from hrf);(try have hbk_f:=zt (w:=wk) hbf);(try have hbd_f:=zt (w:=wd) hbf);(try have hbs_f:=zt (w:=ws) hbf);clear hrf)|(go_simp;(first|(go_at_call 76;refine(Zbh l[k].key _ hok3.h4).mono ?_;rintro e wk ⟨vk,rfl,hbk,hok⟩;have hBk:=zt (w:=w6) hbk;obtain⟨Fk,hrk,-,-⟩:=hok.fresh (hw:=by decide) (hw2:=by decide);obtain⟨Ak',ck',e9⟩:=Zb hrk;subst e9;have HRk:=zh (show cUS.rep wk [_] _ Fk from hrk);(try have hbd_k:=zt (w:=wd) hbk);(try have hbs_k:=zt (w:=ws) hbk);(try have hbf_k:=zt (w:=wf) hbk);clear hok hrk)|(go_at_call 77;refine(ZcV _ l[k].rcd.fields F3 _ (by exact zb HR3.out (Za hbr6 bl))).mono ?_;rintro e wd ⟨vd,rfl,hbd,hod⟩;have hBd:=zt (w:=w6) hbd;obtain⟨Fd,hrd,-,-⟩:=hod.fresh (hw:=by decide) (hw2:=by decide);obtain⟨Ad',cd',e9⟩:=Zb hrd;subst e9;have HRd:=zh (show cUS.rep wd [_] _ Fd from hrd);(try have hbk_d:=zt (w:=wk) hbd);(try have hbs_d:=zt (w:=ws) hbd);(try have hbf_d:=zt (w:=wf) hbd);clear hod hrd));(try go_wp2_with fail)));refine hK.out _ _ (by (try dsimp only);exact hS _ bl) (λhHeld=>?_);clear hK K;(try simp only[Act.put,zp0,zp1,zp2]))
    refine wpAnyH_ready (rs:=[11]) (by kernel_rfl) (by simp) ?_;refine(AllReadyH.cons rfl (λK hK=>?_) AllReadyH.nil);rotate_left 1
    refine wpAnyH_ready (rs:=[8]) (by kernel_rfl) (by simp) ?_;refine(AllReadyH.cons rfl (λK hK=>?_) AllReadyH.nil);rotate_left 1
    refine wpAnyH_ready (rs:=[8]) (by kernel_rfl) (by simp) ?_;refine(AllReadyH.cons rfl (λK hK=>?_) AllReadyH.nil);rotate_left 1
    refine wpAnyH_ready (rs:=[11]) (by kernel_rfl) (by simp) ?_;refine(AllReadyH.cons rfl (λK hK=>?_) AllReadyH.nil);rotate_left 1
    refine wpAnyH_ready (rs:=[8]) (by kernel_rfl) (by simp) ?_;refine(AllReadyH.cons rfl (λK hK=>?_) AllReadyH.nil);rotate_left 1
    refine wpAnyH_ready (rs:=[11]) (by kernel_rfl) (by simp) ?_;refine(AllReadyH.cons rfl (λK hK=>?_) AllReadyH.nil);rotate_left 1
    refine wpAnyH_ready (rs:=[2]) (by kernel_rfl) (by simp) ?_;refine(AllReadyH.cons rfl (λK hK=>?_) AllReadyH.nil);rotate_left 1
    refine wpAnyH_ready (rs:=[8]) (by kernel_rfl) (by simp) ?_;refine(AllReadyH.cons rfl (λK hK=>?_) AllReadyH.nil);rotate_left 1
    refine wpAnyH_ready (rs:=[2]) (by kernel_rfl) (by simp) ?_;refine(AllReadyH.cons rfl (λK hK=>?_) AllReadyH.nil);rotate_left 1
    refine wpAnyH_ready (rs:=[8]) (by kernel_rfl) (by simp) ?_;refine(AllReadyH.cons rfl (λK hK=>?_) AllReadyH.nil);rotate_left 1
    refine wpAnyH_ready (rs:=[8]) (by kernel_rfl) (by simp) ?_;refine(AllReadyH.cons rfl (λK hK=>?_) AllReadyH.nil);rotate_left 1
    refine wpAnyH_ready (rs:=[2]) (by kernel_rfl) (by simp) ?_;refine(AllReadyH.cons rfl (λK hK=>?_) AllReadyH.nil);rotate_left 1
    all_goals ((first|(refine ZcB (s:=l[k].store) rfl _ rfl (by rfl) hstm ?_;intro vs ws Fs hbs hrs;have hBs:=zt (w:=w6) hbs;obtain⟨As',cs',e9⟩:=Zb hrs;subst e9;have HRs:=zh (show cUS.rep ws [_] _ Fs from hrs);(try have hbk_s:=zt (w:=wk) hbs);(try have hbd_s:=zt (w:=wd) hbs);(try have hbf_s:=zt (w:=wf) hbs);clear hrs)|(refine ZcB (s:=l[k].field) rfl _ rfl (by rfl) hfdm ?_;intro vf wf Ff hbf hrf;have hBf:=zt (w:=w6) hbf;obtain⟨Af',cf',e9⟩:=Zb hrf;subst e9;have HRf:=zh (show cUS.rep wf [_] _ Ff from hrf);(try have hbk_f:=zt (w:=wk) hbf);(try have hbd_f:=zt (w:=wd) hbf);(try have hbs_f:=zt (w:=ws) hbf);clear hrf)|(go_simp;(first|(go_at_call 76;refine(Zbh l[k].key _ hok3.h4).mono ?_;rintro e wk ⟨vk,rfl,hbk,hok⟩;have hBk:=zt (w:=w6) hbk;obtain⟨Fk,hrk,-,-⟩:=hok.fresh (hw:=by decide) (hw2:=by decide);obtain⟨Ak',ck',e9⟩:=Zb hrk;subst e9;have HRk:=zh (show cUS.rep wk [_] _ Fk from hrk);(try have hbd_k:=zt (w:=wd) hbk);(try have hbs_k:=zt (w:=ws) hbk);(try have hbf_k:=zt (w:=wf) hbk);clear hok hrk)|(go_at_call 77;refine(ZcV _ l[k].rcd.fields F3 _ (by exact zb HR3.out (Za hbr6 bl))).mono ?_;rintro e wd ⟨vd,rfl,hbd,hod⟩;have hBd:=zt (w:=w6) hbd;obtain⟨Fd,hrd,-,-⟩:=hod.fresh (hw:=by decide) (hw2:=by decide);obtain⟨Ad',cd',e9⟩:=Zb hrd;subst e9;have HRd:=zh (show cUS.rep wd [_] _ Fd from hrd);(try have hbk_d:=zt (w:=wk) hbd);(try have hbs_d:=zt (w:=ws) hbd);(try have hbf_d:=zt (w:=wf) hbd);clear hod hrd));(try go_wp2_with fail)));refine hK.out _ _ (by (try dsimp only);exact hS _ bl) (λhHeld=>?_);clear hK K;(try simp only[Act.put,zp0,zp1,zp2]))
    all_goals (refine wpAnyH_ready (rs:=[12]) (by kernel_rfl) (by simp) ?_;refine(AllReadyH.cons rfl (λK hK=>?_) AllReadyH.nil))
    all_goals ((go_simp);refine hK.out _ _ (by (try dsimp only);exact hS _ bl) (λhHeld=>?_);clear hK K;(try simp only[Act.put,zp0,zp1,zp2]))
    all_goals (refine zrd (i:=13) 38 ?_;(try simp only[Act.put,zp0,zp1,zp2]))
    all_goals (refine wpAnyH_done (by kernel_rfl) ?_ _;go_wp2_with fail;go_meet;case rel=>(exact⟨_,rfl,rfl,rfl,Parts.mk4 (by exact(Blk.new _ _ _).cell 0) (by exact(Blk.new _ _ _).cell 1) (by exact(Blk.new _ _ _).cell 2) (by exact(Blk.new _ _ _).cell 3) (zb HRs.out) (zb HRk.out) (zb HRd.out) (zb HRf.out),by (try simp);(try omega),bl⟩))
   case rest =>
    obtain⟨pb,rfl,rfl,rfl,hP,hpb,hB8⟩:=hcut;generalize wc=w8 at *
    have hbr8:Below wr.heap.size wr w8:=Za hbr6 hB8
    have HP:=zh hP;have HO8:=zh (HO6.out.bel hB8)
    have hz8:=hbr8.size;clear hP hS;go_wp2_with fail;generalize wr=wo at *
    go_loopw [3,39] (λout i wr=>∃m:Nat,m≤4∧i=.int .i64 m∧Own cU 5 w.heap.size wr out (y1++ZdI l[k] m) []∧Below w8.heap.size w8 wr) (λ_ i _=>4-(intOf i).toNat)
    case atStart=>exact⟨0,by decide,rfl,by rw[show ZdI l[k] 0=[] from rfl,List.append_nil];exact HO8.out,Below.refl _ _⟩
    case round =>
     obtain⟨m,hm4,rfl,hown,hbwm⟩:=hrel;obtain⟨Am,dm,e9⟩:=hown.slice;subst e9;obtain⟨FM,hrM,-,-⟩:=hown.fresh (hw:=by decide) (hw2:=by decide)
     have HM:=zh (And.intro hown hrM)
     have hpl:=HPB.out m;have hfm:(y1++ZdI l[k] m).length≤210001000:=by rw[List.length_append];omega
     have hzm:=hbwm.size
     by_cases hlm:m<4
     ·have hmi:((m:Int)<4):=by omega
      have hm0:(0:Int)≤(m:Int):=by omega
      obtain⟨u,Fu,cu,ru⟩:=HP.out m hlm;have hcu:wr.cell? ⟨pb,m,none⟩=some u:=zcl hbwm cu
      have HU:=zh ru;have hpm:=HPL.out m;have HS:=zh (show y1++ZdI l[k] (m+1)=y1++ZdI l[k] m++ZB (part l[k] m) by rw[List.append_assoc];rfl)
      clear hown hrM cu ru;go_wp2_with fail;refine(ZaU _ _ (y1++ZdI l[k] m) (part l[k] m) FM Fu _ (by have h9:=HM.out.2;rw[List.length_append] at h9;exact h9) (by omega) (by exact zb HU.out hbwm) (by omega)).mono ?_
      rw[← HS.out]
      rintro e w9 ⟨v9,rfl,hb9,ho9⟩;have hB9:Below w8.heap.size w8 w9:=Za hbwm hb9
      have HO9:=zh (ho9.mono (show w.heap.size≤_ by omega))
      clear ho9;go_wp2_with fail;go_roundw
      case rel=>exact⟨m+1,by omega,by go_num,HO9.out,hB9⟩
      case measure=>simp[intOf];omega
     ·obtain rfl:m=4:=by omega
      have HO9:=zh (show Own cU 5 w.heap.size wr (.slice Am (y1++ZdI l[k] 4).length dm) (xu++ZiI l (k+1)) [] by rw[HX.out,← HX5.out];exact HM.out.1)
      have hbo:Below w.heap.size w wr:=Za hbw (Za hbr8 hbwm)
      clear hown hrM;go_wp2_with fail;go_roundw
      case rel=>exact⟨k+1,by omega,by go_num,HO9.out,hbo⟩
      case measure=>simp[intOf];omega
  ·obtain rfl:k=n:=by omega
   clear hown hrK;have HKO:=zh HK.out.1;go_wp2_with fail;go_ret
   exact⟨_,rfl,bl,by rw[HE.out];exact HKO.out⟩
end Go.Proofs.YtghndifnohkokaaGreat
