/-
  The evaluator with loops by templates is right: code, and calls.
-/
import Derived.Test.YtjconanknjgpnaaGreatSyZ
set_option linter.unusedVariables false
set_option linter.unusedSimpArgs false
namespace Go.Sx
variable [Gl]
section
variable {P:Program} {N:Nat} {Q:AV->Prop} {fuel:Nat} {c:VC}
def BodyOk (P:Program) (N:Nat) (Q:AV->Prop) (c:VC) (b:Code) (bS:VS->(VS->VT)->VT) (X:VX->VT):Prop:=
 ∀(S:VS) (K:VS->VT) (Y:Sy) (L:LVs),L.length=S.lv->Good P c S.n Y->VOK P Q L Y (bS S K)->wCode P N c.k b Y S.T S.H S.D (kV P Q c L S.n Y K) (xV P Q c L S.n Y X)
theorem vLoop_ok {b:Code} {bS:VS->(VS->VT)->VT} {X:VX->VT} {K:KP} (hb:BodyOk P N Q c b bS X) (m:Nat) (S:VS) (Y:Sy) (L:LVs) (hL:L.length=S.lv) (hf:Good P c S.n Y)
  (h:VOK P Q L Y (vLoop bS m S)):wCode P N c.k (.loop b) Y S.T S.H S.D K (xV P Q c L S.n Y X):=by
 unfold wCode
 refine ⟨{ p:Nat×Sy×VS×LVs // L <+: p.2.2.2/\p.2.2.2.length=p.2.2.1.lv/\S.n<=p.2.2.1.n/\Ext S.n Y p.2.1/\Good P c p.2.2.1.n p.2.1/\VOK P Q p.2.2.2 p.2.1 (vLoop bS p.1 p.2.2.1) },λp=>⟨p.1.2.1,p.1.2.2.1.T,p.1.2.2.1.H,p.1.2.2.1.D⟩,
  λp=>p.1.1,⟨(m,Y,S,L),List.prefix_refl L,hL,Nat.le_refl _,Ext.refl _ _,hf,h⟩,Weak.refl _ _ _ _ _ _ _,λp=>?_⟩
 obtain ⟨⟨m,Y',S',L'⟩,q1,q2,q3,q4,q5,q6⟩:=p
 cases m with
 |zero=>exact q6.elim
 |succ m=>
  refine wCode_mono b (λY2 T2 H2 D2 hk=>?_) (λY2 r hx=>xV_mono q1 q3 q4 hx) _ _ _ _ (hb S' _ Y' L' q2 q5 q6)
  obtain ⟨n',lv,L2,g1,g2,g3,g4,g5,g6⟩:=hk
  exact ⟨⟨(m,Y2,⟨T2,H2,n',lv,D2⟩,L2),q1.trans g1,g2,Nat.le_trans q3 g3,q4.trans g4 q3,g5,g6⟩,Nat.lt_succ_self m,Weak.refl _ _ _ _ _ _ _⟩
omit [Gl]in
theorem matchAny_some {n k:Nat}:∀{l:List Tpl} {j0:Nat} {S:VS} {r:MA},matchAny n k l j0 S=some r->∃i tp,l[i]? =some tp/\r.j=j0+i/\r.l=(readyT tp S).l/\matchT n k tp (readyT tp S).S=some r.m
 |[],j0,S,r,h=>by cases h
 |tp::q,j0,S,r,h=>by
  unfold matchAny at h
  split at h
  ·obtain ⟨i,tp',h1,h2,h3⟩:=matchAny_some h
   exact ⟨i+1,tp',by simpa using h1,by omega,h3⟩
  simp only at h
  split at h
  ·rename_i m hm
   cases h
   exact ⟨0,tp,rfl,rfl,rfl,hm⟩
  ·obtain ⟨i,tp',h1,h2,h3⟩:=matchAny_some h
   exact ⟨i+1,tp',by simpa using h1,by omega,h3⟩
theorem readyT_weak {k:Nat} {tp:Tpl} {S:VS} {Y:Sy} (hs:∀i q,(i,q)∈(readyT tp S).l->(Chk.same i q).ok Y):Weak P N k Y S.T S.H S.D Y (readyT tp S).S.T (readyT tp S).S.H (readyT tp S).S.D/\(readyT tp S).S.D=S.D:=by
 unfold readyT at hs⊢
 simp only at hs⊢
 have h1:Weak P N k Y S.T S.H S.D Y (frzT tp S).S.T (frzT tp S).S.H (frzT tp S).S.D/\(frzT tp S).S.D=S.D:=by
  have hs1:∀i q,(i,q)∈(frzT tp S).l->(Chk.same i q).ok Y:=λi q h=>hs i q (appP_mem.2 (.inl h))
  unfold frzT at hs1⊢
  generalize holeRefs S.T tp.slots=l at hs1⊢
  cases l with
  |nil=>exact ⟨Weak.refl _ _ _ _ _ _ _,rfl⟩
  |cons a r=>
   obtain ⟨h1,_,_,h4⟩:=vFrzS_ok (P:=P) (N:=N) (k:=k) hs1
   exact ⟨h1.1,h4⟩
 have hfr:FrOk Y (frzT tp S).S (freshT tp (frzT tp S).S).S:=freshL_ok λi q h=>hs i q (appP_mem.2 (.inr h))
 exact ⟨h1.1.trans (hfr.weak k),hfr.D.trans h1.2⟩
theorem tpl_weak {k n lv:Nat} {tp:Tpl} {S:VS} {m:MT} {Y0 Y:Sy} (hm:matchT n k tp (readyT tp S).S=some m) (hs:∀i q,(i,q)∈(readyT tp S).l->(Chk.same i q).ok Y) (hnn:∀i,i∈m.nn->(Chk.nn i).ok Y) (hf:Fresh Y0 n) (hx:Ext n Y0 Y) (hok:okL (denL Y.v m.hv)=true):
  (denL Y.v m.hv).length=tp.nv/\Weak P N k Y S.T S.H S.D (Y0.puts n (denL Y.v m.hv)) (tp.inst n lv).T (tp.inst n lv).H []:=by
 obtain ⟨h1,h2⟩:=match_weak (N:=N) (P:=P) (lv:=lv) hm hf hx hok hnn
 exact ⟨h1,Weak.trans (readyT_weak hs).1 h2⟩
theorem frzD_weak (own:Bool) (l:List Oper) (S:VS) (Y:Sy):Weak P N c.k Y S.T S.H S.D Y (frzD own l S).T (frzD own l S).H (frzD own l S).D/\(frzD own l S).n=S.n/\(frzD own l S).lv=S.lv:=by
 unfold frzD
 split
 ·exact ⟨Weak.refl _ _ _ _ _ _ _,rfl,rfl⟩
 ·exact ⟨freezeL_weak _,rfl,rfl⟩
theorem VOKs_at {Inv:Nat->List AV->Prop} {μ:Nat->List AV->Nat} {L:LVs} {n lvl:Nat} {Y:Sy} {bS:VS->(VS->VT)->VT} {tps:List Tpl} {k:Nat}:∀(l:List Tpl) (j0:Nat),VOKs P Q Inv μ L n j0 Y (vBodies bS n k lvl tps l)->
  ∀i tp,l[i]? =some tp->∀vs,vs.length=tp.nv->Inv (j0+i) vs->VOK P Q (L++[λj' vs'=>Inv j' vs'/\μ j' vs'<μ (j0+i) vs]) (Y.puts n vs) (bS (tp.inst n (Nat.succ lvl)) (vAgain n k lvl tps))
 |[],j0,h,i,tp,hi=>by simp at hi
 |t::r,j0,h,i,tp,hi=>by
  obtain ⟨h1,h2⟩:=h
  cases i with
  |zero=>simp at hi;subst hi;exact h1
  |succ i=>
   have:=VOKs_at r (j0+1) h2 i tp (by simpa using hi)
   rw [show j0+(i+1)=j0+1+i by omega]
   exact this
theorem vTpl_ok {b:Code} {bS:VS->(VS->VT)->VT} {X:VX->VT} {K:KP} {tps:List Tpl} (hb:BodyOk P N Q c b bS X) (S:VS) (Y:Sy) (L:LVs) (hL:L.length=S.lv) (hf:Good P c S.n Y)
  (h:VOK P Q L Y (vTpl c.k bS tps S)):wCode P N c.k (.loop b) Y S.T S.H S.D K (xV P Q c L S.n Y X):=by
 unfold vTpl at h
 split at h
 case h_2=>exact h.elim
 rename_i r hm
 obtain ⟨hs0,h⟩:=sames_ok h
 obtain ⟨hn0,h⟩:=chks_ok h
 obtain ⟨Inv,μ,hok,hinv,hbs⟩:=h
 obtain ⟨i,tp,hi,hj,hl,hmt⟩:=matchAny_some hm
 have hj:r.j=i:=by omega
 rw [hj]at hinv
 rw [hl]at hs0
 have hw:=tpl_weak (N:=N) (P:=P) (lv:=Nat.succ S.lv) hmt hs0 hn0 hf.1 (Ext.refl _ _) (hok _ _ hinv)
 unfold wCode
 refine ⟨{ p:Nat×List AV×Tpl // tps[p.1]? =some p.2.2/\p.2.1.length=p.2.2.nv/\Inv p.1 p.2.1 },λp=>⟨Y.puts S.n p.1.2.1,(p.1.2.2.inst S.n (Nat.succ S.lv)).T,(p.1.2.2.inst S.n (Nat.succ S.lv)).H,[]⟩,λp=>μ p.1.1 p.1.2.1,
  ⟨(i,denL Y.v r.m.hv,tp),hi,hw.1,hinv⟩,hw.2,λp=>?_⟩
 obtain ⟨⟨j1,vs,tp1⟩,q1,q2,q3⟩:=p
 have hb1:=VOKs_at tps 0 hbs j1 tp1 q1 vs q2 (by rw [Nat.zero_add];exact q3)
 have hgood:Good P c (tp1.inst S.n (Nat.succ S.lv)).n (Y.puts S.n vs):=by
  show Good P c (S.n+tp1.nv) _
  rw [←q2];exact hf.puts vs
 have hext:Ext S.n Y (Y.puts S.n vs):=Ext.puts vs _ (Nat.le_refl _)
 have hpre:∀R:Nat->List AV->Prop,L <+: L++[R]:=λR=>List.prefix_append _ _
 have hnle:S.n<=(tp1.inst S.n (Nat.succ S.lv)).n:=Nat.le_add_right _ _
 refine wCode_mono b (λY2 T2 H2 D2 hk=>?_) (λY2 r hx=>xV_mono (hpre _) hnle hext hx) _ _ _ _ (hb _ _ _ _ (by rw [List.length_append,hL];rfl) hgood hb1)
 obtain ⟨n',lv,L2,g1,g2,g3,g4,g5,g6⟩:=hk
 unfold vAgain at g6
 split at g6
 ·rename_i r2 hm2
  obtain ⟨hs2,g6⟩:=sames_ok g6
  obtain ⟨hn2,g6⟩:=chks_ok g6
  obtain ⟨R,r1,r2'⟩:=g6
  obtain ⟨i2,tp2,k1,k2,kl,k3⟩:=matchAny_some hm2
  have k2:r2.j=i2:=by omega
  rw [k2]at r2'
  rw [kl]at hs2
  have hR:R=λj' vs'=>Inv j' vs'/\μ j' vs'<μ (0+j1) vs:=by
   obtain ⟨t,rfl⟩:=g1
   rw [List.getElem?_append_left (by rw [List.length_append,hL];exact Nat.lt_succ_self _),List.getElem?_append_right (by rw [hL];exact Nat.le_refl _),hL,Nat.sub_self]at r1
   simpa using r1.symm
  rw [hR]at r2'
  have hx2:Ext S.n Y Y2:=hext.trans g4 hnle
  have hw2:=tpl_weak (N:=N) (P:=P) (lv:=Nat.succ S.lv) k3 hs2 hn2 hf.1 hx2 (hok _ _ r2'.1)
  exact ⟨⟨(i2,denL Y2.v r2.m.hv,tp2),k1,hw2.1,r2'.1⟩,by have:=r2'.2;rwa [Nat.zero_add]at this,hw2.2⟩
 ·exact g6.elim
theorem vCode_ok (hm:P.follows .mixedOrders=true) (hc:CallOk P (callN P fuel)):∀(cd:Code) (bid:Nat) (S:VS) (K:VS->VT) (X:VX->VT) (Y:Sy) (L:LVs),L.length=S.lv->Good P c S.n Y->VOK P Q L Y (vCode P N fuel c bid cd S K X)->
  wCode P N c.k cd Y S.T S.H S.D (kV P Q c L S.n Y K) (xV P Q c L S.n Y X)
 | .skip,bid,S,K,X,Y,L,hL,hf,h=>by unfold vCode at h;unfold wCode;exact ⟨S.n,S.lv,L,List.prefix_refl L,hL,Nat.le_refl _,Ext.refl _ _,hf,h⟩
 | .label _,bid,S,K,X,Y,L,hL,hf,h=>by unfold vCode at h;unfold wCode;exact ⟨S.n,S.lv,L,List.prefix_refl L,hL,Nat.le_refl _,Ext.refl _ _,hf,h⟩
 | .exit id,bid,S,K,X,Y,L,hL,hf,h=>by unfold vCode at h;unfold wCode;exact ⟨S.n,S.lv,L,List.prefix_refl L,hL,Nat.le_refl _,Ext.refl _ _,hf,h⟩
 | .ret,bid,S,K,X,Y,L,hL,hf,h=>by unfold vCode at h;unfold wCode;exact ⟨S.n,S.lv,L,List.prefix_refl L,hL,Nat.le_refl _,Ext.refl _ _,hf,h⟩
 | .region id ops false,bid,S,K,X,Y,L,hL,hf,h=>by unfold vCode at h;unfold wCode;exact vOps_ok hc _ S Y hL hf h
 | .region id ops true,bid,S,K,X,Y,L,hL,hf,h=>by
   unfold vCode at h
   simp only at h
   unfold wCode
   split at h
   ·rename_i r hd
    split at h
    ·exact .inl ⟨Y,S.T,S.H,S.D,Weak.refl _ _ _ _ _ _ _,callN P fuel,_,hc,hd,S.n,S.lv,L,List.prefix_refl L,hL,Nat.le_refl _,Ext.refl _ _,hf,h⟩
    ·exact h.elim
   ·have dr:VOK P Q L Y (vDraw P N fuel c ops.toList (frzD c.own ops.toList S) X K)->∀B pr E a w,E.At Y->St P B pr N E S.T S.H S.D a w->(Code.region id ops true).wp P (OutF P B pr N c.k E (deliverP (kV P Q c L S.n Y K) (xV P Q c L S.n Y X))) a w:=by
      intro h
      obtain ⟨w1,w2,w3⟩:=frzD_weak (P:=P) (N:=N) (c:=c) c.own ops.toList S Y
      intro B pr E a w hy st
      obtain ⟨E1,hle,hy1,st1⟩:=w1 B pr E a w hy st
      have key:=vDraw_ok (id:=id) (S:=frzD c.own ops.toList S) hm hc (by rw [w3];exact hL) (by rw [w2];exact hf) h B pr E1 a w hy1 st1
      rw [w2]at key
      exact Code.wp_mono (λe a w hq=>OutF.le hle hq) key
    refine .inr ?_
    split at h
    ·exact dr h
    ·split at h
     ·exact vAnyR_ok hm hc hL hf h
     ·exact dr h
 | .seq a b,bid,S,K,X,Y,L,hL,hf,h=>by
   unfold vCode at h
   unfold wCode
   refine wCode_mono a (λY' T' H' D' hk=>?_) (λ_ _ h=>h) _ _ _ _ (vCode_ok hm hc a bid S _ X Y L hL hf h)
   obtain ⟨n',lv,L',g1,g2,g3,g4,g5,g6⟩:=hk
   exact wCode_mono b (λ_ _ _ _ hk=>kV_mono g1 g3 g4 hk) (λ_ _ hx=>xV_mono g1 g3 g4 hx) _ _ _ _ (vCode_ok hm hc b bid ⟨T',H',n',lv,D'⟩ K X Y' L' g2 g5 g6)
 | .cond cd a b,bid,S,K,X,Y,L,hL,hf,h=>by
   unfold vCode at h
   unfold wCode
   split at h
   ·rename_i t ht
    refine ⟨Y,S.T,S.H,S.D,Weak.refl _ _ _ _ _ _ _,t,ht,λe=>?_,λe=>?_⟩
    ·subst e;exact vCode_ok hm hc a bid S K X Y L hL hf h
    ·subst e;exact vCode_ok hm hc b bid S K X Y L hL hf h
   ·split at h
    ·rename_i i hi
     obtain ⟨t,ht,h1,h2⟩:=h
     refine ⟨Y,(S.know i t).T,(S.know i t).H,(S.know i t).D,know_weak ht S.x S.D,t,symTmp_know hi S.x rfl t,λe=>?_,λe=>?_⟩
     ·subst e;exact vCode_ok hm hc a bid (S.know i true) K X Y L hL hf (h1 rfl)
     ·subst e;exact vCode_ok hm hc b bid (S.know i false) K X Y L hL hf (h2 rfl)
    ·exact h.elim
 | .block id b,bid,S,K,X,Y,L,hL,hf,h=>by
   unfold vCode at h
   unfold wCode
   refine wCode_mono b (λ_ _ _ _ h=>h) (λY' r hx=>?_) _ _ _ _ (vCode_ok hm hc b id S K (vEnd id K X) Y L hL hf h)
   cases r with
   |norm T H D=>exact hx.elim
   |pan v T H D=>exact hx
   |ret T H D=>exact hx
   |exit id' T H D=>
    obtain ⟨n,lv,L',g1,g2,g3,g4,g5,h'⟩:=hx
    unfold vEnd at h'
    simp only at h'
    cases hb:Nat.beq id' id with
    |true=>
     rw [hb]at h'
     exact ⟨λ_=>⟨n,lv,L',g1,g2,g3,g4,g5,h'⟩,λe=>absurd (Nat.eq_of_beq_eq_true hb) e⟩
    |false=>
     rw [hb]at h'
     refine ⟨λe=>?_,λ_=>⟨n,lv,L',g1,g2,g3,g4,g5,h'⟩⟩
     subst e
     rw [Nat.beq_refl]at hb;cases hb
 | .loop b,bid,S,K,X,Y,L,hL,hf,h=>by
   unfold vCode at h
   have hb:BodyOk P N Q c b (λS K=>vCode P N fuel c bid b S K X) X:=λS K Y L hL hf h=>vCode_ok hm hc b bid S K X Y L hL hf h
   split at h
   ·exact vTpl_ok hb S Y L hL hf h
   ·exact vLoop_ok hb fuel S Y L hL hf h
 | .scope _,bid,S,K,X,Y,L,hL,hf,h=>by unfold vCode at h;exact h.elim
 | .goto _,bid,S,K,X,Y,L,hL,hf,h=>by unfold vCode at h;exact h.elim
 | .refuse _,bid,S,K,X,Y,L,hL,hf,h=>by unfold vCode at h;exact h.elim
 | .rangeFunc _ _ _ _,bid,S,K,X,Y,L,hL,hf,h=>by unfold vCode at h;exact h.elim
theorem vFn_ok (hm:P.follows .mixedOrders=true) (hc:CallOk P (callN P fuel)) {f:FuncId} {args:List AV} {n:Nat} {Y:Sy} (hf:Good P c n Y) (h:VOK P Q [] Y (vFn P fuel c f args n)):SemCallF P c.k Y f args H0 (PureEnd Q):=by
 unfold vFn at h
 split at h
 ·rename_i fn hfn
  split at h
  ·rename_i cd hb
   split at h
   ·rename_i hle
    obtain ⟨h1,h2⟩:=and_split hle
    have h1:args.length<=fn.ntmps:=by rw [lenA_eq]at h1;simpa [Nat.ble_eq]using h1
    have h2:fn.ntmps<=512:=by simpa [Nat.ble_eq]using h2
    have fin:∀u L Y' S,VOK P Q L Y' (vDone P fuel fn.results.toList u S)->wLeave P fn.results.toList (PureEnd Q) Y' S.T S.H S.D u:=by
     intro u L Y' S h
     unfold vDone at h
     split at h
     ·rename_i r hl
      split at h
      ·rename_i a H
       unfold vDoneV at h
       simp only at h
       split at h
       ·rename_i v hv
        split at h
        ·rename_i hs
         exact ⟨callN P fuel,fuel,.ret a H,hc,hl,a,H,v,100,rfl,hv,hs,h⟩
        ·exact h.elim
       ·exact h.elim
      ·exact h.elim
     ·exact h.elim
    refine wFn_ok hm hfn hb ⟨h1,h2,wCode_mono cd (λY' T' H' D' hk=>?_) (λY' r hx=>?_) _ _ _ _ (vCode_ok hm hc cd 0 ⟨enterT args 0 tnil,H0,n,0,[]⟩ _ _ Y [] rfl hf h)⟩
    ·obtain ⟨n',lv,L',_,_,_,_,_,h'⟩:=hk
     exact fin none L' Y' ⟨T',H',n',lv,D'⟩ h'
    ·cases r with
     |norm T H D=>exact hx.elim
     |pan v T H D=>
      obtain ⟨n',lv,L',_,_,_,_,_,h'⟩:=hx
      exact fin (some v) L' Y' ⟨T,H,n',lv,D⟩ h'
     |exit id T H D=>
      obtain ⟨n',lv,L',_,_,_,_,_,h'⟩:=hx
      exact h'.elim
     |ret T H D=>
      obtain ⟨n',lv,L',_,_,_,_,_,h'⟩:=hx
      exact fin none L' Y' ⟨T,H,n',lv,D⟩ h'
   ·exact h.elim
  ·exact h.elim
 ·exact h.elim
theorem SemCallF.low {k:Nat} {Y:Sy} {f:FuncId} {args:List AV} {H:AHeap} {R:Sy->FRes->Prop} (h:SemCallF P k Y f args H R):SemCallF P 0 Y f args H R:=λB pr E w vs hy hg hr hcon=>
 Calls.mono (h B pr E w vs hy hg hr hcon) λe w' he=>by
  obtain ⟨Y',r,h1,E',h2,h3⟩:=he
  exact ⟨Y',r,h1,E',⟨λ_ _ hi=>absurd hi (Nat.not_lt_zero _),h2.sz,h2.imm,h2.bim,h2.sy⟩,h3⟩
def QF (R:Nat->List AV->Prop) (a:AV):Prop:=∃j ws,a=.tup (.int .i64 (.ofNat j)::ws)/\okL ws=true/\R j ws
theorem vFin_ok {ft:FT} {R:Nat->List AV->Prop} {L:LVs} {Y0 Y:Sy} {n:Nat} {b:Bool} {S:VS} {a:AV} (hT:S.T=tset topq 0 a) (hD:S.D=[]) (hf:Fresh Y0 n) (hx:Ext n Y0 Y):∀(l:List (Bool×Tpl)) (j0:Nat),(∀j q,l[j]? =some q->ft.exs[j0+j]? =some q)->VOK P (QF R) L Y (vFin n ft.k b S l j0)->
  ∃j ws tp,ft.exs[j]? =some (b,tp)/\R j ws/\okL ws=true/\ws.length=tp.nv/\∀N,Weak P N ft.k Y S.T S.H [] (Y0.puts n ws) (instT n tp.slots) (tp.heap n) []
 |[],j0,_,h=>h.elim
 |(b',tp)::r,j0,hl,h=>by
  unfold vFin at h
  simp only at h
  split at h
  ·exact vFin_ok hT hD hf hx r (j0+1) (λj q hj=>by rw [show j0+1+j=j0+(j+1) by omega];exact hl (j+1) q (by simpa using hj)) h
  ·rename_i hb
   have hb:b=b':=by simpa using hb
   subst hb
   split at h
   ·rename_i m hm
    obtain ⟨hs,h⟩:=sames_ok h
    obtain ⟨hn,h⟩:=chks_ok h
    obtain ⟨j,ws,e,hok,hR⟩:=h
    simp only [den,denL,AV.tup.injEq,List.cons.injEq,AV.int.injEq,true_and]at e
    obtain ⟨e1,e2⟩:=e
    have e1:j0=j:=by cases e1;rfl
    subst e1
    rw [←e2]at hok hR
    refine ⟨j0,denL Y.v m.hv,tp,hl 0 _ rfl,hR,hok,?_,λN=>?_⟩
    ·exact (tpl_weak (P:=P) (N:=0) (lv:=0) hm hs hn hf hx hok).1
    ·have:=(tpl_weak (P:=P) (N:=N) (lv:=0) hm hs hn hf hx hok).2
     rw [hD]at this
     exact this
   ·exact vFin_ok hT hD hf hx r (j0+1) (λj q hj=>by rw [show j0+1+j=j0+(j+1) by omega];exact hl (j+1) q (by simpa using hj)) h
def FEndW (P:Program) (ft:FT) (R:Nat->List AV->Prop) (Y0:Sy) (Y:Sy) (r:FRes):Prop:=
 ∃b a H j ws tp,r=(match b with
  |true=>.pan a H
  |false=>.ret a H)/\ft.exs[j]? =some (b,tp)/\R j ws/\okL ws=true/\ws.length=tp.nv/\∀N,Weak P N ft.k Y (tset topq 0 a) H [] (Y0.puts (Nat.add 64 ft.ent.nv) ws) (instT (Nat.add 64 ft.ent.nv) tp.slots) (tp.heap (Nat.add 64 ft.ent.nv)) []
theorem FEndW.call {ft:FT} {R:Nat->List AV->Prop} {Y0:Sy} {f:FuncId} {args:List AV} {H:AHeap} (h:SemCallF P ft.k Y0 f args H (FEndW P ft R Y0)):SemCallF P ft.k Y0 f args H (FEnd ft (Nat.add 64 ft.ent.nv) Y0 R):=λB pr E w vs hy hg hr hcon=>
 Calls.mono (h B pr E w vs hy hg hr hcon) λe w' he=>by
  obtain ⟨Y',r,⟨b,a,H',j,ws,tp,rfl,h1,h2,h3,h4,hw⟩,E',hle,hy',hres⟩:=he
  have hend:∃u,e=(match b with
    |true=>.panicked [{ v:=u,recovered:=false }]
    |false=>.returned u)/\Con E' a u/\Rel B pr E' H' w':=by
   cases b with
   |true=>exact hres
   |false=>exact hres
  obtain ⟨u,he,hcu,hr'⟩:=hend
  have hgl:GlOk E':=hg.leF hle
  let ac:Act:={ tmps:= #[u],defers:=[] }
  have st:St P B pr 1 E' (tset topq 0 a) H' [] ac w':=⟨⟨rfl,by omega,λt ht=>by
   by_cases e:0=t
   ·subst e
    rw [tget_tset_same _ ht]
    exact hcu
   ·rw [tget_tset_ne _ ht (by omega) e,tget_topq];simp [Con],hgl⟩,hr',rfl⟩
  obtain ⟨E2,hle2,hy2,st2⟩:=hw 1 B pr E' ac w' hy' st
  have hcu2:=st2.t.con 0 (by omega)
  refine ⟨_,_,⟨j,ws,b,tp,h1,h2,h3,h4,rfl,rfl⟩,E2,hle.trans hle2,hy2,?_⟩
  cases b with
  |true=>exact ⟨u,he,hcu2,st2.r⟩
  |false=>exact ⟨u,he,hcu2,st2.r⟩
theorem vFnF_ok (hm:P.follows .mixedOrders=true) (hc:CallOk P (callN P fuel)) {f:FuncId} {ft:FT} {R:Nat->List AV->Prop} {Y:Sy} (hf:Good P c (Nat.add 64 ft.ent.nv) Y) (h:VOK P (QF R) [] Y (vFnF P fuel c f ft)):
  SemCallF P ft.k Y f (instL 64 (valsT ft.ent.slots)) (ft.ent.heap 64) (FEnd ft (Nat.add 64 ft.ent.nv) Y R):=by
 unfold vFnF at h
 split at h
 ·rename_i fn hfn
  split at h
  ·rename_i cd hb
   split at h
   ·rename_i hle
    obtain ⟨h1,hle⟩:=and_split hle
    obtain ⟨h2,h3⟩:=and_split hle
    have h1:(instL 64 (valsT ft.ent.slots)).length<=fn.ntmps:=by rw [lenA_eq]at h1;rw [instL_len];simpa [Nat.ble_eq]using h1
    have h2:fn.ntmps<=512:=by simpa [Nat.ble_eq]using h2
    have h3:=Nat.eq_of_beq_eq_true h3
    have fin:∀u L Y' S,Ext (Nat.add 64 ft.ent.nv) Y Y'->VOK P (QF R) L Y' (vDoneF P fuel fn.results.toList ft u S)->wLeave P fn.results.toList (FEndW P ft R Y) Y' S.T S.H S.D u:=by
     intro u L Y' S hx h
     unfold vDoneF at h
     split at h
     ·rename_i r hl
      split at h
      ·rename_i a H
       obtain ⟨j,ws,tp,q1,q2,q3,q4,q5⟩:=vFin_ok (a:=a) rfl rfl hf.1 hx ft.exs 0 (λj q hj=>by rw [Nat.zero_add];exact hj) h
       exact ⟨callN P fuel,fuel,.ret a H,hc,hl,false,a,H,j,ws,tp,rfl,q1,q2,q3,q4,q5⟩
      ·rename_i a H
       obtain ⟨j,ws,tp,q1,q2,q3,q4,q5⟩:=vFin_ok (a:=a) rfl rfl hf.1 hx ft.exs 0 (λj q hj=>by rw [Nat.zero_add];exact hj) h
       exact ⟨callN P fuel,fuel,.pan a H,hc,hl,true,a,H,j,ws,tp,rfl,q1,q2,q3,q4,q5⟩
     ·exact h.elim
    refine FEndW.call ?_
    rw [←h3]
    refine wFn_ok hm hfn hb ⟨h1,h2,wCode_mono cd (λY' T' H' D' hk=>?_) (λY' r hx=>?_) _ _ _ _ (vCode_ok hm hc cd 0 ⟨enterT (instL 64 (valsT ft.ent.slots)) 0 tnil,ft.ent.heap 64,Nat.add 64 ft.ent.nv,0,[]⟩ _ _ Y [] rfl hf h)⟩
    ·obtain ⟨n',lv,L',_,_,_,hx,_,h'⟩:=hk
     exact fin none L' Y' ⟨T',H',n',lv,D'⟩ hx h'
    ·cases r with
     |norm T H D=>exact hx.elim
     |pan v T H D=>
      obtain ⟨n',lv,L',_,_,_,hx,_,h'⟩:=hx
      exact fin (some v) L' Y' ⟨T,H,n',lv,D⟩ hx h'
     |exit id T H D=>
      obtain ⟨n',lv,L',_,_,_,_,_,h'⟩:=hx
      exact h'.elim
     |ret T H D=>
      obtain ⟨n',lv,L',_,_,_,hx,_,h'⟩:=hx
      exact fin none L' Y' ⟨T,H,n',lv,D⟩ hx h'
   ·exact h.elim
  ·exact h.elim
 ·exact h.elim
end
end Go.Sx
