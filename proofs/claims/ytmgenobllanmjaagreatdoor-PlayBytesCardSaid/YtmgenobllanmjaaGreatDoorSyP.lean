/-
  The evaluator with loops by templates is right: code, and calls.
-/
import Derived.Test.YtmgenobllanmjaaGreatDoorSyZ
set_option linter.unusedVariables false
set_option linter.unusedSimpArgs false
namespace Go.Sx
variable [Gl]
section
variable {P:Program} {N:Nat} {Q:AV->Prop} {fuel:Nat} {I:Inl P fuel} {c:VC}
def nL_ (P:Program) (N:Nat) (Q:AV->Prop) (c:VC) (b:Code) (bS:VS->(VS->VT)->VT) (X:VX->VT):Prop:=
 ∀(S:VS) (K:VS->VT) (Y:Sy) (L:LVs),L.length=S.lv->Good P c S.n Y->VOK P Q L Y (bS S K)->aE_ P N c.k b Y S.T S.H S.D (kV P Q c L S.n Y K) (xV P Q c L S.n Y X)
theorem sK_ {b:Code} {bS:VS->(VS->VT)->VT} {X:VX->VT} {K:KP} (hb:nL_ P N Q c b bS X) (m:Nat) (S:VS) (Y:Sy) (L:LVs) (hL:L.length=S.lv) (hf:Good P c S.n Y)
  (h:VOK P Q L Y (pV_ bS m S)):aE_ P N c.k (.loop b) Y S.T S.H S.D K (xV P Q c L S.n Y X):=by
 refine ⟨{ p:Nat×Sy×VS×LVs // L <+: p.2.2.2/\p.2.2.2.length=p.2.2.1.lv/\S.n<=p.2.2.1.n/\Ext S.n Y p.2.1/\Good P c p.2.2.1.n p.2.1/\VOK P Q p.2.2.2 p.2.1 (pV_ bS p.1 p.2.2.1) },λp=>⟨p.1.2.1,p.1.2.2.1.T,p.1.2.2.1.H,p.1.2.2.1.D⟩,
  λp=>p.1.1,⟨(m,Y,S,L),List.prefix_refl L,hL,Nat.le_refl _,Ext.refl _ _,hf,h⟩,Weak.refl _ _ _ _ _ _ _,λp=>?_⟩
 obtain ⟨⟨m,Y',S',L'⟩,q1,q2,q3,q4,q5,q6⟩:=p;cases m with
 |zero=>exact q6.elim
 |succ m=>refine as_ b (λY2 T2 H2 D2 hk=>?_) (λY2 r hx=>c4_ q1 q3 q4 hx) _ _ _ _ (hb S' _ Y' L' q2 q5 q6);obtain ⟨n',lv,L2,g1,g2,g3,g4,g5,g6⟩:=hk;exact ⟨⟨(m,Y2,⟨T2,H2,n',lv,D2⟩,L2),q1.trans g1,g2,Nat.le_trans q3 g3,q4.trans g4 q3,g5,g6⟩,Nat.lt_succ_self m,Weak.refl _ _ _ _ _ _ _⟩
omit [Gl]in
theorem dH_ {n k:Nat} {D0:Dfs}:∀{l:List Tpl} {j0:Nat} {S:VS} {r:MA},cL_ n k D0 l j0 S=some r->∃i tp,l[i]? =some tp/\r.j=j0+i/\r.l=(bp_ tp S).l/\ph_ (bp_ tp S).S.D D0=true/\eU_ n (Nat.max k (qO_ (bp_ tp S).S.D)) tp (bp_ tp S).S.clr=some r.m
 |[],j0,S,r,h=>by cases h
 |tp::q,j0,S,r,h=>by
  unfold cL_ at h;have up:cL_ n k D0 q (Nat.succ j0) S=some r->∃i tp',(tp::q)[i]? =some tp'/\r.j=j0+i/\r.l=(bp_ tp' S).l/\ph_ (bp_ tp' S).S.D D0=true/\eU_ n (Nat.max k (qO_ (bp_ tp' S).S.D)) tp' (bp_ tp' S).S.clr=some r.m:=λh=>by obtain ⟨i,tp',h1,h2,h3⟩:=dH_ h;exact ⟨i+1,tp',by grind,by omega,h3⟩
  split at h;exact up h;simp only at h;split at h;rename_i hk;split at h;rename_i m hm;cases h;exact ⟨0,tp,rfl,rfl,rfl,hk,hm⟩;exact up h;exact up h
omit [Gl]in
theorem rn_:∀{D D':Dfs},eqD D D'=true->D=D'
 |[],[],_=>rfl
 |(f,a)::r,(g,b)::q,h=>by obtain ⟨h1,h2⟩:=aa_ h;obtain ⟨h2,h3⟩:=aa_ h2;rw [Nat.eq_of_beq_eq_true h1,bi_ h2,rn_ h3]
 |[],_::_,h=>by cases h
 |_::_,[],h=>by cases h
theorem Weak.withD {k kd:Nat} {D:Dfs} {Y Y':Sy} {T T':Tm} {H H':AHeap} (hk:fN_ kd 0 D=true) (h:Weak P N (Nat.max k kd) Y T H [] Y' T' H' []):Weak P N k Y T H D Y' T' H' D:=λB pr E a w hy st=>by obtain ⟨E',h1,h2,st'⟩:=h B pr E { a with defers:=[] } w hy ⟨⟨st.t.size,st.t.le,st.t.con,st.t.gl⟩,st.r,rfl⟩;refine ⟨E',⟨λi x hi hx=>h1.phi i x (Nat.lt_of_lt_of_le hi (Nat.le_max_left _ _)) hx,h1.sz,h1.imm,h1.bim,h1.sy⟩,h2,⟨⟨st'.t.size,st'.t.le,st'.t.con,st'.t.gl⟩,st'.r,?_⟩⟩;exact dO_ (k:=kd) (n:=0) ⟨λid x hi hx=>h1.phi id x (Nat.lt_of_lt_of_le hi (Nat.le_max_right _ _)) hx,h1.sz,h1.imm,λi hi=>absurd hi (Nat.not_lt_zero _)⟩ hk st.d
theorem hS_ {k:Nat} {tp:Tpl} {S:VS} {Y:Sy} (hs:∀i q,(i,q)∈(bp_ tp S).l->(Chk.same i q).ok Y):Weak P N k Y S.T S.H S.D Y (bp_ tp S).S.T (bp_ tp S).S.H (bp_ tp S).S.D/\(bp_ tp S).S.D=S.D:=by
 have h1:Weak P N k Y S.T S.H S.D Y (lB_ tp S).S.T (lB_ tp S).S.H (lB_ tp S).S.D/\(lB_ tp S).S.D=S.D:=by
  have hs1:∀i q,(i,q)∈(lB_ tp S).l->(Chk.same i q).ok Y:=λi q h=>hs i q (eA_.2 (.inl h));unfold lB_ at hs1⊢;generalize gv_ S.T tp.slots=l at hs1⊢;cases l with
  |nil=>exact ⟨Weak.refl _ _ _ _ _ _ _,rfl⟩
  |cons a r=>obtain ⟨h1,_,_,h4⟩:=nE_ (P:=P) (N:=N) (k:=k) hs1;exact ⟨h1.1,h4⟩
 have hfr:FrOk Y (lB_ tp S).S (lA_ tp (lB_ tp S).S).S:=g4_ λi q h=>hs i q (eA_.2 (.inr h));exact ⟨h1.1.trans (hfr.weak k),hfr.D.trans h1.2⟩
theorem nx_ {k n lv:Nat} {tp:Tpl} {S:VS} {m:MT} {Y0 Y:Sy} (hm:eU_ n k tp (bp_ tp S).S=some m) (hs:∀i q,(i,q)∈(bp_ tp S).l->(Chk.same i q).ok Y) (hnn:∀i,i∈m.nn->(Chk.nn i).ok Y) (hf:Fresh Y0 n) (hx:Ext n Y0 Y) (hok:okL (ab_ Y.v m.hv)=true):
  (ab_ Y.v m.hv).length=tp.nv/\Weak P N k Y S.T S.H S.D (Y0.puts n (ab_ Y.v m.hv)) (tp.inst n lv).T (tp.inst n lv).H []:=by
 obtain ⟨h1,h2⟩:=jb_ (N:=N) (P:=P) (lv:=lv) hm hf hx hok hnn;exact ⟨h1,Weak.trans (hS_ hs).1 h2⟩
theorem k9_ {k n lv:Nat} {tp:Tpl} {S:VS} {m:MT} {Y0 Y:Sy} {D0:Dfs} (hm:eU_ n (Nat.max k (qO_ (bp_ tp S).S.D)) tp (bp_ tp S).S.clr=some m) (hD:ph_ (bp_ tp S).S.D D0=true) (hs:∀i q,(i,q)∈(bp_ tp S).l->(Chk.same i q).ok Y) (hnn:∀i,i∈m.nn->(Chk.nn i).ok Y) (hf:Fresh Y0 n) (hx:Ext n Y0 Y) (hok:okL (ab_ Y.v m.hv)=true):
  (ab_ Y.v m.hv).length=tp.nv/\Weak P N k Y S.T S.H S.D (Y0.puts n (ab_ Y.v m.hv)) (tp.inst n lv D0).T (tp.inst n lv D0).H D0:=by
 obtain ⟨h1,h2⟩:=jb_ (N:=N) (P:=P) (lv:=lv) hm hf hx hok hnn;obtain ⟨e1,e2⟩:=aa_ hD;have e1:=rn_ e1;refine ⟨h1,Weak.trans (hS_ hs).1 ?_⟩;have:=Weak.withD (k:=k) e2 h2;rw [←e1];exact this
theorem qm_ (own:Bool) (l:List Oper) (S:VS) (Y:Sy):Weak P N c.k Y S.T S.H S.D Y (j8_ own l S).T (j8_ own l S).H (j8_ own l S).D/\(j8_ own l S).n=S.n/\(j8_ own l S).lv=S.lv:=by unfold j8_;split;exact ⟨Weak.refl _ _ _ _ _ _ _,rfl,rfl⟩;exact ⟨ck_ _,rfl,rfl⟩
theorem oJ_ {Inv:Nat->List AV->Prop} {μ:Nat->List AV->Nat} {L:LVs} {n lvl:Nat} {Y:Sy} {bS:VS->(VS->VT)->VT} {tps:List Tpl} {k:Nat} {D0:Dfs}:∀(l:List Tpl) (j0:Nat),uw_ P Q Inv μ L n j0 Y (lZ_ bS n k lvl D0 tps l)->
  ∀i tp,l[i]? =some tp->∀vs,vs.length=tp.nv->Inv (j0+i) vs->VOK P Q (L++[λj' vs'=>Inv j' vs'/\μ j' vs'<μ (j0+i) vs]) (Y.puts n vs) (bS (tp.inst n (Nat.succ lvl) D0) (oF_ n k lvl D0 tps))
 |[],j0,h,i,tp,hi=>by simp at hi
 |t::r,j0,h,i,tp,hi=>by
  obtain ⟨h1,h2⟩:=h;cases i with
  |zero=>simp at hi;subst hi;exact h1
  |succ i=>have:=oJ_ r (j0+1) h2 i tp (by simpa using hi);rw [show j0+(i+1)=j0+1+i by omega];exact this
theorem t0_ {b:Code} {bS:VS->(VS->VT)->VT} {X:VX->VT} {K:KP} {tps:List Tpl} (hb:nL_ P N Q c b bS X) (S:VS) (Y:Sy) (L:LVs) (hL:L.length=S.lv) (hf:Good P c S.n Y)
  (h:VOK P Q L Y (vg_ c.k bS tps S)):aE_ P N c.k (.loop b) Y S.T S.H S.D K (xV P Q c L S.n Y X):=by
 unfold vg_ at h;split at h
 case h_2=>exact h.elim
 rename_i r hm;obtain ⟨hs0,h⟩:=d3_ h;obtain ⟨hn0,h⟩:=h7_ h;obtain ⟨Inv,μ,hok,hinv,hbs⟩:=h;obtain ⟨i,tp,hi,hj,hl,hkd,hmt⟩:=dH_ hm;have hj:r.j=i:=by omega
 rw [hj]at hinv;rw [hl]at hs0;have hw:=k9_ (N:=N) (P:=P) (lv:=Nat.succ S.lv) hmt hkd hs0 hn0 hf.1 (Ext.refl _ _) (hok _ _ hinv)
 refine ⟨{ p:Nat×List AV×Tpl // tps[p.1]? =some p.2.2/\p.2.1.length=p.2.2.nv/\Inv p.1 p.2.1 },λp=>⟨Y.puts S.n p.1.2.1,(p.1.2.2.inst S.n (Nat.succ S.lv) S.D).T,(p.1.2.2.inst S.n (Nat.succ S.lv) S.D).H,S.D⟩,λp=>μ p.1.1 p.1.2.1,
  ⟨(i,ab_ Y.v r.m.hv,tp),hi,hw.1,hinv⟩,hw.2,λp=>?_⟩
 obtain ⟨⟨j1,vs,tp1⟩,q1,q2,q3⟩:=p;have hb1:=oJ_ tps 0 hbs j1 tp1 q1 vs q2 (by grind);have hgood:Good P c (tp1.inst S.n (Nat.succ S.lv) S.D).n (Y.puts S.n vs):=by show Good P c (S.n+tp1.nv) _;rw [←q2];exact hf.puts vs
 have hext:Ext S.n Y (Y.puts S.n vs):=Ext.puts vs _ (Nat.le_refl _);have hpre:∀R:Nat->List AV->Prop,L <+: L++[R]:=λR=>List.prefix_append _ _;have hnle:S.n<=(tp1.inst S.n (Nat.succ S.lv) S.D).n:=Nat.le_add_right _ _;refine as_ b (λY2 T2 H2 D2 hk=>?_) (λY2 r hx=>c4_ (hpre _) hnle hext hx) _ _ _ _ (hb _ _ _ _ (by rw [List.length_append,hL];rfl) hgood hb1);obtain ⟨n',lv,L2,g1,g2,g3,g4,g5,g6⟩:=hk;unfold oF_ at g6;split at g6
 .rename_i r2 hm2;obtain ⟨hs2,g6⟩:=d3_ g6;obtain ⟨hn2,g6⟩:=h7_ g6;obtain ⟨R,r1,r2'⟩:=g6;obtain ⟨i2,tp2,k1,k2,kl,kd,k3⟩:=dH_ hm2;have k2:r2.j=i2:=(by omega);rw [k2]at r2';rw [kl]at hs2;have hR:R=λj' vs'=>Inv j' vs'/\μ j' vs'<μ (0+j1) vs:=by
   obtain ⟨t,rfl⟩:=g1
   grind
  rw [hR]at r2';have hx2:Ext S.n Y Y2:=hext.trans g4 hnle;have hw2:=k9_ (N:=N) (P:=P) (lv:=Nat.succ S.lv) k3 kd hs2 hn2 hf.1 hx2 (hok _ _ r2'.1);exact ⟨⟨(i2,ab_ Y2.v r2.m.hv,tp2),k1,hw2.1,r2'.1⟩,by grind,hw2.2⟩
 exact g6.elim
theorem oH_ {N k:Nat} {S:VS} {Y:Sy} {t:TA} {i:Nat} {cs:List AV} (hf:Fresh Y S.n) (hk:S.H.get t.id=some (.syl i)) (hi:Y.v i=some (.vsl t.j t.sz cs)) (hl:cs.length=t.j*t.sz):
  Weak P N k Y S.T S.H S.D (Y.puts S.n cs) (jU_ t i S).T (jU_ t i S).H (jU_ t i S).D:=by
 intro B pr E a w hy st;obtain ⟨p1,p2,p3,p4⟩:=hf.puts cs;have hat:=bB_ cs hf;have hv:∀i a,E.sy i=some a->(Y.puts S.n cs).v i=some a:=λi a ha=>by rw [hy.v]at ha;grind
 have hls:∀i l,E.syl i=some l->(Y.puts S.n cs).l i=some l:=λi l ha=>by rw [hy.l]at ha;grind
 have hlo:∀i,i<64->(Y.puts S.n cs).v i=E.sy i:=λi hi=>by rw [hy.v];exact p4 i hi
 have st1:=st.with hv hls hlo;have hi1:(E.with (Y.puts S.n cs)).sy i=some (.vsl t.j t.sz cs):=p2 _ _ hi;have hrow:=r6_ (n0:=S.n) st1.r hk hi1 (λj a ha=>hat j a ha);rw [hl]at hrow;refine ⟨E.with (Y.puts S.n cs),Env.with_leF k hlo,⟨rfl,rfl,hy.res⟩,⟨⟨st1.t.size,st1.t.le,λq hq=>?_,st1.t.gl⟩,pC_ hi1 hrow [0,1,2,3],st1.d⟩⟩;show Con _ (tget (bc_ (m6_ t.id t.sz i t.j) S.T) q) _;rw [aC_];exact jl_ hi1 _ _ (st1.t.con q hq)
theorem jT_ {N k:Nat} {L:LVs} {kt:VS->VT}:∀(l:List TA) (S:VS) (Y:Sy),Good P c S.n Y->VOK P Q L Y (nG_ l S kt)->
  ∃S' Y',Weak P N k Y S.T S.H S.D Y' S'.T S'.H S'.D/\S'.lv=S.lv/\S.n<=S'.n/\Ext S.n Y Y'/\Good P c S'.n Y'/\VOK P Q L Y' (kt S')
 |[],S,Y,hf,h=>⟨S,Y,Weak.refl _ _ _ _ _ _ _,rfl,Nat.le_refl _,Ext.refl _ _,hf,h⟩
 |t::r,S,Y,hf,h=>by
  unfold nG_ at h;split at h
  .rename_i i hk;obtain ⟨cs,h1,h2,h3,h4⟩:=h;obtain ⟨q1,q2⟩:=tw_ h1;have hg:Good P c (jU_ t i S).n (Y.puts S.n cs):=by obtain ⟨p1,p2,p3,p4⟩:=hf.1.puts cs;refine ⟨?_,hf.2.sub p2 p4⟩;rw [q2]at p1;exact p1
   obtain ⟨S',Y',w1,w2,w3,w4,w5,w6⟩:=jT_ r (jU_ t i S) (Y.puts S.n cs) hg h4;have hle:S.n<=(jU_ t i S).n:=Nat.le_add_right _ _;exact ⟨S',Y',(oH_ hf.1 hk q1 q2).trans w1,w2,Nat.le_trans hle w3,(Ext.puts cs _ (Nat.le_refl _)).trans w4 hle,w5,w6⟩
  exact jT_ r S Y hf h
theorem qk_ {N k:Nat} (t o:Nat) (S:VS) (Y:Sy):Weak P N k Y S.T S.H S.D Y (mI_ t o S).T (mI_ t o S).H (mI_ t o S).D/\(mI_ t o S).n=S.n/\(mI_ t o S).lv=S.lv:=by unfold mI_;split;split;split;exact ⟨fK_ _ _,rfl,rfl⟩;exact ⟨ck_ _,rfl,rfl⟩;exact ⟨Weak.refl _ _ _ _ _ _ _,rfl,rfl⟩;exact ⟨ck_ _,rfl,rfl⟩
theorem kC_ {N k:Nat}:∀(l:List (Nat×Nat)) (S:VS) (Y:Sy),Weak P N k Y S.T S.H S.D Y (mJ_ S l).T (mJ_ S l).H (mJ_ S l).D/\(mJ_ S l).n=S.n/\(mJ_ S l).lv=S.lv
 |[],S,Y=>⟨Weak.refl _ _ _ _ _ _ _,rfl,rfl⟩
 |(t,o)::r,S,Y=>by obtain ⟨a1,a2,a3⟩:=qk_ (N:=N) (k:=k) t o S Y;obtain ⟨b1,b2,b3⟩:=kC_ (N:=N) (k:=k) r (mI_ t o S) Y;exact ⟨a1.trans b1,b2.trans a2,b3.trans a3⟩
omit [Gl]in
theorem th_ {a:AV} {m:Int} {t:TypeId} {cx cy b:Bool} (h:(XOp.bin .leq t cx cy).run P [a,.int .i64 m]=some (.bool b)):∃x,a=.int .i64 x/\b=decide (x<=m):=by
 have h:bI_ P .leq t cx cy a (.int .i64 m)=some (.bool b):=h;cases a with
 |int k n=>have h:cg_ P .leq k n .i64 m=some (.bool b):=h;cases k<;>first|(cases h;done)|(have h:some (AV.bool (not (ltI m n)))=some (.bool b):=h;cases h;exact ⟨n,rfl,by rw [eS_,←decide_not];exact decide_eq_decide.2 (by omega)⟩)
 |_=>cases h
omit [Gl]in
theorem td_ {a:AV} {m:Int} {t:TypeId} {cx cy b:Bool} (h:(XOp.bin .leq t cx cy).run P [.int .i64 m,a]=some (.bool b)):∃x,a=.int .i64 x/\b=decide (m<=x):=by
 have h:bI_ P .leq t cx cy (.int .i64 m) a=some (.bool b):=h;cases a with
 |int k n=>have h:cg_ P .leq .i64 m k n=some (.bool b):=h;cases k<;>first|(cases h;done)|(have h:some (AV.bool (not (ltI n m)))=some (.bool b):=h;cases h;exact ⟨n,rfl,by rw [eS_,←decide_not];exact decide_eq_decide.2 (by omega)⟩)
 |_=>cases h
omit [Gl]in
theorem oU_ {Y:Sy} {i:Nat} {x:Int} (h:den Y.v (.sym i)=.int .i64 x):Y.v i=some (.int .i64 x):=by revert h;show den Y.v (.sym i)=_->_;unfold den;cases Y.v i<;>simp
theorem qK_ {N k:Nat} {S:VS} {Y:Sy} {i:Nat} {m:Int} (r:AV) (hf:Fresh Y S.n) (hi:Y.v i=some (.int .i64 m)):Weak P N k Y S.T S.H S.D (Y.put S.n r) (tM_ i m S).T (tM_ i m S).H (tM_ i m S).D:=by
 intro B pr E a w hy st;have hv:∀i x,E.sy i=some x->(Y.put S.n r).v i=some x:=λi x hx=>hf.sub_put r i x (by rw [←hy.v];exact hx);have hll:∀i l,E.syl i=some l->(Y.put S.n r).l i=some l:=λi l hx=>by rw [hy.l]at hx;exact hx
 have hlo:∀i,i<64->(Y.put S.n r).v i=E.sy i:=λi hi=>by rw [hy.v];exact hf.low r i hi
 have st1:=st.with hv hll hlo;refine ⟨E.with (Y.put S.n r),Env.with_leF k hlo,⟨rfl,rfl,hy.res⟩,⟨⟨st1.t.size,st1.t.le,λq hq=>?_,st1.t.gl⟩,st1.r,st1.d⟩⟩;show Con _ (tget (bc_ (u5_ i m) S.T) q) _;rw [aC_];have h1:=st1.t.con q hq;have h2:(E.with (Y.put S.n r)).sy i=some (.int .i64 m):=hf.sub_put r i _ hi;unfold u5_
 grind [Nat.eq_of_beq_eq_true,Con,Con0]
theorem js_ {N k:Nat} {S:VS} {Y:Sy} (r:AV) (hf:Fresh Y S.n):Weak P N k Y S.T S.H S.D (Y.put S.n r) S.T S.H S.D:=by
 intro B pr E a w hy st;have hv:∀i x,E.sy i=some x->(Y.put S.n r).v i=some x:=λi x hx=>hf.sub_put r i x (by rw [←hy.v];exact hx);have hll:∀i l,E.syl i=some l->(Y.put S.n r).l i=some l:=λi l hx=>by rw [hy.l]at hx;exact hx
 have hlo:∀i,i<64->(Y.put S.n r).v i=E.sy i:=λi hi=>by rw [hy.v];exact hf.low r i hi
 exact ⟨E.with (Y.put S.n r),Env.with_leF k hlo,⟨rfl,rfl,hy.res⟩,st.with hv hll hlo⟩
def Tw (P:Program) (Q:AV->Prop) (c:VC) (N k:Nat) (L:LVs) (S:VS) (Y:Sy) (kt:VS->VT):Prop:=
 ∃S' Y',Weak P N k Y S.T S.H S.D Y' S'.T S'.H S'.D/\S'.lv=S.lv/\S.n<=S'.n/\Ext S.n Y Y'/\Good P c S'.n Y'/\VOK P Q L Y' (kt S')
theorem Tw.refl {N k:Nat} {L:LVs} {S:VS} {Y:Sy} {kt:VS->VT} (hf:Good P c S.n Y) (h:VOK P Q L Y (kt S)):Tw P Q c N k L S Y kt:=⟨S,Y,Weak.refl _ _ _ _ _ _ _,rfl,Nat.le_refl _,Ext.refl _ _,hf,h⟩
theorem Tw.after {N k:Nat} {L:LVs} {S S1:VS} {Y Y1:Sy} {kt:VS->VT} (h1:Weak P N k Y S.T S.H S.D Y1 S1.T S1.H S1.D) (h2:S1.lv=S.lv) (h3:S.n<=S1.n) (h4:Ext S.n Y Y1) (h:Tw P Q c N k L S1 Y1 kt):Tw P Q c N k L S Y kt:=by obtain ⟨S',Y',w1,w2,w3,w4,w5,w6⟩:=h;exact ⟨S',Y',h1.trans w1,w2.trans h2,Nat.le_trans h3 w3,h4.trans w4 h3,w5,w6⟩
theorem nH_ {N k i:Nat} {L:LVs} {k1 kt:VS->VT} (hk:∀S Y,Good P c S.n Y->VOK P Q L Y (k1 S)->Tw P Q c N k L S Y kt):∀(m j:Nat) (S:VS) (Y:Sy) (x:Int),Y.v i=some (.int .i64 x)->(j:Int)<=x->Good P c S.n Y->VOK P Q L Y (sM_ i k1 m j S)->Tw P Q c N k L S Y kt
 |0,j,S,Y,x,hi,hx,hf,h=>hk S Y hf h
 |m+1,j,S,Y,x,hi,hx,hf,h=>by
  obtain ⟨r,h1,h2,t,h3,h4,h5⟩:=h;rw [Sy.put_same]at h3;cases h3;obtain ⟨y,e1,e2⟩:=th_ (a:=den Y.v (.sym i)) h1;have e1:=oU_ e1;rw [hi]at e1;cases e1;cases t with
  |true=>have:x<=(j:Int):=of_decide_eq_true e2.symm;have e:x=Int.ofNat j:=Int.le_antisymm this hx;exact Tw.after (qK_ _ hf.1 (by rw [hi,e])) rfl (Nat.le_succ _) (Ext.put _ (Nat.le_refl _)) (hk _ _ (hf.put _) (h4 rfl))
  |false=>have:¬x<=(j:Int):=of_decide_eq_false e2.symm;exact Tw.after (S1:=⟨S.T,S.H,Nat.succ S.n,S.lv,S.D⟩) (js_ _ hf.1) rfl (Nat.le_succ _) (Ext.put _ (Nat.le_refl _)) (nH_ hk m (j+1) _ _ x (hf.1.sub_put _ _ _ hi) (by omega) (hf.put _) (h5 rfl))
theorem e5_ {N k:Nat} {L:LVs} {kt:VS->VT}:∀(l:List (Nat×AV)) (S:VS) (Y:Sy),Good P c S.n Y->VOK P Q L Y (jV_ l S kt)->Tw P Q c N k L S Y kt
 |[],S,Y,hf,h=>Tw.refl hf h
 |(t,a)::r,S,Y,hf,h=>by
  unfold jV_ at h;split at h
  .rename_i i _;split at h
   .obtain ⟨r',h1,h2,t,h3,h4,h5⟩:=h;rw [Sy.put_same]at h3;cases h3;obtain ⟨y,e1,e2⟩:=td_ (a:=den Y.v (.sym i)) h1;have e1:=oU_ e1;cases t with
    |true=>have:(0:Int)<=y:=of_decide_eq_true e2.symm;exact Tw.after (S1:=⟨S.T,S.H,Nat.succ S.n,S.lv,S.D⟩) (js_ _ hf.1) rfl (Nat.le_succ _) (Ext.put _ (Nat.le_refl _)) (nH_ (λS Y hf h=>e5_ r S Y hf h) _ 0 _ _ y (hf.1.sub_put _ _ _ e1) this (hf.put _) (h4 rfl))
    |false=>exact Tw.after (S1:=⟨S.T,S.H,Nat.succ S.n,S.lv,S.D⟩) (js_ _ hf.1) rfl (Nat.le_succ _) (Ext.put _ (Nat.le_refl _)) (e5_ r _ _ (hf.put _) (h5 rfl))
   exact e5_ r S Y hf h
  exact e5_ r S Y hf h
theorem tZ_ {N k rid:Nat} {L:LVs} {kt:VS->VT} {ops:List Oper} {S:VS} {Y:Sy} (hf:Good P c S.n Y) (h:VOK P Q L Y (ve_ c rid ops S kt)):
  VOK P Q L Y (kt S)\/(ops≠[]/\∃S' Y',Weak P N k Y S.T S.H S.D Y' S'.T S'.H S'.D/\S'.lv=S.lv/\S.n<=S'.n/\Ext S.n Y Y'/\Good P c S'.n Y'/\VOK P Q L Y' (kt S')):=by
 unfold ve_ at h;split at h;exact .inl h;split at h;rename_i tp _ _;obtain ⟨w1,w2,w3⟩:=kC_ (P:=P) (N:=N) (k:=k) tp.fix S Y;obtain ⟨S',Y',v1,v2,v3,v4,v5,v6⟩:=jT_ (N:=N) (k:=k) _ (mJ_ S tp.fix) Y (by rw [w2];exact hf) h;have h3:S.n<=S'.n:=(by rw [←w2];exact v3);have h4:Ext S.n Y Y':=(by rw [←w2];exact v4);exact .inr ⟨by simp,Tw.after (w1.trans v1) (v2.trans w3) h3 h4 (e5_ _ S' Y' v5 v6)⟩;exact .inl h
theorem ou_ {N k id:Nat} {ops:Array Oper} {draw:Bool} {Y Y':Sy} {T T':Tm} {H H':AHeap} {D D':Dfs} {K:KP} {X:XP} (hne:ops.toList≠[]) (hw:Weak P N k Y T H D Y' T' H' D') (h:aE_ P N k (.region id ops draw) Y' T' H' D' K X):
  aE_ P N k (.region id ops draw) Y T H D K X:=by
 unfold aE_ at h⊢;cases draw with
 |false=>
  cases ho:ops.toList with
  |nil=>grind
  |cons o r=>rw [ho]at h;obtain ⟨Y1,T1,H1,D1,h1,h2⟩:=h;exact ⟨Y1,T1,H1,D1,hw.trans h1,h2⟩
 |true=>
  rcases h with ⟨Y1,T1,H1,D1,h1,h2⟩|h;exact .inl ⟨Y1,T1,H1,D1,hw.trans h1,h2⟩
  .refine .inr λB pr E a w hy st=>?_;obtain ⟨E1,hle,hy1,st1⟩:=hw B pr E a w hy st
   grind [Code.wp_mono,OutF.le]
theorem l3_ (hm:P.follows .mixedOrders=true) (hc:an_ P (aM_ P fuel)) {id:Nat} {any:Bool} {ops:Array Oper} {draw:Bool} {S:VS} {K:VS->VT} {X:VX->VT} {Y:Sy} {L:LVs} (hL:L.length=S.lv) (hf:Good P c S.n Y) (h:VOK P Q L Y (sL_ P N fuel I c any ops draw S K X)):
  aE_ P N c.k (.region id ops draw) Y S.T S.H S.D (kV P Q c L S.n Y K) (xV P Q c L S.n Y X):=by
 cases draw with
 |false=>grind [sL_,aE_,is_]
 |true=>
  unfold sL_ at h;simp only at h;split at h;rename_i r hd;split at h;exact .inl ⟨Y,S.T,S.H,S.D,Weak.refl _ _ _ _ _ _ _,aM_ P fuel,_,hc,hd,S.n,S.lv,L,List.prefix_refl L,hL,Nat.le_refl _,Ext.refl _ _,hf,h⟩;exact h.elim
  .have dr:VOK P Q L Y (nD_ P N fuel I c ops.toList (j8_ c.own ops.toList S) X K)->∀B pr E a w,E.At Y->St P B pr N E S.T S.H S.D a w->(Code.region id ops true).wp P (OutF P B pr N c.k E (ay_ (kV P Q c L S.n Y K) (xV P Q c L S.n Y X))) a w:=by
     intro h;obtain ⟨w1,w2,w3⟩:=qm_ (P:=P) (N:=N) (c:=c) c.own ops.toList S Y;intro B pr E a w hy st;obtain ⟨E1,hle,hy1,st1⟩:=w1 B pr E a w hy st;have key:=sE_ (id:=id) (S:=j8_ c.own ops.toList S) hm hc (by omega) (by grind) h B pr E1 a w hy1 st1
     grind [Code.wp_mono,OutF.le]
   refine .inr ?_;split at h;split at h;exact dr h;exact nA_ hm hc hL hf h;split at h;exact nA_ hm hc hL hf h;exact dr h
theorem bF_ (hm:P.follows .mixedOrders=true) (hc:an_ P (aM_ P fuel)):∀(cd:Code) (bid:Nat) (S:VS) (K:VS->VT) (X:VX->VT) (Y:Sy) (L:LVs),L.length=S.lv->Good P c S.n Y->VOK P Q L Y (cu_ P N fuel I c bid cd S K X)->
  aE_ P N c.k cd Y S.T S.H S.D (kV P Q c L S.n Y K) (xV P Q c L S.n Y X)
 | .skip,bid,S,K,X,Y,L,hL,hf,h=>by exact ⟨S.n,S.lv,L,List.prefix_refl L,hL,Nat.le_refl _,Ext.refl _ _,hf,h⟩
 | .label _,bid,S,K,X,Y,L,hL,hf,h=>by exact ⟨S.n,S.lv,L,List.prefix_refl L,hL,Nat.le_refl _,Ext.refl _ _,hf,h⟩
 | .exit id,bid,S,K,X,Y,L,hL,hf,h=>by exact ⟨S.n,S.lv,L,List.prefix_refl L,hL,Nat.le_refl _,Ext.refl _ _,hf,h⟩
 | .ret,bid,S,K,X,Y,L,hL,hf,h=>by exact ⟨S.n,S.lv,L,List.prefix_refl L,hL,Nat.le_refl _,Ext.refl _ _,hf,h⟩
 | .region id ops draw,bid,S,K,X,Y,L,hL,hf,h=>by
   rcases tZ_ (N:=N) (k:=c.k) hf h with h|⟨hne,S',Y',w1,w2,w3,w4,w5,w6⟩
   .grind [l3_]
   refine ou_ hne w1 (as_ _ (λ_ _ _ _ hk=>ig_ (List.prefix_refl L) w3 w4 hk) (λ_ _ hx=>c4_ (List.prefix_refl L) w3 w4 hx) _ _ _ _ (l3_ hm hc (by omega) w5 w6))
 | .seq a b,bid,S,K,X,Y,L,hL,hf,h=>by unfold cu_ at h;unfold aE_;refine as_ a (λY' T' H' D' hk=>?_) (λ_ _ h=>h) _ _ _ _ (bF_ hm hc a bid S _ X Y L hL hf h);obtain ⟨n',lv,L',g1,g2,g3,g4,g5,g6⟩:=hk;exact as_ b (λ_ _ _ _ hk=>ig_ g1 g3 g4 hk) (λ_ _ hx=>c4_ g1 g3 g4 hx) _ _ _ _ (bF_ hm hc b bid ⟨T',H',n',lv,D'⟩ K X Y' L' g2 g5 g6)
 | .cond cd a b,bid,S,K,X,Y,L,hL,hf,h=>by unfold cu_ at h;split at h;rename_i t ht;refine ⟨Y,S.T,S.H,S.D,Weak.refl _ _ _ _ _ _ _,t,ht,λe=>?_,λe=>?_⟩;subst e;exact bF_ hm hc a bid S K X Y L hL hf h;subst e;exact bF_ hm hc b bid S K X Y L hL hf h;split at h;rename_i i hi;obtain ⟨t,ht,h1,h2⟩:=h;refine ⟨Y,(S.know i t).T,(S.know i t).H,(S.know i t).D,b6_ ht S.x S.D,t,cM_ hi S.x rfl t,λe=>?_,λe=>?_⟩;subst e;exact bF_ hm hc a bid (S.know i true) K X Y L hL hf (h1 rfl);subst e;exact bF_ hm hc b bid (S.know i false) K X Y L hL hf (h2 rfl);exact h.elim
 | .block id b,bid,S,K,X,Y,L,hL,hf,h=>by
   refine as_ b (λ_ _ _ _ h=>h) (λY' r hx=>?_) _ _ _ _ (bF_ hm hc b id S K (u9_ id K X) Y L hL hf h);cases r with
   |norm T H D=>exact hx.elim
   |pan v T H D=>exact hx
   |ret T H D=>exact hx
   |exit id' T H D=>
    obtain ⟨n,lv,L',g1,g2,g3,g4,g5,h'⟩:=hx;unfold u9_ at h';simp only at h';cases hb:Nat.beq id' id with
    |true=>rw [hb]at h';exact ⟨λ_=>⟨n,lv,L',g1,g2,g3,g4,g5,h'⟩,λe=>absurd (Nat.eq_of_beq_eq_true hb) e⟩
    |false=>rw [hb]at h';refine ⟨λe=>?_,λ_=>⟨n,lv,L',g1,g2,g3,g4,g5,h'⟩⟩;simp_all
 | .loop b,bid,S,K,X,Y,L,hL,hf,h=>by unfold cu_ at h;have hb:nL_ P N Q c b (λS K=>cu_ P N fuel I c bid b S K X) X:=λS K Y L hL hf h=>bF_ hm hc b bid S K X Y L hL hf h;split at h;exact t0_ hb S Y L hL hf h;exact sK_ hb fuel S Y L hL hf h
 | .scope _,bid,S,K,X,Y,L,hL,hf,h=>by exact h.elim
 | .goto _,bid,S,K,X,Y,L,hL,hf,h=>by exact h.elim
 | .refuse _,bid,S,K,X,Y,L,hL,hf,h=>by exact h.elim
 | .rangeFunc _ _ _ _,bid,S,K,X,Y,L,hL,hf,h=>by exact h.elim
def DOutV (P:Program) (Q:AV->Prop) (c:VC) (N:Nat) (B:World) (pr:Nat->Prop) (K R:VS->Option AV->VT) (L:LVs) (n:Nat) (Y:Sy) (E:Env) (c₀:Frame) (cs:List Frame) (e:Exit) (a:Act) (cs':List Frame) (w:World):Prop:=
 ∃(Y':Sy) (S':VS) (u':Option AV) (m':FrameMode) (E':Env) (L':LVs),(L <+: L'/\L'.length=S'.lv/\n<=S'.n/\Ext n Y Y'/\Good P c S'.n Y'/\S'.D=[])/\E.leF c.k E'/\E'.At Y'/\cs'={ c₀ with mode:=m' }::cs/\ModeIn E' u' m'/\St P B pr N E' S'.T S'.H [] a w/\
  ((e=.normal/\VOK P Q L' Y' (K S' u'))\/(e=.ret/\VOK P Q L' Y' (R S' u')))
theorem DOutV.le {B:World} {pr:Nat->Prop} {K R:VS->Option AV->VT} {L L0:LVs} {n n0:Nat} {Y Y0:Sy} {E E0:Env} {c₀:Frame} {cs cs':List Frame} {e:Exit} {a:Act} {w:World} (hL:L0 <+: L) (hn:n0<=n) (hx:Ext n0 Y0 Y) (hE:E0.leF c.k E) (h:DOutV P Q c N B pr K R L n Y E c₀ cs e a cs' w):DOutV P Q c N B pr K R L0 n0 Y0 E0 c₀ cs e a cs' w:=by obtain ⟨Y',S',u',m',E',L',⟨h1,h2,h3,h4,h5⟩,h6,h7⟩:=h;exact ⟨Y',S',u',m',E',L',⟨hL.trans h1,h2,Nat.le_trans hn h3,hx.trans h4 hn,h5⟩,hE.trans h6,h7⟩
omit [Gl]in
theorem ModeIn.none {E E':Env} {m:FrameMode} (h:ModeIn E none m):ModeIn E' none m:=h
theorem cb_ (hm:P.follows .mixedOrders=true) (hc:an_ P (aM_ P fuel)) (B:World) (pr:Nat->Prop) (c₀:Frame) (cs:List Frame):∀(cd:Code) (S:VS) (u:Option AV) (K R:VS->Option AV->VT) (Y:Sy) (L:LVs),L.length=S.lv->Good P c S.n Y->S.D=[]->VOK P Q L Y (dp_ P N fuel I c cd S u K R)->
  ∀E a w m,E.At Y->St P B pr N E S.T S.H [] a w->ModeIn E u m->cd.wpS P (DOutV P Q c N B pr K R L S.n Y E c₀ cs) a ({ c₀ with mode:=m }::cs) w
 | .skip,S,u,K,R,Y,L,hL,hf,hD,h,E,a,w,m,hy,st,hmo=>by exact wpS_of_wp (wp_skip ⟨Y,S,u,m,E,L,⟨List.prefix_refl L,hL,Nat.le_refl _,Ext.refl _ _,hf,hD⟩,Env.leF_refl _ _,hy,rfl,hmo,st,.inl ⟨rfl,h⟩⟩)
 | .ret,S,u,K,R,Y,L,hL,hf,hD,h,E,a,w,m,hy,st,hmo=>by exact wpS_of_wp (wp_ret ⟨Y,S,u,m,E,L,⟨List.prefix_refl L,hL,Nat.le_refl _,Ext.refl _ _,hf,hD⟩,Env.leF_refl _ _,hy,rfl,hmo,st,.inr ⟨rfl,h⟩⟩)
 | .region id ops draw,S,u,K,R,Y,L,hL,hf,hD,h,E,a,w,m,hy,st,hmo=>by
   unfold dp_ at h;split at h;split at h;exact h.elim;split at h;rename_i r hr;split at h;rename_i T' H' u';refine wpS_region ?_;have:=lM_ hc ops c₀ cs ops.toList 0 (by simp) S.T S.H u _ hr E a w m st hmo;rw [List.range_eq_range'];have h2:wpOpsS P ops (SOut P B pr N E c₀ cs (.norm T' H' u')) (List.range' 0 ops.size) a ({ c₀ with mode:=m }::cs) w:=(by omega);refine bm_ (λe a cs' w hq=>?_) _ _ _ _ h2;obtain ⟨E',m',q1,q2,rfl,q3,q4⟩:=hq;exact ⟨Y,⟨T',H',S.n,S.lv,[]⟩,u',m',E',L,⟨List.prefix_refl L,hL,Nat.le_refl _,Ext.refl _ _,hf,rfl⟩,q1.leF _,hy.le q1,q2,q3,q4,.inl ⟨rfl,h⟩⟩;exact h.elim;exact h.elim
   .rename_i hb;have hu:u=none:=by
     cases u with
     |none=>rfl
     |some v=>cases hb
    subst hu;have hw:=l3_ (N:=N) (id:=id) hm hc hL hf h;rw [hD]at hw;refine wpS_of_wp (Code.wp_mono (λe a w hq=>?_) (cO_ hm _ _ _ _ _ _ _ hw B pr E a w hy st));obtain ⟨Y',r,hr,E',q1,q2,q3⟩:=hq;cases r with
    |norm T' H' D'=>
     obtain ⟨n',lv,L',g1,g2,g3,g4,g5,g6⟩:=hr;obtain ⟨rfl,st'⟩:=q3;cases D' with
     |nil=>exact ⟨Y',⟨T',H',n',lv,[]⟩,none,m,E',L',⟨g1,g2,g3,g4,g5,rfl⟩,q1,q2,rfl,hmo,st',.inl ⟨rfl,g6⟩⟩
     |cons d D'=>exact g6.elim
    |exit id T' H' D'=>obtain ⟨n',lv,L',g1,g2,g3,g4,g5,g6⟩:=hr;exact g6.elim
    |ret T' H' D'=>obtain ⟨n',lv,L',g1,g2,g3,g4,g5,g6⟩:=hr;exact g6.elim
    |pan v T' H' D'=>obtain ⟨n',lv,L',g1,g2,g3,g4,g5,g6⟩:=hr;exact g6.elim
 | .seq x y,S,u,K,R,Y,L,hL,hf,hD,h,E,a,w,m,hy,st,hmo=>by refine wpS_seq (Code.wpS_mono (λe a cs' w hq=>?_) (cb_ hm hc B pr c₀ cs x S u _ R Y L hL hf hD h E a w m hy st hmo));obtain ⟨Y',S',u',m',E',L',⟨h1,h2,h3,h4,h5,h6⟩,q1,q2,rfl,q3,q4,q5⟩:=hq;rcases q5 with ⟨rfl,q5⟩|⟨rfl,q5⟩;exact Code.wpS_mono (λe a cs' w hq=>DOutV.le h1 h3 h4 q1 hq) (cb_ hm hc B pr c₀ cs y S' u' K R Y' L' h2 h5 h6 q5 E' a w m' q2 q4 q3);exact ⟨Y',S',u',m',E',L',⟨h1,h2,h3,h4,h5,h6⟩,q1,q2,rfl,q3,q4,.inr ⟨rfl,q5⟩⟩
 | .cond cd x y,S,u,K,R,Y,L,hL,hf,hD,h,E,a,w,m,hy,st,hmo=>by
   unfold dp_ at h;split at h
   .rename_i t ht;have hl:=st.t.look cd;rw [ht]at hl;refine wpS_cond (t:=t) (by simpa [Con]using hl) ?_;cases t with
    |true=>exact cb_ hm hc B pr c₀ cs x S u K R Y L hL hf hD h E a w m hy st hmo
    |false=>exact cb_ hm hc B pr c₀ cs y S u K R Y L hL hf hD h E a w m hy st hmo
   .split at h
    .rename_i i hi;obtain ⟨t,ht,h1,h2⟩:=h;have st1:St P B pr N E (S.know i t).T (S.know i t).H [] a w:=⟨⟨st.t.size,st.t.le,λq hq=>by show Con E (tget (bc_ (hs_ i t) S.T) q) _;rw [aC_];exact iI_ (by rw [hy.v];exact ht) (st.t.con q hq),st.t.gl⟩,st.r,st.d⟩;have hl:=st1.t.look cd;rw [show look (S.know i t).T cd=.bool t from cM_ hi S.x rfl t]at hl;refine wpS_cond (t:=t) (by grind [Con]) ?_;cases t with
     |true=>exact cb_ hm hc B pr c₀ cs x (S.know i true) u K R Y L hL hf hD (h1 rfl) E a w m hy st1 hmo
     |false=>exact cb_ hm hc B pr c₀ cs y (S.know i false) u K R Y L hL hf hD (h2 rfl) E a w m hy st1 hmo
    exact h.elim
 | .block id b,S,u,K,R,Y,L,hL,hf,hD,h,E,a,w,m,hy,st,hmo=>by
   refine eu_ (cb_ hm hc B pr c₀ cs b S u K R Y L hL hf hD h E a w m hy st hmo) λe a cs' w hq=>?_;obtain ⟨Y',S',u',m',E',L',_,_,_,_,_,_,q5⟩:=hq
   grind
 | .exit _,S,u,K,R,Y,L,hL,hf,hD,h,E,a,w,m,hy,st,hmo=>by exact h.elim
 | .label _,S,u,K,R,Y,L,hL,hf,hD,h,E,a,w,m,hy,st,hmo=>by exact h.elim
 | .loop _,S,u,K,R,Y,L,hL,hf,hD,h,E,a,w,m,hy,st,hmo=>by exact h.elim
 | .scope _,S,u,K,R,Y,L,hL,hf,hD,h,E,a,w,m,hy,st,hmo=>by exact h.elim
 | .goto _,S,u,K,R,Y,L,hL,hf,hD,h,E,a,w,m,hy,st,hmo=>by exact h.elim
 | .refuse _,S,u,K,R,Y,L,hL,hf,hD,h,E,a,w,m,hy,st,hmo=>by exact h.elim
 | .rangeFunc _ _ _ _,S,u,K,R,Y,L,hL,hf,hD,h,E,a,w,m,hy,st,hmo=>by exact h.elim
theorem jS_ (hm:P.follows .mixedOrders=true) (hc:an_ P (aM_ P fuel)) {fn:Func} {fin:FRes->Nat->Nat->VT} {Q':Sy->FRes->Prop} {B:World} {pr:Nat->Prop} {tmps:Array Value}:∀(D:Dfs) (T:Tm) (H:AHeap) (n lv:Nat) (u:Option AV) (Y:Sy) (L:LVs),L.length=lv->Good P c n Y->VOK P Q L Y (en_ P fuel I c fn.results.toList fin D T H n lv u)->
  (∀r n' lv' L' Y',L <+: L'->L'.length=lv'->n<=n'->Ext n Y Y'->Good P c n' Y'->VOK P Q L' Y' (fin r n' lv')->Q' Y' r)->
  ∀E w ds m,E.At Y->TRel E N T tmps->Rel B pr E H w->DRel P E D ds->ModeAt E u m->Leaves P fn tmps (λe w'=>∃Y r,Q' Y r/\lc_ c.k B pr E Y r e w') ds m w
 |[],T,H,n,lv,u,Y,L,hL,hf,h,hfin,E,w,ds,m,hy,ht,hr,hd,hmo=>by unfold en_ at h;split at h;rename_i r hl;have hq:=hfin r n lv L Y (List.prefix_refl L) hL (Nat.le_refl _) (Ext.refl _ _) hf h;refine Leaves.mono (λe w ⟨E',g1,g2⟩=>⟨Y,r,hq,E',g1.leF _,hy.le g1,g2⟩) _ _ _ (c6_ hc (λN=>ic_ hm hc N) [] H u r hl E w ds m ht hr hd hmo);exact h.elim
 |(f,args)::D,T,H,n,lv,u,Y,L,hL,hf,h,hfin,E,w,ds,m,hy,ht,hr,hd,hmo=>by
  obtain ⟨vs,ds',rfl,h2,h3,h4⟩:=hd;unfold en_ at h;split at h
  case h_2=>exact h.elim
  rename_i fd hfd;split at h
  case h_2=>exact h.elim
  rename_i cd hb;split at h
  case h_2=>exact h.elim
  rename_i hle;obtain ⟨a1,hle⟩:=aa_ hle;obtain ⟨a2,hle⟩:=aa_ hle;obtain ⟨a3,a4⟩:=aa_ hle;have a1:args.length<=fd.ntmps:=(by grind [ai_,Nat.ble_eq]);have a2:fd.ntmps<=512:=(by simp_all);have a4:c.k<=H.next:=Nat.le_of_ble_eq_true a4;refine ⟨hmo.ne_run,.func f,#[],f,⟨vs⟩,rfl,by simp [invoke,d6_ h3],CallsD.mono (λe m' w' hq=>?_) (callsD_of_wpS (R:=λe m' w'=>∃(v:Value) (E':Env) (u':Option AV) (Y':Sy) (S':VS) (L':LVs),e=.returned v/\(L <+: L'/\L'.length=S'.lv/\n<=S'.n/\Ext n Y Y'/\Good P c S'.n Y')/\E.leF H.next E'/\E'.At Y'/\ModeIn E' u' m'/\Rel B pr E' S'.H w'/\VOK P Q L' Y' (en_ P fuel I c fn.results.toList fin D (bc_ (bU_ H.next n) T) S'.H S'.n S'.lv u')) hfd hb λc₀ cs hmode=>?_)⟩;obtain ⟨v,E',u',Y',S',L',rfl,⟨g1,g2,g3,g4,g5⟩,g6,g7,g8,g9,g10⟩:=hq;have hkeep:Keeps H.next n E E':=⟨g6.phi,g6.sz,g6.imm,λi hi=>by rw [g7.v,hy.v];exact g4 i hi⟩;have ht':TRel E' N (bc_ (bU_ H.next n) T) tmps:=⟨ht.size,ht.le,λt hN=>by rw [aC_];exact ku_ hkeep (kK_ (ht.con t hN)),ht.gl.leF g6⟩;have hlek:E.leF c.k E':=⟨λi x hi=>g6.phi i x (Nat.lt_of_lt_of_le hi a4),g6.sz,g6.imm,g6.bim,g6.sy⟩;have ih:=jS_ hm hc (fn:=fn) (Q':=Q') (B:=B) (pr:=pr) (tmps:=tmps) D (bc_ (bU_ H.next n) T) S'.H S'.n S'.lv u' Y' L' g2 g5 g10 (λr n' lv' L2 Y2 k1 k2 k3 k4 k5 k6=>hfin r n' lv' L2 Y2 (g1.trans k1) k2 (Nat.le_trans g3 k3) (g4.trans k4 g3) k5 k6) E' w' ds' (Go.settle m') g7 ht' g9 (dO_ hkeep a3 h4) g8.settle;exact Leaves.mono (λe w ⟨Y2,r,k1,E2,k2,k3⟩=>⟨Y2,r,k1,E2,hlek.trans k2,k3⟩) _ _ _ ih
  .have st:St P B pr fd.ntmps E (aT_ args 0 tnil) H [] { tmps:=(⟨vs⟩:Array Value)++Array.replicate (fd.ntmps-(⟨vs⟩:Array Value).size) undef,defers:=[] } w:=
     ⟨fh_ ht.gl h2 a1 a2,hr,rfl⟩
   have hc₀:c₀={ c₀ with mode:=m }:=(by rw [←hmode]);have hrun:=cb_ (N:=fd.ntmps) (c:=⟨c.fc,c.cs,[],H.next,c.own,c.fs⟩) (I:=I) hm hc B pr c₀ cs cd ⟨aT_ args 0 tnil,H,n,lv,[]⟩ u _ _ Y L hL hf rfl h E _ w m hy st hmo.in;rw [←hc₀]at hrun;refine Code.wpS_mono (λe a cs' w' hq=>?_) hrun;obtain ⟨Y',S',u',m',E',L',⟨g1,g2,g3,g4,g5,g6⟩,q1,q2,rfl,q3,q4,q5⟩:=hq;have key:VOK P Q L' Y' (match d2_ P S'.T S'.H fd.results.toList with
     |some _=>en_ P fuel I c fn.results.toList fin D (bc_ (bU_ H.next n) T) S'.H S'.n S'.lv u'
     |none=>.bad):=by
    grind
   split at key;rename_i l hl;obtain ⟨v,r1,r2⟩:=gH_ q4.r q4.t hl;rcases q5 with ⟨rfl,_⟩|⟨rfl,_⟩;exact ⟨q4.d,m',rfl,v,r1,v,E',u',Y',S',L',rfl,⟨g1,g2,g3,g4,g5⟩,q1,q2,q3,q4.r,key⟩;exact ⟨q4.d,m',rfl,v,r1,v,E',u',Y',S',L',rfl,⟨g1,g2,g3,g4,g5⟩,q1,q2,q3,q4.r,key⟩;exact key.elim
theorem fD_ (hm:P.follows .mixedOrders=true) (hc:an_ P (aM_ P fuel)) {fn:Func} {fin:FRes->Nat->Nat->VT} {Q':Sy->FRes->Prop} {u:Option AV} {S:VS} {Y:Sy} {L:LVs} (hL:L.length=S.lv) (hf:Good P c S.n Y) (h:VOK P Q L Y (jR_ P fuel I c fn.results.toList fin u S))
  (hfin:∀r n' lv' L' Y',L <+: L'->L'.length=lv'->S.n<=n'->Ext S.n Y Y'->Good P c n' Y'->VOK P Q L' Y' (fin r n' lv')->Q' Y' r):dq_ P c.k fn Q' Y S.T S.H S.D u:=by
 unfold jR_ at h;split at h;rename_i r hl;exact .inl ⟨aM_ P fuel,fuel,r,hc,hl,hfin r S.n S.lv L Y (List.prefix_refl L) hL (Nat.le_refl _) (Ext.refl _ _) hf h⟩;exact .inr λB pr E w tmps ds m hy ht hr hd hmo=>jS_ hm hc S.D S.T S.H S.n S.lv u Y L hL hf h hfin E w ds m hy ht hr hd hmo
theorem tV_ (hm:P.follows .mixedOrders=true) (hc:an_ P (aM_ P fuel)) {f:FuncId} {args:List AV} {n:Nat} {Y:Sy} (hf:Good P c n Y) (h:VOK P Q [] Y (va_ P fuel I c f args n)):SemCallF P c.k Y f args H0 (e8_ Q):=by
 unfold va_ at h;split at h
 .rename_i fn hfn;split at h
  .rename_i cd hb;split at h
   .rename_i hle;obtain ⟨h1,h2⟩:=aa_ hle;have h1:args.length<=fn.ntmps:=(by grind [ai_,Nat.ble_eq]);have h2:fn.ntmps<=512:=(by simp_all);have fin:∀u L Y' S,L.length=S.lv->Good P c S.n Y'->VOK P Q L Y' (pT_ P fuel I c fn.results.toList u S)->dq_ P c.k fn (e8_ Q) Y' S.T S.H S.D u:=by
     intro u L Y' S hL hg h;refine fD_ hm hc hL hg h λr n' lv' L' Y' _ _ _ _ _ h=>?_;cases r with
     |pan a H=>exact (show False from h).elim
     |ret a H=>unfold sC_ sD_ at h;simp only at h;split at h;rename_i v hv;split at h;rename_i hs;exact ⟨a,H,v,100,rfl,hv,hs,h⟩;exact h.elim;exact h.elim
    refine jX_ hm hfn hb ⟨h1,h2,as_ cd (λY' T' H' D' hk=>?_) (λY' r hx=>?_) _ _ _ _ (bF_ hm hc cd 0 ⟨aT_ args 0 tnil,H0,n,0,[]⟩ _ _ Y [] rfl hf h)⟩
    .obtain ⟨n',lv,L',_,q2,_,_,q5,h'⟩:=hk
     grind
    .cases r with
     |norm T H D=>exact hx.elim
     |pan v T H D=>obtain ⟨n',lv,L',_,q2,_,_,q5,h'⟩:=hx;exact fin (some v) L' Y' ⟨T,H,n',lv,D⟩ q2 q5 h'
     |exit id T H D=>obtain ⟨n',lv,L',_,_,_,_,_,h'⟩:=hx;exact h'.elim
     |ret T H D=>obtain ⟨n',lv,L',_,q2,_,_,q5,h'⟩:=hx;exact fin none L' Y' ⟨T,H,n',lv,D⟩ q2 q5 h'
   exact h.elim
  exact h.elim
 exact h.elim
theorem SemCallF.low {k:Nat} {Y:Sy} {f:FuncId} {args:List AV} {H:AHeap} {R:Sy->FRes->Prop} (h:SemCallF P k Y f args H R):SemCallF P 0 Y f args H R:=λB pr E w vs hy hg hr hcon=>
 Calls.mono (h B pr E w vs hy hg hr hcon) λe w' he=>by obtain ⟨Y',r,h1,E',h2,h3⟩:=he;exact ⟨Y',r,h1,E',⟨λ_ _ hi=>absurd hi (Nat.not_lt_zero _),h2.sz,h2.imm,h2.bim,h2.sy⟩,h3⟩
def QF (R:Nat->List AV->Prop) (a:AV):Prop:=∃j ws,a=.tup (.int .i64 (.ofNat j)::ws)/\okL ws=true/\R j ws
theorem fC_ {ft:FT} {R:Nat->List AV->Prop} {L:LVs} {Y0 Y:Sy} {n:Nat} {b:Bool} {S:VS} {a:AV} (hT:S.T=dL_ topq 0 a) (hD:S.D=[]) (hf:Fresh Y0 n) (hx:Ext n Y0 Y):∀(l:List (Bool×Tpl)) (j0:Nat),(∀j q,l[j]? =some q->ft.exs[j0+j]? =some q)->VOK P (QF R) L Y (qT_ n ft.k b S l j0)->
  ∃j ws tp,ft.exs[j]? =some (b,tp)/\R j ws/\okL ws=true/\ws.length=tp.nv/\∀N,Weak P N ft.k Y S.T S.H [] (Y0.puts n ws) (cV_ n tp.slots) (tp.heap n) []
 |[],j0,_,h=>h.elim
 |(b',tp)::r,j0,hl,h=>by unfold qT_ at h;simp only at h;split at h;exact fC_ hT hD hf hx r (j0+1) (λj q hj=>by rw [show j0+1+j=j0+(j+1) by omega];exact hl (j+1) q (by grind)) h;rename_i hb;have hb:b=b':=(by grind);subst hb;split at h;rename_i m hm;obtain ⟨hs,h⟩:=d3_ h;obtain ⟨hn,h⟩:=h7_ h;obtain ⟨j,ws,e,hok,hR⟩:=h;simp only [den,ab_,AV.tup.injEq,List.cons.injEq,AV.int.injEq,true_and]at e;obtain ⟨e1,e2⟩:=e;have e1:j0=j:=(by cases e1;rfl);subst e1;rw [←e2]at hok hR;refine ⟨j0,ab_ Y.v m.hv,tp,hl 0 _ rfl,hR,hok,?_,λN=>?_⟩;exact (nx_ (P:=P) (N:=0) (lv:=0) hm hs hn hf hx hok).1;have:=(nx_ (P:=P) (N:=N) (lv:=0) hm hs hn hf hx hok).2;rw [hD]at this;exact this;exact fC_ hT hD hf hx r (j0+1) (λj q hj=>by rw [show j0+1+j=j0+(j+1) by omega];exact hl (j+1) q (by grind)) h
def FEndW (P:Program) (ft:FT) (R:Nat->List AV->Prop) (Y0:Sy) (Y:Sy) (r:FRes):Prop:=
 ∃b a H j ws tp,r=(match b with
  |true=>.pan a H
  |false=>.ret a H)/\ft.exs[j]? =some (b,tp)/\R j ws/\okL ws=true/\ws.length=tp.nv/\∀N,Weak P N ft.k Y (dL_ topq 0 a) H [] (Y0.puts (Nat.add 64 ft.ent.nv) ws) (cV_ (Nat.add 64 ft.ent.nv) tp.slots) (tp.heap (Nat.add 64 ft.ent.nv)) []
theorem FEndW.call {ft:FT} {R:Nat->List AV->Prop} {Y0:Sy} {f:FuncId} {args:List AV} {H:AHeap} (h:SemCallF P ft.k Y0 f args H (FEndW P ft R Y0)):SemCallF P ft.k Y0 f args H (pZ_ ft (Nat.add 64 ft.ent.nv) Y0 R):=λB pr E w vs hy hg hr hcon=>
 Calls.mono (h B pr E w vs hy hg hr hcon) λe w' he=>by
  obtain ⟨Y',r,⟨b,a,H',j,ws,tp,rfl,h1,h2,h3,h4,hw⟩,E',hle,hy',hres⟩:=he;have hend:∃u,e=(match b with
    |true=>.panicked [{ v:=u,recovered:=false }]
    |false=>.returned u)/\Con E' a u/\Rel B pr E' H' w':=by
   grind
  obtain ⟨u,he,hcu,hr'⟩:=hend;have hgl:GlOk E':=hg.leF hle
  let ac:Act:={ tmps:= #[u],defers:=[] }
  have st:St P B pr 1 E' (dL_ topq 0 a) H' [] ac w':=⟨⟨rfl,by omega,λt ht=>by
   by_cases e:0=t;subst e;exact hcu
   grind [ap_,ca_,Con],hgl⟩,hr',rfl⟩
  obtain ⟨E2,hle2,hy2,st2⟩:=hw 1 B pr E' ac w' hy' st;have hcu2:=st2.t.con 0 (by omega);refine ⟨_,_,⟨j,ws,b,tp,h1,h2,h3,h4,rfl,rfl⟩,E2,hle.trans hle2,hy2,?_⟩;cases b with
  |true=>exact ⟨u,he,hcu2,st2.r⟩
  |false=>exact ⟨u,he,hcu2,st2.r⟩
theorem sH_ (hm:P.follows .mixedOrders=true) (hc:an_ P (aM_ P fuel)) {f:FuncId} {ft:FT} {R:Nat->List AV->Prop} {Y:Sy} (hf:Good P c (Nat.add 64 ft.ent.nv) Y) (h:VOK P (QF R) [] Y (sG_ P fuel I c f ft)):
  SemCallF P ft.k Y f (bu_ 64 (cv_ ft.ent.slots)) (ft.ent.heap 64) (pZ_ ft (Nat.add 64 ft.ent.nv) Y R):=by
 unfold sG_ at h;split at h
 .rename_i fn hfn;split at h
  .rename_i cd hb;split at h
   .rename_i hle;obtain ⟨h1,hle⟩:=aa_ hle;obtain ⟨h2,h3⟩:=aa_ hle;have h1:(bu_ 64 (cv_ ft.ent.slots)).length<=fn.ntmps:=(by grind [ai_,fr_,Nat.ble_eq]);have h2:fn.ntmps<=512:=(by simp_all);have h3:=Nat.eq_of_beq_eq_true h3;have fin:∀u L Y' S,L.length=S.lv->Good P c S.n Y'->Nat.add 64 ft.ent.nv<=S.n->Ext (Nat.add 64 ft.ent.nv) Y Y'->VOK P (QF R) L Y' (hv_ P fuel I c fn.results.toList ft u S)->dq_ P c.k fn (FEndW P ft R Y) Y' S.T S.H S.D u:=by
     intro u L Y' S hL hg hn hx h;refine fD_ hm hc hL hg h λr n' lv' L' Y2 _ _ _ hx2 _ h=>?_;have hx:=hx.trans hx2 hn;cases r with
     |ret a H=>obtain ⟨j,ws,tp,q1,q2,q3,q4,q5⟩:=fC_ (a:=a) rfl rfl hf.1 hx ft.exs 0 (λj q hj=>by grind) h;exact ⟨false,a,H,j,ws,tp,rfl,q1,q2,q3,q4,q5⟩
     |pan a H=>obtain ⟨j,ws,tp,q1,q2,q3,q4,q5⟩:=fC_ (a:=a) rfl rfl hf.1 hx ft.exs 0 (λj q hj=>by grind) h;exact ⟨true,a,H,j,ws,tp,rfl,q1,q2,q3,q4,q5⟩
    refine FEndW.call ?_;rw [←h3];refine jX_ hm hfn hb ⟨h1,h2,as_ cd (λY' T' H' D' hk=>?_) (λY' r hx=>?_) _ _ _ _ (bF_ hm hc cd 0 ⟨aT_ (bu_ 64 (cv_ ft.ent.slots)) 0 tnil,ft.ent.heap 64,Nat.add 64 ft.ent.nv,0,[]⟩ _ _ Y [] rfl hf h)⟩
    .obtain ⟨n',lv,L',_,q2,q3,hx,q5,h'⟩:=hk
     grind
    .cases r with
     |norm T H D=>exact hx.elim
     |pan v T H D=>obtain ⟨n',lv,L',_,q2,q3,hx,q5,h'⟩:=hx;exact fin (some v) L' Y' ⟨T,H,n',lv,D⟩ q2 q5 q3 hx h'
     |exit id T H D=>obtain ⟨n',lv,L',_,_,_,_,_,h'⟩:=hx;exact h'.elim
     |ret T H D=>obtain ⟨n',lv,L',_,q2,q3,hx,q5,h'⟩:=hx;exact fin none L' Y' ⟨T,H,n',lv,D⟩ q2 q5 q3 hx h'
   exact h.elim
  exact h.elim
 exact h.elim
theorem tX_ (hm:P.follows .mixedOrders=true) (hc:an_ P (aM_ P fuel)) {g:FuncId} {args:List AV} {H:AHeap} {n lv:Nat} {ret pan:AV->AHeap->Nat->Nat->VT} {L:List (Nat->List AV->Prop)} {Y:Sy} (hL:L.length=lv) (hf:Fresh Y n/\KnownF P c.fc Y)
  (h:VOK P Q L Y (vc_ P fuel I c g args H n lv ret pan)):SemCallF P H.next Y g args H (INL P Q c.fc L n Y ret pan):=by
 unfold vc_ at h;split at h
 .rename_i fn hfn;split at h
  .rename_i cd hb;split at h
   .rename_i hle;obtain ⟨h1,h2⟩:=aa_ hle;have h1:args.length<=fn.ntmps:=(by grind [ai_,Nat.ble_eq]);have h2:fn.ntmps<=512:=(by simp_all);have fin:∀u L' Y' (S:VS),L <+: L'->L'.length=S.lv->n<=S.n->Ext n Y Y'->(Fresh Y' S.n/\KnownF P c.fc Y')->VOK P Q L' Y' (pU_ P fuel I ⟨c.fc,c.cs,[],H.next,c.own,c.fs⟩ fn.results.toList ret pan u S)->dq_ P H.next fn (INL P Q c.fc L n Y ret pan) Y' S.T S.H S.D u:=by
     intro u L' Y' S hp hl hn hx hg h;refine fD_ (c:=⟨c.fc,c.cs,[],H.next,c.own,c.fs⟩) hm hc hl hg h λr n' lv' L2 Y2 k1 k2 k3 k4 k5 h=>?_;refine ⟨n',lv',L2,hp.trans k1,k2,Nat.le_trans hn k3,hx.trans k4 hn,k5,?_⟩;cases r with
     |ret a H=>exact h
     |pan a H=>exact h
    refine jX_ hm hfn hb ⟨h1,h2,as_ cd (λY' T' H' D' hk=>?_) (λY' r hx=>?_) _ _ _ _ (bF_ (c:=⟨c.fc,c.cs,[],H.next,c.own,c.fs⟩) hm hc cd 0 ⟨aT_ args 0 tnil,H,n,lv,[]⟩ _ _ Y L hL hf h)⟩;obtain ⟨n',lv',L',q1,q2,q3,q4,q5,q6⟩:=hk;exact fin none L' Y' ⟨T',H',n',lv',D'⟩ q1 q2 q3 q4 q5 q6
    .cases r with
     |norm T H D=>exact hx.elim
     |pan v T H D=>obtain ⟨n',lv',L',q1,q2,q3,q4,q5,q6⟩:=hx;exact fin (some v) L' Y' ⟨T,H,n',lv',D⟩ q1 q2 q3 q4 q5 q6
     |exit id T H D=>obtain ⟨n',lv',L',_,_,_,_,_,q6⟩:=hx;exact (show False from q6).elim
     |ret T H D=>obtain ⟨n',lv',L',q1,q2,q3,q4,q5,q6⟩:=hx;exact fin none L' Y' ⟨T,H,n',lv',D⟩ q1 q2 q3 q4 q5 q6
   exact (show False from h).elim
  exact (show False from h).elim
 exact (show False from h).elim
end
def inN (P:Program) (fuel:Nat):Nat->Inl P fuel
 |0=>in0 P fuel
 |d+1=>⟨λc g args H n lv ret pan=>vc_ P fuel (inN P fuel d) c g args H n lv ret pan,λhm hc hL hf h=>tX_ hm hc hL hf h⟩
def v3_ (P:Program) (fuel:Nat) (c:VC) (f:FuncId) (ft:FT):VT:=sG_ P fuel (inN P fuel 12) c f ft
def vFn (P:Program) (fuel:Nat) (c:VC) (f:FuncId) (args:List AV) (n:Nat):VT:=va_ P fuel (inN P fuel 12) c f args n
theorem sI_ {P:Program} {Q:AV->Prop} {fuel:Nat} {c:VC} (hm:P.follows .mixedOrders=true) (hc:an_ P (aM_ P fuel)) {f:FuncId} {args:List AV} {n:Nat} {Y:Sy} (hf:Good P c n Y) (h:VOK P Q [] Y (vFn P fuel c f args n)):SemCallF P c.k Y f args H0 (e8_ Q):=tV_ hm hc hf h
theorem tU_ {P:Program} {fuel:Nat} {c:VC} (hm:P.follows .mixedOrders=true) (hc:an_ P (aM_ P fuel)) {f:FuncId} {ft:FT} {R:Nat->List AV->Prop} {Y:Sy} (hf:Good P c (Nat.add 64 ft.ent.nv) Y) (h:VOK P (QF R) [] Y (v3_ P fuel c f ft)):SemCallF P ft.k Y f (bu_ 64 (cv_ ft.ent.slots)) (ft.ent.heap 64) (pZ_ ft (Nat.add 64 ft.ent.nv) Y R):=sH_ hm hc hf h
end Go.Sx
