/-
  The evaluator with loops by templates is right: code, and calls.
-/
import Derived.Test.YtelnbodnjmldeaaGreatSyZ
set_option linter.unusedVariables false
set_option linter.unusedSimpArgs false
open Nat renaming le_refl→za',le_trans→zc',ble_eq→zd',le_mul_of_pos_right→ze',le_add_right→zf',eq_of_beq_eq_true→zg',div_self→zi'
open List renaming prefix_refl→zb',not_mem_nil→zh'
namespace Go.Sx
variable [Gl]
section
variable {P:Program} {N:Nat} {Q:AV->Prop} {fuel:Nat} {I:Inl P fuel} {c:VC}
def ns_ (P:Program) (N:Nat) (Q:AV->Prop) (c:VC) (b:Code) (bS:VS->(VS->VT)->VT) (X:VX->VT):Prop:=
 ∀(S:VS) (K:VS->VT) (Y:Sy) (L:LVs),L.length=S.lv->Good P c S.n Y->VOK P Q L Y (bS S K)->aQ_ P N c.k b Y S.T S.H S.D (kV P Q c L S.n Y K) (xV P Q c L S.n Y X)
theorem sg_ {b:Code} {bS:VS->(VS->VT)->VT} {X:VX->VT} {K:KP} (hb:ns_ P N Q c b bS X) (m:Nat) (S:VS) (Y:Sy) (L:LVs) (hL:L.length=S.lv) (hf:Good P c S.n Y)
  (h:VOK P Q L Y (py_ bS m S)):aQ_ P N c.k (.loop b) Y S.T S.H S.D K (xV P Q c L S.n Y X):=by
 refine ⟨{ p:Nat×Sy×VS×LVs // L <+: p.2.2.2/\p.2.2.2.length=p.2.2.1.lv/\S.n<=p.2.2.1.n/\Ext S.n Y p.2.1/\Good P c p.2.2.1.n p.2.1/\VOK P Q p.2.2.2 p.2.1 (py_ bS p.1 p.2.2.1) },λp=>⟨p.1.2.1,p.1.2.2.1.T,p.1.2.2.1.H,p.1.2.2.1.D⟩,
  λp=>p.1.1,⟨(m,Y,S,L),zb' L,hL,za' _,Ext.refl _ _,hf,h⟩,Weak.refl _ _ _ _ _ _ _,λp=>?_⟩
 obtain ⟨⟨m,Y',S',L'⟩,q1,q2,q3,q4,q5,q6⟩:=p;cases m with
 |zero=>exact q6.elim
 |succ m=>refine aA_ b (λY2 T2 H2 D2 hk=>?_) (λY2 r hx=>cV_ q1 q3 q4 hx) _ _ _ _ (hb S' _ Y' L' q2 q5 q6);obtain ⟨n',lv,L2,g1,g2,g3,g4,g5,g6⟩:=hk;exact ⟨⟨(m,Y2,⟨T2,H2,n',lv,D2⟩,L2),q1.trans g1,g2,zc' q3 g3,q4.trans g4 q3,g5,g6⟩,Nat.lt_succ_self m,Weak.refl _ _ _ _ _ _ _⟩
omit [Gl]in
theorem cx_ {n k:Nat}:∀{l:List Tpl} {j0:Nat} {S:VS} {r:MA},dT_ n k l j0 S=some r->∃i tp,l[i]? =some tp/\r.j=j0+i/\r.l=(dd_ tp S).l/\g2_ n k tp (dd_ tp S).S=some r.m
 |[],j0,S,r,h=>by cases h
 |tp::q,j0,S,r,h=>by
  unfold dT_ at h;split at h;obtain ⟨i,tp',h1,h2,h3⟩:=cx_ h;exact ⟨i+1,tp',by grind,by omega,h3⟩;simp only at h;split at h
  .cases h
   grind
  obtain ⟨i,tp',h1,h2,h3⟩:=cx_ h;exact ⟨i+1,tp',by grind,by omega,h3⟩
theorem mW_ {k:Nat} {tp:Tpl} {S:VS} {Y:Sy} (hs:∀i q,(i,q)∈(dd_ tp S).l->(Chk.same i q).ok Y):Weak P N k Y S.T S.H S.D Y (dd_ tp S).S.T (dd_ tp S).S.H (dd_ tp S).S.D/\(dd_ tp S).S.D=S.D:=by
 have h1:Weak P N k Y S.T S.H S.D Y (lb_ tp S).S.T (lb_ tp S).S.H (lb_ tp S).S.D/\(lb_ tp S).S.D=S.D:=by
  have hs1:∀i q,(i,q)∈(lb_ tp S).l->(Chk.same i q).ok Y:=λi q h=>hs i q (ev_.2 (.inl h));unfold lb_ at hs1⊢;generalize gj_ S.T tp.slots=l at hs1⊢;cases l with
  |nil=>exact ⟨Weak.refl _ _ _ _ _ _ _,rfl⟩
  |cons a r=>obtain ⟨h1,_,_,h4⟩:=nl_ (P:=P) (N:=N) (k:=k) hs1;exact ⟨h1.1,h4⟩
 have hfr:FrOk Y (lb_ tp S).S (la_ tp (lb_ tp S).S).S:=gR_ λi q h=>hs i q (ev_.2 (.inr h));exact ⟨h1.1.trans (hfr.weak k),hfr.D.trans h1.2⟩
theorem gw_ {k n lv:Nat} {tp:Tpl} {S:VS} {m:MT} {Y0 Y:Sy} (hm:g2_ n k tp (dd_ tp S).S=some m) (hs:∀i q,(i,q)∈(dd_ tp S).l->(Chk.same i q).ok Y) (hnn:∀i,i∈m.nn->(Chk.nn i).ok Y) (hf:Fresh Y0 n) (hx:Ext n Y0 Y) (hok:okL (ab_ Y.v m.hv)=true):
  (ab_ Y.v m.hv).length=tp.nv/\Weak P N k Y S.T S.H S.D (Y0.puts n (ab_ Y.v m.hv)) (tp.inst n lv).T (tp.inst n lv).H []:=by
 obtain ⟨h1,h2⟩:=nZ_ (N:=N) (P:=P) (lv:=lv) hm hf hx hok hnn;exact ⟨h1,Weak.trans (mW_ hs).1 h2⟩
theorem pU_ (own:Bool) (l:List Oper) (S:VS) (Y:Sy):Weak P N c.k Y S.T S.H S.D Y (jL_ own l S).T (jL_ own l S).H (jL_ own l S).D/\(jL_ own l S).n=S.n/\(jL_ own l S).lv=S.lv:=by unfold jL_;split;exact ⟨Weak.refl _ _ _ _ _ _ _,rfl,rfl⟩;exact ⟨cN_ _,rfl,rfl⟩
theorem op_ {Inv:Nat->List AV->Prop} {μ:Nat->List AV->Nat} {L:LVs} {n lvl:Nat} {Y:Sy} {bS:VS->(VS->VT)->VT} {tps:List Tpl} {k:Nat}:∀(l:List Tpl) (j0:Nat),tV_ P Q Inv μ L n j0 Y (lF_ bS n k lvl tps l)->
  ∀i tp,l[i]? =some tp->∀vs,vs.length=tp.nv->Inv (j0+i) vs->VOK P Q (L++[λj' vs'=>Inv j' vs'/\μ j' vs'<μ (j0+i) vs]) (Y.puts n vs) (bS (tp.inst n (Nat.succ lvl)) (ol_ n k lvl tps))
 |[],j0,h,i,tp,hi=>by simp at hi
 |t::r,j0,h,i,tp,hi=>by
  obtain ⟨h1,h2⟩:=h;cases i with
  |zero=>simp at hi;subst hi;exact h1
  |succ i=>have:=op_ r (j0+1) h2 i tp (by simpa using hi);rw [show j0+(i+1)=j0+1+i by omega];exact this
theorem ts_ {b:Code} {bS:VS->(VS->VT)->VT} {X:VX->VT} {K:KP} {tps:List Tpl} (hb:ns_ P N Q c b bS X) (S:VS) (Y:Sy) (L:LVs) (hL:L.length=S.lv) (hf:Good P c S.n Y)
  (h:VOK P Q L Y (uG_ c.k bS tps S)):aQ_ P N c.k (.loop b) Y S.T S.H S.D K (xV P Q c L S.n Y X):=by
 unfold uG_ at h;split at h
 case h_2=>exact h.elim
 rename_i r hm;obtain ⟨hs0,h⟩:=dV_ h;obtain ⟨hn0,h⟩:=hW_ h;obtain ⟨Inv,μ,hok,hinv,hbs⟩:=h;obtain ⟨i,tp,hi,hj,hl,hmt⟩:=cx_ hm;have hj:r.j=i:=by omega
 rw [hj]at hinv;rw [hl]at hs0;have hw:=gw_ (N:=N) (P:=P) (lv:=Nat.succ S.lv) hmt hs0 hn0 hf.1 (Ext.refl _ _) (hok _ _ hinv)
 refine ⟨{ p:Nat×List AV×Tpl // tps[p.1]? =some p.2.2/\p.2.1.length=p.2.2.nv/\Inv p.1 p.2.1 },λp=>⟨Y.puts S.n p.1.2.1,(p.1.2.2.inst S.n (Nat.succ S.lv)).T,(p.1.2.2.inst S.n (Nat.succ S.lv)).H,[]⟩,λp=>μ p.1.1 p.1.2.1,
  ⟨(i,ab_ Y.v r.m.hv,tp),hi,hw.1,hinv⟩,hw.2,λp=>?_⟩
 obtain ⟨⟨j1,vs,tp1⟩,q1,q2,q3⟩:=p;have hb1:=op_ tps 0 hbs j1 tp1 q1 vs q2 (by grind);have hgood:Good P c (tp1.inst S.n (Nat.succ S.lv)).n (Y.puts S.n vs):=by show Good P c (S.n+tp1.nv) _;rw [←q2];exact hf.puts vs
 have hext:Ext S.n Y (Y.puts S.n vs):=Ext.puts vs _ (za' _);have hpre:∀R:Nat->List AV->Prop,L <+: L++[R]:=λR=>List.prefix_append _ _;have hnle:S.n<=(tp1.inst S.n (Nat.succ S.lv)).n:=zf' _ _;refine aA_ b (λY2 T2 H2 D2 hk=>?_) (λY2 r hx=>cV_ (hpre _) hnle hext hx) _ _ _ _ (hb _ _ _ _ (by rw [List.length_append,hL];rfl) hgood hb1);obtain ⟨n',lv,L2,g1,g2,g3,g4,g5,g6⟩:=hk;unfold ol_ at g6;split at g6
 .rename_i r2 hm2;obtain ⟨hs2,g6⟩:=dV_ g6;obtain ⟨hn2,g6⟩:=hW_ g6;obtain ⟨R,r1,r2'⟩:=g6;obtain ⟨i2,tp2,k1,k2,kl,k3⟩:=cx_ hm2;have k2:r2.j=i2:=(by omega);rw [k2]at r2';rw [kl]at hs2;have hR:R=λj' vs'=>Inv j' vs'/\μ j' vs'<μ (0+j1) vs:=by
   obtain ⟨t,rfl⟩:=g1
   grind
  rw [hR]at r2';have hx2:Ext S.n Y Y2:=hext.trans g4 hnle;have hw2:=gw_ (N:=N) (P:=P) (lv:=Nat.succ S.lv) k3 hs2 hn2 hf.1 hx2 (hok _ _ r2'.1);exact ⟨⟨(i2,ab_ Y2.v r2.m.hv,tp2),k1,hw2.1,r2'.1⟩,by grind,hw2.2⟩
 exact g6.elim
theorem oo_ {N k:Nat} {S:VS} {Y:Sy} {t:TA} {i:Nat} {cs:List AV} (hf:Fresh Y S.n) (hk:S.H.get t.id=some (.syl i)) (hi:Y.v i=some (.vsl t.j t.sz cs)) (hl:cs.length=t.j*t.sz):
  Weak P N k Y S.T S.H S.D (Y.puts S.n cs) (jA_ t i S).T (jA_ t i S).H (jA_ t i S).D:=by
 intro B pr E a w hy st;obtain ⟨p1,p2,p3,p4⟩:=hf.puts cs;have hat:=bF_ cs hf;have hv:∀i a,E.sy i=some a->(Y.puts S.n cs).v i=some a:=λi a ha=>by rw [hy.v]at ha;grind
 have hls:∀i l,E.syl i=some l->(Y.puts S.n cs).l i=some l:=λi l ha=>by rw [hy.l]at ha;grind
 have hlo:∀i,i<64->(Y.puts S.n cs).v i=E.sy i:=λi hi=>by rw [hy.v];exact p4 i hi
 have st1:=st.with hv hls hlo;have hi1:(E.with (Y.puts S.n cs)).sy i=some (.vsl t.j t.sz cs):=p2 _ _ hi;have hrow:=rD_ (n0:=S.n) st1.r hk hi1 (λj a ha=>hat j a ha);rw [hl]at hrow;refine ⟨E.with (Y.puts S.n cs),Env.with_leF k hlo,⟨rfl,rfl,hy.res⟩,⟨⟨st1.t.size,st1.t.le,λq hq=>?_,st1.t.gl⟩,pc_ hi1 hrow [0,1,2,3],st1.d⟩⟩;show Con _ (tget (bj_ (mQ_ t.id t.sz i t.j) S.T) q) _;rw [aG_];exact i2_ hi1 _ _ (st1.t.con q hq)
theorem jz_ {N k:Nat} {L:LVs} {kt:VS->VT}:∀(l:List TA) (S:VS) (Y:Sy),Good P c S.n Y->VOK P Q L Y (nn_ l S kt)->
  ∃S' Y',Weak P N k Y S.T S.H S.D Y' S'.T S'.H S'.D/\S'.lv=S.lv/\S.n<=S'.n/\Ext S.n Y Y'/\Good P c S'.n Y'/\VOK P Q L Y' (kt S')
 |[],S,Y,hf,h=>⟨S,Y,Weak.refl _ _ _ _ _ _ _,rfl,za' _,Ext.refl _ _,hf,h⟩
 |t::r,S,Y,hf,h=>by
  unfold nn_ at h;split at h
  .rename_i i hk;obtain ⟨cs,h1,h2,h3,h4⟩:=h;obtain ⟨q1,q2⟩:=s1_ h1;have hg:Good P c (jA_ t i S).n (Y.puts S.n cs):=by obtain ⟨p1,p2,p3,p4⟩:=hf.1.puts cs;refine ⟨?_,hf.2.sub p2 p4⟩;rw [q2]at p1;exact p1
   obtain ⟨S',Y',w1,w2,w3,w4,w5,w6⟩:=jz_ r (jA_ t i S) (Y.puts S.n cs) hg h4;have hle:S.n<=(jA_ t i S).n:=zf' _ _;exact ⟨S',Y',(oo_ hf.1 hk q1 q2).trans w1,w2,zc' hle w3,(Ext.puts cs _ (za' _)).trans w4 hle,w5,w6⟩
  exact jz_ r S Y hf h
theorem pS_ {N k:Nat} (t o:Nat) (S:VS) (Y:Sy):Weak P N k Y S.T S.H S.D Y (mn_ t o S).T (mn_ t o S).H (mn_ t o S).D/\(mn_ t o S).n=S.n/\(mn_ t o S).lv=S.lv:=by unfold mn_;split;split;split;exact ⟨fy_ _ _,rfl,rfl⟩;exact ⟨Weak.refl _ _ _ _ _ _ _,rfl,rfl⟩;exact ⟨Weak.refl _ _ _ _ _ _ _,rfl,rfl⟩;exact ⟨cN_ _,rfl,rfl⟩
theorem ke_ {N k:Nat}:∀(l:List (Nat×Nat)) (S:VS) (Y:Sy),Weak P N k Y S.T S.H S.D Y (mo_ S l).T (mo_ S l).H (mo_ S l).D/\(mo_ S l).n=S.n/\(mo_ S l).lv=S.lv
 |[],S,Y=>⟨Weak.refl _ _ _ _ _ _ _,rfl,rfl⟩
 |(t,o)::r,S,Y=>by obtain ⟨a1,a2,a3⟩:=pS_ (N:=N) (k:=k) t o S Y;obtain ⟨b1,b2,b3⟩:=ke_ (N:=N) (k:=k) r (mn_ t o S) Y;exact ⟨a1.trans b1,b2.trans a2,b3.trans a3⟩
theorem tr_ {N k rid:Nat} {L:LVs} {kt:VS->VT} {ops:List Oper} {S:VS} {Y:Sy} (hf:Good P c S.n Y) (h:VOK P Q L Y (uE_ c rid ops S kt)):
  VOK P Q L Y (kt S)\/(ops≠[]/\∃S' Y',Weak P N k Y S.T S.H S.D Y' S'.T S'.H S'.D/\S'.lv=S.lv/\S.n<=S'.n/\Ext S.n Y Y'/\Good P c S'.n Y'/\VOK P Q L Y' (kt S')):=by
 unfold uE_ at h;split at h;exact .inl h
 .split at h;rename_i tp _ _;obtain ⟨w1,w2,w3⟩:=ke_ (P:=P) (N:=N) (k:=k) tp.fix S Y;obtain ⟨S',Y',v1,v2,v3,v4,v5,v6⟩:=jz_ (N:=N) (k:=k) _ (mo_ S tp.fix) Y (by rw [w2];exact hf) h;rw [w2]at v3 v4;rw [w3]at v2;exact .inr ⟨by simp,S',Y',w1.trans v1,v2,v3,v4,v5,v6⟩
  grind
theorem oa_ {N k id:Nat} {ops:Array Oper} {draw:Bool} {Y Y':Sy} {T T':Tm} {H H':AHeap} {D D':Dfs} {K:KP} {X:XP} (hne:ops.toList≠[]) (hw:Weak P N k Y T H D Y' T' H' D') (h:aQ_ P N k (.region id ops draw) Y' T' H' D' K X):
  aQ_ P N k (.region id ops draw) Y T H D K X:=by
 unfold aQ_ at h⊢;cases draw with
 |false=>
  cases ho:ops.toList with
  |nil=>grind
  |cons o r=>rw [ho]at h;obtain ⟨Y1,T1,H1,D1,h1,h2⟩:=h;exact ⟨Y1,T1,H1,D1,hw.trans h1,h2⟩
 |true=>
  rcases h with ⟨Y1,T1,H1,D1,h1,h2⟩|h;exact .inl ⟨Y1,T1,H1,D1,hw.trans h1,h2⟩
  .refine .inr λB pr E a w hy st=>?_;obtain ⟨E1,hle,hy1,st1⟩:=hw B pr E a w hy st
   grind [Code.wp_mono,OutF.le]
theorem lJ_ (hm:P.follows .mixedOrders=true) (hc:as_ P (a8_ P fuel)) {id:Nat} {any:Bool} {ops:Array Oper} {draw:Bool} {S:VS} {K:VS->VT} {X:VX->VT} {Y:Sy} {L:LVs} (hL:L.length=S.lv) (hf:Good P c S.n Y) (h:VOK P Q L Y (sh_ P N fuel I c any ops draw S K X)):
  aQ_ P N c.k (.region id ops draw) Y S.T S.H S.D (kV P Q c L S.n Y K) (xV P Q c L S.n Y X):=by
 cases draw with
 |false=>grind [sh_,aQ_,if_]
 |true=>
  unfold sh_ at h;simp only at h;split at h;rename_i r hd;split at h;exact .inl ⟨Y,S.T,S.H,S.D,Weak.refl _ _ _ _ _ _ _,a8_ P fuel,_,hc,hd,S.n,S.lv,L,zb' L,hL,za' _,Ext.refl _ _,hf,h⟩;exact h.elim
  .have dr:VOK P Q L Y (nk_ P N fuel I c ops.toList (jL_ c.own ops.toList S) X K)->∀B pr E a w,E.At Y->St P B pr N E S.T S.H S.D a w->(Code.region id ops true).wp P (OutF P B pr N c.k E (ay_ (kV P Q c L S.n Y K) (xV P Q c L S.n Y X))) a w:=by
     intro h;obtain ⟨w1,w2,w3⟩:=pU_ (P:=P) (N:=N) (c:=c) c.own ops.toList S Y;intro B pr E a w hy st;obtain ⟨E1,hle,hy1,st1⟩:=w1 B pr E a w hy st;have key:=sa_ (id:=id) (S:=jL_ c.own ops.toList S) hm hc (by omega) (by grind) h B pr E1 a w hy1 st1
     grind [Code.wp_mono,OutF.le]
   refine .inr ?_;split at h;split at h;exact dr h;exact nh_ hm hc hL hf h;split at h;exact nh_ hm hc hL hf h;exact dr h
theorem bA_ (hm:P.follows .mixedOrders=true) (hc:as_ P (a8_ P fuel)):∀(cd:Code) (bid:Nat) (S:VS) (K:VS->VT) (X:VX->VT) (Y:Sy) (L:LVs),L.length=S.lv->Good P c S.n Y->VOK P Q L Y (cl_ P N fuel I c bid cd S K X)->
  aQ_ P N c.k cd Y S.T S.H S.D (kV P Q c L S.n Y K) (xV P Q c L S.n Y X)
 | .skip,bid,S,K,X,Y,L,hL,hf,h=>by exact ⟨S.n,S.lv,L,zb' L,hL,za' _,Ext.refl _ _,hf,h⟩
 | .label _,bid,S,K,X,Y,L,hL,hf,h=>by exact ⟨S.n,S.lv,L,zb' L,hL,za' _,Ext.refl _ _,hf,h⟩
 | .exit id,bid,S,K,X,Y,L,hL,hf,h=>by exact ⟨S.n,S.lv,L,zb' L,hL,za' _,Ext.refl _ _,hf,h⟩
 | .ret,bid,S,K,X,Y,L,hL,hf,h=>by exact ⟨S.n,S.lv,L,zb' L,hL,za' _,Ext.refl _ _,hf,h⟩
 | .region id ops draw,bid,S,K,X,Y,L,hL,hf,h=>by
   rcases tr_ (N:=N) (k:=c.k) hf h with h|⟨hne,S',Y',w1,w2,w3,w4,w5,w6⟩
   .grind [lJ_]
   refine oa_ hne w1 (aA_ _ (λ_ _ _ _ hk=>h4_ (zb' L) w3 w4 hk) (λ_ _ hx=>cV_ (zb' L) w3 w4 hx) _ _ _ _ (lJ_ hm hc (by omega) w5 w6))
 | .seq a b,bid,S,K,X,Y,L,hL,hf,h=>by unfold cl_ at h;unfold aQ_;refine aA_ a (λY' T' H' D' hk=>?_) (λ_ _ h=>h) _ _ _ _ (bA_ hm hc a bid S _ X Y L hL hf h);obtain ⟨n',lv,L',g1,g2,g3,g4,g5,g6⟩:=hk;exact aA_ b (λ_ _ _ _ hk=>h4_ g1 g3 g4 hk) (λ_ _ hx=>cV_ g1 g3 g4 hx) _ _ _ _ (bA_ hm hc b bid ⟨T',H',n',lv,D'⟩ K X Y' L' g2 g5 g6)
 | .cond cd a b,bid,S,K,X,Y,L,hL,hf,h=>by unfold cl_ at h;split at h;rename_i t ht;refine ⟨Y,S.T,S.H,S.D,Weak.refl _ _ _ _ _ _ _,t,ht,λe=>?_,λe=>?_⟩;subst e;exact bA_ hm hc a bid S K X Y L hL hf h;subst e;exact bA_ hm hc b bid S K X Y L hL hf h;split at h;rename_i i hi;obtain ⟨t,ht,h1,h2⟩:=h;refine ⟨Y,(S.know i t).T,(S.know i t).H,(S.know i t).D,fh_ ht S.x S.D,t,eX_ hi S.x rfl t,λe=>?_,λe=>?_⟩;subst e;exact bA_ hm hc a bid (S.know i true) K X Y L hL hf (h1 rfl);subst e;exact bA_ hm hc b bid (S.know i false) K X Y L hL hf (h2 rfl);exact h.elim
 | .block id b,bid,S,K,X,Y,L,hL,hf,h=>by
   refine aA_ b (λ_ _ _ _ h=>h) (λY' r hx=>?_) _ _ _ _ (bA_ hm hc b id S K (uz_ id K X) Y L hL hf h);cases r with
   |norm T H D=>exact hx.elim
   |pan v T H D=>exact hx
   |ret T H D=>exact hx
   |exit id' T H D=>
    obtain ⟨n,lv,L',g1,g2,g3,g4,g5,h'⟩:=hx;unfold uz_ at h';simp only at h';cases hb:Nat.beq id' id with
    |true=>rw [hb]at h';exact ⟨λ_=>⟨n,lv,L',g1,g2,g3,g4,g5,h'⟩,λe=>absurd (zg' hb) e⟩
    |false=>rw [hb]at h';refine ⟨λe=>?_,λ_=>⟨n,lv,L',g1,g2,g3,g4,g5,h'⟩⟩;simp_all
 | .loop b,bid,S,K,X,Y,L,hL,hf,h=>by unfold cl_ at h;have hb:ns_ P N Q c b (λS K=>cl_ P N fuel I c bid b S K X) X:=λS K Y L hL hf h=>bA_ hm hc b bid S K X Y L hL hf h;split at h;exact ts_ hb S Y L hL hf h;exact sg_ hb fuel S Y L hL hf h
 | .scope _,bid,S,K,X,Y,L,hL,hf,h=>by exact h.elim
 | .goto _,bid,S,K,X,Y,L,hL,hf,h=>by exact h.elim
 | .refuse _,bid,S,K,X,Y,L,hL,hf,h=>by exact h.elim
 | .rangeFunc _ _ _ _,bid,S,K,X,Y,L,hL,hf,h=>by exact h.elim
def DOutV (P:Program) (Q:AV->Prop) (c:VC) (N:Nat) (B:World) (pr:Nat->Prop) (K R:VS->Option AV->VT) (L:LVs) (n:Nat) (Y:Sy) (E:Env) (c₀:Frame) (cs:List Frame) (e:Exit) (a:Act) (cs':List Frame) (w:World):Prop:=
 ∃(Y':Sy) (S':VS) (u':Option AV) (m':FrameMode) (E':Env) (L':LVs),(L <+: L'/\L'.length=S'.lv/\n<=S'.n/\Ext n Y Y'/\Good P c S'.n Y'/\S'.D=[])/\E.leF c.k E'/\E'.At Y'/\cs'={ c₀ with mode:=m' }::cs/\ModeIn E' u' m'/\St P B pr N E' S'.T S'.H [] a w/\
  ((e=.normal/\VOK P Q L' Y' (K S' u'))\/(e=.ret/\VOK P Q L' Y' (R S' u')))
theorem DOutV.le {B:World} {pr:Nat->Prop} {K R:VS->Option AV->VT} {L L0:LVs} {n n0:Nat} {Y Y0:Sy} {E E0:Env} {c₀:Frame} {cs cs':List Frame} {e:Exit} {a:Act} {w:World} (hL:L0 <+: L) (hn:n0<=n) (hx:Ext n0 Y0 Y) (hE:E0.leF c.k E) (h:DOutV P Q c N B pr K R L n Y E c₀ cs e a cs' w):DOutV P Q c N B pr K R L0 n0 Y0 E0 c₀ cs e a cs' w:=by obtain ⟨Y',S',u',m',E',L',⟨h1,h2,h3,h4,h5⟩,h6,h7⟩:=h;exact ⟨Y',S',u',m',E',L',⟨hL.trans h1,h2,zc' hn h3,hx.trans h4 hn,h5⟩,hE.trans h6,h7⟩
omit [Gl]in
theorem ModeIn.none {E E':Env} {m:FrameMode} (h:ModeIn E none m):ModeIn E' none m:=h
theorem b5_ (hm:P.follows .mixedOrders=true) (hc:as_ P (a8_ P fuel)) (B:World) (pr:Nat->Prop) (c₀:Frame) (cs:List Frame):∀(cd:Code) (S:VS) (u:Option AV) (K R:VS->Option AV->VT) (Y:Sy) (L:LVs),L.length=S.lv->Good P c S.n Y->S.D=[]->VOK P Q L Y (dk_ P N fuel I c cd S u K R)->
  ∀E a w m,E.At Y->St P B pr N E S.T S.H [] a w->ModeIn E u m->cd.wpS P (DOutV P Q c N B pr K R L S.n Y E c₀ cs) a ({ c₀ with mode:=m }::cs) w
 | .skip,S,u,K,R,Y,L,hL,hf,hD,h,E,a,w,m,hy,st,hmo=>by exact wpS_of_wp (wp_skip ⟨Y,S,u,m,E,L,⟨zb' L,hL,za' _,Ext.refl _ _,hf,hD⟩,Env.leF_refl _ _,hy,rfl,hmo,st,.inl ⟨rfl,h⟩⟩)
 | .ret,S,u,K,R,Y,L,hL,hf,hD,h,E,a,w,m,hy,st,hmo=>by exact wpS_of_wp (wp_ret ⟨Y,S,u,m,E,L,⟨zb' L,hL,za' _,Ext.refl _ _,hf,hD⟩,Env.leF_refl _ _,hy,rfl,hmo,st,.inr ⟨rfl,h⟩⟩)
 | .region id ops draw,S,u,K,R,Y,L,hL,hf,hD,h,E,a,w,m,hy,st,hmo=>by
   unfold dk_ at h;split at h;split at h;exact h.elim;split at h;rename_i r hr;split at h;rename_i T' H' u';refine wpS_region ?_;have:=lq_ hc ops c₀ cs ops.toList 0 (by simp) S.T S.H u _ hr E a w m st hmo;rw [List.range_eq_range'];have h2:wpOpsS P ops (SOut P B pr N E c₀ cs (.norm T' H' u')) (List.range' 0 ops.size) a ({ c₀ with mode:=m }::cs) w:=(by omega);refine bk_ (λe a cs' w hq=>?_) _ _ _ _ h2;obtain ⟨E',m',q1,q2,rfl,q3,q4⟩:=hq;exact ⟨Y,⟨T',H',S.n,S.lv,[]⟩,u',m',E',L,⟨zb' L,hL,za' _,Ext.refl _ _,hf,rfl⟩,q1.leF _,hy.le q1,q2,q3,q4,.inl ⟨rfl,h⟩⟩;exact h.elim;exact h.elim
   .rename_i hb;have hu:u=none:=by
     cases u with
     |none=>rfl
     |some v=>cases hb
    subst hu;have hw:=lJ_ (N:=N) (id:=id) hm hc hL hf h;rw [hD]at hw;refine wpS_of_wp (Code.wp_mono (λe a w hq=>?_) (cB_ hm _ _ _ _ _ _ _ hw B pr E a w hy st));obtain ⟨Y',r,hr,E',q1,q2,q3⟩:=hq;cases r with
    |norm T' H' D'=>
     obtain ⟨n',lv,L',g1,g2,g3,g4,g5,g6⟩:=hr;obtain ⟨rfl,st'⟩:=q3;cases D' with
     |nil=>exact ⟨Y',⟨T',H',n',lv,[]⟩,none,m,E',L',⟨g1,g2,g3,g4,g5,rfl⟩,q1,q2,rfl,hmo,st',.inl ⟨rfl,g6⟩⟩
     |cons d D'=>exact g6.elim
    |exit id T' H' D'=>obtain ⟨n',lv,L',g1,g2,g3,g4,g5,g6⟩:=hr;exact g6.elim
    |ret T' H' D'=>obtain ⟨n',lv,L',g1,g2,g3,g4,g5,g6⟩:=hr;exact g6.elim
    |pan v T' H' D'=>obtain ⟨n',lv,L',g1,g2,g3,g4,g5,g6⟩:=hr;exact g6.elim
 | .seq x y,S,u,K,R,Y,L,hL,hf,hD,h,E,a,w,m,hy,st,hmo=>by refine wpS_seq (Code.wpS_mono (λe a cs' w hq=>?_) (b5_ hm hc B pr c₀ cs x S u _ R Y L hL hf hD h E a w m hy st hmo));obtain ⟨Y',S',u',m',E',L',⟨h1,h2,h3,h4,h5,h6⟩,q1,q2,rfl,q3,q4,q5⟩:=hq;rcases q5 with ⟨rfl,q5⟩|⟨rfl,q5⟩;exact Code.wpS_mono (λe a cs' w hq=>DOutV.le h1 h3 h4 q1 hq) (b5_ hm hc B pr c₀ cs y S' u' K R Y' L' h2 h5 h6 q5 E' a w m' q2 q4 q3);exact ⟨Y',S',u',m',E',L',⟨h1,h2,h3,h4,h5,h6⟩,q1,q2,rfl,q3,q4,.inr ⟨rfl,q5⟩⟩
 | .cond cd x y,S,u,K,R,Y,L,hL,hf,hD,h,E,a,w,m,hy,st,hmo=>by
   unfold dk_ at h;split at h
   .rename_i t ht;have hl:=st.t.look cd;rw [ht]at hl;refine wpS_cond (t:=t) (by simpa [Con]using hl) ?_;cases t with
    |true=>exact b5_ hm hc B pr c₀ cs x S u K R Y L hL hf hD h E a w m hy st hmo
    |false=>exact b5_ hm hc B pr c₀ cs y S u K R Y L hL hf hD h E a w m hy st hmo
   .split at h
    .rename_i i hi;obtain ⟨t,ht,h1,h2⟩:=h;have st1:St P B pr N E (S.know i t).T (S.know i t).H [] a w:=⟨⟨st.t.size,st.t.le,λq hq=>by show Con E (tget (bj_ (hf_ i t) S.T) q) _;rw [aG_];exact it_ (by rw [hy.v];exact ht) (st.t.con q hq),st.t.gl⟩,st.r,st.d⟩;have hl:=st1.t.look cd;rw [show look (S.know i t).T cd=.bool t from eX_ hi S.x rfl t]at hl;refine wpS_cond (t:=t) (by grind [Con]) ?_;cases t with
     |true=>exact b5_ hm hc B pr c₀ cs x (S.know i true) u K R Y L hL hf hD (h1 rfl) E a w m hy st1 hmo
     |false=>exact b5_ hm hc B pr c₀ cs y (S.know i false) u K R Y L hL hf hD (h2 rfl) E a w m hy st1 hmo
    exact h.elim
 | .block id b,S,u,K,R,Y,L,hL,hf,hD,h,E,a,w,m,hy,st,hmo=>by
   refine er_ (b5_ hm hc B pr c₀ cs b S u K R Y L hL hf hD h E a w m hy st hmo) λe a cs' w hq=>?_;obtain ⟨Y',S',u',m',E',L',_,_,_,_,_,_,q5⟩:=hq
   grind
 | .exit _,S,u,K,R,Y,L,hL,hf,hD,h,E,a,w,m,hy,st,hmo=>by exact h.elim
 | .label _,S,u,K,R,Y,L,hL,hf,hD,h,E,a,w,m,hy,st,hmo=>by exact h.elim
 | .loop _,S,u,K,R,Y,L,hL,hf,hD,h,E,a,w,m,hy,st,hmo=>by exact h.elim
 | .scope _,S,u,K,R,Y,L,hL,hf,hD,h,E,a,w,m,hy,st,hmo=>by exact h.elim
 | .goto _,S,u,K,R,Y,L,hL,hf,hD,h,E,a,w,m,hy,st,hmo=>by exact h.elim
 | .refuse _,S,u,K,R,Y,L,hL,hf,hD,h,E,a,w,m,hy,st,hmo=>by exact h.elim
 | .rangeFunc _ _ _ _,S,u,K,R,Y,L,hL,hf,hD,h,E,a,w,m,hy,st,hmo=>by exact h.elim
theorem jy_ (hm:P.follows .mixedOrders=true) (hc:as_ P (a8_ P fuel)) {fn:Func} {fin:FRes->Nat->Nat->VT} {Q':Sy->FRes->Prop} {B:World} {pr:Nat->Prop} {tmps:Array Value}:∀(D:Dfs) (T:Tm) (H:AHeap) (n lv:Nat) (u:Option AV) (Y:Sy) (L:LVs),L.length=lv->Good P c n Y->VOK P Q L Y (ej_ P fuel I c fn.results.toList fin D T H n lv u)->
  (∀r n' lv' L' Y',L <+: L'->L'.length=lv'->n<=n'->Ext n Y Y'->Good P c n' Y'->VOK P Q L' Y' (fin r n' lv')->Q' Y' r)->
  ∀E w ds m,E.At Y->TRel E N T tmps->Rel B pr E H w->DRel P E D ds->ModeAt E u m->Leaves P fn tmps (λe w'=>∃Y r,Q' Y r/\kM_ c.k B pr E Y r e w') ds m w
 |[],T,H,n,lv,u,Y,L,hL,hf,h,hfin,E,w,ds,m,hy,ht,hr,hd,hmo=>by unfold ej_ at h;split at h;rename_i r hl;have hq:=hfin r n lv L Y (zb' L) hL (za' _) (Ext.refl _ _) hf h;refine Leaves.mono (λe w ⟨E',g1,g2⟩=>⟨Y,r,hq,E',g1.leF _,hy.le g1,g2⟩) _ _ _ (cX_ hc (λN=>h0_ hm hc N) [] H u r hl E w ds m ht hr hd hmo);exact h.elim
 |(f,args)::D,T,H,n,lv,u,Y,L,hL,hf,h,hfin,E,w,ds,m,hy,ht,hr,hd,hmo=>by
  obtain ⟨vs,ds',rfl,h2,h3,h4⟩:=hd;unfold ej_ at h;split at h
  case h_2=>exact h.elim
  rename_i fd hfd;split at h
  case h_2=>exact h.elim
  rename_i cd hb;split at h
  case h_2=>exact h.elim
  rename_i hle;obtain ⟨a1,hle⟩:=aa_ hle;obtain ⟨a2,hle⟩:=aa_ hle;obtain ⟨a3,a4⟩:=aa_ hle;have a1:args.length<=fd.ntmps:=(by grind [ah_,zd']);have a2:fd.ntmps<=512:=(by simp_all);have a4:c.k<=H.next:=Nat.le_of_ble_eq_true a4;refine ⟨hmo.ne_run,.func f,#[],f,⟨vs⟩,rfl,by simp [invoke,dZ_ h3],CallsD.mono (λe m' w' hq=>?_) (callsD_of_wpS (R:=λe m' w'=>∃(v:Value) (E':Env) (u':Option AV) (Y':Sy) (S':VS) (L':LVs),e=.returned v/\(L <+: L'/\L'.length=S'.lv/\n<=S'.n/\Ext n Y Y'/\Good P c S'.n Y')/\E.leF H.next E'/\E'.At Y'/\ModeIn E' u' m'/\Rel B pr E' S'.H w'/\VOK P Q L' Y' (ej_ P fuel I c fn.results.toList fin D (bj_ (bO_ H.next n) T) S'.H S'.n S'.lv u')) hfd hb λc₀ cs hmode=>?_)⟩;obtain ⟨v,E',u',Y',S',L',rfl,⟨g1,g2,g3,g4,g5⟩,g6,g7,g8,g9,g10⟩:=hq;have hkeep:Keeps H.next n E E':=⟨g6.phi,g6.sz,g6.imm,λi hi=>by rw [g7.v,hy.v];exact g4 i hi⟩;have ht':TRel E' N (bj_ (bO_ H.next n) T) tmps:=⟨ht.size,ht.le,λt hN=>by rw [aG_];exact j5_ hkeep (km_ (ht.con t hN)),ht.gl.leF g6⟩;have hlek:E.leF c.k E':=⟨λi x hi=>g6.phi i x (Nat.lt_of_lt_of_le hi a4),g6.sz,g6.imm,g6.bim,g6.sy⟩;have ih:=jy_ hm hc (fn:=fn) (Q':=Q') (B:=B) (pr:=pr) (tmps:=tmps) D (bj_ (bO_ H.next n) T) S'.H S'.n S'.lv u' Y' L' g2 g5 g10 (λr n' lv' L2 Y2 k1 k2 k3 k4 k5 k6=>hfin r n' lv' L2 Y2 (g1.trans k1) k2 (zc' g3 k3) (g4.trans k4 g3) k5 k6) E' w' ds' (Go.settle m') g7 ht' g9 (gH_ hkeep a3 h4) g8.settle;exact Leaves.mono (λe w ⟨Y2,r,k1,E2,k2,k3⟩=>⟨Y2,r,k1,E2,hlek.trans k2,k3⟩) _ _ _ ih
  .have st:St P B pr fd.ntmps E (aV_ args 0 tnil) H [] { tmps:=(⟨vs⟩:Array Value)++Array.replicate (fd.ntmps-(⟨vs⟩:Array Value).size) undef,defers:=[] } w:=
     ⟨e7_ ht.gl h2 a1 a2,hr,rfl⟩
   have hc₀:c₀={ c₀ with mode:=m }:=(by rw [←hmode]);have hrun:=b5_ (N:=fd.ntmps) (c:=⟨c.fc,c.cs,[],H.next,c.own,c.fs⟩) (I:=I) hm hc B pr c₀ cs cd ⟨aV_ args 0 tnil,H,n,lv,[]⟩ u _ _ Y L hL hf rfl h E _ w m hy st hmo.in;rw [←hc₀]at hrun;refine Code.wpS_mono (λe a cs' w' hq=>?_) hrun;obtain ⟨Y',S',u',m',E',L',⟨g1,g2,g3,g4,g5,g6⟩,q1,q2,rfl,q3,q4,q5⟩:=hq;have key:VOK P Q L' Y' (match eo_ P S'.T S'.H fd.results.toList with
     |some _=>ej_ P fuel I c fn.results.toList fin D (bj_ (bO_ H.next n) T) S'.H S'.n S'.lv u'
     |none=>.bad):=by
    grind
   split at key;rename_i l hl;obtain ⟨v,r1,r2⟩:=gt_ q4.r q4.t hl;rcases q5 with ⟨rfl,_⟩|⟨rfl,_⟩;exact ⟨q4.d,m',rfl,v,r1,v,E',u',Y',S',L',rfl,⟨g1,g2,g3,g4,g5⟩,q1,q2,q3,q4.r,key⟩;exact ⟨q4.d,m',rfl,v,r1,v,E',u',Y',S',L',rfl,⟨g1,g2,g3,g4,g5⟩,q1,q2,q3,q4.r,key⟩;exact key.elim
theorem fs_ (hm:P.follows .mixedOrders=true) (hc:as_ P (a8_ P fuel)) {fn:Func} {fin:FRes->Nat->Nat->VT} {Q':Sy->FRes->Prop} {u:Option AV} {S:VS} {Y:Sy} {L:LVs} (hL:L.length=S.lv) (hf:Good P c S.n Y) (h:VOK P Q L Y (jx_ P fuel I c fn.results.toList fin u S))
  (hfin:∀r n' lv' L' Y',L <+: L'->L'.length=lv'->S.n<=n'->Ext S.n Y Y'->Good P c n' Y'->VOK P Q L' Y' (fin r n' lv')->Q' Y' r):dD_ P c.k fn Q' Y S.T S.H S.D u:=by
 unfold jx_ at h;split at h;rename_i r hl;exact .inl ⟨a8_ P fuel,fuel,r,hc,hl,hfin r S.n S.lv L Y (zb' L) hL (za' _) (Ext.refl _ _) hf h⟩;exact .inr λB pr E w tmps ds m hy ht hr hd hmo=>jy_ hm hc S.D S.T S.H S.n S.lv u Y L hL hf h hfin E w ds m hy ht hr hd hmo
theorem tn_ (hm:P.follows .mixedOrders=true) (hc:as_ P (a8_ P fuel)) {f:FuncId} {args:List AV} {n:Nat} {Y:Sy} (hf:Good P c n Y) (h:VOK P Q [] Y (uA_ P fuel I c f args n)):SemCallF P c.k Y f args H0 (hT_ Q):=by
 unfold uA_ at h;split at h
 .rename_i fn hfn;split at h
  .rename_i cd hb;split at h
   .rename_i hle;obtain ⟨h1,h2⟩:=aa_ hle;have h1:args.length<=fn.ntmps:=(by grind [ah_,zd']);have h2:fn.ntmps<=512:=(by simp_all);have fin:∀u L Y' S,L.length=S.lv->Good P c S.n Y'->VOK P Q L Y' (pw_ P fuel I c fn.results.toList u S)->dD_ P c.k fn (hT_ Q) Y' S.T S.H S.D u:=by
     intro u L Y' S hL hg h;refine fs_ hm hc hL hg h λr n' lv' L' Y' _ _ _ _ _ h=>?_;cases r with
     |pan a H=>exact (show False from h).elim
     |ret a H=>unfold r8_ r9_ at h;simp only at h;split at h;rename_i v hv;split at h;rename_i hs;exact ⟨a,H,v,100,rfl,hv,hs,h⟩;exact h.elim;exact h.elim
    refine lK_ hm hfn hb ⟨h1,h2,aA_ cd (λY' T' H' D' hk=>?_) (λY' r hx=>?_) _ _ _ _ (bA_ hm hc cd 0 ⟨aV_ args 0 tnil,H0,n,0,[]⟩ _ _ Y [] rfl hf h)⟩
    .obtain ⟨n',lv,L',_,q2,_,_,q5,h'⟩:=hk
     grind
    .cases r with
     |norm T H D=>exact hx.elim
     |pan v T H D=>obtain ⟨n',lv,L',_,q2,_,_,q5,h'⟩:=hx;exact fin (some v) L' Y' ⟨T,H,n',lv,D⟩ q2 q5 h'
     |exit id T H D=>obtain ⟨n',lv,L',_,_,_,_,_,h'⟩:=hx;exact h'.elim
     |ret T H D=>obtain ⟨n',lv,L',_,q2,_,_,q5,h'⟩:=hx;exact fin none L' Y' ⟨T,H,n',lv,D⟩ q2 q5 h'
   exact h.elim
  exact h.elim
 exact h.elim
theorem SemCallF.low {k:Nat} {Y:Sy} {f:FuncId} {args:List AV} {H:AHeap} {R:Sy->FRes->Prop} (h:SemCallF P k Y f args H R):SemCallF P 0 Y f args H R:=λB pr E w vs hy hg hr hcon=>
 Calls.mono (h B pr E w vs hy hg hr hcon) λe w' he=>by obtain ⟨Y',r,h1,E',h2,h3⟩:=he;exact ⟨Y',r,h1,E',⟨λ_ _ hi=>absurd hi (Nat.not_lt_zero _),h2.sz,h2.imm,h2.bim,h2.sy⟩,h3⟩
def QF (R:Nat->List AV->Prop) (a:AV):Prop:=∃j ws,a=.tup (.int .i64 (.ofNat j)::ws)/\okL ws=true/\R j ws
theorem fr_ {ft:FT} {R:Nat->List AV->Prop} {L:LVs} {Y0 Y:Sy} {n:Nat} {b:Bool} {S:VS} {a:AV} (hT:S.T=dB_ topq 0 a) (hD:S.D=[]) (hf:Fresh Y0 n) (hx:Ext n Y0 Y):∀(l:List (Bool×Tpl)) (j0:Nat),(∀j q,l[j]? =some q->ft.exs[j0+j]? =some q)->VOK P (QF R) L Y (qs_ n ft.k b S l j0)->
  ∃j ws tp,ft.exs[j]? =some (b,tp)/\R j ws/\okL ws=true/\ws.length=tp.nv/\∀N,Weak P N ft.k Y S.T S.H [] (Y0.puts n ws) (cH_ n tp.slots) (tp.heap n) []
 |[],j0,_,h=>h.elim
 |(b',tp)::r,j0,hl,h=>by unfold qs_ at h;simp only at h;split at h;exact fr_ hT hD hf hx r (j0+1) (λj q hj=>by rw [show j0+1+j=j0+(j+1) by omega];exact hl (j+1) q (by grind)) h;rename_i hb;have hb:b=b':=(by grind);subst hb;split at h;rename_i m hm;obtain ⟨hs,h⟩:=dV_ h;obtain ⟨hn,h⟩:=hW_ h;obtain ⟨j,ws,e,hok,hR⟩:=h;simp only [den,ab_,AV.tup.injEq,List.cons.injEq,AV.int.injEq,true_and]at e;obtain ⟨e1,e2⟩:=e;have e1:j0=j:=(by cases e1;rfl);subst e1;rw [←e2]at hok hR;refine ⟨j0,ab_ Y.v m.hv,tp,hl 0 _ rfl,hR,hok,?_,λN=>?_⟩;exact (gw_ (P:=P) (N:=0) (lv:=0) hm hs hn hf hx hok).1;have:=(gw_ (P:=P) (N:=N) (lv:=0) hm hs hn hf hx hok).2;rw [hD]at this;exact this;exact fr_ hT hD hf hx r (j0+1) (λj q hj=>by rw [show j0+1+j=j0+(j+1) by omega];exact hl (j+1) q (by grind)) h
def FEndW (P:Program) (ft:FT) (R:Nat->List AV->Prop) (Y0:Sy) (Y:Sy) (r:FRes):Prop:=
 ∃b a H j ws tp,r=(match b with
  |true=>.pan a H
  |false=>.ret a H)/\ft.exs[j]? =some (b,tp)/\R j ws/\okL ws=true/\ws.length=tp.nv/\∀N,Weak P N ft.k Y (dB_ topq 0 a) H [] (Y0.puts (Nat.add 64 ft.ent.nv) ws) (cH_ (Nat.add 64 ft.ent.nv) tp.slots) (tp.heap (Nat.add 64 ft.ent.nv)) []
theorem FEndW.call {ft:FT} {R:Nat->List AV->Prop} {Y0:Sy} {f:FuncId} {args:List AV} {H:AHeap} (h:SemCallF P ft.k Y0 f args H (FEndW P ft R Y0)):SemCallF P ft.k Y0 f args H (pz_ ft (Nat.add 64 ft.ent.nv) Y0 R):=λB pr E w vs hy hg hr hcon=>
 Calls.mono (h B pr E w vs hy hg hr hcon) λe w' he=>by
  obtain ⟨Y',r,⟨b,a,H',j,ws,tp,rfl,h1,h2,h3,h4,hw⟩,E',hle,hy',hres⟩:=he;have hend:∃u,e=(match b with
    |true=>.panicked [{ v:=u,recovered:=false }]
    |false=>.returned u)/\Con E' a u/\Rel B pr E' H' w':=by
   grind
  obtain ⟨u,he,hcu,hr'⟩:=hend;have hgl:GlOk E':=hg.leF hle
  let ac:Act:={ tmps:= #[u],defers:=[] }
  have st:St P B pr 1 E' (dB_ topq 0 a) H' [] ac w':=⟨⟨rfl,by omega,λt ht=>by
   by_cases e:0=t;subst e;exact hcu
   grind [ao_,b4_,Con],hgl⟩,hr',rfl⟩
  obtain ⟨E2,hle2,hy2,st2⟩:=hw 1 B pr E' ac w' hy' st;have hcu2:=st2.t.con 0 (by omega);refine ⟨_,_,⟨j,ws,b,tp,h1,h2,h3,h4,rfl,rfl⟩,E2,hle.trans hle2,hy2,?_⟩;cases b with
  |true=>exact ⟨u,he,hcu2,st2.r⟩
  |false=>exact ⟨u,he,hcu2,st2.r⟩
theorem sd_ (hm:P.follows .mixedOrders=true) (hc:as_ P (a8_ P fuel)) {f:FuncId} {ft:FT} {R:Nat->List AV->Prop} {Y:Sy} (hf:Good P c (Nat.add 64 ft.ent.nv) Y) (h:VOK P (QF R) [] Y (sc_ P fuel I c f ft)):
  SemCallF P ft.k Y f (bs_ 64 (cm_ ft.ent.slots)) (ft.ent.heap 64) (pz_ ft (Nat.add 64 ft.ent.nv) Y R):=by
 unfold sc_ at h;split at h
 .rename_i fn hfn;split at h
  .rename_i cd hb;split at h
   .rename_i hle;obtain ⟨h1,hle⟩:=aa_ hle;obtain ⟨h2,h3⟩:=aa_ hle;have h1:(bs_ 64 (cm_ ft.ent.slots)).length<=fn.ntmps:=(by grind [ah_,fg_,zd']);have h2:fn.ntmps<=512:=(by simp_all);have h3:=zg' h3;have fin:∀u L Y' S,L.length=S.lv->Good P c S.n Y'->Nat.add 64 ft.ent.nv<=S.n->Ext (Nat.add 64 ft.ent.nv) Y Y'->VOK P (QF R) L Y' (hh_ P fuel I c fn.results.toList ft u S)->dD_ P c.k fn (FEndW P ft R Y) Y' S.T S.H S.D u:=by
     intro u L Y' S hL hg hn hx h;refine fs_ hm hc hL hg h λr n' lv' L' Y2 _ _ _ hx2 _ h=>?_;have hx:=hx.trans hx2 hn;cases r with
     |ret a H=>obtain ⟨j,ws,tp,q1,q2,q3,q4,q5⟩:=fr_ (a:=a) rfl rfl hf.1 hx ft.exs 0 (λj q hj=>by grind) h;exact ⟨false,a,H,j,ws,tp,rfl,q1,q2,q3,q4,q5⟩
     |pan a H=>obtain ⟨j,ws,tp,q1,q2,q3,q4,q5⟩:=fr_ (a:=a) rfl rfl hf.1 hx ft.exs 0 (λj q hj=>by grind) h;exact ⟨true,a,H,j,ws,tp,rfl,q1,q2,q3,q4,q5⟩
    refine FEndW.call ?_;rw [←h3];refine lK_ hm hfn hb ⟨h1,h2,aA_ cd (λY' T' H' D' hk=>?_) (λY' r hx=>?_) _ _ _ _ (bA_ hm hc cd 0 ⟨aV_ (bs_ 64 (cm_ ft.ent.slots)) 0 tnil,ft.ent.heap 64,Nat.add 64 ft.ent.nv,0,[]⟩ _ _ Y [] rfl hf h)⟩
    .obtain ⟨n',lv,L',_,q2,q3,hx,q5,h'⟩:=hk
     grind
    .cases r with
     |norm T H D=>exact hx.elim
     |pan v T H D=>obtain ⟨n',lv,L',_,q2,q3,hx,q5,h'⟩:=hx;exact fin (some v) L' Y' ⟨T,H,n',lv,D⟩ q2 q5 q3 hx h'
     |exit id T H D=>obtain ⟨n',lv,L',_,_,_,_,_,h'⟩:=hx;exact h'.elim
     |ret T H D=>obtain ⟨n',lv,L',_,q2,q3,hx,q5,h'⟩:=hx;exact fin none L' Y' ⟨T,H,n',lv,D⟩ q2 q5 q3 hx h'
   exact h.elim
  exact h.elim
 exact h.elim
theorem tp_ (hm:P.follows .mixedOrders=true) (hc:as_ P (a8_ P fuel)) {g:FuncId} {args:List AV} {H:AHeap} {n lv:Nat} {ret pan:AV->AHeap->Nat->Nat->VT} {L:List (Nat->List AV->Prop)} {Y:Sy} (hL:L.length=lv) (hf:Fresh Y n/\KnownF P c.fc Y)
  (h:VOK P Q L Y (uC_ P fuel I c g args H n lv ret pan)):SemCallF P H.next Y g args H (INL P Q c.fc L n Y ret pan):=by
 unfold uC_ at h;split at h
 .rename_i fn hfn;split at h
  .rename_i cd hb;split at h
   .rename_i hle;obtain ⟨h1,h2⟩:=aa_ hle;have h1:args.length<=fn.ntmps:=(by grind [ah_,zd']);have h2:fn.ntmps<=512:=(by simp_all);have fin:∀u L' Y' (S:VS),L <+: L'->L'.length=S.lv->n<=S.n->Ext n Y Y'->(Fresh Y' S.n/\KnownF P c.fc Y')->VOK P Q L' Y' (px_ P fuel I ⟨c.fc,c.cs,[],H.next,c.own,c.fs⟩ fn.results.toList ret pan u S)->dD_ P H.next fn (INL P Q c.fc L n Y ret pan) Y' S.T S.H S.D u:=by
     intro u L' Y' S hp hl hn hx hg h;refine fs_ (c:=⟨c.fc,c.cs,[],H.next,c.own,c.fs⟩) hm hc hl hg h λr n' lv' L2 Y2 k1 k2 k3 k4 k5 h=>?_;refine ⟨n',lv',L2,hp.trans k1,k2,zc' hn k3,hx.trans k4 hn,k5,?_⟩;cases r with
     |ret a H=>exact h
     |pan a H=>exact h
    refine lK_ hm hfn hb ⟨h1,h2,aA_ cd (λY' T' H' D' hk=>?_) (λY' r hx=>?_) _ _ _ _ (bA_ (c:=⟨c.fc,c.cs,[],H.next,c.own,c.fs⟩) hm hc cd 0 ⟨aV_ args 0 tnil,H,n,lv,[]⟩ _ _ Y L hL hf h)⟩;obtain ⟨n',lv',L',q1,q2,q3,q4,q5,q6⟩:=hk;exact fin none L' Y' ⟨T',H',n',lv',D'⟩ q1 q2 q3 q4 q5 q6
    .cases r with
     |norm T H D=>exact hx.elim
     |pan v T H D=>obtain ⟨n',lv',L',q1,q2,q3,q4,q5,q6⟩:=hx;exact fin (some v) L' Y' ⟨T,H,n',lv',D⟩ q1 q2 q3 q4 q5 q6
     |exit id T H D=>obtain ⟨n',lv',L',_,_,_,_,_,q6⟩:=hx;exact (show False from q6).elim
     |ret T H D=>obtain ⟨n',lv',L',q1,q2,q3,q4,q5,q6⟩:=hx;exact fin none L' Y' ⟨T,H,n',lv',D⟩ q1 q2 q3 q4 q5 q6
   exact (show False from h).elim
  exact (show False from h).elim
 exact (show False from h).elim
end
def inN (P:Program) (fuel:Nat):Nat->Inl P fuel
 |0=>in0 P fuel
 |d+1=>⟨λc g args H n lv ret pan=>uC_ P fuel (inN P fuel d) c g args H n lv ret pan,λhm hc hL hf h=>tp_ hm hc hL hf h⟩
def vt_ (P:Program) (fuel:Nat) (c:VC) (f:FuncId) (ft:FT):VT:=sc_ P fuel (inN P fuel 12) c f ft
def vFn (P:Program) (fuel:Nat) (c:VC) (f:FuncId) (args:List AV) (n:Nat):VT:=uA_ P fuel (inN P fuel 12) c f args n
theorem se_ {P:Program} {Q:AV->Prop} {fuel:Nat} {c:VC} (hm:P.follows .mixedOrders=true) (hc:as_ P (a8_ P fuel)) {f:FuncId} {args:List AV} {n:Nat} {Y:Sy} (hf:Good P c n Y) (h:VOK P Q [] Y (vFn P fuel c f args n)):SemCallF P c.k Y f args H0 (hT_ Q):=tn_ hm hc hf h
theorem tm_ {P:Program} {fuel:Nat} {c:VC} (hm:P.follows .mixedOrders=true) (hc:as_ P (a8_ P fuel)) {f:FuncId} {ft:FT} {R:Nat->List AV->Prop} {Y:Sy} (hf:Good P c (Nat.add 64 ft.ent.nv) Y) (h:VOK P (QF R) [] Y (vt_ P fuel c f ft)):SemCallF P ft.k Y f (bs_ 64 (cm_ ft.ent.slots)) (ft.ent.heap 64) (pz_ ft (Nat.add 64 ft.ent.nv) Y R):=sd_ hm hc hf h
end Go.Sx
namespace Go.Sx
theorem wc_ (Y:Sy) (n:Nat) (a:AV) (i:Nat):(Y.put n a).v i=if i=n then some a else Y.v i:=rfl
section
variable (P:Program) (t:TypeId) (cx cy:Bool) (k:IntKind) (a b:Int)
theorem kix_self:Nat.beq (kix k) (kix k)=true:=Nat.beq_refl _
theorem cU_ {op:BinOp} {r:AV} (h:dp_ op k a b=some r):(XOp.bin op t cx cy).run P [.int k a,.int k b]=some r:=by
 show cM_ P op k a k b=some r
 grind [cM_,kix_self]
theorem run_lss:(XOp.bin .lss t cx cy).run P [.int k a,.int k b]=some (.bool (decide (a<b))):=cU_ P t cx cy k a b (by grind [iS_,dp_])
theorem run_gtr:(XOp.bin .gtr t cx cy).run P [.int k a,.int k b]=some (.bool (decide (b<a))):=cU_ P t cx cy k a b (by grind [iS_,dp_])
theorem run_leq:(XOp.bin .leq t cx cy).run P [.int k a,.int k b]=some (.bool (decide (a<=b))):=cU_ P t cx cy k a b (by grind [iS_,dp_])
theorem run_geq:(XOp.bin .geq t cx cy).run P [.int k a,.int k b]=some (.bool (decide (b<=a))):=cU_ P t cx cy k a b (by grind [iS_,dp_])
theorem run_eql:(XOp.bin .eql t cx cy).run P [.int k a,.int k b]=some (.bool (decide (a=b))):=cU_ P t cx cy k a b (by grind [fJ_,dp_])
theorem run_neq:(XOp.bin .neq t cx cy).run P [.int k a,.int k b]=some (.bool (!decide (a=b))):=cU_ P t cx cy k a b (by grind [fJ_,dp_])
theorem run_add:(XOp.bin .add t cx cy).run P [.int k a,.int k b]=some (.int k (k.wrap (a+b))):=cU_ P t cx cy k a b (by grind [da_,cC_,dp_])
theorem run_sub:(XOp.bin .sub t cx cy).run P [.int k a,.int k b]=some (.int k (k.wrap (a-b))):=cU_ P t cx cy k a b (by grind [da_,cC_,dp_])
theorem run_mul:(XOp.bin .mul t cx cy).run P [.int k a,.int k b]=some (.int k (k.wrap (a*b))):=cU_ P t cx cy k a b (by grind [da_,cC_,dp_])
theorem vM_ (x:Bool):(XOp.un .not).run P [.bool x]=some (.bool (!x)):=rfl
variable {P t}
end
theorem v6_ {x:Int} (h1: -9223372036854775808<=x) (h2:x<=9223372036854775807):IntKind.i64.wrap x=x:=by simp [IntKind.wrap,IntKind.bits,IntKind.signed];omega
variable [Gl]
theorem vC_ {P:Program} (hm:P.follows .mixedOrders=true) (ho:kN_ P) {f:FuncId} {ft:FT} {vs:List AV} {R:Nat->List AV->Prop} {c:VC} {n:Nat} {t:VT} (hlen:vs.length=ft.ent.nv) (hk:∀Y,Fresh Y 64->KnownF P c.fc (Y.puts 64 vs))
  (ht:vt_ P n c f ft=t) (h:∀Y,Fresh Y 64->Gl.gt Y.v->VOK P (QF R) [] (Y.puts 64 vs) t):CF P f ft vs R:=
 ⟨hlen,λY hf B pr E w us hy hg hr hcon=>by obtain ⟨p1,_,_,p4⟩:=hf.puts vs;rw [hlen]at p1;have hgt:Gl.gt Y.v:=Gl.gtm _ _ (λi hi=>by rw [hy.v];grind) hg.2;exact tm_ (c:=c) (fuel:=n) hm (c3_ hm ho n) ⟨p1,hk Y hf⟩ (by grind) B pr E w us hy hg hr hcon⟩
end Go.Sx
namespace Go.Sx
section
variable [Gl] {P:Program} {Q:AV->Prop} {L:List (Nat->List AV->Prop)} {Y:Sy}
theorem VOK_lt {op:XOp} {args:List AV} {n:Nat} {t:VT} {r:AV} (h1:op.run P (ab_ Y.v args)=some r) (h2:okC r=true) (h3:VOK P Q L (Y.put n r) t):VOK P Q L Y (.lt op args n none t):=⟨r,h1,h2,h3⟩
theorem vA_ {op:XOp} {args:List AV} {n k:Nat} {t:VT} {cs:List AV} (h1:op.run P (ab_ Y.v args)=some (.agg cs)) (hl:cs.length=k) (h2:okL cs=true) (h3:VOK P Q L (Y.puts n cs) t):VOK P Q L Y (.lt op args n (some k) t):=⟨cs,h1,hl,h2,h3⟩
theorem vz_ {i:Nat} {a b:VT} {t:Bool} (h:Y.v i=some (.bool t)) (h1:t=true->VOK P Q L Y a) (h2:t=false->VOK P Q L Y b):VOK P Q L Y (.ite i a b):=⟨t,h,h1,h2⟩
theorem uW_ {f:FuncId} {args:List AV} {n:Nat} {sh:List (Option Nat)} {t:VT} {v:AV} {vs:List AV} (h1:jD_ P f (ab_ Y.v args) v) (h2:hw_ sh v=some vs) (h3:okL vs=true) (h4:VOK P Q L (Y.puts n vs) t):VOK P Q L Y (.call f args n sh t):=
 ⟨v,vs,h1,h2,h3,h4⟩
theorem vy_ {k:Chk} {t:VT} (h:k.ok Y) (h1:VOK P Q L Y t):VOK P Q L Y (.chk k t):=⟨h,h1⟩
theorem uK_ {f:FuncId} {ft:FT} {hv:List AV} {n:Nat} {bs:VTs} {R:Nat->List AV->Prop} (h1:CF P f ft (ab_ Y.v hv) R) (h2:okL (ab_ Y.v hv)=true) (h3:sr_ P Q R L (Y.puts n (ab_ Y.v hv)) (Nat.add n ft.ent.nv) 0 bs):VOK P Q L Y (.callF f ft hv n bs):=⟨R,h1,h2,h3⟩
theorem VOK_fin {R:Nat->List AV->Prop} {j:Nat} {hv:List AV} (h1:okL (ab_ Y.v hv)=true) (h:R j (ab_ Y.v hv)):VOK P (QF R) L Y (.done (.tup (.int .i64 (.ofNat j)::hv))):=⟨j,_,rfl,h1,h⟩
theorem uX_ {v:AV} (h:Q (den Y.v v)):VOK P Q L Y (.done v):=h
theorem uJ_ {lvl j:Nat} {hv:List AV} {R:Nat->List AV->Prop} (h1:L[lvl]? =some R) (h2:R j (ab_ Y.v hv)):VOK P Q L Y (.again lvl j hv):=⟨R,h1,h2⟩
open Classical in
theorem uY_ {ι:Type} (st:ι->List AV) (p:ι->Prop) (μ:ι->Nat) (i0:ι) (h0:p i0) {n nv:Nat} {hv:List AV} {t:VT} (he:ab_ Y.v hv=st i0) (hok:∀i,p i->okL (st i)=true)
  (hμ:∀i j,p i->p j->st i=st j->μ i=μ j) (hb:∀i,p i->VOK P Q (L++[λ_ vs=>∃i',p i'/\vs=st i'/\μ i'<μ i]) (Y.puts n (st i)) t):VOK P Q L Y (.loop n 0 hv (.cons nv t .nil)):=by
 let m:List AV->Nat:=λvs=>if h:∃i,p i/\vs=st i then μ (Classical.choose h)else 0
 have hm:∀i,p i->m (st i)=μ i:=λi hi=>by
  have h:∃j,p j/\st i=st j:=⟨i,hi,rfl⟩
  grind
 refine ⟨λ_ vs=>∃i,p i/\vs=st i,λ_ vs=>m vs,λj vs ⟨i,h1,h2⟩=>by grind,⟨i0,h0,he⟩,λvs hvs hI=>?_,trivial⟩;obtain ⟨i,h1,h2⟩:=hI;subst h2;have e:(λ(_:Nat) (vs':List AV)=>(∃i',p i'/\vs'=st i')/\m vs'<m (st i))=λ_ vs'=>∃i',p i'/\vs'=st i'/\μ i'<μ i:=by
  funext _ vs'
  refine propext ⟨λh=>?_,λh=>?_⟩
  .grind
  .obtain ⟨i',g1,g2,g3⟩:=h;subst g2
   grind
 grind
end
theorem hb_:∀(n:Nat) (sh:List (Option Nat)),ad_ (b0_ n sh)=true
 |_,[]=>rfl
 |n,none::s=>by simp only [b0_,ad_,ae_];exact hb_ _ s
 |n,some m::s=>by simp only [b0_,ad_,ae_,hI_];exact hb_ _ s
theorem gQ_:∀{sh:List (Option Nat)} {l vs:List AV},flat sh l=some vs->okL vs=true->mO_ l=true
 |[],[],vs,h,_=>rfl
 |none::s,a::r,vs,h,hok=>by unfold flat at h;split at h;rename_i l' hl;cases h;rw [aY_]at hok;obtain ⟨k1,k2⟩:=aa_ hok;simp only [mO_,sX_ k1,gQ_ hl k2];cases h
 |some m::s,a::r,vs,h,hok=>by have ha:∃cs,a=.agg cs:=(by cases a<;>first|exact ⟨_,rfl⟩|(cases h));obtain ⟨cs,rfl⟩:=ha;simp only [flat]at h;split at h;split at h;rename_i l' hl;cases h;obtain ⟨k1,k2⟩:=fP_ hok;simp only [mO_,okI,k1,gQ_ hl k2];cases h;cases h
 |[],_::_,vs,h,_=>by cases h
 |none::_,[],vs,h,_=>by cases h
 |some _::_,[],vs,h,_=>by cases h
theorem fH_ {s:Nat->Option AV}:∀(sh:List (Option Nat)) (n:Nat) (l vs:List AV),flat sh l=some vs->(∀i a,vs[i]? =some a->s (n+i)=some a)->ab_ s (b0_ n sh)=l
 |[],n,[],vs,h,_=>rfl
 |none::sh,n,a::r,vs,h,hs=>by
  unfold flat at h;split at h
  .rename_i l' hl;cases h;have h0:s n=some a:=(by simpa using hs 0 a rfl);simp only [b0_,ab_,den,h0];rw [fH_ sh (n+1) r l' hl λi b hb=>by
    have:=hs (i+1) b (by grind)
    grind]
  cases h
 |some m::sh,n,a::r,vs,h,hs=>by
  have ha:∃cs,a=.agg cs:=(by cases a<;>first|exact ⟨_,rfl⟩|(cases h));obtain ⟨cs,rfl⟩:=ha;simp only [flat]at h;split at h
  .rename_i hd;have hd:cs.length=m:=of_decide_eq_true hd;subst hd;split at h
   .rename_i l' hl;cases h;show AV.agg (ab_ s (ak_ n cs.length))::ab_ s (b0_ (n+cs.length) sh)=_;rw [fH_ sh (n+cs.length) r l' hl λi b hb=>by
     have:=hs (cs.length+i) b (by grind)
     grind]
    rw [den_symsL n cs λi b hb=>hs i b (by
     grind)]
   cases h
  cases h
 |[],_,_::_,vs,h,_=>by cases h
 |none::_,_,[],vs,h,_=>by cases h
 |some _::_,_,[],vs,h,_=>by cases h
where
 den_symsL {s:Nat->Option AV}:∀(n:Nat) (cs:List AV),(∀i a,cs[i]? =some a->s (n+i)=some a)->ab_ s (ak_ n cs.length)=cs
 |n,[],_=>rfl
 |n,a::r,h=>by
  have h0:s n=some a:=(by simpa using h 0 a rfl);simp only [List.length_cons,ak_,ab_,den,h0];rw [den_symsL (n+1) r λi b hb=>by
   have:=h (i+1) b (by grind)
   grind]
theorem uk_ [Gl] {P:Program} (hm:P.follows .mixedOrders=true) (ho:kN_ P) {f:FuncId} {args ls:List AV} {sh:List (Option Nat)} {v:AV} {c:VC} {n m:Nat} {t:VT} (hfl:flat sh args=some ls) (hls:okL ls=true) (hv:aX_ v=true)
  (hk:∀Y,Fresh Y 64->KnownF P c.fc (Y.puts 64 ls)) (hm':64+du_ sh=m) (ht:vFn P n c f (b0_ 64 sh) m=t) (h:∀Y,Fresh Y 64->Gl.gt Y.v->VOK P (· =v) [] (Y.puts 64 ls) t):jD_ P f args v:=
 pure_sym (args':=b0_ 64 sh) (gQ_ hfl hls) hv (hb_ _ _) hls (λY hf=>fH_ sh 64 args ls hfl λi a ha=>bF_ ls hf i a ha) λY hf hg=>
  (se_ (c:=c) (n:=m) hm (c3_ hm ho n) ⟨by have:=(hf.puts ls).1;grind [gf_],hk Y hf⟩ (by grind)).low
theorem vj_ [Gl] {P:Program} (hm:P.follows .mixedOrders=true) (ho:kN_ P) {f:FuncId} {args args' ls:List AV} {v:AV} {c:VC} {n m:Nat} {t:VT} (hok:mO_ args=true) (hso:ad_ args'=true) (hls:okL ls=true) (hv:aX_ v=true)
  (hden:∀Y,Fresh Y 64->ab_ (Y.puts 64 ls).v args'=args) (hk:∀Y,Fresh Y 64->KnownF P c.fc (Y.puts 64 ls)) (hm':64+ls.length=m) (ht:vFn P n c f args' m=t) (h:∀Y,Fresh Y 64->Gl.gt Y.v->VOK P (· =v) [] (Y.puts 64 ls) t):jD_ P f args v:=
 pure_sym (args':=args') hok hv hso hls hden λY hf hg=>
  (se_ (c:=c) (n:=m) hm (c3_ hm ho n) ⟨by have:=(hf.puts ls).1;grind,hk Y hf⟩ (by grind)).low
theorem vX_ [Gl] {P:Program} (Y:Sy):KnownF P ⟨[],[]⟩ Y:=⟨λf h=>(zh' h).elim,λf h=>(zh' h).elim⟩
def bi_ {α:Type} (enc:α->List AV):List α->List AV
 |[]=>[]
 |a::r=>enc a++bi_ enc r
def a3_ {α:Type} (enc:α->List AV) (w:Nat) (l:List α):AV:=match l with
 |[]=>.nsl
 |a::r=>.vsl (r.length+1) w (bi_ enc (a::r))
section
variable {α:Type} {enc:α->List AV} {w:Nat}
theorem dn_:∀a b:List α,bi_ enc (a++b)=bi_ enc a++bi_ enc b
 |[],b=>rfl
 |x::r,b=>by simp only [List.cons_append,bi_,dn_ r b,List.append_assoc]
theorem a5_ (hw:∀a,(enc a).length=w):∀l:List α,(bi_ enc l).length=l.length*w
 |[]=>by simp [bi_]
 |a::r=>by simp only [bi_,List.length_append,hw,a5_ hw r,List.length_cons,Nat.add_mul];omega
theorem ka_ (hw:∀a,(enc a).length=w):∀(l:List α) (i:Nat),(bi_ enc l).drop (i*w)=bi_ enc (l.drop i)
 |l,0=>by simp
 |[],i+1=>by simp [bi_]
 |a::r,i+1=>by simp only [bi_,List.drop_succ_cons];rw [←ka_ hw r i,Nat.add_mul,Nat.one_mul,Nat.add_comm,←List.drop_drop,List.drop_left' (hw a)]
theorem kY_ (h:∀a,okL (enc a)=true):∀l:List α,okL (bi_ enc l)=true
 |[]=>rfl
 |a::r=>okL_join (h a) (kY_ h r)
where
 okL_join:∀{a b:List AV},okL a=true->okL b=true->okL (a++b)=true
 |[],b,_,h=>h
 |x::r,b,h1,h2=>by rw [aY_]at h1;obtain ⟨k1,k2⟩:=aa_ h1;rw [List.cons_append,aY_,k1,okL_join k2 h2];rfl
theorem ut_ (h:∀a,okL (enc a)=true) (l:List α):okC (a3_ enc w l)=true:=by
 cases l with
 |nil=>rfl
 |cons a r=>exact kY_ h (a::r)
mutual
theorem qc_:∀{a:AV},okC a=true->aX_ a=true
 | .opq,h=>by simp [okC]at h
 | .bool _,_=>rfl
 | .int _ _,_=>rfl
 | .flt _ _,_=>rfl
 | .nan _,_=>rfl
 | .str _,_=>rfl
 | .nptr,_=>rfl
 | .ptr _ _,h=>by simp [okC]at h
 | .vptr cs,h=>by simp only [okC]at h;simp only [aX_];exact b2_ h
 | .nsl,_=>rfl
 | .sl ..,h=>by simp [okC]at h
 | .vsl _ _ cs,h=>by simp only [okC]at h;simp only [aX_];exact b2_ h
 | .nmap,_=>rfl
 | .map _,h=>by simp [okC]at h
 | .nfn,_=>rfl
 | .fn _ cs,h=>by simp only [okC]at h;simp only [aX_];exact b2_ h
 | .nif,_=>rfl
 | .iface _ a,h=>by simp only [okC]at h;simp only [aX_];exact ku_ h
 | .agg _,h=>by simp [okC]at h
 | .tup _,h=>by simp [okC]at h
 | .sym _,h=>by simp [okC]at h
 | .slx ..,h=>by simp [okC]at h
 | .ptx ..,h=>by simp [okC]at h
theorem ku_:∀{a:AV},okI a=true->aX_ a=true
 | .opq,h=>by simp [okI]at h
 | .bool _,_=>rfl
 | .int _ _,_=>rfl
 | .flt _ _,_=>rfl
 | .nan _,_=>rfl
 | .str _,_=>rfl
 | .nptr,_=>rfl
 | .ptr _ _,h=>by simp [okI]at h
 | .vptr cs,h=>by simp only [okI]at h;simp only [aX_];exact b2_ h
 | .nsl,_=>rfl
 | .sl ..,h=>by simp [okI]at h
 | .vsl _ _ cs,h=>by simp only [okI]at h;simp only [aX_];exact b2_ h
 | .nmap,_=>rfl
 | .map _,h=>by simp [okI]at h
 | .nfn,_=>rfl
 | .fn _ cs,h=>by simp only [okI]at h;simp only [aX_];exact b2_ h
 | .nif,_=>rfl
 | .iface _ a,h=>by simp only [okI]at h;simp only [aX_];exact ku_ h
 | .agg cs,h=>by simp only [okI]at h;simp only [aX_];exact b2_ h
 | .tup _,h=>by simp [okI]at h
 | .sym _,h=>by simp [okI]at h
 | .slx ..,h=>by simp [okI]at h
 | .ptx ..,h=>by simp [okI]at h
theorem b2_:∀{l:List AV},okL l=true->cG_ l=true
 |[],_=>rfl
 |a::r,h=>by rw [aY_]at h;obtain ⟨h1,h2⟩:=aa_ h;simp only [cG_,qc_ h1,b2_ h2]
end
variable {P:Program} {t e:TypeId} {ti:TypeInfo}
theorem uq_ (ht:P.underlying t=some (.slice e)) (l:List α):(XOp.len t).run P [a3_ enc w l]=some (.int .i64 (l.length:Int)):=by
 cases l with
 |nil=>show b9_ P h0 t .nsl=_;grind [b9_]
 |cons a r=>show b9_ P h0 t (.vsl (r.length+1) w (bi_ enc (a::r)))=_;grind [b9_]
theorem run_iaddr_sl (ht:P.underlying t=some (.slice e)) (hi:P.info? e=some ti) (hs:ti.size=w) (hw:∀a,(enc a).length=w) {l:List α} {i:Nat} (h:i<l.length) (k:IntKind):
  (XOp.iaddr t).run P [a3_ enc w l,.int k (i:Int)]=some (.vptr (bi_ enc (l.drop i))):=by
 cases l with
 |nil=>simp at h
 |cons a r=>
  show aR_ P t (.vsl (r.length+1) w _) (.int k (.ofNat i))=_;unfold aR_;have hb:Nat.blt i (r.length+1)=true:=(by simp_all);simp only [ht,hi,idx,hb,hs,aC_]
  grind [ka_]
theorem dv_:∀(a b:List AV),aZ_ a.length (a++b)=some a
 |[],b=>rfl
 |x::r,b=>by simp only [List.length_cons,List.cons_append,aZ_,dv_ r b]
theorem run_load_agg {d:TypeDesc} (ht:P.underlying t=some d) (ha:lN_ d=true) (hi:P.info? t=some ti) (hs:ti.size=w) (hw:∀a,(enc a).length=w) {l:List α} {i:Nat} (h:i<l.length):
  (XOp.load t).run P [.vptr (bi_ enc (l.drop i))]=some (.agg (enc l[i])):=by
 show bl_ P h0 t (.vptr _)=_
 grind [bl_,aT_,List.drop_eq_getElem_cons,bi_,dv_]
theorem s9_ {d:TypeDesc} (ht:P.underlying t=some d) (ha:lN_ d=false) (x:AV) (r:List AV):(XOp.load t).run P [.vptr (x::r)]=some x:=by
 show bl_ P h0 t (.vptr _)=_
 grind [bl_,aT_,aZ_]
theorem un_ {sz bytes:Nat} (hw:∀a,(enc a).length=sz) (hsz:0<sz) (hb:0<bytes) (l:List α) (a:α) (hl:(l.length+1)*bytes<=1073741824):(XOp.app sz bytes).run P [a3_ enc sz l,.agg (enc a)]=some (a3_ enc sz (l++[a])):=by
 have h1:Nat.div (aK_ (enc a)) sz=1:=by rw [ah_,hw];exact zi' hsz
 have hl1:l.length+1<=1073741824:=zc' (ze' _ hb) hl;show (match bc_ sz (.agg (enc a))with|some (n,l')=>fE_ sz bytes (a3_ enc sz l) n l'|none=>none)=_;simp only [bc_,h1];unfold fE_;have hd:decide ((enc a).length=1*sz)=true:=by grind
 simp only [hd];cases l with
 |nil=>
  have c1:(Nat.ble (Nat.mul 1 bytes) 1073741824&&Nat.ble 1 1073741824&&Nat.blt 0 bytes)=true:=by simp_all
  grind [a3_,bi_]
 |cons b r=>
  have c1:(Nat.ble (Nat.mul (Nat.add (r.length+1) 1) bytes) 1073741824&&Nat.ble (Nat.add (r.length+1) 1) 1073741824&&Nat.blt 0 bytes)=true:=(by simp_all);have hlen:(bi_ enc (b::r)).length=(r.length+1)*sz:=a5_ hw (b::r);have e3:bi_ enc (b::(r++[a]))=bi_ enc (b::r)++enc a:=by
   grind [dn_,bi_]
  have e4:(r++[a]).length+1=Nat.add (r.length+1) 1:=(by simp);simp only [a3_,hlen,true_and,decide_true,c1,List.cons_append,e3,e4]
theorem tQ_ {sz bytes:Nat} (hw:∀a,(enc a).length=sz) (hsz:0<sz) (hb:0<bytes) (l l':List α) (hl:(l.length+l'.length)*bytes<=1073741824):(XOp.app sz bytes).run P [a3_ enc sz l,a3_ enc sz l']=some (a3_ enc sz (l++l')):=by
 have hl1:l.length+l'.length<=1073741824:=zc' (ze' _ hb) hl;show (match bc_ sz (a3_ enc sz l')with|some (n,l')=>fE_ sz bytes (a3_ enc sz l) n l'|none=>none)=_;have ha:bc_ sz (a3_ enc sz l')=some (l'.length,bi_ enc l'):=by
  cases l' with
  |nil=>rfl
  |cons a r=>
   show (match aj_ ⟨hnil,0,0⟩ (.vsl (r.length+1) sz (bi_ enc (a::r))) (r.length+1) sz with|some l=>some (r.length+1,l)|none=>none)=_;have:aj_ ⟨hnil,0,0⟩ (.vsl (r.length+1) sz (bi_ enc (a::r))) (r.length+1) sz=some (bi_ enc (a::r)):=by
    show aZ_ (Nat.mul (r.length+1) sz) _=_;have h:=dv_ (bi_ enc (a::r)) []
    grind [a5_]
   grind
 simp only [ha];unfold fE_;have hd:decide ((bi_ enc l').length=l'.length*sz)=true:=decide_eq_true (a5_ hw l');simp only [hd];cases l with
 |nil=>
  cases l' with
  |nil=>rfl
  |cons a r=>
   have c1:(Nat.ble (Nat.mul (a::r).length bytes) 1073741824&&Nat.ble (a::r).length 1073741824&&Nat.blt 0 bytes)=true:=by simp_all
   grind [a3_]
 |cons b q=>
  cases l' with
  |nil=>have hlen:(bi_ enc (b::q)).length=(q.length+1)*sz:=a5_ hw (b::q);simp only [a3_,List.length_nil,hlen,true_and,decide_true,List.append_nil]
  |cons a r=>
   have c1:(Nat.ble (Nat.mul (Nat.add (q.length+1) (r.length+1)) bytes) 1073741824&&Nat.ble (Nat.add (q.length+1) (r.length+1)) 1073741824&&Nat.blt 0 bytes)=true:=(by simp_all);have hlen:(bi_ enc (b::q)).length=(q.length+1)*sz:=a5_ hw (b::q);have e3:bi_ enc (b::(q++a::r))=bi_ enc (b::q)++bi_ enc (a::r):=by
    grind [dn_]
   have e4:(q++a::r).length+1=Nat.add (q.length+1) (r.length+1):=by
    grind
   simp only [a3_,List.length_cons,hlen,true_and,decide_true,c1,List.cons_append,e3,e4]
end
def dX_ {α:Type} (enc:α->List AV) (w:Nat) (l:List α):AV:=.vsl l.length w (bi_ enc l)
def SlV {α:Type} (enc:α->List AV) (w:Nat) (l:List α) (a:AV):Prop:=a=dX_ enc w l\/(l=[]/\a=.nsl)
section
variable {α:Type} {enc:α->List AV} {w:Nat}
theorem SlV.of (l:List α):SlV enc w l (a3_ enc w l):=by
 cases l with
 |nil=>exact .inr ⟨rfl,rfl⟩
 |cons a r=>exact .inl rfl
theorem SlV.v (l:List α):SlV enc w l (dX_ enc w l):=.inl rfl
theorem SlV.eq {l:List α} {a:AV} (h:SlV enc w l a) (hl:l≠[]):a=a3_ enc w l:=by
 rcases h with h|⟨h,_⟩
 .rw [h];cases l with
  |nil=>grind
  |cons a r=>rfl
 grind
theorem sl_ (h:∀a,okL (enc a)=true) (l:List α):okC (dX_ enc w l)=true:=by
 grind [kY_,okC,dX_]
theorem SlV.ok {l:List α} {a:AV} (h:SlV enc w l a) (he:∀a,okL (enc a)=true):okC a=true:=by
 grind [sl_,Go.Sx.okC,Go.Sx.SlV]
variable {P:Program} {t e:TypeId} {ti:TypeInfo}
theorem SlV.len {l:List α} {a:AV} (h:SlV enc w l a) (ht:P.underlying t=some (.slice e)):(XOp.len t).run P [a]=some (.int .i64 (l.length:Int)):=by
 rcases h with h|⟨h1,h⟩
 .subst h;show b9_ P h0 t (.vsl l.length w (bi_ enc l))=_;grind [b9_]
 .subst h h1;show b9_ P h0 t .nsl=_;grind [b9_]
theorem SlV.ia {l:List α} {a:AV} (h:SlV enc w l a) (ht:P.underlying t=some (.slice e)) (hi:P.info? e=some ti) (hs:ti.size=w) (hw:∀a,(enc a).length=w) {i:Nat} (hl:i<l.length) (k:IntKind):
  (XOp.iaddr t).run P [a,.int k (i:Int)]=some (.vptr (bi_ enc (l.drop i))):=by
 rw [h.eq (λe=>by grind)]
 grind [run_iaddr_sl]
theorem SlV.arg {l:List α} {a:AV} (h:SlV enc w l a) (hw:∀a,(enc a).length=w):bc_ w a=some (l.length,bi_ enc l):=by
 rcases h with h|⟨h1,h⟩
 .subst h;have:aj_ ⟨hnil,0,0⟩ (dX_ enc w l) l.length w=some (bi_ enc l):=by
   show aZ_ (Nat.mul l.length w) (bi_ enc l)=_;have h:=dv_ (bi_ enc l) []
   grind [a5_]
  show (match aj_ ⟨hnil,0,0⟩ (dX_ enc w l) l.length w with|some q=>some (l.length,q)|none=>none)=_;rw [this]
 subst h h1;rfl
theorem SlV.app {sz bytes:Nat} {enc:α->List AV} (hw:∀a,(enc a).length=sz) (hsz:0<sz) (hb:0<bytes) {l l':List α} {a a':AV} (h:SlV enc sz l a) (h':SlV enc sz l' a') (hl:(l.length+l'.length)*bytes<=1073741824):
  ∃r,(XOp.app sz bytes).run P [a,a']=some r/\SlV enc sz (l++l') r:=by
 have harg:=h'.arg hw;have hl1:l.length+l'.length<=1073741824:=zc' (ze' _ hb) hl;have e0:(XOp.app sz bytes).run P [a,a']=fE_ sz bytes a l'.length (bi_ enc l'):=by
  grind [Go.Sx.XOp.run]
 rw [e0];unfold fE_;have hd:decide ((bi_ enc l').length=l'.length*sz)=true:=decide_eq_true (a5_ hw l');simp only [hd];cases l' with
 |nil=>rw [List.append_nil];rcases h with h|⟨h1,h⟩;subst h;exact ⟨dX_ enc sz l,by simp_all [dX_,a5_],.inl rfl⟩;subst h;exact ⟨.nsl,rfl,.inr ⟨h1,rfl⟩⟩
 |cons x r=>
  have c0:∀m:Nat,m=l.length+(x::r).length->(Nat.ble (Nat.mul m bytes) 1073741824&&Nat.ble m 1073741824&&Nat.blt 0 bytes)=true:=λm hm=>(by simp_all);rcases h with h|⟨h1,h⟩;subst h;refine ⟨dX_ enc sz (l++x::r),?_,.inl rfl⟩;have c1:=c0 (Nat.add l.length (r.length+1)) rfl;have e2:Nat.add l.length (r.length+1)=l.length+(r.length+1):=rfl;rw [e2]at c1;simp only [dX_,a5_ hw,and_self,decide_true,List.length_cons,c1,List.length_append,dn_,e2]
  .subst h h1;refine ⟨dX_ enc sz (x::r),?_,.inl rfl⟩
   grind [dX_]
theorem SlV.app1 {sz bytes:Nat} {enc:α->List AV} (hw:∀a,(enc a).length=sz) (hsz:0<sz) (hb:0<bytes) {l:List α} {a:AV} (h:SlV enc sz l a) (x:α) (hl:(l.length+1)*bytes<=1073741824):
  ∃r,(XOp.app sz bytes).run P [a,.agg (enc x)]=some r/\SlV enc sz (l++[x]) r:=by
 obtain ⟨r,h1,h2⟩:=h.app (P:=P) (l':=[x]) hw hsz hb (SlV.v [x]) hl;refine ⟨r,?_,h2⟩;rw [←h1];show (match bc_ sz (.agg (enc x))with|some (n,l')=>fE_ sz bytes a n l'|none=>none)=(match bc_ sz (dX_ enc sz [x])with|some (n,l')=>fE_ sz bytes a n l'|none=>none);rw [(SlV.v [x]).arg hw];have e1:Nat.div (aK_ (enc x)) sz=1:=by rw [ah_,hw];exact zi' hsz
 grind [bc_,bi_]
end
end Go.Sx
namespace Go.Sx
def d9_ (n:Nat):Bool:=decide (9218868437227405312<n%9223372036854775808)
theorem ct_ (n:Nat):(d9_ n=true/\∃s q,Ieee.double.read n=.nan s q)\/(d9_ n=false/\n%9223372036854775808=0/\∃s,Ieee.double.read n=.number s 0 Ieee.double.leastPlace)\/
  (d9_ n=false/\n%9223372036854775808≠0/\((∃s m i,0<m/\Ieee.double.leastPlace<=i/\Ieee.double.read n=.number s m i)\/∃s,Ieee.double.read n=.infinity s)):=by
 have e1:Ieee.double.signWeight=9223372036854775808:=rfl;have e2:Ieee.double.infRung=9218868437227405312:=rfl;have e3:Ieee.double.binade=4503599627370496:=rfl;unfold Ieee.Format.read d9_;simp only [e1,e2,e3];generalize n%9223372036854775808=r;by_cases h1:r<4503599627370496
 .rw [if_pos h1];by_cases h0:r=0;simp_all
  grind
 .rw [if_neg h1];by_cases h2:r<9218868437227405312
  .rw [if_pos h2]
   grind
  .rw [if_neg h2];by_cases h3:r=9218868437227405312;simp_all
   .rw [if_neg h3]
    grind
theorem i5_ (n:Nat):(Ieee.double.order n n==some .eq)= !d9_ n:=by
 unfold Ieee.Format.order;rcases ct_ n with ⟨h,s,q,e⟩|⟨h,_,s,e⟩|⟨h,_,⟨s,m,i,hm,hi,e⟩|⟨s,e⟩⟩
 .grind [Ieee.Datum.order]
 .grind [Ieee.Datum.order]
 .simp only [Ieee.Datum.order]
  grind
 grind [Ieee.Datum.order]
theorem uS_ (P:Program) (t:TypeId) (cx cy:Bool) (n:Nat):(XOp.bin .neq t cx cy).run P [.flt .f64 n,.flt .f64 n]=some (.bool (d9_ n)):=by show some (AV.bool (!(Ieee.double.order n n==some .eq)))=_;rw [i5_,Bool.not_not]
section
variable {P:Program} {t:TypeId}
theorem sD_ (a b:List UInt8):eqB a b=decide (a=b):=by
 by_cases h:a=b;simp_all [d3_]
 simp_all [d3_]
theorem vL_ (cx cy:Bool) (a b:List UInt8):(XOp.bin .neq t cx cy).run P [.str a,.str b]=some (.bool (!decide (a=b))):=by show some (AV.bool (not (eqB a b)))=_;rw [sD_]
theorem tR_ {s d:TypeId} {ds:TypeDesc} {k j:IntKind} (hs:P.underlying s=some ds) (hd:P.underlying d=some (.int k)) (n:Int):(XOp.conv s d).run P [.int j n]=some (.int k (k.wrap n)):=by
 show cq_ P h0 s d (.int j n)=_
 grind [cq_,e9_,da_,cC_]
end
end Go.Sx
