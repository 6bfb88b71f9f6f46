/-
  The evaluator with symbols is right.
-/
import Derived.Test.YtijpblconliffaaGreatDoorSyB
import Derived.Laws.Externs
import Derived.Lib.IndexEntry
set_option linter.unusedVariables false
set_option linter.unusedSimpArgs false
namespace Go.Sx
variable [Gl]
section
variable {P:Program} {N k:Nat}
theorem hc_ {all:List Oper} {K K':KP} {X X':XP} (hk:∀Y T H D,K Y T H D->K' Y T H D) (hx:∀Y r,X Y r->X' Y r):∀(l:List Oper) (Y:Sy) (T:Tm) (H:AHeap) (D:Dfs),
  hL_ P N k all l Y T H D K X->hL_ P N k all l Y T H D K' X'
 |[],Y,T,H,D,h=>hk _ _ _ _ h
 |o::r,Y0,T0,H0,D0,h=>by
  obtain ⟨Y,T,H,D,hw,h⟩:=h;refine ⟨Y,T,H,D,hw,?_⟩;split at h;exact h.elim
  .obtain ⟨t,ht,h1,h2⟩:=h;have ih:=hc_ (all:=all) hk hx r;refine ⟨t,ht,λe=>?_,λe=>ih _ _ _ _ (h2 e)⟩;rcases h1 e with h1|h1|h1|h1
   .unfold eT_ at h1⊢;split at h1<;>grind [SemCall.mono]
   refine .inr (.inl ?_);obtain ⟨Y',r,H',h3,h4⟩:=h1;exact ⟨Y',r,H',ih _ _ _ _ h3,h4⟩;refine .inr (.inr (.inl ?_));obtain ⟨g,args,Y',r,h2,h3,h4⟩:=h1;exact ⟨g,args,Y',r,h2,ih _ _ _ _ h3,h4⟩;refine .inr (.inr (.inr ?_));obtain ⟨g,args,R,h2,h3,h4,h5⟩:=h1;exact ⟨g,args,R,h2,λY' r H' h=>ih _ _ _ _ (h3 Y' r H' h),λY' v H' h=>hx _ _ (h4 Y' v H' h),h5⟩
omit [Gl]in
theorem ds_ {K K':KP} {X X':XP} (hk:∀Y T H D,K Y T H D->K' Y T H D) (hx:∀Y r,X Y r->X' Y r) {Y:Sy} {r:CRes} (h:ax_ K X Y r):ax_ K' X' Y r:=by
 cases r with
 |norm T H D=>exact hk _ _ _ _ h
 |exit id T H D=>exact hx _ _ h
 |ret T H D=>exact hx _ _ h
 |pan v T H D=>exact hx _ _ h
omit [Gl]in
theorem lH_ {id:Nat} {K K':KP} {X X':XP} (hk:∀Y T H D,K Y T H D->K' Y T H D) (hx:∀Y r,X Y r->X' Y r) {Y:Sy} {r:CRes} (h:ni_ id K X Y r):ni_ id K' X' Y r:=by
 cases r with
 |norm T H D=>exact hx _ _ h
 |exit id' T H D=>exact ⟨λe=>hk _ _ _ _ (h.1 e),λe=>hx _ _ (h.2 e)⟩
 |ret T H D=>exact hx _ _ h
 |pan v T H D=>exact hx _ _ h
theorem aA_:∀(c:Code) {K K':KP} {X X':XP} (hk:∀Y T H D,K Y T H D->K' Y T H D) (hx:∀Y r,X Y r->X' Y r) (Y:Sy) (T:Tm) (H:AHeap) (D:Dfs),
  aQ_ P N k c Y T H D K X->aQ_ P N k c Y T H D K' X'
 | .skip,_,_,_,_,hk,hx,Y,T,H,D,h=>by grind [aQ_]
 | .label _,_,_,_,_,hk,hx,Y,T,H,D,h=>by grind [aQ_]
 | .exit id,_,_,_,_,hk,hx,Y,T,H,D,h=>by grind [aQ_]
 | .ret,_,_,_,_,hk,hx,Y,T,H,D,h=>by grind [aQ_]
 | .region id ops false,_,_,_,_,hk,hx,Y,T,H,D,h=>by grind [aQ_,hc_]
 | .region id ops true,_,_,_,_,hk,hx,Y,T,H,D,h=>by rcases h with h|h;obtain ⟨Y1,T1,H1,D1,hw,call,r,hc,hd,hr⟩:=h;exact .inl ⟨Y1,T1,H1,D1,hw,call,r,hc,hd,ds_ hk hx hr⟩;refine .inr λB pr E a w hy st=>Code.wp_mono (λe a w hq=>?_) (h B pr E a w hy st);obtain ⟨Y',r,hr,hq⟩:=hq;exact ⟨Y',r,ds_ hk hx hr,hq⟩
 | .seq a b,_,_,_,_,hk,hx,Y,T,H,D,h=>by unfold aQ_ at h⊢;exact aA_ a (λY T H D h=>aA_ b hk hx Y T H D h) hx Y T H D h
 | .cond c a b,_,_,_,_,hk,hx,Y,T,H,D,h=>by unfold aQ_ at h⊢;obtain ⟨Y1,T1,H1,D1,hw,t,ht,h1,h2⟩:=h;exact ⟨Y1,T1,H1,D1,hw,t,ht,λe=>aA_ a hk hx _ _ _ _ (h1 e),λe=>aA_ b hk hx _ _ _ _ (h2 e)⟩
 | .block id b,_,_,_,_,hk,hx,Y,T,H,D,h=>by unfold aQ_ at h⊢;exact aA_ b hk (λY r h=>lH_ hk hx h) _ _ _ _ h
 | .loop b,_,_,_,_,hk,hx,Y,T,H,D,h=>by unfold aQ_ at h⊢;obtain ⟨ι,S,μ,i0,hw,hb⟩:=h;exact ⟨ι,S,μ,i0,hw,λi=>aA_ b (λ_ _ _ _ h=>h) hx _ _ _ _ (hb i)⟩
 | .scope _,_,_,_,_,hk,hx,Y,T,H,D,h=>by grind [aQ_]
 | .goto _,_,_,_,_,hk,hx,Y,T,H,D,h=>by grind [aQ_]
 | .refuse _,_,_,_,_,hk,hx,Y,T,H,D,h=>by grind [aQ_]
 | .rangeFunc _ _ _ _,_,_,_,_,hk,hx,Y,T,H,D,h=>by grind [aQ_]
end
section
variable {P:Program} {N k:Nat} {Q:AV->Prop} {fuel:Nat} {fc:FcT}
omit [Gl]in
theorem im_ {E:Env} {i:Nat} {b:Bool} (hi:E.sy i=some (.bool b)) {a:AV} {v:Value} (h:Con E a v):Con E (g9_ i b a) v:=by
 unfold g9_
 grind [Nat.eq_of_beq_eq_true,Con,Con0]
theorem fb_ {Y:Sy} {i:Nat} {b:Bool} (hi:Y.v i=some (.bool b)) (S:XS) (D:Dfs):Weak P N k Y S.T S.H D Y (S.know i b).T S.H D:=λB pr E a w hy st=>
 ⟨E,Env.leF_refl k E,hy,⟨st.t.size,st.t.le,λt ht=>by show Con E (tget (be_ (g9_ i b) S.T) t) _;rw [aF_];exact im_ (by rw [hy.v];exact hi) (st.t.con t ht),st.t.gl⟩,st.r,st.d⟩
def rdS (s:Nat->Option AV) (T:Tm) (x:Operand):AV:=match ae_ (look T x)with
 |true=>den s (look T x)
 |false=>look T x
theorem sO_ {E:Env} {N:Nat} {T:Tm} {a:Act} (h:TRel E N T a.tmps) (x:Operand):Con E (rdS E.sy T x) (a.eval x):=by have hl:=h.look x;unfold rdS;split;rename_i hs;exact (an_ hs hl).con;exact hl
theorem cb_ {s:Nat->Option AV} {T:Tm} {x:Operand} (h:ae_ (look T x)=true):rdS s T x=den s (look T x):=by unfold rdS;rw [h]
omit [Gl]in
theorem ag_ {a:AV} {r:List AV} (h:ad_ (a::r)=true):ae_ a=true/\ad_ r=true:=by
 simp only [ad_]at h
 grind
theorem tT_ {o:Oper} {op:XOp} {args:List AV} {T:Tm} (hl:c3_ T o=some (op,args)) (hmm:∀mx,op≠ .mm mx) (hs:ad_ args=true) {s:Nat->Option AV} {r:AV} (hr:op.run P (ab_ s args)=some r) (H:AHeap):
  aB_ P (rdS s T) H o=some (.val r H):=by
 unfold c3_ at hl;unfold aB_;split at hl
 .cases hl;obtain ⟨s1,s2⟩:=ag_ hs;obtain ⟨s2,_⟩:=ag_ s2
  grind [ab_,XOp.run,cb_,oV]
 .cases hl;obtain ⟨s1,_⟩:=ag_ hs
  grind [ab_,XOp.run,cb_,oV]
 .cases hl;obtain ⟨s1,_⟩:=ag_ hs
  grind [ab_,XOp.run,bD_,cb_,e4_,nq_,oP]
 .cases hl;obtain ⟨s1,s2⟩:=ag_ hs;obtain ⟨s2,_⟩:=ag_ s2
  grind [ab_,XOp.run,cb_,oV]
 .cases hl;obtain ⟨s1,s2⟩:=ag_ hs;obtain ⟨s2,_⟩:=ag_ s2
  grind [ab_,XOp.run,cb_,oV]
 .cases hl;obtain ⟨s1,_⟩:=ag_ hs
  grind [ab_,XOp.run,cb_,oV]
 .cases hl;obtain ⟨s1,_⟩:=ag_ hs
  grind [ab_,XOp.run,bD_,cb_,nt_,oV]
 .cases hl;obtain ⟨s1,_⟩:=ag_ hs
  grind [ab_,XOp.run,cb_,oV]
 .rename_i t x lo hi mx ho;cases mx with
  |some _=>cases hl
  |none=>
   cases lo with
   |none=>
    cases hi with
    |none=>
     cases hl;obtain ⟨s1,_⟩:=ag_ hs
     grind [ab_,XOp.run,bD_,nJ_,cb_,dk_,oV]
    |some b=>
     cases hl;obtain ⟨s1,s2⟩:=ag_ hs;obtain ⟨s2,_⟩:=ag_ s2
     grind [ab_,XOp.run,bD_,nJ_,cb_,dk_,oV]
   |some a=>
    cases hi with
    |none=>
     cases hl;obtain ⟨s1,s2⟩:=ag_ hs;obtain ⟨s2,_⟩:=ag_ s2
     grind [ab_,XOp.run,bD_,nJ_,cb_,dk_,oV]
    |some b=>
     cases hl;obtain ⟨s1,s2⟩:=ag_ hs;obtain ⟨s2,s3⟩:=ag_ s2;obtain ⟨s3,_⟩:=ag_ s3
     grind [ab_,XOp.run,bD_,nJ_,cb_,dk_,oV]
 .cases hl;obtain ⟨s1,_⟩:=ag_ hs
  grind [ab_,XOp.run,cb_]
 .rename_i c ho;split at hl
  .rename_i b hb;split at hl
   .split at hl
    .cases hl;obtain ⟨s1,_⟩:=ag_ hs
     grind [ab_,XOp.run,bD_,d1_,cb_,pC_,oV]
    cases hl
   all_goals grind
  cases hl
 cases hl
theorem uR_ {o:Oper} {mx:Bool} {args:List AV} {T:Tm} (hl:c3_ T o=some (.mm mx,args)):∃x y ty,o.op=.call ⟨.builtin (match mx with|true=>.max|false=>.min),#[x,y],ty⟩/\args=[look T x,look T y]:=by
 unfold c3_ at hl;split at hl<;>(first|(cases hl;done)|skip)
 .grind
 .rename_i c ho;split at hl
  .rename_i b hb;obtain ⟨callee,cargs,ty⟩:=c;subst hb;split at hl
   .grind
   .split at hl
    .rename_i x y h1;have h1:=ak_ h1
     grind
    cases hl
   .split at hl
    .rename_i x y h1;have h1:=ak_ h1
     grind
    cases hl
   cases hl
  cases hl
theorem nH_ {o:Oper} {op:XOp} {args:List AV} {T:Tm} (hl:c3_ T o=some (op,args)) (hs:ad_ args=true) {B:World} {pr:Nat->Prop} {E:Env} {a:Act} {w:World} {H:AHeap} {N:Nat} {r:AV} (hr:op.run P (ab_ E.sy args)=some r)
  (hrel:Rel B pr E H w) (ht:TRel E N T a.tmps):∃E' n v w',(execOp a.eval o).run P w=.ok n w'/\(n=.value v\/(n=.skip/\v=undef))/\E.le E'/\Rel B pr E' H w'/\Con E' r v:=by
 by_cases hmm:∃mx,op=.mm mx
 .obtain ⟨mx,rfl⟩:=hmm;obtain ⟨x,y,ty,ho,rfl⟩:=uR_ hl;obtain ⟨s1,s2⟩:=ag_ hs;obtain ⟨s2,_⟩:=ag_ s2;have c1:=an_ s1 (ht.look x);have c2:=an_ s2 (ht.look y);simp only [ab_,XOp.run]at hr;split at hr
  .rename_i k p hp;split at hr
   .rename_i k' q hq;split at hr
    .cases hr;rw [hp]at c1;rw [hq]at c2;simp only [Con0]at c1 c2;have e:Array.map a.eval #[x,y]= #[a.eval x,a.eval y]:=(by simp);cases mx with
     |true=>refine ⟨E,.value (.int k (max p q)),_,w,?_,.inl rfl,Env.le_refl E,hrel,by simp [Con]⟩;unfold execOp;simp only [ho,resolve,Sem.run_bind,Sem.run_pure,Result.andThen_ok,invoke,builtin,e,c1,c2];simp [Builtin.max_,Builtin.max2,Int.max_def];omega
     |false=>refine ⟨E,.value (.int k (min p q)),_,w,?_,.inl rfl,Env.le_refl E,hrel,by simp [Con]⟩;unfold execOp;simp only [ho,resolve,Sem.run_bind,Sem.run_pure,Result.andThen_ok,invoke,builtin,e,c1,c2];simp [Builtin.min_,Builtin.min2,Int.min_def];omega
    cases hr
   cases hr
  cases hr
 exact gH_ hrel (λx=>sO_ ht x) (tT_ hl (λmx h=>hmm ⟨mx,h⟩) hs hr H)
theorem k6_ {o:Oper} {op:XOp} {args:List AV} {T:Tm} (hl:c3_ T o=some (op,args)) (hs:ad_ args=true) {Y:Sy} {r:AV} (hr:op.run P (ab_ Y.v args)=some r)
  {B:World} {pr:Nat->Prop} {E:Env} {a:Act} {w:World} {H:AHeap} {D:Dfs} (hy:E.At Y) (st:St P B pr N E T H D a w):
  ∃E' n v w',(execOp a.eval o).run P w=.ok n w'/\(n=.value v\/(n=.skip/\v=undef))/\E.le E'/\St P B pr N E' T H D a w'/\Con E' r v:=by
 have hE:E.sy=Y.v:=hy.v;rw [←hE]at hr;obtain ⟨E',n,v,w',h1,h2,h3,h4,h5⟩:=nH_ hl hs hr st.r st.t;exact ⟨E',n,v,w',h1,h2,h3,⟨st.t.mono h3,h4,st.d.mono h3⟩,h5⟩
theorem KnownF.sub {Y Y':Sy} (h:KnownF P fc Y) (hs:∀i x,Y.v i=some x->Y'.v i=some x) (hl:∀i,i<64->Y'.v i=Y.v i):KnownF P fc Y':=
 ⟨λf hf=>by
  obtain ⟨h1,h2,a,h3,h4⟩:=h.1 f hf
  grind,λq hq B pr E H w vs hy=>h.2 q hq B pr E H w vs λi hi=>(hy i hi).trans (hl i hi)⟩
omit [Gl]in
theorem ma_:∀{l:List XF} {f:FuncId} {args:List AV} {v:AV},oA_ l f args=some v->⟨f,args,v⟩∈l
 |[],f,args,v,h=>by cases h
 |q::r,f,args,v,h=>by unfold oA_ at h;split at h;rename_i hb;cases h;obtain ⟨h1,h2⟩:=aa_ hb;have h1:=Nat.eq_of_beq_eq_true h1;have h2:=bi_ h2;subst h1 h2;exact List.mem_cons_self ..;exact List.mem_cons_of_mem _ (ma_ h)
theorem qA_ {o:Oper} {S:XS} {Y:Sy} {D:Dfs} (hfc:KnownF P fc Y) {u:Tm->AV->Tm} {next:KP} {v:AV} (hv:qz_ fc.x S.T o=some v) (hn:next Y (u S.T v) S.H D):gq_ P N k o u Y S.T S.H D next:=by
 unfold qz_ at hv;split at hv
 .rename_i c ho;split at hv
  .rename_i f hf;split at hv
   .rename_i id;have hq:=hfc.2 _ (ma_ hv);refine ⟨Y,v,S.H,hn,λB pr E a w hy st=>?_⟩;have hcon:ConL E (jE_ (look S.T) c.args.toList) (c.args.toList.map a.eval):=eG_ (λx=>st.t.look x) _;obtain ⟨w1,h1,h2⟩:=hq B pr E S.H w _ (λi _=>by rw [hy.v]) st.t.gl st.r hcon;refine ⟨E,.value w1,w1,w,?_,.inl rfl,Env.leF_refl k E,hy,st,h2⟩;obtain ⟨callee,args,argTypes⟩:=c;have e:(⟨args.toList.map a.eval⟩:Array Value)=args.map a.eval:=(by grind);have ev:a.eval (.func id)=.func (.func id) #[] #[]:=rfl
    grind [execOp,resolve,Deferred.ofValue,invoke]
   cases hv
  cases hv
 cases hv
omit [Gl]in
theorem l9_:∀{l:List Fact} {op:XOp} {args:List AV} {v:AV},l8_ l op args=some v->∃f∈l,∃t cx cy x y,op=.bin f.o t cx cy/\args=[x,y]/\v=f.v/\f.has f.o x y=true
 |[],op,args,v,h=>by cases h
 |f::r,op,args,v,h=>by unfold l8_ at h;split at h;rename_i o t cx cy x y;split at h;rename_i hb;cases h;have h1:o=f.o:=of_decide_eq_true (aa_ hb).1;subst h1;exact ⟨f,List.mem_cons_self ..,t,cx,cy,x,y,rfl,rfl,rfl,hb⟩;obtain ⟨f',hf,h⟩:=l9_ h;exact ⟨f',List.mem_cons_of_mem _ hf,h⟩;cases h
theorem ss_ {o:Oper} {op:XOp} {args:List AV} {S:XS} {Y:Sy} {D:Dfs} (hfc:KnownF P fc Y) (hl:c3_ S.T o=some (op,args)) (hs:ad_ args=true) {u:Tm->AV->Tm} {next:KP} {v:AV}
  (hv:l8_ fc.b op args=some v) (hn:next Y (u S.T v) S.H D):gq_ P N k o u Y S.T S.H D next:=by
 obtain ⟨f,hf,t,cx,cy,x,y,rfl,rfl,rfl,hb⟩:=l9_ hv;obtain ⟨h1,h2,a,h3,h4⟩:=hfc.1 f hf;have hr:(XOp.bin f.o t cx cy).run P (ab_ Y.v [x,y])=some f.v:=by
  have h4:=h4 t cx cy;have hb:=(aa_ hb).2;cases hl:f.l with
  |true=>
   grind [aG_,ab_,den,XOp.run,hS_]
  |false=>
   grind [aG_,ab_,den,XOp.run,hS_]
 refine ⟨Y,f.v,S.H,hn,λB pr E a w hy st=>?_⟩;obtain ⟨E',n,v,w',g1,g2,g3,st',g5⟩:=k6_ hl hs hr hy st;exact ⟨E',n,v,w',g1,g2,g3.leF k,hy.le g3,st',g5⟩
theorem eS_ {T:Tm} {c:Operand} {i:Nat} (h:jh_ T c=some i) (S:XS) (hS:S.T=T) (b:Bool):look (S.know i b).T c=.bool b:=by
 subst hS;unfold jh_ at h;split at h
 .rename_i t;split at h
  .rename_i hb;unfold rM_ at h;split at h
   .have e1:look (S.know i b).T (.tmp t)=tget (S.know i b).T t:=(by unfold look aU_;simp only [hb];rfl);rw [e1];show tget (be_ (g9_ i b) S.T) t=_
    grind [aF_,g9_,Nat.beq_refl]
   cases h
  cases h
 cases h
omit [Gl]in
theorem iy_ {all:List Oper} {o:Oper} {g:Tm->Option Bool} (hg:a2_ all o=.mk g) {S:XS} {t:Bool} (h:g S.T=some t) (i:Nat) (b:Bool):g (S.know i b).T=some t:=by
 unfold a2_ at hg;split at hg;cases hg
 .rename_i j want hgu;split at hg
  .split at hg
   .rename_i d hd;split at hg
    .cases hg;have e:(acs d).f (S.know i b).T=g9_ i b ((acs d).f S.T):=aF_ _ _ _;show bm_ ((acs d).f (S.know i b).T) want=some t;have h:bm_ ((acs d).f S.T) want=some t:=h;rw [e];generalize (acs d).f S.T=x at h⊢;cases x<;>first|exact h|(simp [bm_]at h)
    grind
   grind
  grind
def hM_ (Q:AV->Prop) (Y:Sy) (r:FRes):Prop:=∃a H1 v m,r=.ret a H1/\eO_ m H1 a=some v/\ae_ v=true/\Q (den Y.v v)
end
end Go.Sx
namespace Go.Sx
def mD_:List AV->Bool
 |[]=>true
 |a::r=>match okI a with
  |true=>mD_ r
  |false=>false
theorem kj_ {E:Env}:∀{as:List AV} {vs:List Value},mD_ as=true->ConL E as vs->Con0L E as vs
 |[],_,_,hc=>by grind [Con0L,ConL]
 |a::as,vs,h,hc=>by
  simp only [ConL]at hc;simp only [Con0L];obtain ⟨v,r,e,c1,c2⟩:=hc;simp only [mD_]at h;cases ha:okI a with
  |true=>rw [ha]at h;exact ⟨v,r,e,iR_ ha c1,kj_ h c2⟩
  |false=>rw [ha]at h;cases h
theorem cM_:∀{l:List AV},okL l=true->∀a∈l,okC a=true
 |[],_,a,h=>by cases h
 |b::r,h,a,hm=>by
  rw [aY_]at h;obtain ⟨h1,h2⟩:=aa_ h;cases hm with
  |head=>exact h1
  |tail _ hm=>exact cM_ h2 a hm
theorem i0_:∀{Y:Sy} {n:Nat} (l:List AV) (i:Nat) (a:AV),(Y.puts n l).v i=some a->Y.v i=some a\/a∈l
 |Y,n,[],i,a,h=>.inl h
 |Y,n,b::r,i,a,h=>by rcases i0_ (Y:=Y.put n b) (n:=n+1) r i a h with h|h;by_cases e:i=n;subst e;rw [Sy.put_same]at h;cases h;exact .inr (List.mem_cons_self ..);rw [Sy.put_ne _ _ e]at h;exact .inl h;exact .inr (List.mem_cons_of_mem _ h)
theorem hB_:∀n m:Nat,ad_ (aj_ n m)=true
 |_,0=>rfl
 |n,m+1=>by simp only [aj_,ad_,ae_];exact hB_ (n+1) m
theorem sH_ {a:AV} (h:okC a=true):okI a=true:=by cases a<;>first|(exact h)|(simp [okC]at h)
variable [Gl]
theorem pure_sym {P:Program} {f:FuncId} {args args' ls:List AV} {v:AV} (hok:mD_ args=true) (hv:aX_ v=true) (hso:ad_ args'=true) (hls:okL ls=true)
  (hden:∀Y,Fresh Y 64->ab_ (Y.puts 64 ls).v args'=args) (h:∀Y,Fresh Y 64->Gl.gt Y.v->SemCallF P 0 (Y.puts 64 ls) f args' H0 (hM_ (· =v))):ju_ P f args v:=by
 intro H B pr E w vs hg hr hc
 let Yg:Sy:=⟨λi=>if i<64 then E.sy i else none,λ_=>none⟩
 have hfr:Fresh Yg 64:=⟨Nat.le_refl _,λi hi=>if_neg (by omega)⟩;have hlow:∀i,i<64->Yg.v i=E.sy i:=λi hi=>if_pos hi;have hgt:Gl.gt Yg.v:=Gl.gtm _ _ hlow hg.2;obtain ⟨p1,p2,p3,p4⟩:=hfr.puts ls
 let E1:Env:=⟨λ_=>none,E.sz,E.imm,λ_=>False,E.imm,(Yg.puts 64 ls).v,(Yg.puts 64 ls).l,λ_=>False⟩
 have hlow1:∀i,i<64->E1.sy i=E.sy i:=λi hi=>(p4 i hi).trans (hlow i hi);have hg1:GlOk E1:=⟨λg=>ck_ (E:=E) (E':=E1) (λ_ _ _ h=>h) (λi a hi hx=>(hlow1 i hi).trans hx) (Gl.nr g) (hg.1 g),Gl.gtm _ _ hlow1 hg.2⟩
 have hrel:Rel w (λb=>b<w.heap.size) E1 H0 w:={
  own:=⟨λ_=>none,λid k hk=>(k3_ hk).elim,λ_ _=>rfl,λ_ _ _ _=>rfl⟩
  imm:=hr.imm
  ib:=λ_ _ _ _ h=>h
  fresh:=λ_ _ _=>rfl
  resv:=λ_ h=>h.elim
  vds:=λ_ h=>h.elim
  szs:=hr.szs
  prot:=λb h=>⟨h,rfl⟩
  size:=Nat.le_refl _
  os:=rfl
  output:=rfl }
 have hone:∀i a,E1.sy i=some a->a.one=true:=λi a hx=>by
  rcases i0_ ls i a hx with hx|hx
  .by_cases hi:i<64
   .grind [Gl.gto]
   grind
  grind [bj_,cM_]
 have hcon:ConL E1 args' vs:=by refine cY_ hone hso ?_;have:ab_ E1.sy args'=args:=hden Yg hfr;rw [this];exact by_ (E:=E) (E':=E1) (λ_ _ _ h=>h) (kj_ hok hc)
 refine Calls.mono (h Yg hfr hgt w (λb=>b<w.heap.size) E1 w vs ⟨rfl,rfl,λ_ h=>h⟩ hg1 hrel hcon) λe w' he=>?_;obtain ⟨Y',r,⟨a,H1,v',m,rfl,hs,hso',hQ⟩,E',hle,hy',u,rfl,h1,h2⟩:=he;obtain ⟨E2,f1,f2,f3,f4,_,f5,f6⟩:=h2.freeze;have hcon2:=mX_ h2 f1 f6 m _ _ _ hs h1;have hv0:Con0 E2 v u:=by have:=an_ hso' hcon2;rw [f1.2.2.2.1,hy'.v,hQ]at this;exact this
 obtain ⟨own,g1,g2,g3⟩:=hr.own;have hsz:∀b n,E.sz b=some n->E2.sz b=some n:=λb n hx=>f1.2.1 b n (hle.sz b n hx);have him:∀b o v,E.imm b o=some v->E2.imm b o=some v:=λb o v hx=>f1.2.2.1 b o v (hle.imm b o v hx);have hold:∀b o v,b<w.heap.size->E2.imm b o=some v->E.imm b o=some v:=λb o v hb hx=>by have:=f5.ib b o v hb hx;rw [f4,hle.bim]at this;exact this
 refine ⟨⟨E.φ,E2.sz,E2.imm,E.res,E.bim,E.sy,E.syl,E.vd⟩,⟨⟨λ_ _ h=>h,hsz,him,rfl,rfl⟩,rfl,rfl,rfl⟩,u,rfl,(b6_ (E:=E2) (E':=⟨E.φ,E2.sz,E2.imm,E.res,E.bim,E.sy,E.syl,E.vd⟩) (λ_ _ _ h=>h) hv0).con,?_⟩;have hsub:E.sub ⟨E.φ,E2.sz,E2.imm,E.res,E.bim,E.sy,E.syl,E.vd⟩:=⟨λ_ _ h=>h,hsz,him,rfl,rfl⟩
 refine { own:=⟨λb=>if b<w.heap.size then own b else none,λid k hk=>?_,λb hb=>?_,λb o v hx=>?_⟩,imm:=f5.imm,ib:=λb o v hb hx=>?_,fresh:=hr.fresh,resv:=hr.resv,vds:=hr.vds,szs:=f5.szs,prot:=λb hb=>?_,
          size:=Nat.le_trans hr.size h2.size,os:=h2.os.trans hr.os,output:=h2.output.trans hr.output }
 exact (g1 id k hk).imp (λ_ h=>h) (λh=>h) λb o e1 e2 e3=>⟨(if_pos e3.lt).trans e2,e3.sub hsub (h2.prot b e3.lt).2⟩
 .grind
 .grind
 have hlt:=Nat.lt_of_lt_of_le (hr.prot b hb).1 hr.size;exact hr.ib b o v hb (hold b o v hlt hx);obtain ⟨e1,e2⟩:=hr.prot b hb;exact ⟨e1,(h2.prot b (Nat.lt_of_lt_of_le e1 hr.size)).2.trans e2⟩
end Go.Sx
namespace Go.Sx
variable [Gl]
omit [Gl]in
theorem sR_ {P:Program} {k:IntKind} {x c r:Int} (hc:c≠0) (hr:x.tmod c=r) (t:TypeId) (cx cy:Bool):bP_ P .rem t cx cy (.int k x) (.int k c)=some (.int k r):=by subst hr;show d2_ P .rem k x k c=_;have hb:Nat.beq (kix k) (kix k)=true:=Nat.beq_refl _;unfold d2_;rw [hb];unfold iq_;simp only [binOp,Op.intDiv,hc,ne_eq,not_true_eq_false,if_false];rfl
end Go.Sx
