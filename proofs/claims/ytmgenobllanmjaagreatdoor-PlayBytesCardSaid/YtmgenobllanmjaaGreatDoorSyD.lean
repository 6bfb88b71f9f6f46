/-
  The evaluator with symbols is right.
-/
import Derived.Test.YtmgenobllanmjaaGreatDoorSyC
set_option linter.unusedVariables false
set_option linter.unusedSimpArgs false
namespace Go.Sx
variable [Gl]
section
variable {P:Program} {N k:Nat}
theorem hw_ {all:List Oper} {K K':KP} {X X':XP} (hk:∀Y T H D,K Y T H D->K' Y T H D) (hx:∀Y r,X Y r->X' Y r):∀(l:List Oper) (Y:Sy) (T:Tm) (H:AHeap) (D:Dfs),
  f9_ P N k all l Y T H D K X->f9_ P N k all l Y T H D K' X'
 |[],Y,T,H,D,h=>hk _ _ _ _ h
 |o::r,Y0,T0,H0,D0,h=>by
  obtain ⟨Y,T,H,D,hw,h⟩:=h;refine ⟨Y,T,H,D,hw,?_⟩;split at h;exact h.elim
  .obtain ⟨t,ht,h1,h2⟩:=h;have ih:=hw_ (all:=all) hk hx r;refine ⟨t,ht,λe=>?_,λe=>ih _ _ _ _ (h2 e)⟩;rcases h1 e with h1|h1|h1|h1
   .unfold dr_ at h1⊢;split at h1<;>grind [SemCall.mono]
   refine .inr (.inl ?_);obtain ⟨Y',r,H',h3,h4⟩:=h1;exact ⟨Y',r,H',ih _ _ _ _ h3,h4⟩;refine .inr (.inr (.inl ?_));obtain ⟨g,args,Y',r,h2,h3,h4⟩:=h1;exact ⟨g,args,Y',r,h2,ih _ _ _ _ h3,h4⟩;refine .inr (.inr (.inr ?_));obtain ⟨g,args,R,h2,h3,h4,h5⟩:=h1;exact ⟨g,args,R,h2,λY' r H' h=>ih _ _ _ _ (h3 Y' r H' h),λY' v H' h=>hx _ _ (h4 Y' v H' h),h5⟩
omit [Gl]in
theorem dG_ {K K':KP} {X X':XP} (hk:∀Y T H D,K Y T H D->K' Y T H D) (hx:∀Y r,X Y r->X' Y r) {Y:Sy} {r:CRes} (h:ay_ K X Y r):ay_ K' X' Y r:=by
 cases r with
 |norm T H D=>exact hk _ _ _ _ h
 |exit id T H D=>exact hx _ _ h
 |ret T H D=>exact hx _ _ h
 |pan v T H D=>exact hx _ _ h
omit [Gl]in
theorem ma_ {id:Nat} {K K':KP} {X X':XP} (hk:∀Y T H D,K Y T H D->K' Y T H D) (hx:∀Y r,X Y r->X' Y r) {Y:Sy} {r:CRes} (h:nQ_ id K X Y r):nQ_ id K' X' Y r:=by
 cases r with
 |norm T H D=>exact hx _ _ h
 |exit id' T H D=>exact ⟨λe=>hk _ _ _ _ (h.1 e),λe=>hx _ _ (h.2 e)⟩
 |ret T H D=>exact hx _ _ h
 |pan v T H D=>exact hx _ _ h
theorem as_:∀(c:Code) {K K':KP} {X X':XP} (hk:∀Y T H D,K Y T H D->K' Y T H D) (hx:∀Y r,X Y r->X' Y r) (Y:Sy) (T:Tm) (H:AHeap) (D:Dfs),
  aE_ P N k c Y T H D K X->aE_ P N k c Y T H D K' X'
 | .skip,_,_,_,_,hk,hx,Y,T,H,D,h=>by grind [aE_]
 | .label _,_,_,_,_,hk,hx,Y,T,H,D,h=>by grind [aE_]
 | .exit id,_,_,_,_,hk,hx,Y,T,H,D,h=>by grind [aE_]
 | .ret,_,_,_,_,hk,hx,Y,T,H,D,h=>by grind [aE_]
 | .region id ops false,_,_,_,_,hk,hx,Y,T,H,D,h=>by grind [aE_,hw_]
 | .region id ops true,_,_,_,_,hk,hx,Y,T,H,D,h=>by rcases h with h|h;obtain ⟨Y1,T1,H1,D1,hw,call,r,hc,hd,hr⟩:=h;exact .inl ⟨Y1,T1,H1,D1,hw,call,r,hc,hd,dG_ hk hx hr⟩;refine .inr λB pr E a w hy st=>Code.wp_mono (λe a w hq=>?_) (h B pr E a w hy st);obtain ⟨Y',r,hr,hq⟩:=hq;exact ⟨Y',r,dG_ hk hx hr,hq⟩
 | .seq a b,_,_,_,_,hk,hx,Y,T,H,D,h=>by unfold aE_ at h⊢;exact as_ a (λY T H D h=>as_ b hk hx Y T H D h) hx Y T H D h
 | .cond c a b,_,_,_,_,hk,hx,Y,T,H,D,h=>by unfold aE_ at h⊢;obtain ⟨Y1,T1,H1,D1,hw,t,ht,h1,h2⟩:=h;exact ⟨Y1,T1,H1,D1,hw,t,ht,λe=>as_ a hk hx _ _ _ _ (h1 e),λe=>as_ b hk hx _ _ _ _ (h2 e)⟩
 | .block id b,_,_,_,_,hk,hx,Y,T,H,D,h=>by unfold aE_ at h⊢;exact as_ b hk (λY r h=>ma_ hk hx h) _ _ _ _ h
 | .loop b,_,_,_,_,hk,hx,Y,T,H,D,h=>by unfold aE_ at h⊢;obtain ⟨ι,S,μ,i0,hw,hb⟩:=h;exact ⟨ι,S,μ,i0,hw,λi=>as_ b (λ_ _ _ _ h=>h) hx _ _ _ _ (hb i)⟩
 | .scope _,_,_,_,_,hk,hx,Y,T,H,D,h=>by grind [aE_]
 | .goto _,_,_,_,_,hk,hx,Y,T,H,D,h=>by grind [aE_]
 | .refuse _,_,_,_,_,hk,hx,Y,T,H,D,h=>by grind [aE_]
 | .rangeFunc _ _ _ _,_,_,_,_,hk,hx,Y,T,H,D,h=>by grind [aE_]
end
section
variable {P:Program} {N k:Nat} {Q:AV->Prop} {fuel:Nat} {fc:FcT}
omit [Gl]in
theorem iI_ {E:Env} {i:Nat} {b:Bool} (hi:E.sy i=some (.bool b)) {a:AV} {v:Value} (h:Con E a v):Con E (hs_ i b a) v:=by
 unfold hs_
 grind [Nat.eq_of_beq_eq_true,Con,Con0]
theorem b6_ {Y:Sy} {i:Nat} {b:Bool} (hi:Y.v i=some (.bool b)) (S:XS) (D:Dfs):Weak P N k Y S.T S.H D Y (S.know i b).T S.H D:=λB pr E a w hy st=>
 ⟨E,Env.leF_refl k E,hy,⟨st.t.size,st.t.le,λt ht=>by show Con E (tget (bc_ (hs_ i b) S.T) t) _;rw [aC_];exact iI_ (by rw [hy.v];exact hi) (st.t.con t ht),st.t.gl⟩,st.r,st.d⟩
def kOf (P:Program) (Q:AV->Prop) (fc:FcT) (K:XS->Tree):KP:=λY T H D=>D=[]/\∃n,(Fresh Y n/\KnownF P fc Y)/\a7_ P Q Y (K ⟨T,H,n⟩)
def xOf (P:Program) (Q:AV->Prop) (fc:FcT) (X:XX->Tree):XP:=λY r=>match r with
 | .exit id T H D=>D=[]/\∃n,(Fresh Y n/\KnownF P fc Y)/\a7_ P Q Y (X (.exit id ⟨T,H,n⟩))
 | .ret T H D=>D=[]/\∃n,(Fresh Y n/\KnownF P fc Y)/\a7_ P Q Y (X (.ret ⟨T,H,n⟩))
 |_=>False
def rdS (s:Nat->Option AV) (T:Tm) (x:Operand):AV:=match ae_ (look T x)with
 |true=>den s (look T x)
 |false=>look T x
theorem tB_ {E:Env} {N:Nat} {T:Tm} {a:Act} (h:TRel E N T a.tmps) (x:Operand):Con E (rdS E.sy T x) (a.eval x):=by have hl:=h.look x;unfold rdS;split;rename_i hs;exact (ao_ hs hl).con;exact hl
theorem cm_ {s:Nat->Option AV} {T:Tm} {x:Operand} (h:ae_ (look T x)=true):rdS s T x=den s (look T x):=by unfold rdS;rw [h]
omit [Gl]in
theorem ah_ {a:AV} {r:List AV} (h:ad_ (a::r)=true):ae_ a=true/\ad_ r=true:=by
 simp only [ad_]at h
 grind
theorem uL_ {o:Oper} {op:XOp} {args:List AV} {T:Tm} (hl:cK_ T o=some (op,args)) (hmm:∀mx,op≠ .mm mx) (hs:ad_ args=true) {s:Nat->Option AV} {r:AV} (hr:op.run P (ab_ s args)=some r) (H:AHeap):
  aB_ P (rdS s T) H o=some (.val r H):=by
 unfold cK_ at hl;unfold aB_;split at hl
 .cases hl;obtain ⟨s1,s2⟩:=ah_ hs;obtain ⟨s2,_⟩:=ah_ s2
  grind [ab_,XOp.run,cm_,oV]
 .cases hl;obtain ⟨s1,_⟩:=ah_ hs
  grind [ab_,XOp.run,cm_,oV]
 .cases hl;obtain ⟨s1,_⟩:=ah_ hs
  grind [ab_,XOp.run,bM_,cm_,fk_,nY_,oP]
 .cases hl;obtain ⟨s1,s2⟩:=ah_ hs;obtain ⟨s2,_⟩:=ah_ s2
  grind [ab_,XOp.run,cm_,oV]
 .cases hl;obtain ⟨s1,s2⟩:=ah_ hs;obtain ⟨s2,_⟩:=ah_ s2
  grind [ab_,XOp.run,cm_,oV]
 .cases hl;obtain ⟨s1,_⟩:=ah_ hs
  grind [ab_,XOp.run,cm_,oV]
 .cases hl;obtain ⟨s1,_⟩:=ah_ hs
  grind [ab_,XOp.run,bM_,cm_,n1_,oV]
 .cases hl;obtain ⟨s1,_⟩:=ah_ hs
  grind [ab_,XOp.run,cm_,oV]
 .rename_i t x lo hi mx ho;cases mx with
  |some _=>cases hl
  |none=>
   cases lo with
   |none=>
    cases hi with
    |none=>
     cases hl;obtain ⟨s1,_⟩:=ah_ hs
     grind [ab_,XOp.run,bM_,oh_,cm_,dA_,oV]
    |some b=>
     cases hl;obtain ⟨s1,s2⟩:=ah_ hs;obtain ⟨s2,_⟩:=ah_ s2
     grind [ab_,XOp.run,bM_,oh_,cm_,dA_,oV]
   |some a=>
    cases hi with
    |none=>
     cases hl;obtain ⟨s1,s2⟩:=ah_ hs;obtain ⟨s2,_⟩:=ah_ s2
     grind [ab_,XOp.run,bM_,oh_,cm_,dA_,oV]
    |some b=>
     cases hl;obtain ⟨s1,s2⟩:=ah_ hs;obtain ⟨s2,s3⟩:=ah_ s2;obtain ⟨s3,_⟩:=ah_ s3
     grind [ab_,XOp.run,bM_,oh_,cm_,dA_,oV]
 .cases hl;obtain ⟨s1,_⟩:=ah_ hs
  grind [ab_,XOp.run,cm_]
 .rename_i c ho;split at hl
  .rename_i b hb;split at hl
   .split at hl
    .cases hl;obtain ⟨s1,_⟩:=ah_ hs
     grind [ab_,XOp.run,bM_,eb_,cm_,qe_,oV]
    cases hl
   all_goals grind
  cases hl
 cases hl
theorem vS_ {o:Oper} {mx:Bool} {args:List AV} {T:Tm} (hl:cK_ T o=some (.mm mx,args)):∃x y ty,o.op=.call ⟨.builtin (match mx with|true=>.max|false=>.min),#[x,y],ty⟩/\args=[look T x,look T y]:=by
 unfold cK_ at hl;split at hl<;>(first|(cases hl;done)|skip)
 .grind
 .rename_i c ho;split at hl
  .rename_i b hb;obtain ⟨callee,cargs,ty⟩:=c;subst hb;split at hl
   .grind
   .split at hl
    .rename_i x y h1;have h1:=al_ h1
     grind
    cases hl
   .split at hl
    .rename_i x y h1;have h1:=al_ h1
     grind
    cases hl
   cases hl
  cases hl
theorem of_ {o:Oper} {op:XOp} {args:List AV} {T:Tm} (hl:cK_ T o=some (op,args)) (hs:ad_ args=true) {B:World} {pr:Nat->Prop} {E:Env} {a:Act} {w:World} {H:AHeap} {N:Nat} {r:AV} (hr:op.run P (ab_ E.sy args)=some r)
  (hrel:Rel B pr E H w) (ht:TRel E N T a.tmps):∃E' n v w',(execOp a.eval o).run P w=.ok n w'/\(n=.value v\/(n=.skip/\v=undef))/\E.le E'/\Rel B pr E' H w'/\Con E' r v:=by
 by_cases hmm:∃mx,op=.mm mx
 .obtain ⟨mx,rfl⟩:=hmm;obtain ⟨x,y,ty,ho,rfl⟩:=vS_ hl;obtain ⟨s1,s2⟩:=ah_ hs;obtain ⟨s2,_⟩:=ah_ s2;have c1:=ao_ s1 (ht.look x);have c2:=ao_ s2 (ht.look y);simp only [ab_,XOp.run]at hr;split at hr
  .rename_i k p hp;split at hr
   .rename_i k' q hq;split at hr
    .cases hr;rw [hp]at c1;rw [hq]at c2;simp only [Con0]at c1 c2;have e:Array.map a.eval #[x,y]= #[a.eval x,a.eval y]:=(by simp);cases mx with
     |true=>refine ⟨E,.value (.int k (max p q)),_,w,?_,.inl rfl,Env.le_refl E,hrel,by simp [Con]⟩;unfold execOp;simp only [ho,resolve,Sem.run_bind,Sem.run_pure,Result.andThen_ok,invoke,builtin,e,c1,c2];simp [Builtin.max_,Builtin.max2,Int.max_def];omega
     |false=>refine ⟨E,.value (.int k (min p q)),_,w,?_,.inl rfl,Env.le_refl E,hrel,by simp [Con]⟩;unfold execOp;simp only [ho,resolve,Sem.run_bind,Sem.run_pure,Result.andThen_ok,invoke,builtin,e,c1,c2];simp [Builtin.min_,Builtin.min2,Int.min_def];omega
    cases hr
   cases hr
  cases hr
 exact gZ_ hrel (λx=>tB_ ht x) (uL_ hl (λmx h=>hmm ⟨mx,h⟩) hs hr H)
theorem gy_ {o:Oper} {op:XOp} {args:List AV} {T:Tm} (hl:cK_ T o=some (op,args)) (hs:ad_ args=true) {Y:Sy} {r:AV} (hr:op.run P (ab_ Y.v args)=some r)
  {B:World} {pr:Nat->Prop} {E:Env} {a:Act} {w:World} {H:AHeap} {D:Dfs} (hy:E.At Y) (st:St P B pr N E T H D a w):
  ∃E' n v w',(execOp a.eval o).run P w=.ok n w'/\(n=.value v\/(n=.skip/\v=undef))/\E.le E'/\St P B pr N E' T H D a w'/\Con E' r v:=by
 have hE:E.sy=Y.v:=hy.v;rw [←hE]at hr;obtain ⟨E',n,v,w',h1,h2,h3,h4,h5⟩:=of_ hl hs hr st.r st.t;exact ⟨E',n,v,w',h1,h2,h3,⟨st.t.mono h3,h4,st.d.mono h3⟩,h5⟩
theorem KnownF.sub {Y Y':Sy} (h:KnownF P fc Y) (hs:∀i x,Y.v i=some x->Y'.v i=some x) (hl:∀i,i<64->Y'.v i=Y.v i):KnownF P fc Y':=
 ⟨λf hf=>by
  obtain ⟨h1,h2,a,h3,h4⟩:=h.1 f hf
  grind,λq hq B pr E H w vs hy=>h.2 q hq B pr E H w vs λi hi=>(hy i hi).trans (hl i hi)⟩
omit [Gl]in
theorem mF_:∀{l:List XF} {f:FuncId} {args:List AV} {v:AV},pc_ l f args=some v->⟨f,args,v⟩∈l
 |[],f,args,v,h=>by cases h
 |q::r,f,args,v,h=>by unfold pc_ at h;split at h;rename_i hb;cases h;obtain ⟨h1,h2⟩:=aa_ hb;have h1:=Nat.eq_of_beq_eq_true h1;have h2:=bi_ h2;subst h1 h2;exact List.mem_cons_self ..;exact List.mem_cons_of_mem _ (mF_ h)
theorem mh_ {o:Oper} {S:XS} {Y:Sy} {D:Dfs} (hfc:KnownF P fc Y) {u:Tm->AV->Tm} {next:KP} {v:AV} (hv:oP_ fc.x S.T o=some v) (hn:next Y (u S.T v) S.H D):e6_ P N k o u Y S.T S.H D next:=by
 unfold oP_ at hv;split at hv
 .rename_i c ho;split at hv
  .rename_i f hf;split at hv
   .rename_i id;have hq:=hfc.2 _ (mF_ hv);refine ⟨Y,v,S.H,hn,λB pr E a w hy st=>?_⟩;have hcon:ConL E (ka_ (look S.T) c.args.toList) (c.args.toList.map a.eval):=eT_ (λx=>st.t.look x) _;obtain ⟨w1,h1,h2⟩:=hq B pr E S.H w _ (λi _=>by rw [hy.v]) st.t.gl st.r hcon;refine ⟨E,.value w1,w1,w,?_,.inl rfl,Env.leF_refl k E,hy,st,h2⟩;obtain ⟨callee,args,argTypes⟩:=c;have e:(⟨args.toList.map a.eval⟩:Array Value)=args.map a.eval:=(by grind);have ev:a.eval (.func id)=.func (.func id) #[] #[]:=rfl
    grind [execOp,resolve,Deferred.ofValue,invoke]
   cases hv
  cases hv
 cases hv
omit [Gl]in
theorem mE_:∀{l:List Fact} {op:XOp} {args:List AV} {v:AV},kz_ l op args=some v->∃f∈l,∃t cx cy x y,op=.bin f.o t cx cy/\args=[x,y]/\v=f.v/\f.has f.o x y=true
 |[],op,args,v,h=>by cases h
 |f::r,op,args,v,h=>by unfold kz_ at h;split at h;rename_i o t cx cy x y;split at h;rename_i hb;cases h;have h1:o=f.o:=of_decide_eq_true (aa_ hb).1;subst h1;exact ⟨f,List.mem_cons_self ..,t,cx,cy,x,y,rfl,rfl,rfl,hb⟩;obtain ⟨f',hf,h⟩:=mE_ h;exact ⟨f',List.mem_cons_of_mem _ hf,h⟩;cases h
theorem pb_ {o:Oper} {op:XOp} {args:List AV} {S:XS} {Y:Sy} {D:Dfs} (hfc:KnownF P fc Y) (hl:cK_ S.T o=some (op,args)) (hs:ad_ args=true) {u:Tm->AV->Tm} {next:KP} {v:AV}
  (hv:kz_ fc.b op args=some v) (hn:next Y (u S.T v) S.H D):e6_ P N k o u Y S.T S.H D next:=by
 obtain ⟨f,hf,t,cx,cy,x,y,rfl,rfl,rfl,hb⟩:=mE_ hv;obtain ⟨h1,h2,a,h3,h4⟩:=hfc.1 f hf;have hr:(XOp.bin f.o t cx cy).run P (ab_ Y.v [x,y])=some f.v:=by
  have h4:=h4 t cx cy;have hb:=(aa_ hb).2;cases hl:f.l with
  |true=>
   grind [aF_,ab_,den,XOp.run,ia_]
  |false=>
   grind [aF_,ab_,den,XOp.run,ia_]
 refine ⟨Y,f.v,S.H,hn,λB pr E a w hy st=>?_⟩;obtain ⟨E',n,v,w',g1,g2,g3,st',g5⟩:=gy_ hl hs hr hy st;exact ⟨E',n,v,w',g1,g2,g3.leF k,hy.le g3,st',g5⟩
theorem rK_ {o:Oper} {op:XOp} {args:List AV} {S:XS} {Y:Sy} (hf:Fresh Y S.n/\KnownF P fc Y) (hl:cK_ S.T o=some (op,args)) (hs:ad_ args=true) {u:Tm->AV->Tm} {next:KP} {m:Option Nat} {t:Tree}
  (ht:a7_ P Q Y (.lt op args S.n m t)) (hn:∀Y' x n',Fresh Y' n'/\KnownF P fc Y'->a7_ P Q Y' t->(m=none->x=.sym S.n/\n'=Nat.succ S.n)->(∀j,m=some j->x=.agg (ag_ S.n j)/\n'=Nat.add S.n j)->next Y' (u S.T x) S.H []):
  e6_ P N k o u Y S.T S.H [] next:=by
 cases m with
 |none=>obtain ⟨r,hr,hok,htree⟩:=ht;refine ⟨Y.put S.n r,.sym S.n,S.H,hn _ _ _ ⟨hf.1.put r,hf.2.sub (hf.1.sub_put r) (hf.1.low r)⟩ htree (λ_=>⟨rfl,rfl⟩) (λj e=>by cases e),λB pr E a w hy st=>?_⟩;obtain ⟨E',n,v,w',h1,h2,h3,st',h5⟩:=gy_ hl hs hr hy st;have hy':=hy.le h3;have hv:∀i x,E'.sy i=some x->(Y.put S.n r).v i=some x:=λi x hx=>hf.1.sub_put r i x (by rw [←hy'.v];exact hx);have hll:∀i l,E'.syl i=some l->(Y.put S.n r).l i=some l:=λi l hx=>(by rw [hy'.l]at hx;exact hx);have hlo:∀i,i<64->(Y.put S.n r).v i=E'.sy i:=λi hi=>(by rw [hy'.v];exact hf.1.low r i hi);refine ⟨E'.with (Y.put S.n r),n,v,w',h1,h2,(h3.leF k).trans (Env.with_leF k hlo),⟨rfl,rfl,hy'.res⟩,st'.with hv hll hlo,?_⟩;exact ⟨r,Sy.put_same _ _ _,ba_ hok,(bD_ hok h5).with⟩
 |some j=>obtain ⟨cs,hr,hlen,hok,htree⟩:=ht;obtain ⟨f1,f2,f3,f4⟩:=hf.1.puts cs;refine ⟨Y.puts S.n cs,.agg (ag_ S.n j),S.H,hn _ _ (Nat.add S.n j) ⟨by grind,hf.2.sub f2 f4⟩ htree (λe=>by cases e) (λj' e=>by grind),λB pr E a w hy st=>?_⟩;obtain ⟨E',n,v,w',h1,h2,h3,st',h5⟩:=gy_ hl hs hr hy st;have hy':=hy.le h3;have hv:∀i x,E'.sy i=some x->(Y.puts S.n cs).v i=some x:=λi x hx=>f2 i x (by rw [←hy'.v];exact hx);have hll:∀i l,E'.syl i=some l->(Y.puts S.n cs).l i=some l:=λi l hx=>(by rw [f3];rw [hy'.l]at hx;exact hx);have hlo:∀i,i<64->(Y.puts S.n cs).v i=E'.sy i:=λi hi=>(by rw [hy'.v];exact f4 i hi);refine ⟨E'.with (Y.puts S.n cs),n,v,w',h1,h2,(h3.leF k).trans (Env.with_leF k hlo),⟨rfl,rfl,hy'.res⟩,st'.with hv hll hlo,?_⟩;obtain ⟨vs,rfl,hL⟩:=h5;refine ⟨vs,rfl,?_⟩;rw [←hlen];exact bC_ S.n cs vs hok (λi a ha=>bB_ cs hf.1 i a ha) (bs_ (E:=E') (E':=E'.with (Y.puts S.n cs)) (λ_ _ _ h=>h) (bl_ hok hL))
theorem cM_ {T:Tm} {c:Operand} {i:Nat} (h:ht_ T c=some i) (S:XS) (hS:S.T=T) (b:Bool):look (S.know i b).T c=.bool b:=by
 subst hS;unfold ht_ at h;split at h
 .rename_i t;split at h
  .rename_i hb;unfold ss_ at h;split at h
   .have e1:look (S.know i b).T (.tmp t)=tget (S.know i b).T t:=(by unfold look aW_;simp only [hb];rfl);rw [e1];show tget (bc_ (hs_ i b) S.T) t=_
    grind [aC_,hs_,Nat.beq_refl]
   cases h
  cases h
 cases h
omit [Gl]in
theorem fX_ {all:List Oper} {o:Oper} {g:Tm->Option Bool} (hg:aZ_ all o=.mk g) {S:XS} {t:Bool} (h:g S.T=some t) (i:Nat) (b:Bool):g (S.know i b).T=some t:=by
 unfold aZ_ at hg;split at hg;cases hg
 .rename_i j want hgu;split at hg
  .split at hg
   .rename_i d hd;split at hg
    .cases hg;have e:(acs d).f (S.know i b).T=hs_ i b ((acs d).f S.T):=aC_ _ _ _;show br_ ((acs d).f (S.know i b).T) want=some t;have h:br_ ((acs d).f S.T) want=some t:=h;rw [e];generalize (acs d).f S.T=x at h⊢;cases x<;>first|exact h|(simp [br_]at h)
    grind
   grind
  grind
theorem sV_ (hc:an_ P (aM_ P fuel)) {o:Oper} {u:Tm->AV->Tm} {S:XS} {kt:XS->Tree} {next:KP} {X:XP} (hnext:∀Y S,Fresh Y S.n/\KnownF P fc Y->a7_ P Q Y (kt S)->next Y S.T S.H [])
  {Y:Sy} (hf:Fresh Y S.n/\KnownF P fc Y) (h:a7_ P Q Y (sU_ P fuel fc o u S kt)):
  ∃S':XS,(S'=S\/∃i b,Y.v i=some (.bool b)/\S'=S.know i b)/\(dr_ P o u Y S'.T S'.H [] next X\/e6_ P N k o u Y S'.T S'.H [] next):=by
 unfold sU_ at h;split at h
 .rename_i r hrun;refine ⟨S,.inl rfl,.inl ?_⟩;unfold dr_;rw [hrun];split at h
  .grind
  .rename_i g args;split at h
   .rename_i r hcall;split at h
    .refine λB pr E w vs hy hg hr hcon=>Calls.mono (hc g args S.H _ hcall B pr E w vs hg hr hcon) λe w' he=>⟨_,?_,he⟩
     grind
    exact h.elim
   exact h.elim
  exact h.elim
 .split at h
  .rename_i i a b hp;obtain ⟨t,ht,h1,h2⟩:=h;unfold gD_ at hp;split at hp
   .rename_i c a' b' ho;split at hp
    .rename_i i' hl;cases hp;have hst:(ac_ P o).run (S.know i t).T (S.know i t).H=some (.val (match t with|true=>look (S.know i t).T a|false=>look (S.know i t).T b) S.H):=by unfold ac_;rw [ho];show OC.run (.po λT=>m9_ (look T c) (look T a) (look T b)) _ _=_;unfold OC.run;simp only;rw [cM_ hl S rfl t];cases t<;>rfl
     unfold dr_
     grind
    cases hp
   cases hp
  .split at h;rename_i v hv;exact ⟨S,.inl rfl,.inr (mh_ hf.2 hv (hnext Y ⟨u S.T v,S.H,S.n⟩ hf h))⟩;split at h
   .rename_i op args hl;split at h
    .rename_i hs;refine ⟨S,.inl rfl,.inr ?_⟩;split at h
     .split at h
      .grind [pb_]
      .refine rK_ hf hl hs h λY' x n' f1 f2 f3 f4=>?_
       grind
     .refine rK_ hf hl hs h λY' x n' f1 f2 f3 f4=>?_
      grind
    exact h.elim
   exact h.elim
theorem vk_ (hc:an_ P (aM_ P fuel)) {all:List Oper} {o:Oper} {u:Tm->AV->Tm} {S:XS} {kt:XS->Tree} {next:KP} {X:XP} (hnext:∀Y S,Fresh Y S.n/\KnownF P fc Y->a7_ P Q Y (kt S)->next Y S.T S.H [])
  {Y:Sy} (hf:Fresh Y S.n/\KnownF P fc Y) (h:a7_ P Q Y (xOp P fuel fc all o u kt S)):
  ∃S':XS,(S'=S\/∃i b,Y.v i=some (.bool b)/\S'=S.know i b)/\∃t,(match aZ_ all o with
    | .always=>some true
    | .mk g=>g S'.T)=some t/\(t=true->dr_ P o u Y S'.T S'.H [] next X\/e6_ P N k o u Y S'.T S'.H [] next)/\(t=false->next Y (u S'.T (.tup [])) S'.H []):=by
 unfold xOp xOp.guardE' at h;split at h
 .rename_i t ht;split at h
  .grind
  .obtain ⟨S',h1,h2⟩:=sV_ (N:=N) (k:=k) (X:=X) hc hnext hf h;rcases h1 with rfl|⟨i,b,hb,rfl⟩<;>grind [fX_]
 exact h.elim
theorem pY_ (hc:an_ P (aM_ P fuel)) {all:List Oper} {X:XP} {K:XS->Tree}:∀(l:List Oper) (S:XS) (Y:Sy),Fresh Y S.n/\KnownF P fc Y->a7_ P Q Y (oI_ P N fuel fc all l S K)->f9_ P N k all l Y S.T S.H [] (kOf P Q fc K) X
 |[],S,Y,hf,h=>⟨rfl,S.n,hf,h⟩
 |o::r,S,Y,hf,h=>by
  have ih:=pY_ hc (all:=all) (X:=X) (K:=K) r;have fin:∀(S1:XS) (u:Tm->AV->Tm),bT_ N o.dst=.mk u->Weak P N k Y S.T S.H [] Y S1.T S1.H []->Fresh Y S1.n/\KnownF P fc Y->a7_ P Q Y (xOp P fuel fc all o u (λS=>oI_ P N fuel fc all r S K) S1)->f9_ P N k all (o::r) Y S.T S.H [] (kOf P Q fc K) X:=by
   intro S1 u hu hw hf1 h1;obtain ⟨S',h2,t,ht,h3,h4⟩:=vk_ (N:=N) (k:=k) (X:=X) (next:=λY T H D=>f9_ P N k all r Y T H D (kOf P Q fc K) X) hc (λY S hf h=>ih S Y hf h) hf1 h1;have hw':Weak P N k Y S1.T S1.H [] Y S'.T S'.H []:=by rcases h2 with rfl|⟨i,b,hb,rfl⟩;simp [Weak.refl];exact b6_ hb S1 []
   refine ⟨Y,S'.T,S'.H,[],hw.trans hw',?_⟩
   grind
  unfold oI_ at h;split at h;exact h.elim
  .rename_i u hu;split at h
   .rename_i i hg;obtain ⟨t,ht,h1,h2⟩:=h;cases t with
    |true=>exact fin (S.know i true) u hu (b6_ ht S []) hf (h1 rfl)
    |false=>exact fin (S.know i false) u hu (b6_ ht S []) hf (h2 rfl)
   grind [Weak.refl]
theorem sT_ {b:Code} {bS:XS->(XS->Tree)->Tree} {X:XP} {K:KP} (hb:∀S K Y,Fresh Y S.n/\KnownF P fc Y->a7_ P Q Y (bS S K)->aE_ P N k b Y S.T S.H [] (kOf P Q fc K) X) (m:Nat) (S:XS) (Y:Sy) (hf:Fresh Y S.n/\KnownF P fc Y)
  (h:a7_ P Q Y (pX_ bS m S)):aE_ P N k (.loop b) Y S.T S.H [] K X:=by
 refine ⟨{ p:Nat×Sy×XS // (Fresh p.2.1 p.2.2.n/\KnownF P fc p.2.1)/\a7_ P Q p.2.1 (pX_ bS p.1 p.2.2) },λp=>⟨p.1.2.1,p.1.2.2.T,p.1.2.2.H,[]⟩,λp=>p.1.1,⟨(m,Y,S),hf,h⟩,Weak.refl _ _ _ _ _ _ _,λp=>?_⟩;obtain ⟨⟨m,Y,S⟩,hf,h⟩:=p;cases m with
 |zero=>exact h.elim
 |succ m=>refine as_ b (λY' T' H' D' hk=>?_) (λ_ _ h=>h) _ _ _ _ (hb S _ Y hf h);obtain ⟨rfl,n',hf',h'⟩:=hk;exact ⟨⟨(m,Y',⟨T',H',n'⟩),hf',h'⟩,Nat.lt_succ_self m,Weak.refl _ _ _ _ _ _ _⟩
theorem cq_ (hc:an_ P (aM_ P fuel)):∀(c:Code) (S:XS) (K:XS->Tree) (X:XX->Tree) (Y:Sy),Fresh Y S.n/\KnownF P fc Y->a7_ P Q Y (dE_ P N fuel fc c S K X)->aE_ P N k c Y S.T S.H [] (kOf P Q fc K) (xOf P Q fc X)
 | .skip,S,K,X,Y,hf,h=>by exact ⟨rfl,S.n,hf,h⟩
 | .label _,S,K,X,Y,hf,h=>by exact ⟨rfl,S.n,hf,h⟩
 | .exit id,S,K,X,Y,hf,h=>by exact ⟨rfl,S.n,hf,h⟩
 | .ret,S,K,X,Y,hf,h=>by exact ⟨rfl,S.n,hf,h⟩
 | .region id ops false,S,K,X,Y,hf,h=>by grind [dE_,aE_,pY_]
 | .region id ops true,S,K,X,Y,hf,h=>by unfold dE_ at h;simp only at h;split at h;rename_i r hd;split at h;split at h;exact .inl ⟨Y,S.T,S.H,[],Weak.refl _ _ _ _ _ _ _,aM_ P fuel,_,hc,hd,rfl,S.n,hf,h⟩;exact h.elim;exact h.elim;exact h.elim
 | .seq a b,S,K,X,Y,hf,h=>by refine as_ a (λY' T' H' D' hk=>?_) (λ_ _ h=>h) _ _ _ _ (cq_ hc a S _ X Y hf h);obtain ⟨rfl,n',hf',h'⟩:=hk;exact cq_ hc b ⟨T',H',n'⟩ K X Y' hf' h'
 | .cond c a b,S,K,X,Y,hf,h=>by unfold dE_ at h;split at h;rename_i t ht;refine ⟨Y,S.T,S.H,[],Weak.refl _ _ _ _ _ _ _,t,ht,λe=>?_,λe=>?_⟩;subst e;exact cq_ hc a S K X Y hf h;subst e;exact cq_ hc b S K X Y hf h;split at h;rename_i i hi;obtain ⟨t,ht,h1,h2⟩:=h;refine ⟨Y,(S.know i t).T,(S.know i t).H,[],b6_ ht S [],t,cM_ hi S rfl t,λe=>?_,λe=>?_⟩;subst e;exact cq_ hc a (S.know i true) K X Y hf (h1 rfl);subst e;exact cq_ hc b (S.know i false) K X Y hf (h2 rfl);exact h.elim
 | .block id b,S,K,X,Y,hf,h=>by
   refine as_ b (λ_ _ _ _ h=>h) (λY' r hx=>?_) _ _ _ _ (cq_ hc b S K (vi_ id K X) Y hf h);cases r with
   |norm T H D=>exact hx.elim
   |pan v T H D=>exact hx.elim
   |ret T H D=>exact hx
   |exit id' T H D=>
    obtain ⟨rfl,n,hf',h'⟩:=hx;unfold vi_ at h';simp only at h';cases hb:Nat.beq id' id with
    |true=>rw [hb]at h';exact ⟨λ_=>⟨rfl,n,hf',h'⟩,λe=>absurd (Nat.eq_of_beq_eq_true hb) e⟩
    |false=>rw [hb]at h';refine ⟨λe=>?_,λ_=>⟨rfl,n,hf',h'⟩⟩;simp_all
 | .loop b,S,K,X,Y,hf,h=>by unfold dE_ at h;exact sT_ (λS K Y hf h=>cq_ hc b S K X Y hf h) fuel S Y hf h
 | .scope _,S,K,X,Y,hf,h=>by exact h.elim
 | .goto _,S,K,X,Y,hf,h=>by exact h.elim
 | .refuse _,S,K,X,Y,hf,h=>by exact h.elim
 | .rangeFunc _ _ _ _,S,K,X,Y,hf,h=>by exact h.elim
def e8_ (Q:AV->Prop) (Y:Sy) (r:FRes):Prop:=∃a H1 v m,r=.ret a H1/\ex_ m H1 a=some v/\ae_ v=true/\Q (den Y.v v)
theorem sS_ (hm:P.follows .mixedOrders=true) (hc:an_ P (aM_ P fuel)) {f:FuncId} {args:List AV} {n:Nat} {Y:Sy} (hf:Fresh Y n/\KnownF P fc Y) (h:a7_ P Q Y (xFn P fuel fc f args n)):SemCallF P 0 Y f args H0 (e8_ Q):=by
 unfold xFn at h;split at h
 .rename_i fn hfn;split at h
  .rename_i c hb;split at h
   .rename_i hle;obtain ⟨h1,h2⟩:=aa_ hle;have h1:args.length<=fn.ntmps:=(by grind [ai_,Nat.ble_eq]);have h2:fn.ntmps<=512:=(by simp_all);have fin:∀Y' S,a7_ P Q Y' (pW_ P fn.results.toList S)->dq_ P 0 fn (e8_ Q) Y' S.T S.H [] none:=by intro Y' S h;unfold pW_ at h;split at h;rename_i l hl;split at h;rename_i v hv;split at h;rename_i hs;exact .inl ⟨aM_ P fuel,0,.ret (sd_ l) S.H,hc,by grind [cU_],sd_ l,S.H,v,100,rfl,hv,hs,h⟩;exact h.elim;exact h.elim;exact h.elim
    refine jX_ hm hfn hb ⟨h1,h2,as_ c (λY' T' H' D' hk=>?_) (λY' r hx=>?_) _ _ _ _ (cq_ hc c _ _ _ Y hf h)⟩
    .obtain ⟨rfl,n',hf',h'⟩:=hk
     grind
    .cases r with
     |norm T H D=>exact hx.elim
     |pan v T H D=>exact hx.elim
     |exit id T H D=>obtain ⟨rfl,n',hf',h'⟩:=hx;exact h'.elim
     |ret T H D=>obtain ⟨rfl,n',hf',h'⟩:=hx;exact fin Y' ⟨T,H,n'⟩ h'
   exact h.elim
  exact h.elim
 exact h.elim
end
end Go.Sx
