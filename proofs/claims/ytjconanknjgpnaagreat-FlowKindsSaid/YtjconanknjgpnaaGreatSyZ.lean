/-
  Regions whose order is open, with calls that take rows: in every order, but for what moves values alone.
-/
import Derived.Test.YtjconanknjgpnaaGreatSyO
set_option linter.unusedVariables false
set_option linter.unusedSimpArgs false
namespace Go.Sx
theorem Oper.wp_mono3 {P:Program} {o:Oper} {a:Act} {w:World} {K K':Act->World->Prop} {Q Q':Exit->Act->World->Prop} (h:∀a w,K a w->K' a w) (hq:∀e a w,e≠ .normal->Q e a w->Q' e a w)
  (hh:o.wp P a w K Q):o.wp P a w K' Q':=by
 unfold Oper.wp at*
 generalize (execOp a.eval o).run P w=r at*
 cases r with
 |ok n w'=>
  cases n<;>simp only [Oper.upon]at hh⊢<;>
   first
    |exact h _ _ hh
    |exact Calls.mono hh (λe w'' he=>by cases e<;>first|exact h _ _ he|exact hq _ _ _ (λe=>by cases e) he|exact he.imp λ_ hx=>hx.imp λ_ hy=>hq _ _ _ (λe=>by cases e) hy)
    |exact Rows.mono hh (λ_ _ he=>h _ _ he)
 |halt x w'=>cases x<;>simp only [Oper.upon]at hh⊢<;>first|exact hh|exact hq _ _ _ (λe=>by cases e) hh
theorem jn_ {m:Nat}:∀{l:List Edge},nS_ m l=true↔∀e∈l,Region.binds .any e=true->bit m e.on=true
 |[]=>by simp [nS_]
 |e::r=>by
  unfold nS_
  rw [ew_]
  cases hb:Region.binds .any e with
  |true=>simp [jn_ (l:=r),hb]
  |false=>simp [jn_ (l:=r),hb]
theorem jQ_ {m:Nat}:∀{l:List Oper} {k:Nat} {x:I_q},x∈ka_ m l k↔∃j,x.i=k+j/\l[j]? =some x.o/\bit m x.i=false/\∀e∈x.o.after,Region.binds .any e=true->bit m e.on=true
 |[],k,x=>by simp [ka_]
 |o::r,k,x=>by
  have ih:=jQ_ (m:=m) (l:=r) (k:=Nat.succ k) (x:=x)
  have key:(∃j,x.i=k+j/\(o::r)[j]? =some x.o/\bit m x.i=false/\∀e∈x.o.after,Region.binds .any e=true->bit m e.on=true)↔
    (x.i=k/\o=x.o/\bit m x.i=false/\∀e∈x.o.after,Region.binds .any e=true->bit m e.on=true)\/x∈ka_ m r (Nat.succ k):=by
   rw [ih]
   constructor
   .rintro ⟨j,h1,h2,h3⟩
    cases j with
    |zero=>exact .inl ⟨by simpa using h1,by simpa using h2,h3⟩
    |succ j=>exact .inr ⟨j,by omega,by simpa using h2,h3⟩
   .rintro (⟨h1,h2,h3⟩|⟨j,h1,h2,h3⟩)
    .exact ⟨0,by simpa using h1,by simpa using h2,h3⟩
    .exact ⟨j+1,by omega,by simpa using h2,h3⟩
  rw [key]
  have eq:ka_ m (o::r) k=(match not (bit m k)&&nS_ m o.after.toList with
   |true=>⟨k,o⟩::ka_ m r (Nat.succ k)
   |false=>ka_ m r (Nat.succ k)):=rfl
  rw [eq]
  cases hb:(not (bit m k)&&nS_ m o.after.toList)with
  |true=>
   simp only [List.mem_cons]
   have hb':bit m k=false/\∀e∈o.after,Region.binds .any e=true->bit m e.on=true:=by
    simp only [Bool.and_eq_true,Bool.not_eq_true']at hb
    exact ⟨hb.1,λe he=>jn_.1 hb.2 e (by simpa using he)⟩
   constructor
   .rintro (rfl|h)
    .exact .inl ⟨rfl,rfl,hb'⟩
    .exact .inr h
   .rintro (⟨h1,h2,h3⟩|h)
    .refine .inl ?_
     obtain ⟨i,o'⟩:=x
     simp only at h1 h2
     rw [h1,h2]
    .exact .inr h
  |false=>
   simp only
   constructor
   .exact .inr
   .rintro (⟨h1,h2,h3,h4⟩|h)
    .exfalso
     rw [h1]at h3
     have:nS_ m o.after.toList=true:=jn_.2 λe he=>h4 e (by rw [←h2];simpa using he)
     rw [h3,this]at hb
     cases hb
    .exact h
theorem rL_ {i:Nat}:∀{l:List Edge},xb_ i l=true->∃e∈l,Region.binds .any e=true/\e.on=i
 |[],h=>by cases h
 |e::r,h=>by
  unfold xb_ at h
  split at h
  .rename_i hb
   simp only [Bool.and_eq_true]at hb
   exact ⟨e,List.mem_cons_self,by rw [←ew_];exact hb.1,Nat.eq_of_beq_eq_true hb.2⟩
  .obtain ⟨e',h1,h2⟩:=rL_ h
   exact ⟨e',List.mem_cons_of_mem _ h1,h2⟩
theorem ku_ {t:Nat}:∀{l:List Operand},Operand.tmp t∈l->t∈eS_ l
 |[],h=>by simp at h
 |x::r,h=>by
  rcases List.mem_cons.1 h with h|h
  .subst h;unfold eS_;exact List.mem_cons_self
  .have ih:=ku_ h
   cases x<;>unfold eS_<;>first|exact List.mem_cons_of_mem _ ih|exact ih
theorem uP_ {t:Nat} {l:List Nat} (h:memT t l=false):t∉l:=λhm=>by rw [hg_ hm]at h;cases h
theorem le_ {ops:Array Oper} {o:Oper} {d:Nat} (h:d∈o.looksAt ops):d∈de_ ops.toList o:=by
 unfold Oper.looksAt at h
 unfold de_
 rcases List.mem_append.1 h with h|h
 .obtain ⟨x,h1,h2⟩:=List.mem_filterMap.1 h
  have hx:x=.tmp d:=by cases x<;>simp at h2;rw [h2]
  have:=ku_ (hx▸h1)
  split
  .exact this
  .split
   .split
    .exact List.mem_cons_of_mem _ this
    .exact this
   .exact this
 .split at h
  .rename_i g b hg
   rw [hg]
   simp only [kg_]
   cases ho:ops[g]? with
   |none=>rw [ho]at h;simp at h
   |some og=>
    rw [ho]at h
    have ho':ops.toList[g]? =some og:=by simpa using ho
    rw [ho']
    cases hd:og.dst with
    |none=>simp [hd]at h
    |some d'=>
     simp [hd]at h
     subst h
     simp only [hd]
     exact List.mem_cons_self
  .simp at h
theorem sM_ {ops:Array Oper} {x y:Oper} (h:apartB ops.toList x y=true):x.apart ops y=true:=by
 unfold apartB at h
 unfold Oper.apart
 have key:∀(o:Oper) (d:Nat),memT d (de_ ops.toList o)=false->(o.looksAt ops).contains d=false:=λo d hm=>by
  cases hc:(o.looksAt ops).contains d with
  |false=>rfl
  |true=>exact absurd (le_ (by simpa using hc)) (uP_ hm)
 cases hx:x.dst with
 |none=>
  cases hy:y.dst with
  |none=>rfl
  |some e=>
   simp only [hx,hy,Bool.true_and,Bool.not_eq_true']at h⊢
   exact key _ _ h
 |some d=>
  cases hy:y.dst with
  |none=>
   simp only [hx,hy,Bool.and_true,Bool.not_eq_true']at h⊢
   rw [key _ _ h];rfl
  |some e=>
   simp only [hx,hy,Bool.and_eq_true,Bool.not_eq_true']at h⊢
   obtain ⟨⟨h1,h2⟩,h3⟩:=h
   refine ⟨⟨key _ _ h1,?_⟩,key _ _ h3⟩
   have:d≠e:=λhde=>by subst hde;rw [Nat.beq_refl]at h2;cases h2
   simp only [bne_iff_ne,ne_eq,Option.some.injEq]
   exact λh=>this h.symm
theorem o3_ {all:List Oper} {m i:Nat} {x:Oper}:∀{l:List Oper} {k:Nat},o8_ all m i x l k=true->∀(j:Nat) (y:Oper),l[j]? =some y->k+j≠i->bit m (k+j)=false->(∀e∈y.after,Region.binds .any e=true->e.on≠i)->apartB all x y=true
 |[],k,h,j,y,hj,_,_,_=>by simp at hj
 |o::r,k,h,j,y,hj,h1,h2,h3=>by
  unfold o8_ at h
  obtain ⟨h,hr⟩:=a_ h
  cases j with
  |zero=>
   simp at hj
   subst hj
   simp only [Nat.add_zero]at h1 h2
   simp only [Bool.or_eq_true]at h
   rcases h with h|h|h|h
   .exact absurd (Nat.eq_of_beq_eq_true h) h1
   .rw [h2]at h;cases h
   .obtain ⟨e,he,hb,ho⟩:=rL_ h
    exact absurd ho (h3 e (by simpa using he) hb)
   .exact h
  |succ j=>
   exact o3_ hr j y (by simpa using hj) (by rw [show Nat.succ k+j=k+(j+1) by omega];exact h1) (by rw [show Nat.succ k+j=k+(j+1) by omega];exact h2) h3
theorem pw_:∀{l:List Oper},pL_ l=true->∀(j:Nat) (o:Oper) cs b,l[j]? =some o->o.op≠ .select cs b
 |[],h,j,o,cs,b,hj,_=>by simp at hj
 |x::r,h,j,o,cs,b,hj,ho=>by
  unfold pL_ at h
  cases j with
  |zero=>simp at hj;subst hj;rw [ho]at h;cases h
  |succ j=>
   split at h
   .cases h
   .exact pw_ h j o cs b (by simpa using hj) ho
theorem mM_ {N:Nat}:∀{l:List Oper},vX_ N l=true->∀o∈l,∀d,o.dst=some d->d<N
 |[],h,o,ho,_,_=>by simp at ho
 |x::r,h,o,ho,d,hd=>by
  unfold vX_ at h
  obtain ⟨h1,h2⟩:=a_ h
  rcases List.mem_cons.1 ho with rfl|ho
  .rw [hd]at h1;simpa [Nat.blt_eq]using h1
  .exact mM_ h2 o ho d hd
theorem iB_:∀(l:List Oper) (T:Tm) (t:Nat),t<512->(∀o∈l,∀d,o.dst=some d->d<512)->tget (gn_ l T) t=tget T t\/tget (gn_ l T) t=.opq
 |[],T,t,_,_=>.inl rfl
 |o::r,T,t,ht,hd=>by
  have hr:∀o∈r,∀d,o.dst=some d->d<512:=λo ho=>hd o (List.mem_cons_of_mem _ ho)
  unfold gn_
  cases ho:o.dst with
  |none=>exact iB_ r T t ht hr
  |some d=>
   have hd':=hd o List.mem_cons_self d ho
   simp only
   rcases iB_ r (dP_ T d .opq) t ht hr with h|h
   .by_cases e:d=t
    .subst e;rw [E_ T ht]at h;exact .inr h
    .rw [N_ T ht hd' e]at h;exact .inl h
   .exact .inr h
theorem fS_:∀(l:List Oper) (T:Tm) (d:Nat),(∀o∈l,∀d,o.dst=some d->d<512)->((∃o∈l,o.dst=some d)\/(d<512/\tget T d=.opq))->tget (gn_ l T) d=.opq
 |[],T,d,_,h=>by
  rcases h with ⟨o,ho,_⟩|h
  .simp at ho
  .exact h.2
 |o::r,T,d,hd,h=>by
  have hr:∀o∈r,∀d,o.dst=some d->d<512:=λo ho=>hd o (List.mem_cons_of_mem _ ho)
  unfold gn_
  cases ho:o.dst with
  |none=>
   refine fS_ r T d hr ?_
   rcases h with ⟨o',h1,h2⟩|h
   .rcases List.mem_cons.1 h1 with rfl|h1
    .rw [ho]at h2;cases h2
    .exact .inl ⟨o',h1,h2⟩
   .exact .inr h
  |some e=>
   have he:=hd o List.mem_cons_self e ho
   simp only
   by_cases hde:e=d
   .subst hde;exact fS_ r _ e hr (.inr ⟨he,E_ T he _⟩)
   .refine fS_ r _ d hr ?_
    rcases h with ⟨o',h1,h2⟩|h
    .rcases List.mem_cons.1 h1 with rfl|h1
     .rw [ho]at h2;cases h2;exact absurd rfl hde
     .exact .inl ⟨o',h1,h2⟩
    .exact .inr ⟨h.1,by rw [N_ T h.1 he hde];exact h.2⟩
section
variable [Gl]
theorem v0_ {P:Program} {ops:Array Oper} {N:Nat} {E:Env} {T:Tm} {a:Act} {o:Oper} {q:AV} (h:rG_ P T o=some q) (ht:TRel E N T a.tmps):
  ∃v,Yields P ops o v a/\Con E q v:=by
 obtain ⟨dst,op,type,pos,after,guard⟩:=o
 unfold rG_ at h
 simp only at h
 cases guard with
 |some g=>cases h
 |none=>
  simp only at h
  split at h
  .rename_i x
   cases h
   exact ⟨a.eval x,.inl ⟨rfl,λw=>by simp [execOp]⟩,ht.look x⟩
  .rename_i x
   split at h
   .rename_i id off hx
    cases h
    have hc:=ht.look x
    rw [hx]at hc
    have hc':=hc
    simp only [Con]at hc
    obtain ⟨b,o,h1,h2⟩:=hc
    exact ⟨a.eval x,.inl ⟨rfl,λw=>by simp [execOp,h2]⟩,hc'⟩
   .cases h
  .rename_i s x f
   split at h
   .rename_i id off hx
    have hc:=ht.look x
    rw [hx]at hc
    unfold b0_ at h
    split at h
    .rename_i fields hd
     split at h
     .rename_i fl hfl
      split at h
      .rename_i i hi
       split at h
       .cases h
       rename_i n hn
       simp only at h
       cases h
       simp only [Con]at hc
       obtain ⟨b,o,hφ,h2⟩:=hc
       refine ⟨.pointer (some ⟨b,o+(off+fl.offset),none⟩),.inl ⟨rfl,λw=>?_⟩,by simp only [Con];exact ⟨b,o,hφ,rfl⟩⟩
       simp [execOp,h2,Instr.fieldAt,run_underlying hd,hfl,Instr.sureAddr,fieldPlace,v_ hi,hn,Addr.add_lit,Nat.add_assoc]
      .cases h
     .cases h
    .cases h
   .cases h
  .rename_i x i
   split at h
   .rename_i cs hx
    have hc:=ht.look x
    rw [hx]at hc
    simp only [Con]at hc
    obtain ⟨vs,h2,hL⟩:=hc
    rw [jE_]at h
    obtain ⟨u,hu,hcu⟩:=hL.at i q h
    exact ⟨u,.inl ⟨rfl,λw=>by simp [execOp,h2,Instr.extract,hu]⟩,hcu⟩
   .cases h
  .cases h
def XB (ops:List Oper) (X:XP):XP:=λY r=>match r with
 | .pan v T H D=>(∀o∈ops,∀d,o.dst=some d->tget T d=.opq)/\X Y (.pan v T H D)
 |r=>X Y r
omit [Gl]in
theorem zk_ {ops:List Oper} {K:KP} {X:XP} {Y:Sy} {r:CRes} (h:U_ K (XB ops X) Y r):U_ K X Y r:=by
 cases r with
 |pan v T H D=>exact h.2
 |norm T H D=>exact h
 |exit i T H D=>exact h
 |ret T H D=>exact h
section
variable {P:Program} {N:Nat} {Q:AV->Prop} {fuel:Nat} {I:Inl P fuel} {c:VC}
theorem Ae_ {B:World} {pr:Nat->Prop} {k:Nat} {E:Env} {ops:Array Oper} {K:KP} {X:XP} {o:Oper} (ho:o∈ops.toList) (hd:∀d,o.dst=some d->d<N) {v:Value} {ch:List PanicEntry} {a:Act} {w:World}
  (h:OutF P B pr N k E (U_ K (XB ops.toList X)) (.panic ch) (a.put o.dst v) w):OutF P B pr N k E (U_ K (XB ops.toList X)) (.panic ch) a w:=by
 obtain ⟨Y,r,h1,E',h2,h3,h4⟩:=h
 cases r with
 |norm T H D=>cases h4.1
 |exit i T H D=>cases h4.1
 |ret T H D=>cases h4.1
 |pan u T H D=>
  obtain ⟨u',h5,h6,st⟩:=h4
  refine ⟨Y,.pan u T H D,h1,E',h2,h3,u',h5,h6,?_,st.r,?_⟩
  .refine ⟨?_,st.t.le,λt ht=>?_,st.t.gl⟩
   .have:=st.t.size
    cases hdst:o.dst with
    |none=>rw [hdst]at this;exact this
    |some d=>rw [hdst]at this;simpa [Act.put]using this
   .have:=st.t.con t ht
    cases hdst:o.dst with
    |none=>rw [hdst]at this;exact this
    |some d=>
     rw [hdst]at this
     by_cases e:t=d
     .subst e;rw [h1.1 o ho t hdst];simp [Con]
     .simpa [Act.put,Array.getD_eq_getD_getElem?,Array.getElem?_setIfInBounds_ne (Ne.symm e)]using this
  .have:=st.d
   cases hdst:o.dst with
   |none=>rw [hdst]at this;exact this
   |some d=>rw [hdst]at this;exact this
omit [Gl]in
theorem rK_:∀{a b:List (Nat×AV)},tG_ a b=true->a=b
 |[],[],_=>rfl
 |(i,a)::r,(j,b)::s,h=>by
  simp only [tG_]at h
  obtain ⟨h1,h⟩:=a_ h
  obtain ⟨h2,h3⟩:=a_ h
  rw [Nat.eq_of_beq_eq_true h1,ad_ h2,rK_ h3]
 |[],_::_,h=>by simp [tG_]at h
 |_::_,[],h=>by simp [tG_]at h
omit [Gl]in
theorem ri_:∀{a b:List (Nat×List AV)},tj_ a b=true->a=b
 |[],[],_=>rfl
 |(i,a)::r,(j,b)::s,h=>by
  simp only [tj_]at h
  obtain ⟨h1,h⟩:=a_ h
  obtain ⟨h2,h3⟩:=a_ h
  rw [Nat.eq_of_beq_eq_true h1,a9_ h2,ri_ h3]
 |[],_::_,h=>by simp [tj_]at h
 |_::_,[],h=>by simp [tj_]at h
omit [Gl]in
theorem nu_:∀{a b:Option Nat},qS_ a b=true->a=b
 |none,none,_=>rfl
 |some a,some b,h=>by simp only [qS_]at h;rw [Nat.eq_of_beq_eq_true h]
 |none,some _,h=>by simp [qS_]at h
 |some _,none,h=>by simp [qS_]at h
omit [Gl]in
theorem rd_:∀{a b:List (Option Nat)},sT_ a b=true->a=b
 |[],[],_=>rfl
 |a::r,b::s,h=>by
  simp only [sT_]at h
  obtain ⟨h1,h2⟩:=a_ h
  rw [nu_ h1,rd_ h2]
 |[],_::_,h=>by simp [sT_]at h
 |_::_,[],h=>by simp [sT_]at h
omit [Gl]in
theorem ns_:∀{a b:List (Nat×Nat)},qm_ a b=true->a=b
 |[],[],_=>rfl
 |(i,a)::r,(j,b)::s,h=>by
  simp only [qm_]at h
  obtain ⟨h1,h⟩:=a_ h
  obtain ⟨h2,h3⟩:=a_ h
  rw [Nat.eq_of_beq_eq_true h1,Nat.eq_of_beq_eq_true h2,ns_ h3]
 |[],_::_,h=>by simp [qm_]at h
 |_::_,[],h=>by simp [qm_]at h
omit [Gl]in
theorem oV_:∀{a b:List TA},mo_ a b=true->a=b
 |[],[],_=>rfl
 |⟨a,b,c,d,e⟩::r,⟨a',b',c',d',e'⟩::s,h=>by
  simp only [mo_]at h
  obtain ⟨h1,h⟩:=a_ h
  obtain ⟨h2,h⟩:=a_ h
  obtain ⟨h3,h⟩:=a_ h
  obtain ⟨h4,h⟩:=a_ h
  obtain ⟨h5,h6⟩:=a_ h
  rw [Nat.eq_of_beq_eq_true h1,Nat.eq_of_beq_eq_true h2,Nat.eq_of_beq_eq_true h3,Nat.eq_of_beq_eq_true h4,nu_ h5,oV_ h6]
 |[],_::_,h=>by simp [mo_]at h
 |_::_,[],h=>by simp [mo_]at h
omit [Gl]in
theorem ov_:∀{a b:Tpl},r4_ a b=true->a=b
 |⟨a,b,c,d,e,f,g⟩,⟨a',b',c',d',e',f',g'⟩,h=>by
  simp only [r4_]at h
  obtain ⟨h1,h⟩:=a_ h
  obtain ⟨h2,h⟩:=a_ h
  obtain ⟨h3,h⟩:=a_ h
  obtain ⟨h4,h⟩:=a_ h
  obtain ⟨h5,h⟩:=a_ h
  obtain ⟨h6,h7⟩:=a_ h
  rw [rK_ h1,ri_ h2,Nat.eq_of_beq_eq_true h3,Nat.eq_of_beq_eq_true h4,oV_ h5,ns_ h6,ns_ h7]
omit [Gl]in
theorem sh_:∀{a b:List (Bool×Tpl)},sA_ a b=true->a=b
 |[],[],_=>rfl
 |(i,a)::r,(j,b)::s,h=>by
  simp only [sA_]at h
  obtain ⟨h1,h⟩:=a_ h
  obtain ⟨h2,h3⟩:=a_ h
  rw [eq_of_beq h1,ov_ h2,sh_ h3]
 |[],_::_,h=>by simp [sA_]at h
 |_::_,[],h=>by simp [sA_]at h
omit [Gl]in
theorem xz_:∀{a b:FT},yD_ a b=true->a=b
 |⟨a,b,c⟩,⟨a',b',c'⟩,h=>by
  simp only [yD_]at h
  obtain ⟨h1,h⟩:=a_ h
  obtain ⟨h2,h3⟩:=a_ h
  rw [Nat.eq_of_beq_eq_true h1,ov_ h2,sh_ h3]
omit [Gl]in
theorem xs_ {a b:XOp} (h:zr_ a b=true):a=b:=by
 unfold zr_ at h
 split at h<;>first
  |cases h;done
  |rfl
  |(try simp only [Bool.and_eq_true,decide_eq_true_eq,beq_iff_eq]at h
    first
     |(obtain ⟨h1,h2,h3,h4⟩:=h;rw [h1,Nat.eq_of_beq_eq_true h2,h3,h4])
     |(obtain ⟨h1,h2,h3,h4⟩:=h;rw [Nat.eq_of_beq_eq_true h1,Nat.eq_of_beq_eq_true h2,Nat.eq_of_beq_eq_true h3,Nat.eq_of_beq_eq_true h4])
     |(obtain ⟨h1,h2,h3⟩:=h;rw [Nat.eq_of_beq_eq_true h1,h2,h3])
     |(obtain ⟨h1,h2,h3⟩:=h;rw [Nat.eq_of_beq_eq_true h1,Nat.eq_of_beq_eq_true h2,Nat.eq_of_beq_eq_true h3])
     |(obtain ⟨h1,h2,h3⟩:=h;rw [Nat.eq_of_beq_eq_true h1,Nat.eq_of_beq_eq_true h2,a9_ h3])
     |(obtain ⟨h1,h2⟩:=h;rw [Nat.eq_of_beq_eq_true h1,Nat.eq_of_beq_eq_true h2])
     |rw [h]
     |rw [Nat.eq_of_beq_eq_true h])
omit [Gl]in
theorem vp_ {a b:Chk} (h:u0_ a b=true):a=b:=by
 unfold u0_ at h
 split at h<;>first
  |cases h;done
  |(obtain ⟨h1,h2⟩:=a_ h;rw [Nat.eq_of_beq_eq_true h1,Nat.eq_of_beq_eq_true h2])
  |rw [Nat.eq_of_beq_eq_true h]
omit [Gl]in
mutual
theorem db_:∀{a b:VT},em_ a b=true->a=b
 | .bad,_,h=>by simp [em_]at h
 | .done v,b,h=>by
   cases b<;>simp only [em_]at h<;>first|cases h;done|rw [ad_ h]
 | .ite i a1 a2,b,h=>by
   cases b<;>simp only [em_]at h<;>first|cases h;done|skip
   obtain ⟨h1,h⟩:=a_ h
   obtain ⟨h2,h3⟩:=a_ h
   rw [Nat.eq_of_beq_eq_true h1,db_ h2,db_ h3]
 | .lt o l n m t,b,h=>by
   cases b<;>simp only [em_]at h<;>first|cases h;done|skip
   obtain ⟨h1,h⟩:=a_ h
   obtain ⟨h2,h⟩:=a_ h
   obtain ⟨h3,h⟩:=a_ h
   obtain ⟨h4,h5⟩:=a_ h
   rw [xs_ h1,a9_ h2,Nat.eq_of_beq_eq_true h3,nu_ h4,db_ h5]
 | .call f l n sh t,b,h=>by
   cases b<;>simp only [em_]at h<;>first|cases h;done|skip
   obtain ⟨h1,h⟩:=a_ h
   obtain ⟨h2,h⟩:=a_ h
   obtain ⟨h3,h⟩:=a_ h
   obtain ⟨h4,h5⟩:=a_ h
   rw [Nat.eq_of_beq_eq_true h1,a9_ h2,Nat.eq_of_beq_eq_true h3,rd_ h4,db_ h5]
 | .loop n j hv bs,b,h=>by
   cases b<;>simp only [em_]at h<;>first|cases h;done|skip
   obtain ⟨h1,h⟩:=a_ h
   obtain ⟨h2,h⟩:=a_ h
   obtain ⟨h3,h4⟩:=a_ h
   rw [Nat.eq_of_beq_eq_true h1,Nat.eq_of_beq_eq_true h2,a9_ h3,kN_ h4]
 | .again l j hv,b,h=>by
   cases b<;>simp only [em_]at h<;>first|cases h;done|skip
   obtain ⟨h1,h⟩:=a_ h
   obtain ⟨h2,h3⟩:=a_ h
   rw [Nat.eq_of_beq_eq_true h1,Nat.eq_of_beq_eq_true h2,a9_ h3]
 | .chk c t,b,h=>by
   cases b<;>simp only [em_]at h<;>first|cases h;done|skip
   obtain ⟨h1,h2⟩:=a_ h
   rw [vp_ h1,db_ h2]
 | .callF f ft hv n bs,b,h=>by
   cases b<;>simp only [em_]at h<;>first|cases h;done|skip
   obtain ⟨h1,h⟩:=a_ h
   obtain ⟨h2,h⟩:=a_ h
   obtain ⟨h3,h⟩:=a_ h
   obtain ⟨h4,h5⟩:=a_ h
   rw [Nat.eq_of_beq_eq_true h1,xz_ h2,a9_ h3,Nat.eq_of_beq_eq_true h4,kN_ h5]
 | .both a1 a2,b,h=>by
   cases b<;>simp only [em_]at h<;>first|cases h;done|skip
   obtain ⟨h1,h2⟩:=a_ h
   rw [db_ h1,db_ h2]
theorem kN_:∀{a b:VTs},mH_ a b=true->a=b
 | .nil,b,h=>by
   cases b<;>simp only [mH_]at h<;>first|rfl|cases h;done
 | .cons n t r,b,h=>by
   cases b<;>simp only [mH_]at h<;>first|cases h;done|skip
   obtain ⟨h1,h⟩:=a_ h
   obtain ⟨h2,h3⟩:=a_ h
   rw [Nat.eq_of_beq_eq_true h1,db_ h2,kN_ h3]
end
theorem sK_ {L:LVs} {Y:Sy} {a b:VT} (h:T_ P Q L Y (qW_ a b)):T_ P Q L Y a/\T_ P Q L Y b:=by
 unfold qW_ at h
 split at h
 .rename_i e
  rw [←db_ e]
  exact ⟨h,h⟩
 .unfold T_ at h
  exact h
theorem pC_ {L:LVs} {Y:Sy} {f:I_q->VT}:∀{l:List I_q} {x:I_q},T_ P Q L Y (rX_ f x l)->∀y,y∈x::l->T_ P Q L Y (f y)
 |[],x,h,y,hy=>by rw [List.mem_singleton.1 hy];exact h
 |z::r,x,h,y,hy=>by
  unfold rX_ at h
  have h:=sK_ h
  rcases List.mem_cons.1 hy with rfl|hy
  .exact h.1
  .exact pC_ h.2 y hy
theorem iD_ {all:List Oper} {m:Nat} {T:Tm}:∀{l:List I_q} {q:MV},k8_ P all m T l=some q->q.x∈l/\rG_ P T q.x.o=some q.a/\o8_ all m q.x.i q.x.o all 0=true
 |[],q,h=>by cases h
 |x::r,q,h=>by
  unfold k8_ at h
  split at h
  .rename_i a ha
   split at h
   .rename_i hf
    cases h
    exact ⟨List.mem_cons_self,ha,hf⟩
   .obtain ⟨h1,h2⟩:=iD_ h
    exact ⟨List.mem_cons_of_mem _ h1,h2⟩
  .obtain ⟨h1,h2⟩:=iD_ h
   exact ⟨List.mem_cons_of_mem _ h1,h2⟩
theorem m0_ (hm:P.follows .mixedOrders=true) (hc:O_ P (aM_ P fuel)) {ops:Array Oper} {X:VX->VT} {K:VS->VT} (hs:pL_ ops.toList=true) (hd:vX_ N ops.toList=true) (hN:N<=512) {L0:LVs} {n0:Nat} {Y0:Sy} {B:World} {pr:Nat->Prop} {E0:Env}:
  ∀(k m:Nat) (S:VS) (Y:Sy) (L:LVs),L.length=S.lv->Good P c S.n Y->L0 <+: L->n0<=S.n->Ext n0 Y0 Y->T_ P Q L Y (oC_ P N fuel I c ops.toList (g5_ ops.toList X) K k m S)->
   ∀(f:Nat) (listed:Array Bool) (E:Env) (a:Act) (w:World),listed.size=ops.size->listed.toList.countP (· ==false)<=f->(∀j,listed.getD j false=bit m j)->E0.leF c.k E->E.At Y->St P B pr N E S.T S.H S.D a w->
    wpAny P .any ops (OutF P B pr N c.k E0 (U_ (kV P Q c L0 n0 Y0 K) (XB ops.toList (xV P Q c L0 n0 Y0 X)))) f listed a w
 |0,m,S,Y,L,_,_,_,_,_,h=>by unfold oC_ at h;exact h.elim
 |k+1,m,S,Y,L,hL,hf,hpre,hn0,hext,h=>by
  intro f listed E a w hsz hcnt hl hle hy st
  have hd512:∀o∈ops.toList,∀d,o.dst=some d->d<512:=λo ho d hdst=>Nat.lt_of_lt_of_le (mM_ hd o ho d hdst) hN
  have hmem:∀i,i∈Region.ready .any ops listed->∃x:I_q,x.i=i/\x∈ka_ m ops.toList 0/\ops[i]? =some x.o:=λi hi=>by
   obtain ⟨h1,o,h2,h3⟩:=mem_ready.1 hi
   have hlt:i<ops.size:=(Array.getElem?_eq_some_iff.1 h2).1
   have hg:listed.getD i false=false:=by
    have hlt':i<listed.size:=by omega
    simpa [hlt']using h1
   refine ⟨⟨i,o⟩,rfl,jQ_.2 ⟨i,(Nat.zero_add i).symm,by simpa using h2,by rw [←hl];exact hg,λe he hb=>by rw [←hl];exact h3 e he hb⟩,h2⟩
  have hrdy:∀x:I_q,x∈ka_ m ops.toList 0->x.i∈Region.ready .any ops listed/\ops[x.i]? =some x.o/\∃hlt:x.i<listed.size,listed[x.i]=false:=λx hx=>by
   obtain ⟨j,h1,h2,h3,h4⟩:=jQ_.1 hx
   rw [Nat.zero_add]at h1
   subst h1
   have ho:ops[x.i]? =some x.o:=by simpa using h2
   have hlt:x.i<ops.size:=(Array.getElem?_eq_some_iff.1 ho).1
   have hlt':x.i<listed.size:=by omega
   have hg:listed.getD x.i false=false:=by rw [hl];exact h3
   refine ⟨mem_ready.2 ⟨by simpa [hlt']using hg,x.o,ho,λe he hb=>by rw [hl];exact h4 e he hb⟩,ho,hlt',by simpa [hlt']using hg⟩
  have cz_:∀x:I_q,x.i<listed.size->∀j,(listed.setIfInBounds x.i true).getD j false=bit (pP_ m x.i) j:=λx hlt j=>by
   have:=congrFun (ey_ (listed:=listed) (i:=x.i) hlt) j
   rw [this]
   unfold plus pP_
   rw [nc_,rZ_]
   by_cases e:j=x.i
   .subst e;simp
   .rw [if_neg e]
    show listed.getD j false=_
    rw [hl];simp [Ne.symm e]
  unfold oC_ at h
  split at h
  .rename_i hnil
   have hr0:Region.ready .any ops listed=[]:=by
    rw [List.eq_nil_iff_forall_not_mem]
    intro i hi
    obtain ⟨x,_,hx,_⟩:=hmem i hi
    rw [hnil]at hx
    exact List.not_mem_nil hx
   refine wpAny_done hr0 ?_ f
   exact ⟨Y,.norm S.T S.H S.D,⟨S.n,S.lv,L,hpre,hL,hn0,hext,hf,h⟩,E,hle,hy,rfl,st⟩
  .rename_i x0 r0 hcons
   obtain ⟨hr1,ho1,hlt1,hg1⟩:=hrdy x0 (by rw [hcons];exact List.mem_cons_self)
   obtain ⟨f',rfl⟩:∃f',f=f'+1:=by
    have:=bE_ hlt1 hg1
    exact ⟨f-1,by omega⟩
   split at h
   .rename_i q hq
    obtain ⟨q1,q2,q3⟩:=iD_ hq
    rw [←hcons]at q1
    obtain ⟨hr2,ho2,hlt2,hg2⟩:=hrdy q.x q1
    split at h
    .rename_i u hu
     obtain ⟨v,hv1,hv2⟩:=v0_ (ops:=ops) q2 st.t
     have hmo:q.x.o∈ops.toList:=by
      have:=List.mem_of_getElem? (l:=ops.toList) (i:=q.x.i) (a:=q.x.o) (by simpa using ho2)
      exact this
     refine wpAny_first ho2 (λj o cs b ho=>pw_ hs j o cs b (by simpa using ho)) (λch a w hp=>Ae_ hmo (λd hdst=>mM_ hd _ hmo d hdst) hp) f' listed a w (λj oj hj hji hun hno=>?_) hr2 hv1 ?_
     .refine sM_ (o3_ q3 j oj (by simpa using hj) (by rw [Nat.zero_add];exact hji) ?_ hno)
      rw [Nat.zero_add,←hl]
      have hlt:j<listed.size:=by rw [hsz];exact (Array.getElem?_eq_some_iff.1 hj).1
      simpa [hlt]using hun
     .refine m0_ hm hc hs hd hN k (pP_ m q.x.i) ⟨u S.T q.a,S.H,S.n,S.lv,S.D⟩ Y L hL hf hpre hn0 hext h f' _ E _ w (by simpa using hsz) ?_ (cz_ q.x hlt2) hle hy ⟨st.t.put hu hv2,st.r,?_⟩
      .have:=bE_ hlt2 hg2
       omega
      .have:(a.put q.x.o.dst v).defers=a.defers:=by unfold Act.put;split<;>rfl
       rw [this];exact st.d
    .exact h.elim
   .have h:=pC_ h
    refine wpAny_all (rs:=Region.ready .any ops listed) rfl (λhnil=>by rw [hnil]at hr1;cases hr1) λi hi=>?_
    obtain ⟨x,rfl,hx,ho⟩:=hmem i hi
    obtain ⟨_,_,hlt,hg⟩:=hrdy x hx
    have hx':=h x (by rw [←hcons];exact hx)
    have hw:=jx_ ops [x.o] Y S.T S.H S.D _ _ (jv_ hm hc [x.o] S Y hL hf hx') B pr E a w hy st
    have next:∀(a:Act) (w:World),OutF P B pr N c.k E (U_ (kV P Q c L S.n Y λS'=>oC_ P N fuel I c ops.toList (g5_ ops.toList X) K k (pP_ m x.i) S') (xV P Q c L S.n Y (g5_ ops.toList X))) .normal a w->
      wpAny P .any ops (OutF P B pr N c.k E0 (U_ (kV P Q c L0 n0 Y0 K) (XB ops.toList (xV P Q c L0 n0 Y0 X)))) f' (listed.setIfInBounds x.i true) a w:=by
     intro a w hq
     obtain ⟨Y',r,g1,E',g2,g3,g4⟩:=hq
     cases r with
     |norm T H D=>
      obtain ⟨n',lv,L',p1,p2,p3,p4,p5,p6⟩:=g1
      refine m0_ hm hc hs hd hN k (pP_ m x.i) ⟨T,H,n',lv,D⟩ Y' L' p2 p5 (hpre.trans p1) (Nat.le_trans hn0 p3) (hext.trans p4 hn0) p6 f' _ E' a w (by simpa using hsz) ?_ (cz_ x hlt) (hle.trans g2) g3 g4.2
      have:=bE_ hlt hg
      omega
     |exit i T H D=>cases g4.1
     |ret T H D=>cases g4.1
     |pan v T H D=>obtain ⟨u,g5,_⟩:=g4;cases g5
    have outs:∀(e:Exit) (a:Act) (w:World),e≠ .normal->OutF P B pr N c.k E (U_ (kV P Q c L S.n Y λS'=>oC_ P N fuel I c ops.toList (g5_ ops.toList X) K k (pP_ m x.i) S') (xV P Q c L S.n Y (g5_ ops.toList X))) e a w->
      OutF P B pr N c.k E0 (U_ (kV P Q c L0 n0 Y0 K) (XB ops.toList (xV P Q c L0 n0 Y0 X))) e a w:=by
     intro e a w he hq
     obtain ⟨Y',r,g1,E',g2,g3,g4⟩:=hq
     cases r with
     |norm T H D=>exact absurd g4.1 he
     |exit i T H D=>
      have g1:xV P Q c L S.n Y (g5_ ops.toList X) Y' (.exit i T H D):=g1
      have g1':xV P Q c L S.n Y X Y' (.exit i T H D):=g1
      exact ⟨Y',.exit i T H D,dn_ hpre hn0 hext g1',E',hle.trans g2,g3,g4⟩
     |ret T H D=>
      have g1:xV P Q c L S.n Y (g5_ ops.toList X) Y' (.ret T H D):=g1
      have g1':xV P Q c L S.n Y X Y' (.ret T H D):=g1
      exact ⟨Y',.ret T H D,dn_ hpre hn0 hext g1',E',hle.trans g2,g3,g4⟩
     |pan v T H D=>
      have g1:xV P Q c L S.n Y (g5_ ops.toList X) Y' (.pan v T H D):=g1
      have g1':xV P Q c L S.n Y X Y' (.pan v (gn_ ops.toList T) H D):=g1
      obtain ⟨u,g5,g6,st'⟩:=g4
      refine ⟨Y',.pan v (gn_ ops.toList T) H D,⟨λo ho d hdst=>fS_ _ _ d hd512 (.inl ⟨o,ho,hdst⟩),dn_ hpre hn0 hext g1'⟩,E',hle.trans g2,g3,u,g5,g6,⟨st'.t.size,st'.t.le,λt ht=>?_,st'.t.gl⟩,st'.r,st'.d⟩
      rcases iB_ ops.toList T t ht hd512 with e|e
      .rw [e];exact st'.t.con t ht
      .rw [e];simp [Con]
    unfold wpOp
    simp only [ho]
    unfold wpList at hw
    split
    .rename_i hwt
     rw [if_pos hwt]at hw
     rcases hw with hw|⟨_,a',w',hw⟩
     .refine .inl (Oper.wp_mono3 (λa w hq=>?_) outs hw)
      unfold wpList at hq
      exact next a w hq
     .exfalso
      obtain ⟨Y',r,g1,E',g2,g3,g4⟩:=hw
      cases r with
      |norm T H D=>cases g4.1
      |exit i T H D=>cases g4.1
      |ret T H D=>cases g4.1
      |pan v T H D=>obtain ⟨u,g5,_⟩:=g4;cases g5
    .rename_i hwt
     rw [if_neg hwt]at hw
     unfold wpList at hw
     exact next _ w hw
theorem pn_ (hm:P.follows .mixedOrders=true) (hc:O_ P (aM_ P fuel)) {L:LVs} {ops:Array Oper} {id:Nat} {S:VS} {Y:Sy} {X:VX->VT} {K:VS->VT} (hL:L.length=S.lv) (hf:Good P c S.n Y) (h:T_ P Q L Y (rw_ P N fuel I c ops.toList S X K)):
  ∀(B:World) (pr:Nat->Prop) (E:Env) (a:Act) (w:World),E.At Y->St P B pr N E S.T S.H S.D a w->(Code.region id ops true).wp P (OutF P B pr N c.k E (U_ (kV P Q c L S.n Y K) (xV P Q c L S.n Y X))) a w:=by
 intro B pr E a w hy st
 unfold rw_ at h
 split at h
 .rename_i hb
  obtain ⟨h1,h2⟩:=a_ hb
  obtain ⟨h2,h3⟩:=a_ h2
  have hempty:∀j,(Array.replicate ops.size false).getD j false=false:=λj=>by
   rw [Array.getD_eq_getD_getElem?,Array.getElem?_replicate]
   split<;>rfl
  refine Code.wp_mono (λe a w hq=>?_) (wp_region_any hm (m0_ (B:=B) (pr:=pr) (E0:=E) (L0:=L) (n0:=S.n) (Y0:=Y) hm hc h1 h2 (by simpa using h3) _ 0 S Y L hL hf (List.prefix_refl L) (Nat.le_refl _) (Ext.refl _ _) h ops.size _ E a _ (by simp) ?_ (λj=>by rw [hempty,pt_]) (Env.leF_refl _ E) hy ⟨st.t,st.r.drawn _,st.d⟩))
  .obtain ⟨Y',r,g1,g2⟩:=hq
   exact ⟨Y',r,zk_ g1,g2⟩
  .exact Nat.le_trans (List.countP_le_length) (by simp)
 .exact h.elim
end
end
end Go.Sx
