/-
  Regions whose order is open, with calls that take rows: in every order, but for what moves values alone.
-/
import Derived.Test.YtmgenobllanmjaaGreatDoorSyO
import Derived.Test.YtmgenobllanmjaaGreatDoorSyH
import Derived.Test.YtmgenobllanmjaaGreatDoorSyM
set_option linter.unusedVariables false
set_option linter.unusedSimpArgs false
namespace Go.Sx
theorem Oper.wp_mono3 {P:Program} {o:Oper} {a:Act} {w:World} {K K':Act->World->Prop} {Q Q':Exit->Act->World->Prop} (h:∀a w,K a w->K' a w) (hq:∀e a w,e≠ .normal->Q e a w->Q' e a w)
  (hh:o.wp P a w K Q):o.wp P a w K' Q':=by
 unfold Oper.wp at*;generalize (execOp a.eval o).run P w=r at*;cases r with
 |ok n w'=>
  cases n<;>simp only [Oper.upon]at hh⊢<;>
   first
    |exact h _ _ hh
    |exact Calls.mono hh (λe w'' he=>by cases e<;>first|exact h _ _ he|exact hq _ _ _ (λe=>by cases e) he|exact he.imp λ_ hx=>hx.imp λ_ hy=>hq _ _ _ (λe=>by cases e) hy)
    |exact Rows.mono hh (λ_ _ he=>h _ _ he)
 |halt x w'=>cases x<;>simp only [Oper.upon]at hh⊢<;>first|exact hh|exact hq _ _ _ (λe=>by cases e) hh
theorem il_ {m:Nat}:∀{l:List Edge},nc_ m l=true↔∀e∈l,Region.binds .any e=true->bit m e.on=true
 |[]=>by simp [nc_]
 |e::r=>by
  unfold nc_;rw [gO_];cases hb:Region.binds .any e with
  |true=>simp [il_ (l:=r),hb]
  |false=>simp [il_ (l:=r),hb]
theorem jv_ {m:Nat}:∀{l:List Oper} {k:Nat} {x:InO},x∈ju_ m l k↔∃j,x.i=k+j/\l[j]? =some x.o/\bit m x.i=false/\∀e∈x.o.after,Region.binds .any e=true->bit m e.on=true
 |[],k,x=>by simp [ju_]
 |o::r,k,x=>by
  have ih:=jv_ (m:=m) (l:=r) (k:=Nat.succ k) (x:=x);have key:(∃j,x.i=k+j/\(o::r)[j]? =some x.o/\bit m x.i=false/\∀e∈x.o.after,Region.binds .any e=true->bit m e.on=true)↔
    (x.i=k/\o=x.o/\bit m x.i=false/\∀e∈x.o.after,Region.binds .any e=true->bit m e.on=true)\/x∈ju_ m r (Nat.succ k):=by
   rw [ih];constructor
   .grind
   .rintro (⟨h1,h2,h3⟩|⟨j,h1,h2,h3⟩);simp_all
    exact ⟨j+1,by omega,by grind,h3⟩
  rw [key];have eq:ju_ m (o::r) k=(match not (bit m k)&&nc_ m o.after.toList with
   |true=>⟨k,o⟩::ju_ m r (Nat.succ k)
   |false=>ju_ m r (Nat.succ k)):=rfl
  rw [eq];cases hb:(not (bit m k)&&nc_ m o.after.toList)with
  |true=>
   simp only [List.mem_cons];have hb':bit m k=false/\∀e∈o.after,Region.binds .any e=true->bit m e.on=true:=by simp_all [il_]
   constructor
   .grind
   .rintro (⟨h1,h2,h3⟩|h)
    .obtain ⟨i,o'⟩:=x
     grind
    grind
  |false=>
   grind [il_]
theorem oV_ {i:Nat}:∀{l:List Edge},s7_ i l=true->∃e∈l,Region.binds .any e=true/\e.on=i
 |[],h=>by cases h
 |e::r,h=>by unfold s7_ at h;split at h<;>simp_all [gO_,oV_]
theorem jM_ {t:Nat}:∀{l:List Operand},Operand.tmp t∈l->t∈do_ l
 |[],h=>by simp at h
 |x::r,h=>by
  rcases List.mem_cons.1 h with h|h;subst h;unfold do_;exact List.mem_cons_self
  .have ih:=jM_ h;cases x<;>unfold do_<;>first|exact List.mem_cons_of_mem _ ih|exact ih
theorem rP_ {t:Nat} {l:List Nat} (h:memT t l=false):t∉l:=by grind [gz_]
theorem j9_ {ops:Array Oper} {o:Oper} {d:Nat} (h:d∈o.looksAt ops):d∈c2_ ops.toList o:=by
 unfold c2_;rcases List.mem_append.1 h with h|h
 .grind [jM_]
 .split at h
  .grind [je_]
  simp at h
theorem kj_ {ops:Array Oper} {x y:Oper} (h:apartB ops.toList x y=true):x.apart ops y=true:=by
 unfold apartB at h;unfold Oper.apart;have key:∀(o:Oper) (d:Nat),memT d (c2_ ops.toList o)=false->(o.looksAt ops).contains d=false:=λo d hm=>by
  cases hc:(o.looksAt ops).contains d with
  |false=>rfl
  |true=>exact absurd (j9_ (by grind)) (rP_ hm)
 cases hx:x.dst with
 |none=>
  grind
 |some d=>
  cases hy:y.dst with
  |none=>
   grind
  |some e=>
   simp only [hx,hy,Bool.and_eq_true,Bool.not_eq_true']at h⊢;obtain ⟨⟨h1,h2⟩,h3⟩:=h;have:d≠e:=λhde=>by simp_all
   grind
theorem iU_ {all:List Oper} {m i:Nat} {x:Oper}:∀{l:List Oper} {k:Nat},kB_ all m i x l k=true->∀(j:Nat) (y:Oper),l[j]? =some y->k+j≠i->bit m (k+j)=false->(∀e∈y.after,Region.binds .any e=true->e.on≠i)->apartB all x y=true
 |[],k,h,j,y,hj,_,_,_=>by simp at hj
 |o::r,k,h,j,y,hj,h1,h2,h3=>by
  obtain ⟨h,hr⟩:=aa_ h;cases j with
  |zero=>
   grind [Nat.eq_of_beq_eq_true,oV_]
  |succ j=>exact iU_ hr j y (by simpa using hj) (by rw [show Nat.succ k+j=k+(j+1) by omega];exact h1) (by rw [show Nat.succ k+j=k+(j+1) by omega];exact h2) h3
theorem jc_:∀{l:List Oper},m3_ l=true->∀(j:Nat) (o:Oper) cs b,l[j]? =some o->o.op≠ .select cs b
 |[],h,j,o,cs,b,hj,_=>by simp at hj
 |x::r,h,j,o,cs,b,hj,ho=>by
  unfold m3_ at h;cases j with
  |zero=>simp at hj;subst hj;rw [ho]at h;cases h
  |succ j=>split at h;cases h;exact jc_ h j o cs b (by simpa using hj) ho
theorem id_ {N:Nat}:∀{l:List Oper},s8_ N l=true->∀o∈l,∀d,o.dst=some d->d<N
 |[],h,o,ho,_,_=>by simp at ho
 |x::r,h,o,ho,d,hd=>by
  obtain ⟨h1,h2⟩:=aa_ h;rcases List.mem_cons.1 ho with rfl|ho;simp_all
  exact id_ h2 o ho d hd
theorem gP_:∀(l:List Oper) (T:Tm) (t:Nat),t<512->(∀o∈l,∀d,o.dst=some d->d<512)->tget (eB_ l T) t=tget T t\/tget (eB_ l T) t=.opq
 |[],T,t,_,_=>.inl rfl
 |o::r,T,t,ht,hd=>by
  have hr:∀o∈r,∀d,o.dst=some d->d<512:=λo ho=>hd o (List.mem_cons_of_mem _ ho);unfold eB_;cases ho:o.dst with
  |none=>exact gP_ r T t ht hr
  |some d=>have hd':=hd o List.mem_cons_self d ho;simp only;rcases gP_ r (dL_ T d .opq) t ht hr with h|h;by_cases e:d=t;subst e;rw [ar_ T ht]at h;exact .inr h;rw [ap_ T ht hd' e]at h;exact .inl h;exact .inr h
theorem fb_:∀(l:List Oper) (T:Tm) (d:Nat),(∀o∈l,∀d,o.dst=some d->d<512)->((∃o∈l,o.dst=some d)\/(d<512/\tget T d=.opq))->tget (eB_ l T) d=.opq
 |[],T,d,_,h=>by simp_all [eB_]
 |o::r,T,d,hd,h=>by
  have hr:∀o∈r,∀d,o.dst=some d->d<512:=λo ho=>hd o (List.mem_cons_of_mem _ ho);unfold eB_;cases ho:o.dst with
  |none=>
   refine fb_ r T d hr ?_
   grind
  |some e=>
   have he:=hd o List.mem_cons_self e ho;by_cases hde:e=d;subst hde;exact fb_ r _ e hr (.inr ⟨he,ar_ T he _⟩)
   .refine fb_ r _ d hr ?_;rcases h with ⟨o',h1,h2⟩|h
    .grind
    grind [ap_]
section
variable [Gl]
theorem rX_ {P:Program} {ops:Array Oper} {N:Nat} {E:Env} {T:Tm} {a:Act} {o:Oper} {q:AV} (h:pu_ P T o=some q) (ht:TRel E N T a.tmps):
  ∃v,Yields P ops o v a/\Con E q v:=by
 obtain ⟨dst,op,type,pos,after,guard⟩:=o;unfold pu_ at h;cases guard with
 |some g=>cases h
 |none=>
  simp only at h;split at h;rename_i x;cases h;exact ⟨a.eval x,.inl ⟨rfl,λw=>by rfl⟩,ht.look x⟩;rename_i x;split at h;rename_i id off hx;cases h;have hc:=ht.look x;rw [hx]at hc;have hc':=hc;obtain ⟨b,o,h1,h2⟩:=hc;exact ⟨a.eval x,.inl ⟨rfl,λw=>by simp [execOp,h2]⟩,hc'⟩;cases h
  .rename_i s x f;split at h
   .rename_i id off hx;have hc:=ht.look x;rw [hx]at hc;unfold bY_ at h;split at h
    .rename_i fields hd;split at h
     .rename_i fl hfl;split at h;split at h;cases h;cases h;obtain ⟨b,o,hφ,h2⟩:=hc;refine ⟨.pointer (some ⟨b,o+(off+fl.offset),none⟩),.inl ⟨rfl,λw=>?_⟩,by simp only [Con];grind⟩;simp_all [execOp,Instr.fieldAt,run_underlying,Instr.sureAddr,fieldPlace,af_,Addr.add_lit]
      cases h
     cases h
    cases h
   cases h
  rename_i x i;split at h;rename_i cs hx;have hc:=ht.look x;rw [hx]at hc;obtain ⟨vs,h2,hL⟩:=hc;rw [gC_]at h;obtain ⟨u,hu,hcu⟩:=hL.at i q h;exact ⟨u,.inl ⟨rfl,λw=>by simp [execOp,h2,Instr.extract,hu]⟩,hcu⟩;cases h;cases h
def XB (ops:List Oper) (X:XP):XP:=λY r=>match r with
 | .pan v T H D=>(∀o∈ops,∀d,o.dst=some d->tget T d=.opq)/\X Y (.pan v T H D)
 |r=>X Y r
omit [Gl]in
theorem ux_ {ops:List Oper} {K:KP} {X:XP} {Y:Sy} {r:CRes} (h:ay_ K (XB ops X) Y r):ay_ K X Y r:=by
 cases r with
 |pan v T H D=>exact h.2
 |norm T H D=>exact h
 |exit i T H D=>exact h
 |ret T H D=>exact h
section
variable {P:Program} {N:Nat} {Q:AV->Prop} {fuel:Nat} {I:Inl P fuel} {c:VC}
theorem t3_ {B:World} {pr:Nat->Prop} {k:Nat} {E:Env} {ops:Array Oper} {K:KP} {X:XP} {o:Oper} (ho:o∈ops.toList) (hd:∀d,o.dst=some d->d<N) {v:Value} {ch:List PanicEntry} {a:Act} {w:World}
  (h:OutF P B pr N k E (ay_ K (XB ops.toList X)) (.panic ch) (a.put o.dst v) w):OutF P B pr N k E (ay_ K (XB ops.toList X)) (.panic ch) a w:=by
 obtain ⟨Y,r,h1,E',h2,h3,h4⟩:=h;cases r with
 |norm T H D=>cases h4.1
 |exit i T H D=>cases h4.1
 |ret T H D=>cases h4.1
 |pan u T H D=>
  obtain ⟨u',h5,h6,st⟩:=h4;refine ⟨Y,.pan u T H D,h1,E',h2,h3,u',h5,h6,?_,st.r,?_⟩
  .refine ⟨?_,st.t.le,λt ht=>?_,st.t.gl⟩
   .have:=st.t.size;cases hdst:o.dst<;>grind [Act.put]
   .have:=st.t.con t ht;cases hdst:o.dst with
    |none=>rw [hdst]at this;exact this
    |some d=>by_cases e:t=d;subst e;rw [h1.1 o ho t hdst];simp [Con];simp_all [Act.put,Ne.symm]
  .have:=st.d;cases hdst:o.dst with
   |none=>rw [hdst]at this;exact this
   |some d=>rw [hdst]at this;exact this
omit [Gl]in
theorem o5_:∀{a b:List (Nat×AV)},rr_ a b=true->a=b
 |[],[],_=>rfl
 |(i,a)::r,(j,b)::s,h=>by obtain ⟨h1,h⟩:=aa_ h;obtain ⟨h2,h3⟩:=aa_ h;rw [Nat.eq_of_beq_eq_true h1,aF_ h2,o5_ h3]
 |[],_::_,h=>by simp [rr_]at h
 |_::_,[],h=>by simp [rr_]at h
omit [Gl]in
theorem o6_:∀{a b:List (Nat×List AV)},rs_ a b=true->a=b
 |[],[],_=>rfl
 |(i,a)::r,(j,b)::s,h=>by obtain ⟨h1,h⟩:=aa_ h;obtain ⟨h2,h3⟩:=aa_ h;rw [Nat.eq_of_beq_eq_true h1,bi_ h2,o6_ h3]
 |[],_::_,h=>by simp [rs_]at h
 |_::_,[],h=>by simp [rs_]at h
omit [Gl]in
theorem ln_:∀{a b:Option Nat},nW_ a b=true->a=b
 |none,none,_=>rfl
 |some a,some b,h=>by grind [nW_,Nat.eq_of_beq_eq_true]
 |none,some _,h=>by simp [nW_]at h
 |some _,none,h=>by simp [nW_]at h
omit [Gl]in
theorem o4_:∀{a b:List (Option Nat)},rq_ a b=true->a=b
 |[],[],_=>rfl
 |a::r,b::s,h=>by obtain ⟨h1,h2⟩:=aa_ h;rw [ln_ h1,o4_ h2]
 |[],_::_,h=>by simp [rq_]at h
 |_::_,[],h=>by simp [rq_]at h
omit [Gl]in
theorem o3_:∀{a b:List (Nat×Nat)},p8_ a b=true->a=b
 |[],[],_=>rfl
 |(i,a)::r,(j,b)::s,h=>by obtain ⟨h1,h⟩:=aa_ h;obtain ⟨h2,h3⟩:=aa_ h;rw [Nat.eq_of_beq_eq_true h1,Nat.eq_of_beq_eq_true h2,o3_ h3]
 |[],_::_,h=>by simp [p8_]at h
 |_::_,[],h=>by simp [p8_]at h
omit [Gl]in
theorem mv_:∀{a b:List TA},mu_ a b=true->a=b
 |[],[],_=>rfl
 |⟨a,b,c,d,e⟩::r,⟨a',b',c',d',e'⟩::s,h=>by obtain ⟨h1,h⟩:=aa_ h;obtain ⟨h2,h⟩:=aa_ h;obtain ⟨h3,h⟩:=aa_ h;obtain ⟨h4,h⟩:=aa_ h;obtain ⟨h5,h6⟩:=aa_ h;rw [Nat.eq_of_beq_eq_true h1,Nat.eq_of_beq_eq_true h2,Nat.eq_of_beq_eq_true h3,Nat.eq_of_beq_eq_true h4,ln_ h5,mv_ h6]
 |[],_::_,h=>by simp [mu_]at h
 |_::_,[],h=>by simp [mu_]at h
omit [Gl]in
theorem mw_:∀{a b:Tpl},o7_ a b=true->a=b
 |⟨a,b,c,d,e,f,g⟩,⟨a',b',c',d',e',f',g'⟩,h=>by
  simp only [o7_]at h
  grind [o5_,o6_,Nat.eq_of_beq_eq_true,mv_,o3_]
omit [Gl]in
theorem o2_:∀{a b:List (Bool×Tpl)},ro_ a b=true->a=b
 |[],[],_=>rfl
 |(i,a)::r,(j,b)::s,h=>by obtain ⟨h1,h⟩:=aa_ h;obtain ⟨h2,h3⟩:=aa_ h;rw [eq_of_beq h1,mw_ h2,o2_ h3]
 |[],_::_,h=>by simp [ro_]at h
 |_::_,[],h=>by simp [ro_]at h
omit [Gl]in
theorem s9_:∀{a b:FT},vH_ a b=true->a=b
 |⟨a,b,c⟩,⟨a',b',c'⟩,h=>by obtain ⟨h1,h⟩:=aa_ h;obtain ⟨h2,h3⟩:=aa_ h;rw [Nat.eq_of_beq_eq_true h1,mw_ h2,o2_ h3]
omit [Gl]in
theorem tb_ {a b:XOp} (h:uD_ a b=true):a=b:=by
 unfold uD_ at h;split at h<;>first
  |cases h;done
  |rfl
  |(try simp only [Bool.and_eq_true,decide_eq_true_eq,beq_iff_eq]at h
    first
     |(obtain ⟨h1,h2,h3,h4⟩:=h;rw [h1,Nat.eq_of_beq_eq_true h2,h3,h4])
     |(obtain ⟨h1,h2,h3,h4⟩:=h;rw [Nat.eq_of_beq_eq_true h1,Nat.eq_of_beq_eq_true h2,Nat.eq_of_beq_eq_true h3,Nat.eq_of_beq_eq_true h4])
     |(obtain ⟨h1,h2,h3⟩:=h;rw [Nat.eq_of_beq_eq_true h1,h2,h3])
     |(obtain ⟨h1,h2,h3⟩:=h;rw [Nat.eq_of_beq_eq_true h1,Nat.eq_of_beq_eq_true h2,Nat.eq_of_beq_eq_true h3])
     |(obtain ⟨h1,h2,h3⟩:=h;rw [Nat.eq_of_beq_eq_true h1,Nat.eq_of_beq_eq_true h2,bi_ h3])
     |(obtain ⟨h1,h2⟩:=h;rw [Nat.eq_of_beq_eq_true h1,Nat.eq_of_beq_eq_true h2])
     |rw [h]
     |rw [Nat.eq_of_beq_eq_true h])
omit [Gl]in
theorem rm_ {a b:Chk} (h:rl_ a b=true):a=b:=by
 unfold rl_ at h;split at h<;>first
  |cases h;done
  |(obtain ⟨h1,h2⟩:=aa_ h;rw [Nat.eq_of_beq_eq_true h1,Nat.eq_of_beq_eq_true h2])
  |rw [Nat.eq_of_beq_eq_true h]
omit [Gl]in
mutual
theorem cY_:∀{a b:VT},dP_ a b=true->a=b
 | .bad,_,h=>by simp [dP_]at h
 | .done v,b,h=>by cases b<;>simp only [dP_]at h<;>first|cases h;done|rw [aF_ h]
 | .ite i a1 a2,b,h=>by
   cases b<;>simp only [dP_]at h<;>first|cases h;done|skip
   obtain ⟨h1,h⟩:=aa_ h;obtain ⟨h2,h3⟩:=aa_ h;rw [Nat.eq_of_beq_eq_true h1,cY_ h2,cY_ h3]
 | .lt o l n m t,b,h=>by
   cases b<;>simp only [dP_]at h<;>first|cases h;done|skip
   obtain ⟨h1,h⟩:=aa_ h;obtain ⟨h2,h⟩:=aa_ h;obtain ⟨h3,h⟩:=aa_ h;obtain ⟨h4,h5⟩:=aa_ h;rw [tb_ h1,bi_ h2,Nat.eq_of_beq_eq_true h3,ln_ h4,cY_ h5]
 | .call f l n sh t,b,h=>by
   cases b<;>simp only [dP_]at h<;>first|cases h;done|skip
   obtain ⟨h1,h⟩:=aa_ h;obtain ⟨h2,h⟩:=aa_ h;obtain ⟨h3,h⟩:=aa_ h;obtain ⟨h4,h5⟩:=aa_ h;rw [Nat.eq_of_beq_eq_true h1,bi_ h2,Nat.eq_of_beq_eq_true h3,o4_ h4,cY_ h5]
 | .loop n j hv bs,b,h=>by
   cases b<;>simp only [dP_]at h<;>first|cases h;done|skip
   obtain ⟨h1,h⟩:=aa_ h;obtain ⟨h2,h⟩:=aa_ h;obtain ⟨h3,h4⟩:=aa_ h;rw [Nat.eq_of_beq_eq_true h1,Nat.eq_of_beq_eq_true h2,bi_ h3,iL_ h4]
 | .again l j hv,b,h=>by
   cases b<;>simp only [dP_]at h<;>first|cases h;done|skip
   grind [Nat.eq_of_beq_eq_true,bi_]
 | .chk c t,b,h=>by
   cases b<;>simp only [dP_]at h<;>first|cases h;done|skip
   obtain ⟨h1,h2⟩:=aa_ h;rw [rm_ h1,cY_ h2]
 | .callF f ft hv n bs,b,h=>by
   cases b<;>simp only [dP_]at h<;>first|cases h;done|skip
   obtain ⟨h1,h⟩:=aa_ h;obtain ⟨h2,h⟩:=aa_ h;obtain ⟨h3,h⟩:=aa_ h;obtain ⟨h4,h5⟩:=aa_ h;rw [Nat.eq_of_beq_eq_true h1,s9_ h2,bi_ h3,Nat.eq_of_beq_eq_true h4,iL_ h5]
 | .both a1 a2,b,h=>by
   cases b<;>simp only [dP_]at h<;>first|cases h;done|skip
   obtain ⟨h1,h2⟩:=aa_ h;rw [cY_ h1,cY_ h2]
theorem iL_:∀{a b:VTs},ky_ a b=true->a=b
 | .nil,b,h=>by
   grind [ky_]
 | .cons n t r,b,h=>by
   cases b<;>simp only [ky_]at h<;>first|cases h;done|skip
   obtain ⟨h1,h⟩:=aa_ h;obtain ⟨h2,h3⟩:=aa_ h;rw [Nat.eq_of_beq_eq_true h1,cY_ h2,iL_ h3]
end
theorem qv_ {L:LVs} {Y:Sy} {a b:VT} (h:VOK P Q L Y (oi_ a b)):VOK P Q L Y a/\VOK P Q L Y b:=by
 grind [oi_,cY_,VOK]
theorem mf_ {L:LVs} {Y:Sy} {f:InO->VT}:∀{l:List InO} {x:InO},VOK P Q L Y (oO_ f x l)->∀y,y∈x::l->VOK P Q L Y (f y)
 |[],x,h,y,hy=>by simp_all [oO_]
 |z::r,x,h,y,hy=>by have h:=qv_ h;rcases List.mem_cons.1 hy with rfl|hy;exact h.1;exact mf_ h.2 y hy
theorem hj_ {all:List Oper} {m:Nat} {T:Tm}:∀{l:List InO} {q:MV},jp_ P all m T l=some q->q.x∈l/\pu_ P T q.x.o=some q.a/\kB_ all m q.x.i q.x.o all 0=true
 |[],q,h=>by cases h
 |x::r,q,h=>by unfold jp_ at h;split at h;rename_i a ha;split at h;rename_i hf;cases h;exact ⟨List.mem_cons_self,ha,hf⟩;obtain ⟨h1,h2⟩:=hj_ h;exact ⟨List.mem_cons_of_mem _ h1,h2⟩;obtain ⟨h1,h2⟩:=hj_ h;exact ⟨List.mem_cons_of_mem _ h1,h2⟩
theorem f1_ {all:List Oper} {m:Nat} {T:Tm}:∀{l:List InO} {q:CV},fv_ P all m T l=some q->q.x∈l/\oT_ P T q.x.o=some (q.s,q.d,q.j)/\kB_ all m q.x.i q.x.o all 0=true
 |[],q,h=>by cases h
 |x::r,q,h=>by unfold fv_ at h;split at h;rename_i a ha;split at h;rename_i hf;cases h;exact ⟨List.mem_cons_self,ha,hf⟩;obtain ⟨h1,h2⟩:=f1_ h;exact ⟨List.mem_cons_of_mem _ h1,h2⟩;obtain ⟨h1,h2⟩:=f1_ h;exact ⟨List.mem_cons_of_mem _ h1,h2⟩
omit [Gl]in
theorem p6_ {P:Program} {E:Env} {s d:TypeId} {k:IntKind} {x r:AV} {v:Value} (hd:P.underlying d=some (.int k)) (hx:Con E x v) (h:b3_ P h0 s d x=some r):∃v',(∀w,(convert s d v).run P w=.ok v' w)/\Con E r v':=by
 have hbs:bL_ P h0 s d x=none:=by
  unfold bL_
  grind
 have hsb:de_ P s d x=none:=by
  unfold de_
  grind
 unfold b3_ at h;split at h
 .rename_i r' h1;cases h;unfold fj_ at h1;split at h1
  case h_2=>cases h1
  rename_i ds hs;rw [hd]at h1;simp only at h1;split at h1;rename_i j n;cases h1;subst hx;refine ⟨.int k (k.wrap n),λw=>?_,by rw [cA_,cp_];simp [Con]⟩;simp only [convert,Sem.run_bind,run_underlying hs,run_underlying hd,Result.andThen_ok];rfl
  .split at h1
   case h_2=>cases h1
   rename_i n hn;split at h1
   case h_2=>cases h1
   cases h1;simp only [Con]at hx;refine ⟨.int k n,λw=>?_,by simp [Con]⟩;simp_all [Conv.floatToInt,convert,run_underlying]
  cases h1
 .grind
theorem rh_ {P:Program} {ops:Array Oper} {N:Nat} {E:Env} {T:Tm} {a:Act} {o:Oper} {s d:TypeId} {j:Nat} {r:AV} (h:oT_ P T o=some (s,d,j)) (ht:TRel E N T a.tmps) (hr:(XOp.conv s d).run P (ab_ E.sy [.sym j])=some r):
  ∃v,Yields P ops o v a/\Con E r v:=by
 obtain ⟨dst,op,type,pos,after,guard⟩:=o;unfold oT_ at h;cases guard with
 |some g=>cases h
 |none=>
  simp only at h;split at h
  .rename_i x0 s0 d0 x;split at h
   .rename_i j0 hlook;split at h
    .rename_i k hd;cases h;have hc:=ht.look x;rw [hlook]at hc;obtain ⟨a0,h1,h2,h3⟩:=hc;have hden:ab_ E.sy [.sym j]=[a0]:=(by simp [ab_,den,h1]);rw [hden]at hr;have hr:cS_ a0 (b3_ P h0 s d a0)=some r:=hr;have hev:b3_ P h0 s d a0=some r:=by
      unfold cS_ at hr
      grind
     obtain ⟨v',g1,g2⟩:=p6_ hd h3.con hev;exact ⟨v',.inl ⟨rfl,λw=>by simp [execOp,g1]⟩,g2⟩
    cases h
   cases h
  cases h
theorem ir_ (hm:P.follows .mixedOrders=true) (hc:an_ P (aM_ P fuel)) {ops:Array Oper} {X:VX->VT} {K:VS->VT} (hs:m3_ ops.toList=true) (hd:s8_ N ops.toList=true) (hN:N<=512) {L0:LVs} {n0:Nat} {Y0:Sy} {B:World} {pr:Nat->Prop} {E0:Env}:
  ∀(k m:Nat) (S:VS) (Y:Sy) (L:LVs),L.length=S.lv->Good P c S.n Y->L0 <+: L->n0<=S.n->Ext n0 Y0 Y->VOK P Q L Y (nz_ P N fuel I c ops.toList (kq_ ops.toList X) K k m S)->
   ∀(f:Nat) (listed:Array Bool) (E:Env) (a:Act) (w:World),listed.size=ops.size->listed.toList.countP (· ==false)<=f->(∀j,listed.getD j false=bit m j)->E0.leF c.k E->E.At Y->St P B pr N E S.T S.H S.D a w->
    wpAny P .any ops (OutF P B pr N c.k E0 (ay_ (kV P Q c L0 n0 Y0 K) (XB ops.toList (xV P Q c L0 n0 Y0 X)))) f listed a w
 |0,m,S,Y,L,_,_,_,_,_,h=>by exact h.elim
 |k+1,m,S,Y,L,hL,hf,hpre,hn0,hext,h=>by
  intro f listed E a w hsz hcnt hl hle hy st;have hd512:∀o∈ops.toList,∀d,o.dst=some d->d<512:=λo ho d hdst=>Nat.lt_of_lt_of_le (id_ hd o ho d hdst) hN;have hmem:∀i,i∈Region.ready .any ops listed->∃x:InO,x.i=i/\x∈ju_ m ops.toList 0/\ops[i]? =some x.o:=λi hi=>by
   obtain ⟨h1,o,h2,h3⟩:=mem_ready.1 hi;have hlt:i<ops.size:=(Array.getElem?_eq_some_iff.1 h2).1;have hg:listed.getD i false=false:=by
    grind
   refine ⟨⟨i,o⟩,rfl,jv_.2 ⟨i,(Nat.zero_add i).symm,by grind,by grind,λe he hb=>by grind⟩,h2⟩
  have hrdy:∀x:InO,x∈ju_ m ops.toList 0->x.i∈Region.ready .any ops listed/\ops[x.i]? =some x.o/\∃hlt:x.i<listed.size,listed[x.i]=false:=λx hx=>(by obtain ⟨j,h1,h2,h3,h4⟩:=jv_.1 hx;rw [Nat.zero_add]at h1;subst h1;have ho:ops[x.i]? =some x.o:=(by grind);have hlt:x.i<ops.size:=(Array.getElem?_eq_some_iff.1 ho).1;have hg:listed.getD x.i false=false:=(by grind);simp_all [mem_ready]);have cT_:∀x:InO,x.i<listed.size->∀j,(listed.setIfInBounds x.i true).getD j false=bit (kc_ m x.i) j:=λx hlt j=>by
   have:=congrFun (dX_ (listed:=listed) (i:=x.i) hlt) j;rw [this];unfold plus kc_;rw [lf_,oN_]
   grind
  unfold nz_ at h;split at h
  .rename_i hnil;have hr0:Region.ready .any ops listed=[]:=by simp_all [List.eq_nil_iff_forall_not_mem]
   refine wpAny_done hr0 ?_ f;exact ⟨Y,.norm S.T S.H S.D,⟨S.n,S.lv,L,hpre,hL,hn0,hext,hf,h⟩,E,hle,hy,rfl,st⟩
  .rename_i x0 r0 hcons;obtain ⟨hr1,ho1,hlt1,hg1⟩:=hrdy x0 (by grind);obtain ⟨f',rfl⟩:∃f',f=f'+1:=by have:=fg_ hlt1 hg1;exact ⟨f-1,by omega⟩
   split at h
   .rename_i q hq;obtain ⟨q1,q2,q3⟩:=hj_ hq;rw [←hcons]at q1;obtain ⟨hr2,ho2,hlt2,hg2⟩:=hrdy q.x q1;split at h
    .rename_i u hu;obtain ⟨v,hv1,hv2⟩:=rX_ (ops:=ops) q2 st.t;have hmo:q.x.o∈ops.toList:=by
      grind
     refine wpAny_first ho2 (λj o cs b ho=>jc_ hs j o cs b (by grind)) (λch a w hp=>t3_ hmo (λd hdst=>id_ hd _ hmo d hdst) hp) f' listed a w (λj oj hj hji hun hno=>?_) hr2 hv1 ?_
     .refine kj_ (iU_ q3 j oj (by grind) (by omega) ?_ hno)
      grind
     .refine ir_ hm hc hs hd hN k (kc_ m q.x.i) ⟨u S.T q.a,S.H,S.n,S.lv,S.D⟩ Y L hL hf hpre hn0 hext h f' _ E _ w (by grind) ?_ (cT_ q.x hlt2) hle hy ⟨st.t.put hu hv2,st.r,?_⟩
      .grind
      have:(a.put q.x.o.dst v).defers=a.defers:=(by unfold Act.put;split<;>rfl);rw [this];exact st.d
    exact h.elim
   split at h
   .rename_i q hq;have hq:fv_ P ops.toList m S.T (x0::r0)=some q:=by unfold r7_ at hq;split at hq;exact hq;cases hq
    obtain ⟨q1,q2,q3⟩:=f1_ hq;rw [←hcons]at q1;obtain ⟨hr2,ho2,hlt2,hg2⟩:=hrdy q.x q1;split at h
    .rename_i u hu;obtain ⟨r,hr,hok,htree⟩:=h;obtain ⟨v,hv1,hv2⟩:=rh_ (ops:=ops) q2 st.t (by rw [hy.v];exact hr);have hmo:q.x.o∈ops.toList:=by
      grind
     have hv:∀i x,E.sy i=some x->(Y.put S.n r).v i=some x:=λi x hx=>hf.1.sub_put r i x (by rw [←hy.v];exact hx);have hll:∀i l,E.syl i=some l->(Y.put S.n r).l i=some l:=λi l hx=>(by rw [hy.l]at hx;exact hx);have hlo:∀i,i<64->(Y.put S.n r).v i=E.sy i:=λi hi=>(by rw [hy.v];exact hf.1.low r i hi);have st':=st.with hv hll hlo;have hv3:Con (E.with (Y.put S.n r)) (.sym S.n) v:=⟨r,Sy.put_same _ _ _,ba_ hok,(bD_ hok hv2).with⟩;refine wpAny_first ho2 (λj o cs b ho=>jc_ hs j o cs b (by grind)) (λch a w hp=>t3_ hmo (λd hdst=>id_ hd _ hmo d hdst) hp) f' listed a w (λj oj hj hji hun hno=>?_) hr2 hv1 ?_
     .refine kj_ (iU_ q3 j oj (by grind) (by omega) ?_ hno)
      grind
     .refine ir_ hm hc hs hd hN k (kc_ m q.x.i) ⟨u S.T (.sym S.n),S.H,Nat.succ S.n,S.lv,S.D⟩ (Y.put S.n r) L hL (hf.put r) hpre (Nat.le_trans hn0 (Nat.le_succ _)) (hext.trans (Ext.put r (Nat.le_refl _)) hn0) htree f' _ (E.with (Y.put S.n r)) _ w (by grind) ?_ (cT_ q.x hlt2) (hle.trans (Env.with_leF c.k hlo)) ⟨rfl,rfl,hy.res⟩ ⟨st'.t.put hu hv3,st'.r,?_⟩
      .grind
      have:(a.put q.x.o.dst v).defers=a.defers:=(by unfold Act.put;split<;>rfl);rw [this];exact st'.d
    exact h.elim
   .have h:=mf_ h;refine wpAny_all (rs:=Region.ready .any ops listed) rfl (λhnil=>by grind) λi hi=>?_;obtain ⟨x,rfl,hx,ho⟩:=hmem i hi;obtain ⟨_,_,hlt,hg⟩:=hrdy x hx;have hx':=h x (by grind);have hw:=it_ ops [x.o] Y S.T S.H S.D _ _ (is_ hm hc [x.o] S Y hL hf hx') B pr E a w hy st;have next:∀(a:Act) (w:World),OutF P B pr N c.k E (ay_ (kV P Q c L S.n Y λS'=>nz_ P N fuel I c ops.toList (kq_ ops.toList X) K k (kc_ m x.i) S') (xV P Q c L S.n Y (kq_ ops.toList X))) .normal a w->
      wpAny P .any ops (OutF P B pr N c.k E0 (ay_ (kV P Q c L0 n0 Y0 K) (XB ops.toList (xV P Q c L0 n0 Y0 X)))) f' (listed.setIfInBounds x.i true) a w:=by
     intro a w hq;obtain ⟨Y',r,g1,E',g2,g3,g4⟩:=hq;cases r with
     |norm T H D=>
      obtain ⟨n',lv,L',p1,p2,p3,p4,p5,p6⟩:=g1;refine ir_ hm hc hs hd hN k (kc_ m x.i) ⟨T,H,n',lv,D⟩ Y' L' p2 p5 (hpre.trans p1) (Nat.le_trans hn0 p3) (hext.trans p4 hn0) p6 f' _ E' a w (by grind) ?_ (cT_ x hlt) (hle.trans g2) g3 g4.2
      grind
     |exit i T H D=>cases g4.1
     |ret T H D=>cases g4.1
     |pan v T H D=>grind
    have outs:∀(e:Exit) (a:Act) (w:World),e≠ .normal->OutF P B pr N c.k E (ay_ (kV P Q c L S.n Y λS'=>nz_ P N fuel I c ops.toList (kq_ ops.toList X) K k (kc_ m x.i) S') (xV P Q c L S.n Y (kq_ ops.toList X))) e a w->
      OutF P B pr N c.k E0 (ay_ (kV P Q c L0 n0 Y0 K) (XB ops.toList (xV P Q c L0 n0 Y0 X))) e a w:=by
     intro e a w he hq;obtain ⟨Y',r,g1,E',g2,g3,g4⟩:=hq;cases r with
     |norm T H D=>grind
     |exit i T H D=>have g1':xV P Q c L S.n Y X Y' (.exit i T H D):=g1;exact ⟨Y',.exit i T H D,c4_ hpre hn0 hext g1',E',hle.trans g2,g3,g4⟩
     |ret T H D=>have g1':xV P Q c L S.n Y X Y' (.ret T H D):=g1;exact ⟨Y',.ret T H D,c4_ hpre hn0 hext g1',E',hle.trans g2,g3,g4⟩
     |pan v T H D=>
      have g1':xV P Q c L S.n Y X Y' (.pan v (eB_ ops.toList T) H D):=g1;obtain ⟨u,g5,g6,st'⟩:=g4;refine ⟨Y',.pan v (eB_ ops.toList T) H D,⟨λo ho d hdst=>fb_ _ _ d hd512 (.inl ⟨o,ho,hdst⟩),c4_ hpre hn0 hext g1'⟩,E',hle.trans g2,g3,u,g5,g6,⟨st'.t.size,st'.t.le,λt ht=>?_,st'.t.gl⟩,st'.r,st'.d⟩;rcases gP_ ops.toList T t ht hd512 with e|e;rw [e];exact st'.t.con t ht
      grind [Con]
    unfold wpOp;simp only [ho];unfold wpList at hw;split
    .rename_i hwt;rw [if_pos hwt]at hw;rcases hw with hw|⟨_,a',w',hw⟩
     .grind [Oper.wp_mono3,wpList]
     .obtain ⟨Y',r,g1,E',g2,g3,g4⟩:=hw
      grind
    simp_all [wpList]
theorem nA_ (hm:P.follows .mixedOrders=true) (hc:an_ P (aM_ P fuel)) {L:LVs} {ops:Array Oper} {id:Nat} {S:VS} {Y:Sy} {X:VX->VT} {K:VS->VT} (hL:L.length=S.lv) (hf:Good P c S.n Y) (h:VOK P Q L Y (pR_ P N fuel I c ops.toList S X K)):
  ∀(B:World) (pr:Nat->Prop) (E:Env) (a:Act) (w:World),E.At Y->St P B pr N E S.T S.H S.D a w->(Code.region id ops true).wp P (OutF P B pr N c.k E (ay_ (kV P Q c L S.n Y K) (xV P Q c L S.n Y X))) a w:=by
 intro B pr E a w hy st;unfold pR_ at h;split at h
 .rename_i hb;obtain ⟨h1,h2⟩:=aa_ hb;obtain ⟨h2,h3⟩:=aa_ h2;have hempty:∀j,(Array.replicate ops.size false).getD j false=false:=λj=>by rw [Array.getD_eq_getD_getElem?,Array.getElem?_replicate];split<;>rfl
  refine Code.wp_mono (λe a w hq=>?_) (wp_region_any hm (ir_ (B:=B) (pr:=pr) (E0:=E) (L0:=L) (n0:=S.n) (Y0:=Y) hm hc h1 h2 (by simpa using h3) _ 0 S Y L hL hf (List.prefix_refl L) (Nat.le_refl _) (Ext.refl _ _) h ops.size _ E a _ (by simp) ?_ (λj=>by rw [hempty,md_]) (Env.leF_refl _ E) hy ⟨st.t,st.r.drawn _,st.d⟩));obtain ⟨Y',r,g1,g2⟩:=hq;exact ⟨Y',r,ux_ g1,g2⟩
  grind
 exact h.elim
end
end
theorem gJ_:∀n m:Nat,(ag_ n m).length=m
 |_,0=>rfl
 |n,m+1=>by simp only [ag_,List.length_cons,gJ_ (Nat.succ n) m]
theorem hU_:∀{n m j:Nat} {a:AV},(ag_ n m)[j]? =some a->j<m/\a=.sym (n+j)
 |n,0,j,a,h=>by simp [ag_]at h
 |n,m+1,0,a,h=>by
  grind [ag_]
 |n,m+1,j+1,a,h=>by
  simp only [ag_,List.getElem?_cons_succ]at h;obtain ⟨h1,h2⟩:=hU_ h
  grind
theorem r6_ {B:World} {pr:Nat->Prop} {E:Env} {H:AHeap} {w:World} (hr:Rel B pr E H w) {id i n0 len sz:Nat} {cs:List AV} (hk:H.get id=some (.syl i)) (hi:E.sy i=some (.vsl len sz cs)) (hs:∀(j:Nat) (a:AV),cs[j]? =some a->E.sy (n0+j)=some a):
  Rel B pr E (H.set id (.cells (ag_ n0 cs.length))) w:=by
 refine hr.setTo hk λown h=>?_;rcases h with ⟨_,hv⟩|⟨b,o,h1,h2,len',sz',cs',h3,h4,arr,t,h5,h6,h7,h8⟩
 .have hv:E.sy i=some .nsl:=hv
  grind
 rw [hi]at h3;cases h3;refine .inr ⟨b,o,h1,h2,arr,t,h5,h6,by rw [gJ_];exact h7,λj a ha=>?_⟩;obtain ⟨hj,rfl⟩:=hU_ ha;simp_all [Con]
theorem oo_ {B:World} {pr:Nat->Prop} {E:Env} {H:AHeap} {w:World} (hr:Rel B pr E H w) {id:Nat} {cs ds:List AV} (hk:H.get id=some (.cells cs)) (hl:ds.length=cs.length) (hc:∀(j:Nat) (a:AV),ds[j]? =some a->∃b,cs[j]? =some b/\∀v,Con E b v->Con E a v):
  Rel B pr E (H.set id (.cells ds)) w:=by
 refine hr.setTo hk λown h=>?_;rcases h with ⟨_,hv⟩|⟨b,o,h1,h2,arr,t,h5,h6,h7,h8⟩;exact hv.elim
 .refine .inr ⟨b,o,h1,h2,arr,t,h5,h6,by grind,λj a ha=>?_⟩
  grind
theorem tv_ {E:Env} {id sz i len:Nat} {cs:List AV} (hi:E.sy i=some (.vsl len sz cs)) {v:Value} (h:Con E (.slx id sz i) v):Con E (.sl id 0 len sz none) v:=by
 grind [Con]
mutual
theorem jl_ {E:Env} {id sz i len:Nat} {cs:List AV} (hi:E.sy i=some (.vsl len sz cs)):∀(a:AV) (v:Value),Con E a v->Con E (m6_ id sz i len a) v
 | .slx id' z j,v,h=>by
   unfold m6_;split
   .grind [Nat.eq_of_beq_eq_true,tv_]
   exact h
 | .agg l,v,h=>by simp only [m6_,Con]at h⊢;obtain ⟨vs,h1,h2⟩:=h;exact ⟨vs,h1,jm_ hi l vs h2⟩
 | .tup l,v,h=>by simp only [m6_,Con]at h⊢;obtain ⟨vs,h1,h2⟩:=h;exact ⟨vs,h1,jm_ hi l vs h2⟩
 | .opq,v,h=>h
 | .bool _,v,h=>h
 | .int _ _,v,h=>h
 | .flt _ _,v,h=>h
 | .nan _,v,h=>h
 | .str _,v,h=>h
 | .nptr,v,h=>h
 | .ptr _ _,v,h=>h
 | .vptr _,v,h=>h
 | .nsl,v,h=>h
 | .sl ..,v,h=>h
 | .vsl ..,v,h=>h
 | .nmap,v,h=>h
 | .map _,v,h=>h
 | .nfn,v,h=>h
 | .fn _ _,v,h=>h
 | .nif,v,h=>h
 | .iface _ _,v,h=>h
 | .sym _,v,h=>h
 | .ptx ..,v,h=>h
theorem jm_ {E:Env} {id sz i len:Nat} {cs:List AV} (hi:E.sy i=some (.vsl len sz cs)):∀(l:List AV) (vs:List Value),ConL E l vs->ConL E (h1_ id sz i len l) vs
 |[],vs,h=>h
 |a::r,vs,h=>by simp only [h1_,ConL]at h⊢;obtain ⟨v,q,h1,h2,h3⟩:=h;exact ⟨v,q,h1,jl_ hi a v h2,jm_ hi r q h3⟩
end
theorem pD_ {id sz i len:Nat}:∀(l:List AV) (j:Nat) (a:AV),(h1_ id sz i len l)[j]? =some a->∃b,l[j]? =some b/\a=m6_ id sz i len b
 |[],j,a,h=>by simp [h1_]at h
 |b::r,0,a,h=>by
  simp only [h1_,List.getElem?_cons_zero,Option.some.injEq]at h
  grind
 |b::r,j+1,a,h=>by simp only [h1_,List.getElem?_cons_succ]at h;exact pD_ r j a h
theorem m7_ {id sz i len:Nat}:∀l:List AV,(h1_ id sz i len l).length=l.length
 |[]=>rfl
 |b::r=>by simp only [h1_,List.length_cons,m7_ r]
theorem pC_ {B:World} {pr:Nat->Prop} {E:Env} {w:World} {id sz i len:Nat} {cs:List AV} (hi:E.sy i=some (.vsl len sz cs)) {H:AHeap} (hr:Rel B pr E H w):∀l:List Nat,Rel B pr E (qD_ id sz i len H l) w
 |[]=>hr
 |q::r=>by
  have ih:=pC_ (id:=id) hi hr r;unfold qD_;split
  .rename_i l hk;refine oo_ ih hk (m7_ l) λj a ha=>?_;obtain ⟨b,hb,rfl⟩:=pD_ _ _ _ ha
   grind [jl_]
  exact ih
theorem tw_ {P:Program} {i len sz:Nat} {Y:Sy} {cs:List AV} (h:(XOp.opn len sz).run P (ab_ Y.v [.sym i])=some (.agg cs)):Y.v i=some (.vsl len sz cs)/\cs.length=len*sz:=by
 have h:(match den Y.v (.sym i)with
  | .vsl n z cs=>match Nat.beq n len&&(Nat.beq z sz&&Nat.beq (aL_ cs) (Nat.mul len sz))with
    |true=>some (AV.agg cs)
    |false=>none
  |_=>none)=some (AV.agg cs):=h
 cases hy:Y.v i with
 |none=>grind [den]
 |some a=>
  simp only [den,hy]at h;split at h
  .split at h
   .rename_i hb;obtain ⟨e1,hb⟩:=aa_ hb;obtain ⟨e2,e3⟩:=aa_ hb;have e1:=Nat.eq_of_beq_eq_true e1;have e2:=Nat.eq_of_beq_eq_true e2;have e3:=Nat.eq_of_beq_eq_true e3;rw [ai_]at e3
    grind
   cases h
  cases h
end Go.Sx
