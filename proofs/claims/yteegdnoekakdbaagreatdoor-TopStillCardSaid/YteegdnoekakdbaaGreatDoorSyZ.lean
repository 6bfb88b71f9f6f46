/-
  Regions whose order is open, with calls that take rows: in every order, but for what moves values alone.
-/
import Derived.Test.YteegdnoekakdbaaGreatDoorSyO
import Derived.Test.YteegdnoekakdbaaGreatDoorSyH
import Derived.Test.YteegdnoekakdbaaGreatDoorSyM
set_option linter.unusedVariables false
set_option linter.unusedSimpArgs false
namespace Go.Sx
theorem Oper.wp_mono3 {P:Program} {o:Oper} {a:Act} {w:World} {K K':Act->World->Prop} {Q Q':Exit->Act->World->Prop} (h:∀a w,K a w->K' a w) (hq:∀e a w,e≠ .normal->Q e a w->Q' e a w)
  (hh:o.wp P a w K Q):o.wp P a w K' Q':=by
 unfold Oper.wp at*;generalize (execOp a.eval o).run P w=r at*;cases r with
 |ok n w'=>
  cases n<;>simp only [Oper.upon]at hh⊢<;>
   first
    |exact h _ _ hh
    |exact Calls.mono hh (λe w'' he=>by cases e<;>first|exact h _ _ he|exact hq _ _ _ (λe=>by cases e) he|exact he.imp λ_ hx=>hx.imp λ_ hy=>hq _ _ _ (λe=>by cases e) hy)
    |exact Rows.mono hh (λ_ _ he=>h _ _ he)
 |halt x w'=>cases x<;>simp only [Oper.upon]at hh⊢<;>first|exact hh|exact hq _ _ _ (λe=>by cases e) hh
theorem hM_ {m:Nat}:∀{l:List Edge},mt_ m l=true↔∀e∈l,Region.binds .any e=true->bit m e.on=true
 |[]=>by simp [mt_]
 |e::r=>by
  unfold mt_;rw [gm_];cases hb:Region.binds .any e with
  |true=>simp [hM_ (l:=r),hb]
  |false=>simp [hM_ (l:=r),hb]
theorem iT_ {m:Nat}:∀{l:List Oper} {k:Nat} {x:InO},x∈iS_ m l k↔∃j,x.i=k+j/\l[j]? =some x.o/\bit m x.i=false/\∀e∈x.o.after,Region.binds .any e=true->bit m e.on=true
 |[],k,x=>by simp [iS_]
 |o::r,k,x=>by
  have ih:=iT_ (m:=m) (l:=r) (k:=Nat.succ k) (x:=x);have key:(∃j,x.i=k+j/\(o::r)[j]? =some x.o/\bit m x.i=false/\∀e∈x.o.after,Region.binds .any e=true->bit m e.on=true)↔
    (x.i=k/\o=x.o/\bit m x.i=false/\∀e∈x.o.after,Region.binds .any e=true->bit m e.on=true)\/x∈iS_ m r (Nat.succ k):=by
   rw [ih];constructor
   .grind
   .rintro (⟨h1,h2,h3⟩|⟨j,h1,h2,h3⟩);simp_all
    exact ⟨j+1,by omega,by grind,h3⟩
  rw [key];have eq:iS_ m (o::r) k=(match not (bit m k)&&mt_ m o.after.toList with
   |true=>⟨k,o⟩::iS_ m r (Nat.succ k)
   |false=>iS_ m r (Nat.succ k)):=rfl
  rw [eq];cases hb:(not (bit m k)&&mt_ m o.after.toList)with
  |true=>
   simp only [List.mem_cons];have hb':bit m k=false/\∀e∈o.after,Region.binds .any e=true->bit m e.on=true:=by simp_all [hM_]
   constructor
   .grind
   .rintro (⟨h1,h2,h3⟩|h)
    .obtain ⟨i,o'⟩:=x
     grind
    grind
  |false=>
   grind [hM_]
theorem n9_ {i:Nat}:∀{l:List Edge},r9_ i l=true->∃e∈l,Region.binds .any e=true/\e.on=i
 |[],h=>by cases h
 |e::r,h=>by unfold r9_ at h;split at h<;>simp_all [gm_,n9_]
theorem i8_ {t:Nat}:∀{l:List Operand},Operand.tmp t∈l->t∈d4_ l
 |[],h=>by simp at h
 |x::r,h=>by
  rcases List.mem_cons.1 h with h|h;subst h;unfold d4_;exact List.mem_cons_self
  .have ih:=i8_ h;cases x<;>unfold d4_<;>first|exact List.mem_cons_of_mem _ ih|exact ih
theorem qW_ {t:Nat} {l:List Nat} (h:memT t l=false):t∉l:=by grind [f7_]
theorem jr_ {ops:Array Oper} {o:Oper} {d:Nat} (h:d∈o.looksAt ops):d∈cP_ ops.toList o:=by
 unfold cP_;rcases List.mem_append.1 h with h|h
 .grind [i8_]
 .split at h
  .grind [iE_]
  simp at h
theorem pe_ {ops:Array Oper} {x y:Oper} (h:apartB ops.toList x y=true):x.apart ops y=true:=by
 unfold apartB at h;unfold Oper.apart;have key:∀(o:Oper) (d:Nat),memT d (cP_ ops.toList o)=false->(o.looksAt ops).contains d=false:=λo d hm=>by
  cases hc:(o.looksAt ops).contains d with
  |false=>rfl
  |true=>exact absurd (jr_ (by grind)) (qW_ hm)
 cases hx:x.dst with
 |none=>
  grind
 |some d=>
  cases hy:y.dst with
  |none=>
   grind
  |some e=>
   simp only [hx,hy,Bool.and_eq_true,Bool.not_eq_true']at h⊢;obtain ⟨⟨h1,h2⟩,h3⟩:=h;have:d≠e:=λhde=>by simp_all
   grind
theorem lX_ {all:List Oper} {m i:Nat} {x:Oper}:∀{l:List Oper} {k:Nat},os_ all m i x l k=true->∀(j:Nat) (y:Oper),l[j]? =some y->k+j≠i->bit m (k+j)=false->(∀e∈y.after,Region.binds .any e=true->e.on≠i)->apartB all x y=true
 |[],k,h,j,y,hj,_,_,_=>by simp at hj
 |o::r,k,h,j,y,hj,h1,h2,h3=>by
  obtain ⟨h,hr⟩:=aa_ h;cases j with
  |zero=>
   grind [Nat.eq_of_beq_eq_true,n9_]
  |succ j=>exact lX_ hr j y (by simpa using hj) (by rw [show Nat.succ k+j=k+(j+1) by omega];exact h1) (by rw [show Nat.succ k+j=k+(j+1) by omega];exact h2) h3
theorem mk_:∀{l:List Oper},mj_ l=true->∀(j:Nat) (o:Oper) cs b,l[j]? =some o->o.op≠ .select cs b
 |[],h,j,o,cs,b,hj,_=>by simp at hj
 |x::r,h,j,o,cs,b,hj,ho=>by
  unfold mj_ at h;cases j with
  |zero=>simp at hj;subst hj;rw [ho]at h;cases h
  |succ j=>split at h;cases h;exact mk_ h j o cs b (by simpa using hj) ho
theorem kG_ {N:Nat}:∀{l:List Oper},sa_ N l=true->∀o∈l,∀d,o.dst=some d->d<N
 |[],h,o,ho,_,_=>by simp at ho
 |x::r,h,o,ho,d,hd=>by
  obtain ⟨h1,h2⟩:=aa_ h;rcases List.mem_cons.1 ho with rfl|ho;simp_all
  exact kG_ h2 o ho d hd
theorem gn_:∀(l:List Oper) (T:Tm) (t:Nat),t<512->(∀o∈l,∀d,o.dst=some d->d<512)->tget (ej_ l T) t=tget T t\/tget (ej_ l T) t=.opq
 |[],T,t,_,_=>.inl rfl
 |o::r,T,t,ht,hd=>by
  have hr:∀o∈r,∀d,o.dst=some d->d<512:=λo ho=>hd o (List.mem_cons_of_mem _ ho);unfold ej_;cases ho:o.dst with
  |none=>exact gn_ r T t ht hr
  |some d=>have hd':=hd o List.mem_cons_self d ho;simp only;rcases gn_ r (eM_ T d .opq) t ht hr with h|h;by_cases e:d=t;subst e;rw [aq_ T ht]at h;exact .inr h;rw [ar_ T ht hd' e]at h;exact .inl h;exact .inr h
theorem eS_:∀(l:List Oper) (T:Tm) (d:Nat),(∀o∈l,∀d,o.dst=some d->d<512)->((∃o∈l,o.dst=some d)\/(d<512/\tget T d=.opq))->tget (ej_ l T) d=.opq
 |[],T,d,_,h=>by simp_all [ej_]
 |o::r,T,d,hd,h=>by
  have hr:∀o∈r,∀d,o.dst=some d->d<512:=λo ho=>hd o (List.mem_cons_of_mem _ ho);unfold ej_;cases ho:o.dst with
  |none=>
   refine eS_ r T d hr ?_
   grind
  |some e=>
   have he:=hd o List.mem_cons_self e ho;by_cases hde:e=d;subst hde;exact eS_ r _ e hr (.inr ⟨he,aq_ T he _⟩)
   .refine eS_ r _ d hr ?_;rcases h with ⟨o',h1,h2⟩|h
    .grind
    grind [ar_]
section
variable [Gl]
theorem q4_ {P:Program} {ops:Array Oper} {N:Nat} {E:Env} {T:Tm} {a:Act} {o:Oper} {q:AV} (h:oH_ P T o=some q) (ht:TRel E N T a.tmps):
  ∃v,Yields P ops o v a/\Con E q v:=by
 obtain ⟨dst,op,type,pos,after,guard⟩:=o;unfold oH_ at h;cases guard with
 |some g=>cases h
 |none=>
  simp only at h;split at h;rename_i x;cases h;exact ⟨a.eval x,.inl ⟨rfl,λw=>by rfl⟩,ht.look x⟩;rename_i x;split at h;rename_i id off hx;cases h;have hc:=ht.look x;rw [hx]at hc;have hc':=hc;obtain ⟨b,o,h1,h2⟩:=hc;exact ⟨a.eval x,.inl ⟨rfl,λw=>by simp [execOp,h2]⟩,hc'⟩;cases h
  .rename_i s x f;split at h
   .rename_i id off hx;have hc:=ht.look x;rw [hx]at hc;unfold bU_ at h;split at h
    .rename_i fields hd;split at h
     .rename_i fl hfl;split at h;split at h;cases h;cases h;obtain ⟨b,o,hφ,h2⟩:=hc;refine ⟨.pointer (some ⟨b,o+(off+fl.offset),none⟩),.inl ⟨rfl,λw=>?_⟩,by simp only [Con];grind⟩;simp_all [execOp,Instr.fieldAt,run_underlying,Instr.sureAddr,fieldPlace,af_,Addr.add_lit]
      cases h
     cases h
    cases h
   cases h
  rename_i x i;split at h;rename_i cs hx;have hc:=ht.look x;rw [hx]at hc;obtain ⟨vs,h2,hL⟩:=hc;rw [ga_]at h;obtain ⟨u,hu,hcu⟩:=hL.at i q h;exact ⟨u,.inl ⟨rfl,λw=>by simp [execOp,h2,Instr.extract,hu]⟩,hcu⟩;cases h;cases h
def XB (ops:List Oper) (X:XP):XP:=λY r=>match r with
 | .pan v T H D=>(∀o∈ops,∀d,o.dst=some d->tget T d=.opq)/\X Y (.pan v T H D)
 |r=>X Y r
omit [Gl]in
theorem tk_ {ops:List Oper} {K:KP} {X:XP} {Y:Sy} {r:CRes} (h:ay_ K (XB ops X) Y r):ay_ K X Y r:=by
 cases r with
 |pan v T H D=>exact h.2
 |norm T H D=>exact h
 |exit i T H D=>exact h
 |ret T H D=>exact h
section
variable {P:Program} {N:Nat} {Q:AV->Prop} {fuel:Nat} {I:Inl P fuel} {c:VC}
theorem t9_ {B:World} {pr:Nat->Prop} {k:Nat} {E:Env} {ops:Array Oper} {K:KP} {X:XP} {o:Oper} (ho:o∈ops.toList) (hd:∀d,o.dst=some d->d<N) {v:Value} {ch:List PanicEntry} {a:Act} {w:World}
  (h:OutF P B pr N k E (ay_ K (XB ops.toList X)) (.panic ch) (a.put o.dst v) w):OutF P B pr N k E (ay_ K (XB ops.toList X)) (.panic ch) a w:=by
 obtain ⟨Y,r,h1,E',h2,h3,h4⟩:=h;cases r with
 |norm T H D=>cases h4.1
 |exit i T H D=>cases h4.1
 |ret T H D=>cases h4.1
 |pan u T H D=>
  obtain ⟨u',h5,h6,st⟩:=h4;refine ⟨Y,.pan u T H D,h1,E',h2,h3,u',h5,h6,?_,st.r,?_⟩
  .refine ⟨?_,st.t.le,λt ht=>?_,st.t.gl⟩
   .have:=st.t.size;cases hdst:o.dst<;>grind [Act.put]
   .have:=st.t.con t ht;cases hdst:o.dst with
    |none=>rw [hdst]at this;exact this
    |some d=>by_cases e:t=d;subst e;rw [h1.1 o ho t hdst];simp [Con];simp_all [Act.put,Ne.symm]
  .have:=st.d;cases hdst:o.dst with
   |none=>rw [hdst]at this;exact this
   |some d=>rw [hdst]at this;exact this
omit [Gl]in
theorem oi_:∀{a b:List (Nat×AV)},qz_ a b=true->a=b
 |[],[],_=>rfl
 |(i,a)::r,(j,b)::s,h=>by obtain ⟨h1,h⟩:=aa_ h;obtain ⟨h2,h3⟩:=aa_ h;rw [Nat.eq_of_beq_eq_true h1,aD_ h2,oi_ h3]
 |[],_::_,h=>by simp [qz_]at h
 |_::_,[],h=>by simp [qz_]at h
omit [Gl]in
theorem oj_:∀{a b:List (Nat×List AV)},qA_ a b=true->a=b
 |[],[],_=>rfl
 |(i,a)::r,(j,b)::s,h=>by obtain ⟨h1,h⟩:=aa_ h;obtain ⟨h2,h3⟩:=aa_ h;rw [Nat.eq_of_beq_eq_true h1,bj_ h2,oj_ h3]
 |[],_::_,h=>by simp [qA_]at h
 |_::_,[],h=>by simp [qA_]at h
omit [Gl]in
theorem kH_:∀{a b:Option Nat},nb_ a b=true->a=b
 |none,none,_=>rfl
 |some a,some b,h=>by grind [nb_,Nat.eq_of_beq_eq_true]
 |none,some _,h=>by simp [nb_]at h
 |some _,none,h=>by simp [nb_]at h
omit [Gl]in
theorem oh_:∀{a b:List (Option Nat)},qy_ a b=true->a=b
 |[],[],_=>rfl
 |a::r,b::s,h=>by obtain ⟨h1,h2⟩:=aa_ h;rw [kH_ h1,oh_ h2]
 |[],_::_,h=>by simp [qy_]at h
 |_::_,[],h=>by simp [qy_]at h
omit [Gl]in
theorem og_:∀{a b:List (Nat×Nat)},pj_ a b=true->a=b
 |[],[],_=>rfl
 |(i,a)::r,(j,b)::s,h=>by obtain ⟨h1,h⟩:=aa_ h;obtain ⟨h2,h3⟩:=aa_ h;rw [Nat.eq_of_beq_eq_true h1,Nat.eq_of_beq_eq_true h2,og_ h3]
 |[],_::_,h=>by simp [pj_]at h
 |_::_,[],h=>by simp [pj_]at h
omit [Gl]in
theorem lM_:∀{a b:List TA},lL_ a b=true->a=b
 |[],[],_=>rfl
 |⟨a,b,c,d,e⟩::r,⟨a',b',c',d',e'⟩::s,h=>by obtain ⟨h1,h⟩:=aa_ h;obtain ⟨h2,h⟩:=aa_ h;obtain ⟨h3,h⟩:=aa_ h;obtain ⟨h4,h⟩:=aa_ h;obtain ⟨h5,h6⟩:=aa_ h;rw [Nat.eq_of_beq_eq_true h1,Nat.eq_of_beq_eq_true h2,Nat.eq_of_beq_eq_true h3,Nat.eq_of_beq_eq_true h4,kH_ h5,lM_ h6]
 |[],_::_,h=>by simp [lL_]at h
 |_::_,[],h=>by simp [lL_]at h
omit [Gl]in
theorem lN_:∀{a b:Tpl},ok_ a b=true->a=b
 |⟨a,b,c,d,e,f,g⟩,⟨a',b',c',d',e',f',g'⟩,h=>by
  simp only [ok_]at h
  grind [oi_,oj_,Nat.eq_of_beq_eq_true,lM_,og_]
omit [Gl]in
theorem of_:∀{a b:List (Bool×Tpl)},qw_ a b=true->a=b
 |[],[],_=>rfl
 |(i,a)::r,(j,b)::s,h=>by obtain ⟨h1,h⟩:=aa_ h;obtain ⟨h2,h3⟩:=aa_ h;rw [eq_of_beq h1,lN_ h2,of_ h3]
 |[],_::_,h=>by simp [qw_]at h
 |_::_,[],h=>by simp [qw_]at h
omit [Gl]in
theorem sb_:∀{a b:FT},uh_ a b=true->a=b
 |⟨a,b,c⟩,⟨a',b',c'⟩,h=>by obtain ⟨h1,h⟩:=aa_ h;obtain ⟨h2,h3⟩:=aa_ h;rw [Nat.eq_of_beq_eq_true h1,lN_ h2,of_ h3]
omit [Gl]in
theorem sd_ {a b:XOp} (h:tp_ a b=true):a=b:=by
 unfold tp_ at h;split at h<;>first
  |cases h;done
  |rfl
  |(try simp only [Bool.and_eq_true,decide_eq_true_eq,beq_iff_eq]at h
    first
     |(obtain ⟨h1,h2,h3,h4⟩:=h;rw [h1,Nat.eq_of_beq_eq_true h2,h3,h4])
     |(obtain ⟨h1,h2,h3,h4⟩:=h;rw [Nat.eq_of_beq_eq_true h1,Nat.eq_of_beq_eq_true h2,Nat.eq_of_beq_eq_true h3,Nat.eq_of_beq_eq_true h4])
     |(obtain ⟨h1,h2,h3⟩:=h;rw [Nat.eq_of_beq_eq_true h1,h2,h3])
     |(obtain ⟨h1,h2,h3⟩:=h;rw [Nat.eq_of_beq_eq_true h1,Nat.eq_of_beq_eq_true h2,Nat.eq_of_beq_eq_true h3])
     |(obtain ⟨h1,h2,h3⟩:=h;rw [Nat.eq_of_beq_eq_true h1,Nat.eq_of_beq_eq_true h2,bj_ h3])
     |(obtain ⟨h1,h2⟩:=h;rw [Nat.eq_of_beq_eq_true h1,Nat.eq_of_beq_eq_true h2])
     |rw [h]
     |rw [Nat.eq_of_beq_eq_true h])
omit [Gl]in
theorem qv_ {a b:Chk} (h:qu_ a b=true):a=b:=by
 unfold qu_ at h;split at h<;>first
  |cases h;done
  |(obtain ⟨h1,h2⟩:=aa_ h;rw [Nat.eq_of_beq_eq_true h1,Nat.eq_of_beq_eq_true h2])
  |rw [Nat.eq_of_beq_eq_true h]
omit [Gl]in
mutual
theorem cI_:∀{a b:VT},dw_ a b=true->a=b
 | .bad,_,h=>by simp [dw_]at h
 | .done v,b,h=>by cases b<;>simp only [dw_]at h<;>first|cases h;done|rw [aD_ h]
 | .ite i a1 a2,b,h=>by
   cases b<;>simp only [dw_]at h<;>first|cases h;done|skip
   obtain ⟨h1,h⟩:=aa_ h;obtain ⟨h2,h3⟩:=aa_ h;rw [Nat.eq_of_beq_eq_true h1,cI_ h2,cI_ h3]
 | .lt o l n m t,b,h=>by
   cases b<;>simp only [dw_]at h<;>first|cases h;done|skip
   obtain ⟨h1,h⟩:=aa_ h;obtain ⟨h2,h⟩:=aa_ h;obtain ⟨h3,h⟩:=aa_ h;obtain ⟨h4,h5⟩:=aa_ h;rw [sd_ h1,bj_ h2,Nat.eq_of_beq_eq_true h3,kH_ h4,cI_ h5]
 | .call f l n sh t,b,h=>by
   cases b<;>simp only [dw_]at h<;>first|cases h;done|skip
   obtain ⟨h1,h⟩:=aa_ h;obtain ⟨h2,h⟩:=aa_ h;obtain ⟨h3,h⟩:=aa_ h;obtain ⟨h4,h5⟩:=aa_ h;rw [Nat.eq_of_beq_eq_true h1,bj_ h2,Nat.eq_of_beq_eq_true h3,oh_ h4,cI_ h5]
 | .loop n j hv bs,b,h=>by
   cases b<;>simp only [dw_]at h<;>first|cases h;done|skip
   obtain ⟨h1,h⟩:=aa_ h;obtain ⟨h2,h⟩:=aa_ h;obtain ⟨h3,h4⟩:=aa_ h;rw [Nat.eq_of_beq_eq_true h1,Nat.eq_of_beq_eq_true h2,bj_ h3,ib_ h4]
 | .again l j hv,b,h=>by
   cases b<;>simp only [dw_]at h<;>first|cases h;done|skip
   grind [Nat.eq_of_beq_eq_true,bj_]
 | .chk c t,b,h=>by
   cases b<;>simp only [dw_]at h<;>first|cases h;done|skip
   obtain ⟨h1,h2⟩:=aa_ h;rw [qv_ h1,cI_ h2]
 | .callF f ft hv n bs,b,h=>by
   cases b<;>simp only [dw_]at h<;>first|cases h;done|skip
   obtain ⟨h1,h⟩:=aa_ h;obtain ⟨h2,h⟩:=aa_ h;obtain ⟨h3,h⟩:=aa_ h;obtain ⟨h4,h5⟩:=aa_ h;rw [Nat.eq_of_beq_eq_true h1,sb_ h2,bj_ h3,Nat.eq_of_beq_eq_true h4,ib_ h5]
 | .both a1 a2,b,h=>by
   cases b<;>simp only [dw_]at h<;>first|cases h;done|skip
   obtain ⟨h1,h2⟩:=aa_ h;rw [cI_ h1,cI_ h2]
theorem ib_:∀{a b:VTs},jQ_ a b=true->a=b
 | .nil,b,h=>by
   grind [jQ_]
 | .cons n t r,b,h=>by
   cases b<;>simp only [jQ_]at h<;>first|cases h;done|skip
   obtain ⟨h1,h⟩:=aa_ h;obtain ⟨h2,h3⟩:=aa_ h;rw [Nat.eq_of_beq_eq_true h1,cI_ h2,ib_ h3]
end
theorem pG_ {L:LVs} {Y:Sy} {a b:VT} (h:VOK P Q L Y (nz_ a b)):VOK P Q L Y a/\VOK P Q L Y b:=by
 grind [nz_,cI_,VOK]
theorem lx_ {L:LVs} {Y:Sy} {f:InO->VT}:∀{l:List InO} {x:InO},VOK P Q L Y (n4_ f x l)->∀y,y∈x::l->VOK P Q L Y (f y)
 |[],x,h,y,hy=>by simp_all [n4_]
 |z::r,x,h,y,hy=>by have h:=pG_ h;rcases List.mem_cons.1 hy with rfl|hy;exact h.1;exact lx_ h.2 y hy
theorem gP_ {all:List Oper} {m:Nat} {T:Tm}:∀{l:List InO} {q:MV},iO_ P all m T l=some q->q.x∈l/\oH_ P T q.x.o=some q.a/\os_ all m q.x.i q.x.o all 0=true
 |[],q,h=>by cases h
 |x::r,q,h=>by unfold iO_ at h;split at h;rename_i a ha;split at h;rename_i hf;cases h;exact ⟨List.mem_cons_self,ha,hf⟩;obtain ⟨h1,h2⟩:=gP_ h;exact ⟨List.mem_cons_of_mem _ h1,h2⟩;obtain ⟨h1,h2⟩:=gP_ h;exact ⟨List.mem_cons_of_mem _ h1,h2⟩
theorem li_ (hm:P.follows .mixedOrders=true) (hc:an_ P (aM_ P fuel)) {ops:Array Oper} {X:VX->VT} {K:VS->VT} (hs:mj_ ops.toList=true) (hd:sa_ N ops.toList=true) (hN:N<=512) {L0:LVs} {n0:Nat} {Y0:Sy} {B:World} {pr:Nat->Prop} {E0:Env}:
  ∀(k m:Nat) (S:VS) (Y:Sy) (L:LVs),L.length=S.lv->Good P c S.n Y->L0 <+: L->n0<=S.n->Ext n0 Y0 Y->VOK P Q L Y (nU_ P N fuel I c ops.toList (jH_ ops.toList X) K k m S)->
   ∀(f:Nat) (listed:Array Bool) (E:Env) (a:Act) (w:World),listed.size=ops.size->listed.toList.countP (· ==false)<=f->(∀j,listed.getD j false=bit m j)->E0.leF c.k E->E.At Y->St P B pr N E S.T S.H S.D a w->
    wpAny P .any ops (OutF P B pr N c.k E0 (ay_ (kV P Q c L0 n0 Y0 K) (XB ops.toList (xV P Q c L0 n0 Y0 X)))) f listed a w
 |0,m,S,Y,L,_,_,_,_,_,h=>by exact h.elim
 |k+1,m,S,Y,L,hL,hf,hpre,hn0,hext,h=>by
  intro f listed E a w hsz hcnt hl hle hy st;have hd512:∀o∈ops.toList,∀d,o.dst=some d->d<512:=λo ho d hdst=>Nat.lt_of_lt_of_le (kG_ hd o ho d hdst) hN;have hmem:∀i,i∈Region.ready .any ops listed->∃x:InO,x.i=i/\x∈iS_ m ops.toList 0/\ops[i]? =some x.o:=λi hi=>by
   obtain ⟨h1,o,h2,h3⟩:=mem_ready.1 hi;have hlt:i<ops.size:=(Array.getElem?_eq_some_iff.1 h2).1;have hg:listed.getD i false=false:=by
    grind
   refine ⟨⟨i,o⟩,rfl,iT_.2 ⟨i,(Nat.zero_add i).symm,by grind,by grind,λe he hb=>by grind⟩,h2⟩
  have hrdy:∀x:InO,x∈iS_ m ops.toList 0->x.i∈Region.ready .any ops listed/\ops[x.i]? =some x.o/\∃hlt:x.i<listed.size,listed[x.i]=false:=λx hx=>(by obtain ⟨j,h1,h2,h3,h4⟩:=iT_.1 hx;rw [Nat.zero_add]at h1;subst h1;have ho:ops[x.i]? =some x.o:=(by grind);have hlt:x.i<ops.size:=(Array.getElem?_eq_some_iff.1 ho).1;have hg:listed.getD x.i false=false:=(by grind);simp_all [mem_ready]);have cL_:∀x:InO,x.i<listed.size->∀j,(listed.setIfInBounds x.i true).getD j false=bit (mC_ m x.i) j:=λx hlt j=>by
   have:=congrFun (dE_ (listed:=listed) (i:=x.i) hlt) j;rw [this];unfold plus mC_;rw [ky_,n3_]
   grind
  unfold nU_ at h;split at h
  .rename_i hnil;have hr0:Region.ready .any ops listed=[]:=by simp_all [List.eq_nil_iff_forall_not_mem]
   refine wpAny_done hr0 ?_ f;exact ⟨Y,.norm S.T S.H S.D,⟨S.n,S.lv,L,hpre,hL,hn0,hext,hf,h⟩,E,hle,hy,rfl,st⟩
  .rename_i x0 r0 hcons;obtain ⟨hr1,ho1,hlt1,hg1⟩:=hrdy x0 (by grind);obtain ⟨f',rfl⟩:∃f',f=f'+1:=by have:=eX_ hlt1 hg1;exact ⟨f-1,by omega⟩
   split at h
   .rename_i q hq;obtain ⟨q1,q2,q3⟩:=gP_ hq;rw [←hcons]at q1;obtain ⟨hr2,ho2,hlt2,hg2⟩:=hrdy q.x q1;split at h
    .rename_i u hu;obtain ⟨v,hv1,hv2⟩:=q4_ (ops:=ops) q2 st.t;have hmo:q.x.o∈ops.toList:=by
      grind
     refine wpAny_first ho2 (λj o cs b ho=>mk_ hs j o cs b (by grind)) (λch a w hp=>t9_ hmo (λd hdst=>kG_ hd _ hmo d hdst) hp) f' listed a w (λj oj hj hji hun hno=>?_) hr2 hv1 ?_
     .refine pe_ (lX_ q3 j oj (by grind) (by omega) ?_ hno)
      grind
     .refine li_ hm hc hs hd hN k (mC_ m q.x.i) ⟨u S.T q.a,S.H,S.n,S.lv,S.D⟩ Y L hL hf hpre hn0 hext h f' _ E _ w (by grind) ?_ (cL_ q.x hlt2) hle hy ⟨st.t.put hu hv2,st.r,?_⟩
      .grind
      have:(a.put q.x.o.dst v).defers=a.defers:=(by unfold Act.put;split<;>rfl);rw [this];exact st.d
    exact h.elim
   .have h:=lx_ h;refine wpAny_all (rs:=Region.ready .any ops listed) rfl (λhnil=>by grind) λi hi=>?_;obtain ⟨x,rfl,hx,ho⟩:=hmem i hi;obtain ⟨_,_,hlt,hg⟩:=hrdy x hx;have hx':=h x (by grind);have hw:=hT_ ops [x.o] Y S.T S.H S.D _ _ (hS_ hm hc [x.o] S Y hL hf hx') B pr E a w hy st;have next:∀(a:Act) (w:World),OutF P B pr N c.k E (ay_ (kV P Q c L S.n Y λS'=>nU_ P N fuel I c ops.toList (jH_ ops.toList X) K k (mC_ m x.i) S') (xV P Q c L S.n Y (jH_ ops.toList X))) .normal a w->
      wpAny P .any ops (OutF P B pr N c.k E0 (ay_ (kV P Q c L0 n0 Y0 K) (XB ops.toList (xV P Q c L0 n0 Y0 X)))) f' (listed.setIfInBounds x.i true) a w:=by
     intro a w hq;obtain ⟨Y',r,g1,E',g2,g3,g4⟩:=hq;cases r with
     |norm T H D=>
      obtain ⟨n',lv,L',p1,p2,p3,p4,p5,p6⟩:=g1;refine li_ hm hc hs hd hN k (mC_ m x.i) ⟨T,H,n',lv,D⟩ Y' L' p2 p5 (hpre.trans p1) (Nat.le_trans hn0 p3) (hext.trans p4 hn0) p6 f' _ E' a w (by grind) ?_ (cL_ x hlt) (hle.trans g2) g3 g4.2
      grind
     |exit i T H D=>cases g4.1
     |ret T H D=>cases g4.1
     |pan v T H D=>grind
    have outs:∀(e:Exit) (a:Act) (w:World),e≠ .normal->OutF P B pr N c.k E (ay_ (kV P Q c L S.n Y λS'=>nU_ P N fuel I c ops.toList (jH_ ops.toList X) K k (mC_ m x.i) S') (xV P Q c L S.n Y (jH_ ops.toList X))) e a w->
      OutF P B pr N c.k E0 (ay_ (kV P Q c L0 n0 Y0 K) (XB ops.toList (xV P Q c L0 n0 Y0 X))) e a w:=by
     intro e a w he hq;obtain ⟨Y',r,g1,E',g2,g3,g4⟩:=hq;cases r with
     |norm T H D=>grind
     |exit i T H D=>have g1':xV P Q c L S.n Y X Y' (.exit i T H D):=g1;exact ⟨Y',.exit i T H D,cQ_ hpre hn0 hext g1',E',hle.trans g2,g3,g4⟩
     |ret T H D=>have g1':xV P Q c L S.n Y X Y' (.ret T H D):=g1;exact ⟨Y',.ret T H D,cQ_ hpre hn0 hext g1',E',hle.trans g2,g3,g4⟩
     |pan v T H D=>
      have g1':xV P Q c L S.n Y X Y' (.pan v (ej_ ops.toList T) H D):=g1;obtain ⟨u,g5,g6,st'⟩:=g4;refine ⟨Y',.pan v (ej_ ops.toList T) H D,⟨λo ho d hdst=>eS_ _ _ d hd512 (.inl ⟨o,ho,hdst⟩),cQ_ hpre hn0 hext g1'⟩,E',hle.trans g2,g3,u,g5,g6,⟨st'.t.size,st'.t.le,λt ht=>?_,st'.t.gl⟩,st'.r,st'.d⟩;rcases gn_ ops.toList T t ht hd512 with e|e;rw [e];exact st'.t.con t ht
      grind [Con]
    unfold wpOp;simp only [ho];unfold wpList at hw;split
    .rename_i hwt;rw [if_pos hwt]at hw;rcases hw with hw|⟨_,a',w',hw⟩
     .grind [Oper.wp_mono3,wpList]
     .obtain ⟨Y',r,g1,E',g2,g3,g4⟩:=hw
      grind
    simp_all [wpList]
theorem mP_ (hm:P.follows .mixedOrders=true) (hc:an_ P (aM_ P fuel)) {L:LVs} {ops:Array Oper} {id:Nat} {S:VS} {Y:Sy} {X:VX->VT} {K:VS->VT} (hL:L.length=S.lv) (hf:Good P c S.n Y) (h:VOK P Q L Y (o3_ P N fuel I c ops.toList S X K)):
  ∀(B:World) (pr:Nat->Prop) (E:Env) (a:Act) (w:World),E.At Y->St P B pr N E S.T S.H S.D a w->(Code.region id ops true).wp P (OutF P B pr N c.k E (ay_ (kV P Q c L S.n Y K) (xV P Q c L S.n Y X))) a w:=by
 intro B pr E a w hy st;unfold o3_ at h;split at h
 .rename_i hb;obtain ⟨h1,h2⟩:=aa_ hb;obtain ⟨h2,h3⟩:=aa_ h2;have hempty:∀j,(Array.replicate ops.size false).getD j false=false:=λj=>by rw [Array.getD_eq_getD_getElem?,Array.getElem?_replicate];split<;>rfl
  refine Code.wp_mono (λe a w hq=>?_) (wp_region_any hm (li_ (B:=B) (pr:=pr) (E0:=E) (L0:=L) (n0:=S.n) (Y0:=Y) hm hc h1 h2 (by simpa using h3) _ 0 S Y L hL hf (List.prefix_refl L) (Nat.le_refl _) (Ext.refl _ _) h ops.size _ E a _ (by simp) ?_ (λj=>by rw [hempty,lv_]) (Env.leF_refl _ E) hy ⟨st.t,st.r.drawn _,st.d⟩));obtain ⟨Y',r,g1,g2⟩:=hq;exact ⟨Y',r,tk_ g1,g2⟩
  grind
 exact h.elim
end
end
theorem gh_:∀n m:Nat,(ai_ n m).length=m
 |_,0=>rfl
 |n,m+1=>by simp only [ai_,List.length_cons,gh_ (Nat.succ n) m]
theorem hn_:∀{n m j:Nat} {a:AV},(ai_ n m)[j]? =some a->j<m/\a=.sym (n+j)
 |n,0,j,a,h=>by simp [ai_]at h
 |n,m+1,0,a,h=>by
  grind [ai_]
 |n,m+1,j+1,a,h=>by
  simp only [ai_,List.getElem?_cons_succ]at h;obtain ⟨h1,h2⟩:=hn_ h
  grind
theorem rd_ {B:World} {pr:Nat->Prop} {E:Env} {H:AHeap} {w:World} (hr:Rel B pr E H w) {id i n0 len sz:Nat} {cs:List AV} (hk:H.get id=some (.syl i)) (hi:E.sy i=some (.vsl len sz cs)) (hs:∀(j:Nat) (a:AV),cs[j]? =some a->E.sy (n0+j)=some a):
  Rel B pr E (H.set id (.cells (ai_ n0 cs.length))) w:=by
 refine hr.setTo hk λown h=>?_;rcases h with ⟨_,hv⟩|⟨b,o,h1,h2,len',sz',cs',h3,h4,arr,t,h5,h6,h7,h8⟩
 .have hv:E.sy i=some .nsl:=hv
  grind
 rw [hi]at h3;cases h3;refine .inr ⟨b,o,h1,h2,arr,t,h5,h6,by rw [gh_];exact h7,λj a ha=>?_⟩;obtain ⟨hj,rfl⟩:=hn_ ha;simp_all [Con]
theorem nE_ {B:World} {pr:Nat->Prop} {E:Env} {H:AHeap} {w:World} (hr:Rel B pr E H w) {id:Nat} {cs ds:List AV} (hk:H.get id=some (.cells cs)) (hl:ds.length=cs.length) (hc:∀(j:Nat) (a:AV),ds[j]? =some a->∃b,cs[j]? =some b/\∀v,Con E b v->Con E a v):
  Rel B pr E (H.set id (.cells ds)) w:=by
 refine hr.setTo hk λown h=>?_;rcases h with ⟨_,hv⟩|⟨b,o,h1,h2,arr,t,h5,h6,h7,h8⟩;exact hv.elim
 .refine .inr ⟨b,o,h1,h2,arr,t,h5,h6,by grind,λj a ha=>?_⟩
  grind
theorem su_ {E:Env} {id sz i len:Nat} {cs:List AV} (hi:E.sy i=some (.vsl len sz cs)) {v:Value} (h:Con E (.slx id sz i) v):Con E (.sl id 0 len sz none) v:=by
 grind [Con]
mutual
theorem iL_ {E:Env} {id sz i len:Nat} {cs:List AV} (hi:E.sy i=some (.vsl len sz cs)):∀(a:AV) (v:Value),Con E a v->Con E (mo_ id sz i len a) v
 | .slx id' z j,v,h=>by
   unfold mo_;split
   .grind [Nat.eq_of_beq_eq_true,su_]
   exact h
 | .agg l,v,h=>by simp only [mo_,Con]at h⊢;obtain ⟨vs,h1,h2⟩:=h;exact ⟨vs,h1,iM_ hi l vs h2⟩
 | .tup l,v,h=>by simp only [mo_,Con]at h⊢;obtain ⟨vs,h1,h2⟩:=h;exact ⟨vs,h1,iM_ hi l vs h2⟩
 | .opq,v,h=>h
 | .bool _,v,h=>h
 | .int _ _,v,h=>h
 | .flt _ _,v,h=>h
 | .nan _,v,h=>h
 | .str _,v,h=>h
 | .nptr,v,h=>h
 | .ptr _ _,v,h=>h
 | .vptr _,v,h=>h
 | .nsl,v,h=>h
 | .sl ..,v,h=>h
 | .vsl ..,v,h=>h
 | .nmap,v,h=>h
 | .map _,v,h=>h
 | .nfn,v,h=>h
 | .fn _ _,v,h=>h
 | .nif,v,h=>h
 | .iface _ _,v,h=>h
 | .sym _,v,h=>h
 | .ptx ..,v,h=>h
theorem iM_ {E:Env} {id sz i len:Nat} {cs:List AV} (hi:E.sy i=some (.vsl len sz cs)):∀(l:List AV) (vs:List Value),ConL E l vs->ConL E (ht_ id sz i len l) vs
 |[],vs,h=>h
 |a::r,vs,h=>by simp only [ht_,ConL]at h⊢;obtain ⟨v,q,h1,h2,h3⟩:=h;exact ⟨v,q,h1,iL_ hi a v h2,iM_ hi r q h3⟩
end
theorem oQ_ {id sz i len:Nat}:∀(l:List AV) (j:Nat) (a:AV),(ht_ id sz i len l)[j]? =some a->∃b,l[j]? =some b/\a=mo_ id sz i len b
 |[],j,a,h=>by simp [ht_]at h
 |b::r,0,a,h=>by
  simp only [ht_,List.getElem?_cons_zero,Option.some.injEq]at h
  grind
 |b::r,j+1,a,h=>by simp only [ht_,List.getElem?_cons_succ]at h;exact oQ_ r j a h
theorem mp_ {id sz i len:Nat}:∀l:List AV,(ht_ id sz i len l).length=l.length
 |[]=>rfl
 |b::r=>by simp only [ht_,List.length_cons,mp_ r]
theorem oP_ {B:World} {pr:Nat->Prop} {E:Env} {w:World} {id sz i len:Nat} {cs:List AV} (hi:E.sy i=some (.vsl len sz cs)) {H:AHeap} (hr:Rel B pr E H w):∀l:List Nat,Rel B pr E (pO_ id sz i len H l) w
 |[]=>hr
 |q::r=>by
  have ih:=oP_ (id:=id) hi hr r;unfold pO_;split
  .rename_i l hk;refine nE_ ih hk (mp_ l) λj a ha=>?_;obtain ⟨b,hb,rfl⟩:=oQ_ _ _ _ ha
   grind [iL_]
  exact ih
theorem sv_ {P:Program} {i len sz:Nat} {Y:Sy} {cs:List AV} (h:(XOp.opn len sz).run P (ab_ Y.v [.sym i])=some (.agg cs)):Y.v i=some (.vsl len sz cs)/\cs.length=len*sz:=by
 have h:(match den Y.v (.sym i)with
  | .vsl n z cs=>match Nat.beq n len&&(Nat.beq z sz&&Nat.beq (aP_ cs) (Nat.mul len sz))with
    |true=>some (AV.agg cs)
    |false=>none
  |_=>none)=some (AV.agg cs):=h
 cases hy:Y.v i with
 |none=>grind [den]
 |some a=>
  simp only [den,hy]at h;split at h
  .split at h
   .rename_i hb;obtain ⟨e1,hb⟩:=aa_ hb;obtain ⟨e2,e3⟩:=aa_ hb;have e1:=Nat.eq_of_beq_eq_true e1;have e2:=Nat.eq_of_beq_eq_true e2;have e3:=Nat.eq_of_beq_eq_true e3;rw [aj_]at e3
    grind
   cases h
  cases h
variable [Gl]
section
variable {P:Program} {N:Nat} {Q:AV->Prop} {fuel:Nat} {I:Inl P fuel} {c:VC}
def mZ_ (P:Program) (N:Nat) (Q:AV->Prop) (c:VC) (b:Code) (bS:VS->(VS->VT)->VT) (X:VX->VT):Prop:=
 ∀(S:VS) (K:VS->VT) (Y:Sy) (L:LVs),L.length=S.lv->Good P c S.n Y->VOK P Q L Y (bS S K)->aC_ P N c.k b Y S.T S.H S.D (kV P Q c L S.n Y K) (xV P Q c L S.n Y X)
theorem rN_ {b:Code} {bS:VS->(VS->VT)->VT} {X:VX->VT} {K:KP} (hb:mZ_ P N Q c b bS X) (m:Nat) (S:VS) (Y:Sy) (L:LVs) (hL:L.length=S.lv) (hf:Good P c S.n Y)
  (h:VOK P Q L Y (o7_ bS m S)):aC_ P N c.k (.loop b) Y S.T S.H S.D K (xV P Q c L S.n Y X):=by
 refine ⟨{ p:Nat×Sy×VS×LVs // L <+: p.2.2.2/\p.2.2.2.length=p.2.2.1.lv/\S.n<=p.2.2.1.n/\Ext S.n Y p.2.1/\Good P c p.2.2.1.n p.2.1/\VOK P Q p.2.2.2 p.2.1 (o7_ bS p.1 p.2.2.1) },λp=>⟨p.1.2.1,p.1.2.2.1.T,p.1.2.2.1.H,p.1.2.2.1.D⟩,
  λp=>p.1.1,⟨(m,Y,S,L),List.prefix_refl L,hL,Nat.le_refl _,Ext.refl _ _,hf,h⟩,Weak.refl _ _ _ _ _ _ _,λp=>?_⟩
 obtain ⟨⟨m,Y',S',L'⟩,q1,q2,q3,q4,q5,q6⟩:=p;cases m with
 |zero=>exact q6.elim
 |succ m=>refine au_ b (λY2 T2 H2 D2 hk=>?_) (λY2 r hx=>cQ_ q1 q3 q4 hx) _ _ _ _ (hb S' _ Y' L' q2 q5 q6);obtain ⟨n',lv,L2,g1,g2,g3,g4,g5,g6⟩:=hk;exact ⟨⟨(m,Y2,⟨T2,H2,n',lv,D2⟩,L2),q1.trans g1,g2,Nat.le_trans q3 g3,q4.trans g4 q3,g5,g6⟩,Nat.lt_succ_self m,Weak.refl _ _ _ _ _ _ _⟩
omit [Gl]in
theorem cs_ {n k:Nat}:∀{l:List Tpl} {j0:Nat} {S:VS} {r:MA},dI_ n k l j0 S=some r->∃i tp,l[i]? =some tp/\r.j=j0+i/\r.l=(dp_ tp S).l/\iB_ n k tp (dp_ tp S).S=some r.m
 |[],j0,S,r,h=>by cases h
 |tp::q,j0,S,r,h=>by
  unfold dI_ at h;split at h;obtain ⟨i,tp',h1,h2,h3⟩:=cs_ h;exact ⟨i+1,tp',by grind,by omega,h3⟩;simp only at h;split at h
  .cases h
   grind
  obtain ⟨i,tp',h1,h2,h3⟩:=cs_ h;exact ⟨i+1,tp',by grind,by omega,h3⟩
theorem mv_ {k:Nat} {tp:Tpl} {S:VS} {Y:Sy} (hs:∀i q,(i,q)∈(dp_ tp S).l->(Chk.same i q).ok Y):Weak P N k Y S.T S.H S.D Y (dp_ tp S).S.T (dp_ tp S).S.H (dp_ tp S).S.D/\(dp_ tp S).S.D=S.D:=by
 have h1:Weak P N k Y S.T S.H S.D Y (kV_ tp S).S.T (kV_ tp S).S.H (kV_ tp S).S.D/\(kV_ tp S).S.D=S.D:=by
  have hs1:∀i q,(i,q)∈(kV_ tp S).l->(Chk.same i q).ok Y:=λi q h=>hs i q (ei_.2 (.inl h));unfold kV_ at hs1⊢;generalize f3_ S.T tp.slots=l at hs1⊢;cases l with
  |nil=>exact ⟨Weak.refl _ _ _ _ _ _ _,rfl⟩
  |cons a r=>obtain ⟨h1,_,_,h4⟩:=mT_ (P:=P) (N:=N) (k:=k) hs1;exact ⟨h1.1,h4⟩
 have hfr:FrOk Y (kV_ tp S).S (kU_ tp (kV_ tp S).S).S:=gz_ λi q h=>hs i q (ei_.2 (.inr h));exact ⟨h1.1.trans (hfr.weak k),hfr.D.trans h1.2⟩
theorem mN_ {k n lv:Nat} {tp:Tpl} {S:VS} {m:MT} {Y0 Y:Sy} (hm:iB_ n k tp (dp_ tp S).S=some m) (hs:∀i q,(i,q)∈(dp_ tp S).l->(Chk.same i q).ok Y) (hnn:∀i,i∈m.nn->(Chk.nn i).ok Y) (hf:Fresh Y0 n) (hx:Ext n Y0 Y) (hok:okL (ab_ Y.v m.hv)=true):
  (ab_ Y.v m.hv).length=tp.nv/\Weak P N k Y S.T S.H S.D (Y0.puts n (ab_ Y.v m.hv)) (tp.inst n lv).T (tp.inst n lv).H []:=by
 obtain ⟨h1,h2⟩:=ny_ (N:=N) (P:=P) (lv:=lv) hm hf hx hok hnn;exact ⟨h1,Weak.trans (mv_ hs).1 h2⟩
theorem px_ (own:Bool) (l:List Oper) (S:VS) (Y:Sy):Weak P N c.k Y S.T S.H S.D Y (jq_ own l S).T (jq_ own l S).H (jq_ own l S).D/\(jq_ own l S).n=S.n/\(jq_ own l S).lv=S.lv:=by unfold jq_;split;exact ⟨Weak.refl _ _ _ _ _ _ _,rfl,rfl⟩;exact ⟨cJ_ _,rfl,rfl⟩
theorem nZ_ {Inv:Nat->List AV->Prop} {μ:Nat->List AV->Nat} {L:LVs} {n lvl:Nat} {Y:Sy} {bS:VS->(VS->VT)->VT} {tps:List Tpl} {k:Nat}:∀(l:List Tpl) (j0:Nat),tj_ P Q Inv μ L n j0 Y (lj_ bS n k lvl tps l)->
  ∀i tp,l[i]? =some tp->∀vs,vs.length=tp.nv->Inv (j0+i) vs->VOK P Q (L++[λj' vs'=>Inv j' vs'/\μ j' vs'<μ (j0+i) vs]) (Y.puts n vs) (bS (tp.inst n (Nat.succ lvl)) (nT_ n k lvl tps))
 |[],j0,h,i,tp,hi=>by simp at hi
 |t::r,j0,h,i,tp,hi=>by
  obtain ⟨h1,h2⟩:=h;cases i with
  |zero=>simp at hi;subst hi;exact h1
  |succ i=>have:=nZ_ r (j0+1) h2 i tp (by simpa using hi);rw [show j0+(i+1)=j0+1+i by omega];exact this
theorem sQ_ {b:Code} {bS:VS->(VS->VT)->VT} {X:VX->VT} {K:KP} {tps:List Tpl} (hb:mZ_ P N Q c b bS X) (S:VS) (Y:Sy) (L:LVs) (hL:L.length=S.lv) (hf:Good P c S.n Y)
  (h:VOK P Q L Y (tV_ c.k bS tps S)):aC_ P N c.k (.loop b) Y S.T S.H S.D K (xV P Q c L S.n Y X):=by
 unfold tV_ at h;split at h
 case h_2=>exact h.elim
 rename_i r hm;obtain ⟨hs0,h⟩:=eI_ h;obtain ⟨hn0,h⟩:=kB_ h;obtain ⟨Inv,μ,hok,hinv,hbs⟩:=h;obtain ⟨i,tp,hi,hj,hl,hmt⟩:=cs_ hm;have hj:r.j=i:=by omega
 rw [hj]at hinv;rw [hl]at hs0;have hw:=mN_ (N:=N) (P:=P) (lv:=Nat.succ S.lv) hmt hs0 hn0 hf.1 (Ext.refl _ _) (hok _ _ hinv)
 refine ⟨{ p:Nat×List AV×Tpl // tps[p.1]? =some p.2.2/\p.2.1.length=p.2.2.nv/\Inv p.1 p.2.1 },λp=>⟨Y.puts S.n p.1.2.1,(p.1.2.2.inst S.n (Nat.succ S.lv)).T,(p.1.2.2.inst S.n (Nat.succ S.lv)).H,[]⟩,λp=>μ p.1.1 p.1.2.1,
  ⟨(i,ab_ Y.v r.m.hv,tp),hi,hw.1,hinv⟩,hw.2,λp=>?_⟩
 obtain ⟨⟨j1,vs,tp1⟩,q1,q2,q3⟩:=p;have hb1:=nZ_ tps 0 hbs j1 tp1 q1 vs q2 (by grind);have hgood:Good P c (tp1.inst S.n (Nat.succ S.lv)).n (Y.puts S.n vs):=by show Good P c (S.n+tp1.nv) _;rw [←q2];exact hf.puts vs
 have hext:Ext S.n Y (Y.puts S.n vs):=Ext.puts vs _ (Nat.le_refl _);have hpre:∀R:Nat->List AV->Prop,L <+: L++[R]:=λR=>List.prefix_append _ _;have hnle:S.n<=(tp1.inst S.n (Nat.succ S.lv)).n:=Nat.le_add_right _ _;refine au_ b (λY2 T2 H2 D2 hk=>?_) (λY2 r hx=>cQ_ (hpre _) hnle hext hx) _ _ _ _ (hb _ _ _ _ (by rw [List.length_append,hL];rfl) hgood hb1);obtain ⟨n',lv,L2,g1,g2,g3,g4,g5,g6⟩:=hk;unfold nT_ at g6;split at g6
 .rename_i r2 hm2;obtain ⟨hs2,g6⟩:=eI_ g6;obtain ⟨hn2,g6⟩:=kB_ g6;obtain ⟨R,r1,r2'⟩:=g6;obtain ⟨i2,tp2,k1,k2,kl,k3⟩:=cs_ hm2;have k2:r2.j=i2:=(by omega);rw [k2]at r2';rw [kl]at hs2;have hR:R=λj' vs'=>Inv j' vs'/\μ j' vs'<μ (0+j1) vs:=by
   obtain ⟨t,rfl⟩:=g1
   grind
  rw [hR]at r2';have hx2:Ext S.n Y Y2:=hext.trans g4 hnle;have hw2:=mN_ (N:=N) (P:=P) (lv:=Nat.succ S.lv) k3 hs2 hn2 hf.1 hx2 (hok _ _ r2'.1);exact ⟨⟨(i2,ab_ Y2.v r2.m.hv,tp2),k1,hw2.1,r2'.1⟩,by grind,hw2.2⟩
 exact g6.elim
theorem nW_ {N k:Nat} {S:VS} {Y:Sy} {t:TA} {i:Nat} {cs:List AV} (hf:Fresh Y S.n) (hk:S.H.get t.id=some (.syl i)) (hi:Y.v i=some (.vsl t.j t.sz cs)) (hl:cs.length=t.j*t.sz):
  Weak P N k Y S.T S.H S.D (Y.puts S.n cs) (jf_ t i S).T (jf_ t i S).H (jf_ t i S).D:=by
 intro B pr E a w hy st;obtain ⟨p1,p2,p3,p4⟩:=hf.puts cs;have hat:=bI_ cs hf;have hv:∀i a,E.sy i=some a->(Y.puts S.n cs).v i=some a:=λi a ha=>by rw [hy.v]at ha;grind
 have hls:∀i l,E.syl i=some l->(Y.puts S.n cs).l i=some l:=λi l ha=>by rw [hy.l]at ha;grind
 have hlo:∀i,i<64->(Y.puts S.n cs).v i=E.sy i:=λi hi=>by rw [hy.v];exact p4 i hi
 have st1:=st.with hv hls hlo;have hi1:(E.with (Y.puts S.n cs)).sy i=some (.vsl t.j t.sz cs):=p2 _ _ hi;have hrow:=rd_ (n0:=S.n) st1.r hk hi1 (λj a ha=>hat j a ha);rw [hl]at hrow;refine ⟨E.with (Y.puts S.n cs),Env.with_leF k hlo,⟨rfl,rfl,hy.res⟩,⟨⟨st1.t.size,st1.t.le,λq hq=>?_,st1.t.gl⟩,oP_ hi1 hrow [0,1,2,3],st1.d⟩⟩;show Con _ (tget (bd_ (mo_ t.id t.sz i t.j) S.T) q) _;rw [aH_];exact iL_ hi1 _ _ (st1.t.con q hq)
theorem je_ {N k:Nat} {L:LVs} {kt:VS->VT}:∀(l:List TA) (S:VS) (Y:Sy),Good P c S.n Y->VOK P Q L Y (mV_ l S kt)->
  ∃S' Y',Weak P N k Y S.T S.H S.D Y' S'.T S'.H S'.D/\S'.lv=S.lv/\S.n<=S'.n/\Ext S.n Y Y'/\Good P c S'.n Y'/\VOK P Q L Y' (kt S')
 |[],S,Y,hf,h=>⟨S,Y,Weak.refl _ _ _ _ _ _ _,rfl,Nat.le_refl _,Ext.refl _ _,hf,h⟩
 |t::r,S,Y,hf,h=>by
  unfold mV_ at h;split at h
  .rename_i i hk;obtain ⟨cs,h1,h2,h3,h4⟩:=h;obtain ⟨q1,q2⟩:=sv_ h1;have hg:Good P c (jf_ t i S).n (Y.puts S.n cs):=by obtain ⟨p1,p2,p3,p4⟩:=hf.1.puts cs;refine ⟨?_,hf.2.sub p2 p4⟩;rw [q2]at p1;exact p1
   obtain ⟨S',Y',w1,w2,w3,w4,w5,w6⟩:=je_ r (jf_ t i S) (Y.puts S.n cs) hg h4;have hle:S.n<=(jf_ t i S).n:=Nat.le_add_right _ _;exact ⟨S',Y',(nW_ hf.1 hk q1 q2).trans w1,w2,Nat.le_trans hle w3,(Ext.puts cs _ (Nat.le_refl _)).trans w4 hle,w5,w6⟩
  exact je_ r S Y hf h
theorem pv_ {N k:Nat} (t o:Nat) (S:VS) (Y:Sy):Weak P N k Y S.T S.H S.D Y (lZ_ t o S).T (lZ_ t o S).H (lZ_ t o S).D/\(lZ_ t o S).n=S.n/\(lZ_ t o S).lv=S.lv:=by unfold lZ_;split;split;split;exact ⟨fj_ _ _,rfl,rfl⟩;exact ⟨Weak.refl _ _ _ _ _ _ _,rfl,rfl⟩;exact ⟨Weak.refl _ _ _ _ _ _ _,rfl,rfl⟩;exact ⟨cJ_ _,rfl,rfl⟩
theorem jT_ {N k:Nat}:∀(l:List (Nat×Nat)) (S:VS) (Y:Sy),Weak P N k Y S.T S.H S.D Y (l0_ S l).T (l0_ S l).H (l0_ S l).D/\(l0_ S l).n=S.n/\(l0_ S l).lv=S.lv
 |[],S,Y=>⟨Weak.refl _ _ _ _ _ _ _,rfl,rfl⟩
 |(t,o)::r,S,Y=>by obtain ⟨a1,a2,a3⟩:=pv_ (N:=N) (k:=k) t o S Y;obtain ⟨b1,b2,b3⟩:=jT_ (N:=N) (k:=k) r (lZ_ t o S) Y;exact ⟨a1.trans b1,b2.trans a2,b3.trans a3⟩
theorem sP_ {N k rid:Nat} {L:LVs} {kt:VS->VT} {ops:List Oper} {S:VS} {Y:Sy} (hf:Good P c S.n Y) (h:VOK P Q L Y (tT_ c rid ops S kt)):
  VOK P Q L Y (kt S)\/(ops≠[]/\∃S' Y',Weak P N k Y S.T S.H S.D Y' S'.T S'.H S'.D/\S'.lv=S.lv/\S.n<=S'.n/\Ext S.n Y Y'/\Good P c S'.n Y'/\VOK P Q L Y' (kt S')):=by
 unfold tT_ at h;split at h;exact .inl h
 .split at h;rename_i tp _ _;obtain ⟨w1,w2,w3⟩:=jT_ (P:=P) (N:=N) (k:=k) tp.fix S Y;obtain ⟨S',Y',v1,v2,v3,v4,v5,v6⟩:=je_ (N:=N) (k:=k) _ (l0_ S tp.fix) Y (by rw [w2];exact hf) h;rw [w2]at v3 v4;rw [w3]at v2;exact .inr ⟨by simp,S',Y',w1.trans v1,v2,v3,v4,v5,v6⟩
  grind
theorem nK_ {N k id:Nat} {ops:Array Oper} {draw:Bool} {Y Y':Sy} {T T':Tm} {H H':AHeap} {D D':Dfs} {K:KP} {X:XP} (hne:ops.toList≠[]) (hw:Weak P N k Y T H D Y' T' H' D') (h:aC_ P N k (.region id ops draw) Y' T' H' D' K X):
  aC_ P N k (.region id ops draw) Y T H D K X:=by
 unfold aC_ at h⊢;cases draw with
 |false=>
  cases ho:ops.toList with
  |nil=>grind
  |cons o r=>rw [ho]at h;obtain ⟨Y1,T1,H1,D1,h1,h2⟩:=h;exact ⟨Y1,T1,H1,D1,hw.trans h1,h2⟩
 |true=>
  rcases h with ⟨Y1,T1,H1,D1,h1,h2⟩|h;exact .inl ⟨Y1,T1,H1,D1,hw.trans h1,h2⟩
  .refine .inr λB pr E a w hy st=>?_;obtain ⟨E1,hle,hy1,st1⟩:=hw B pr E a w hy st
   grind [Code.wp_mono,OutF.le]
theorem lo_ (hm:P.follows .mixedOrders=true) (hc:an_ P (aM_ P fuel)) {id:Nat} {any:Bool} {ops:Array Oper} {draw:Bool} {S:VS} {K:VS->VT} {X:VX->VT} {Y:Sy} {L:LVs} (hL:L.length=S.lv) (hf:Good P c S.n Y) (h:VOK P Q L Y (rO_ P N fuel I c any ops draw S K X)):
  aC_ P N c.k (.region id ops draw) Y S.T S.H S.D (kV P Q c L S.n Y K) (xV P Q c L S.n Y X):=by
 cases draw with
 |false=>grind [rO_,aC_,hS_]
 |true=>
  unfold rO_ at h;simp only at h;split at h;rename_i r hd;split at h;exact .inl ⟨Y,S.T,S.H,S.D,Weak.refl _ _ _ _ _ _ _,aM_ P fuel,_,hc,hd,S.n,S.lv,L,List.prefix_refl L,hL,Nat.le_refl _,Ext.refl _ _,hf,h⟩;exact h.elim
  .have dr:VOK P Q L Y (mS_ P N fuel I c ops.toList (jq_ c.own ops.toList S) X K)->∀B pr E a w,E.At Y->St P B pr N E S.T S.H S.D a w->(Code.region id ops true).wp P (OutF P B pr N c.k E (ay_ (kV P Q c L S.n Y K) (xV P Q c L S.n Y X))) a w:=by
     intro h;obtain ⟨w1,w2,w3⟩:=px_ (P:=P) (N:=N) (c:=c) c.own ops.toList S Y;intro B pr E a w hy st;obtain ⟨E1,hle,hy1,st1⟩:=w1 B pr E a w hy st;have key:=rK_ (id:=id) (S:=jq_ c.own ops.toList S) hm hc (by omega) (by grind) h B pr E1 a w hy1 st1
     grind [Code.wp_mono,OutF.le]
   refine .inr ?_;split at h;split at h;exact dr h;exact mP_ hm hc hL hf h;split at h;exact mP_ hm hc hL hf h;exact dr h
theorem bT_ (hm:P.follows .mixedOrders=true) (hc:an_ P (aM_ P fuel)):∀(cd:Code) (bid:Nat) (S:VS) (K:VS->VT) (X:VX->VT) (Y:Sy) (L:LVs),L.length=S.lv->Good P c S.n Y->VOK P Q L Y (cE_ P N fuel I c bid cd S K X)->
  aC_ P N c.k cd Y S.T S.H S.D (kV P Q c L S.n Y K) (xV P Q c L S.n Y X)
 | .skip,bid,S,K,X,Y,L,hL,hf,h=>by exact ⟨S.n,S.lv,L,List.prefix_refl L,hL,Nat.le_refl _,Ext.refl _ _,hf,h⟩
 | .label _,bid,S,K,X,Y,L,hL,hf,h=>by exact ⟨S.n,S.lv,L,List.prefix_refl L,hL,Nat.le_refl _,Ext.refl _ _,hf,h⟩
 | .exit id,bid,S,K,X,Y,L,hL,hf,h=>by exact ⟨S.n,S.lv,L,List.prefix_refl L,hL,Nat.le_refl _,Ext.refl _ _,hf,h⟩
 | .ret,bid,S,K,X,Y,L,hL,hf,h=>by exact ⟨S.n,S.lv,L,List.prefix_refl L,hL,Nat.le_refl _,Ext.refl _ _,hf,h⟩
 | .region id ops draw,bid,S,K,X,Y,L,hL,hf,h=>by
   rcases sP_ (N:=N) (k:=c.k) hf h with h|⟨hne,S',Y',w1,w2,w3,w4,w5,w6⟩
   .grind [lo_]
   refine nK_ hne w1 (au_ _ (λ_ _ _ _ hk=>hH_ (List.prefix_refl L) w3 w4 hk) (λ_ _ hx=>cQ_ (List.prefix_refl L) w3 w4 hx) _ _ _ _ (lo_ hm hc (by omega) w5 w6))
 | .seq a b,bid,S,K,X,Y,L,hL,hf,h=>by unfold cE_ at h;unfold aC_;refine au_ a (λY' T' H' D' hk=>?_) (λ_ _ h=>h) _ _ _ _ (bT_ hm hc a bid S _ X Y L hL hf h);obtain ⟨n',lv,L',g1,g2,g3,g4,g5,g6⟩:=hk;exact au_ b (λ_ _ _ _ hk=>hH_ g1 g3 g4 hk) (λ_ _ hx=>cQ_ g1 g3 g4 hx) _ _ _ _ (bT_ hm hc b bid ⟨T',H',n',lv,D'⟩ K X Y' L' g2 g5 g6)
 | .cond cd a b,bid,S,K,X,Y,L,hL,hf,h=>by unfold cE_ at h;split at h;rename_i t ht;refine ⟨Y,S.T,S.H,S.D,Weak.refl _ _ _ _ _ _ _,t,ht,λe=>?_,λe=>?_⟩;subst e;exact bT_ hm hc a bid S K X Y L hL hf h;subst e;exact bT_ hm hc b bid S K X Y L hL hf h;split at h;rename_i i hi;obtain ⟨t,ht,h1,h2⟩:=h;refine ⟨Y,(S.know i t).T,(S.know i t).H,(S.know i t).D,b0_ ht S.x S.D,t,cx_ hi S.x rfl t,λe=>?_,λe=>?_⟩;subst e;exact bT_ hm hc a bid (S.know i true) K X Y L hL hf (h1 rfl);subst e;exact bT_ hm hc b bid (S.know i false) K X Y L hL hf (h2 rfl);exact h.elim
 | .block id b,bid,S,K,X,Y,L,hL,hf,h=>by
   refine au_ b (λ_ _ _ _ h=>h) (λY' r hx=>?_) _ _ _ _ (bT_ hm hc b id S K (tO_ id K X) Y L hL hf h);cases r with
   |norm T H D=>exact hx.elim
   |pan v T H D=>exact hx
   |ret T H D=>exact hx
   |exit id' T H D=>
    obtain ⟨n,lv,L',g1,g2,g3,g4,g5,h'⟩:=hx;unfold tO_ at h';simp only at h';cases hb:Nat.beq id' id with
    |true=>rw [hb]at h';exact ⟨λ_=>⟨n,lv,L',g1,g2,g3,g4,g5,h'⟩,λe=>absurd (Nat.eq_of_beq_eq_true hb) e⟩
    |false=>rw [hb]at h';refine ⟨λe=>?_,λ_=>⟨n,lv,L',g1,g2,g3,g4,g5,h'⟩⟩;simp_all
 | .loop b,bid,S,K,X,Y,L,hL,hf,h=>by unfold cE_ at h;have hb:mZ_ P N Q c b (λS K=>cE_ P N fuel I c bid b S K X) X:=λS K Y L hL hf h=>bT_ hm hc b bid S K X Y L hL hf h;split at h;exact sQ_ hb S Y L hL hf h;exact rN_ hb fuel S Y L hL hf h
 | .scope _,bid,S,K,X,Y,L,hL,hf,h=>by exact h.elim
 | .goto _,bid,S,K,X,Y,L,hL,hf,h=>by exact h.elim
 | .refuse _,bid,S,K,X,Y,L,hL,hf,h=>by exact h.elim
 | .rangeFunc _ _ _ _,bid,S,K,X,Y,L,hL,hf,h=>by exact h.elim
def DOutV (P:Program) (Q:AV->Prop) (c:VC) (N:Nat) (B:World) (pr:Nat->Prop) (K R:VS->Option AV->VT) (L:LVs) (n:Nat) (Y:Sy) (E:Env) (c₀:Frame) (cs:List Frame) (e:Exit) (a:Act) (cs':List Frame) (w:World):Prop:=
 ∃(Y':Sy) (S':VS) (u':Option AV) (m':FrameMode) (E':Env) (L':LVs),(L <+: L'/\L'.length=S'.lv/\n<=S'.n/\Ext n Y Y'/\Good P c S'.n Y'/\S'.D=[])/\E.leF c.k E'/\E'.At Y'/\cs'={ c₀ with mode:=m' }::cs/\ModeIn E' u' m'/\St P B pr N E' S'.T S'.H [] a w/\
  ((e=.normal/\VOK P Q L' Y' (K S' u'))\/(e=.ret/\VOK P Q L' Y' (R S' u')))
theorem DOutV.le {B:World} {pr:Nat->Prop} {K R:VS->Option AV->VT} {L L0:LVs} {n n0:Nat} {Y Y0:Sy} {E E0:Env} {c₀:Frame} {cs cs':List Frame} {e:Exit} {a:Act} {w:World} (hL:L0 <+: L) (hn:n0<=n) (hx:Ext n0 Y0 Y) (hE:E0.leF c.k E) (h:DOutV P Q c N B pr K R L n Y E c₀ cs e a cs' w):DOutV P Q c N B pr K R L0 n0 Y0 E0 c₀ cs e a cs' w:=by obtain ⟨Y',S',u',m',E',L',⟨h1,h2,h3,h4,h5⟩,h6,h7⟩:=h;exact ⟨Y',S',u',m',E',L',⟨hL.trans h1,h2,Nat.le_trans hn h3,hx.trans h4 hn,h5⟩,hE.trans h6,h7⟩
omit [Gl]in
theorem ModeIn.none {E E':Env} {m:FrameMode} (h:ModeIn E none m):ModeIn E' none m:=h
theorem b2_ (hm:P.follows .mixedOrders=true) (hc:an_ P (aM_ P fuel)) (B:World) (pr:Nat->Prop) (c₀:Frame) (cs:List Frame):∀(cd:Code) (S:VS) (u:Option AV) (K R:VS->Option AV->VT) (Y:Sy) (L:LVs),L.length=S.lv->Good P c S.n Y->S.D=[]->VOK P Q L Y (da_ P N fuel I c cd S u K R)->
  ∀E a w m,E.At Y->St P B pr N E S.T S.H [] a w->ModeIn E u m->cd.wpS P (DOutV P Q c N B pr K R L S.n Y E c₀ cs) a ({ c₀ with mode:=m }::cs) w
 | .skip,S,u,K,R,Y,L,hL,hf,hD,h,E,a,w,m,hy,st,hmo=>by exact wpS_of_wp (wp_skip ⟨Y,S,u,m,E,L,⟨List.prefix_refl L,hL,Nat.le_refl _,Ext.refl _ _,hf,hD⟩,Env.leF_refl _ _,hy,rfl,hmo,st,.inl ⟨rfl,h⟩⟩)
 | .ret,S,u,K,R,Y,L,hL,hf,hD,h,E,a,w,m,hy,st,hmo=>by exact wpS_of_wp (wp_ret ⟨Y,S,u,m,E,L,⟨List.prefix_refl L,hL,Nat.le_refl _,Ext.refl _ _,hf,hD⟩,Env.leF_refl _ _,hy,rfl,hmo,st,.inr ⟨rfl,h⟩⟩)
 | .region id ops draw,S,u,K,R,Y,L,hL,hf,hD,h,E,a,w,m,hy,st,hmo=>by
   unfold da_ at h;split at h;split at h;exact h.elim;split at h;rename_i r hr;split at h;rename_i T' H' u';refine wpS_region ?_;have:=k7_ hc ops c₀ cs ops.toList 0 (by simp) S.T S.H u _ hr E a w m st hmo;rw [List.range_eq_range'];have h2:wpOpsS P ops (SOut P B pr N E c₀ cs (.norm T' H' u')) (List.range' 0 ops.size) a ({ c₀ with mode:=m }::cs) w:=(by omega);refine bg_ (λe a cs' w hq=>?_) _ _ _ _ h2;obtain ⟨E',m',q1,q2,rfl,q3,q4⟩:=hq;exact ⟨Y,⟨T',H',S.n,S.lv,[]⟩,u',m',E',L,⟨List.prefix_refl L,hL,Nat.le_refl _,Ext.refl _ _,hf,rfl⟩,q1.leF _,hy.le q1,q2,q3,q4,.inl ⟨rfl,h⟩⟩;exact h.elim;exact h.elim
   .rename_i hb;have hu:u=none:=by
     cases u with
     |none=>rfl
     |some v=>cases hb
    subst hu;have hw:=lo_ (N:=N) (id:=id) hm hc hL hf h;rw [hD]at hw;refine wpS_of_wp (Code.wp_mono (λe a w hq=>?_) (cy_ hm _ _ _ _ _ _ _ hw B pr E a w hy st));obtain ⟨Y',r,hr,E',q1,q2,q3⟩:=hq;cases r with
    |norm T' H' D'=>
     obtain ⟨n',lv,L',g1,g2,g3,g4,g5,g6⟩:=hr;obtain ⟨rfl,st'⟩:=q3;cases D' with
     |nil=>exact ⟨Y',⟨T',H',n',lv,[]⟩,none,m,E',L',⟨g1,g2,g3,g4,g5,rfl⟩,q1,q2,rfl,hmo,st',.inl ⟨rfl,g6⟩⟩
     |cons d D'=>exact g6.elim
    |exit id T' H' D'=>obtain ⟨n',lv,L',g1,g2,g3,g4,g5,g6⟩:=hr;exact g6.elim
    |ret T' H' D'=>obtain ⟨n',lv,L',g1,g2,g3,g4,g5,g6⟩:=hr;exact g6.elim
    |pan v T' H' D'=>obtain ⟨n',lv,L',g1,g2,g3,g4,g5,g6⟩:=hr;exact g6.elim
 | .seq x y,S,u,K,R,Y,L,hL,hf,hD,h,E,a,w,m,hy,st,hmo=>by refine wpS_seq (Code.wpS_mono (λe a cs' w hq=>?_) (b2_ hm hc B pr c₀ cs x S u _ R Y L hL hf hD h E a w m hy st hmo));obtain ⟨Y',S',u',m',E',L',⟨h1,h2,h3,h4,h5,h6⟩,q1,q2,rfl,q3,q4,q5⟩:=hq;rcases q5 with ⟨rfl,q5⟩|⟨rfl,q5⟩;exact Code.wpS_mono (λe a cs' w hq=>DOutV.le h1 h3 h4 q1 hq) (b2_ hm hc B pr c₀ cs y S' u' K R Y' L' h2 h5 h6 q5 E' a w m' q2 q4 q3);exact ⟨Y',S',u',m',E',L',⟨h1,h2,h3,h4,h5,h6⟩,q1,q2,rfl,q3,q4,.inr ⟨rfl,q5⟩⟩
 | .cond cd x y,S,u,K,R,Y,L,hL,hf,hD,h,E,a,w,m,hy,st,hmo=>by
   unfold da_ at h;split at h
   .rename_i t ht;have hl:=st.t.look cd;rw [ht]at hl;refine wpS_cond (t:=t) (by simpa [Con]using hl) ?_;cases t with
    |true=>exact b2_ hm hc B pr c₀ cs x S u K R Y L hL hf hD h E a w m hy st hmo
    |false=>exact b2_ hm hc B pr c₀ cs y S u K R Y L hL hf hD h E a w m hy st hmo
   .split at h
    .rename_i i hi;obtain ⟨t,ht,h1,h2⟩:=h;have st1:St P B pr N E (S.know i t).T (S.know i t).H [] a w:=⟨⟨st.t.size,st.t.le,λq hq=>by show Con E (tget (bd_ (gX_ i t) S.T) q) _;rw [aH_];exact h7_ (by rw [hy.v];exact ht) (st.t.con q hq),st.t.gl⟩,st.r,st.d⟩;have hl:=st1.t.look cd;rw [show look (S.know i t).T cd=.bool t from cx_ hi S.x rfl t]at hl;refine wpS_cond (t:=t) (by grind [Con]) ?_;cases t with
     |true=>exact b2_ hm hc B pr c₀ cs x (S.know i true) u K R Y L hL hf hD (h1 rfl) E a w m hy st1 hmo
     |false=>exact b2_ hm hc B pr c₀ cs y (S.know i false) u K R Y L hL hf hD (h2 rfl) E a w m hy st1 hmo
    exact h.elim
 | .block id b,S,u,K,R,Y,L,hL,hf,hD,h,E,a,w,m,hy,st,hmo=>by
   refine ed_ (b2_ hm hc B pr c₀ cs b S u K R Y L hL hf hD h E a w m hy st hmo) λe a cs' w hq=>?_;obtain ⟨Y',S',u',m',E',L',_,_,_,_,_,_,q5⟩:=hq
   grind
 | .exit _,S,u,K,R,Y,L,hL,hf,hD,h,E,a,w,m,hy,st,hmo=>by exact h.elim
 | .label _,S,u,K,R,Y,L,hL,hf,hD,h,E,a,w,m,hy,st,hmo=>by exact h.elim
 | .loop _,S,u,K,R,Y,L,hL,hf,hD,h,E,a,w,m,hy,st,hmo=>by exact h.elim
 | .scope _,S,u,K,R,Y,L,hL,hf,hD,h,E,a,w,m,hy,st,hmo=>by exact h.elim
 | .goto _,S,u,K,R,Y,L,hL,hf,hD,h,E,a,w,m,hy,st,hmo=>by exact h.elim
 | .refuse _,S,u,K,R,Y,L,hL,hf,hD,h,E,a,w,m,hy,st,hmo=>by exact h.elim
 | .rangeFunc _ _ _ _,S,u,K,R,Y,L,hL,hf,hD,h,E,a,w,m,hy,st,hmo=>by exact h.elim
theorem jd_ (hm:P.follows .mixedOrders=true) (hc:an_ P (aM_ P fuel)) {fn:Func} {fin:FRes->Nat->Nat->VT} {Q':Sy->FRes->Prop} {B:World} {pr:Nat->Prop} {tmps:Array Value}:∀(D:Dfs) (T:Tm) (H:AHeap) (n lv:Nat) (u:Option AV) (Y:Sy) (L:LVs),L.length=lv->Good P c n Y->VOK P Q L Y (d5_ P fuel I c fn.results.toList fin D T H n lv u)->
  (∀r n' lv' L' Y',L <+: L'->L'.length=lv'->n<=n'->Ext n Y Y'->Good P c n' Y'->VOK P Q L' Y' (fin r n' lv')->Q' Y' r)->
  ∀E w ds m,E.At Y->TRel E N T tmps->Rel B pr E H w->DRel P E D ds->ModeAt E u m->Leaves P fn tmps (λe w'=>∃Y r,Q' Y r/\kt_ c.k B pr E Y r e w') ds m w
 |[],T,H,n,lv,u,Y,L,hL,hf,h,hfin,E,w,ds,m,hy,ht,hr,hd,hmo=>by unfold d5_ at h;split at h;rename_i r hl;have hq:=hfin r n lv L Y (List.prefix_refl L) hL (Nat.le_refl _) (Ext.refl _ _) hf h;refine Leaves.mono (λe w ⟨E',g1,g2⟩=>⟨Y,r,hq,E',g1.leF _,hy.le g1,g2⟩) _ _ _ (cS_ hc (λN=>fV_ hm hc N) [] H u r hl E w ds m ht hr hd hmo);exact h.elim
 |(f,args)::D,T,H,n,lv,u,Y,L,hL,hf,h,hfin,E,w,ds,m,hy,ht,hr,hd,hmo=>by
  obtain ⟨vs,ds',rfl,h2,h3,h4⟩:=hd;unfold d5_ at h;split at h
  case h_2=>exact h.elim
  rename_i fd hfd;split at h
  case h_2=>exact h.elim
  rename_i cd hb;split at h
  case h_2=>exact h.elim
  rename_i hle;obtain ⟨a1,hle⟩:=aa_ hle;obtain ⟨a2,hle⟩:=aa_ hle;obtain ⟨a3,a4⟩:=aa_ hle;have a1:args.length<=fd.ntmps:=(by grind [aj_,Nat.ble_eq]);have a2:fd.ntmps<=512:=(by simp_all);have a4:c.k<=H.next:=Nat.le_of_ble_eq_true a4;refine ⟨hmo.ne_run,.func f,#[],f,⟨vs⟩,rfl,by simp [invoke,dN_ h3],CallsD.mono (λe m' w' hq=>?_) (callsD_of_wpS (R:=λe m' w'=>∃(v:Value) (E':Env) (u':Option AV) (Y':Sy) (S':VS) (L':LVs),e=.returned v/\(L <+: L'/\L'.length=S'.lv/\n<=S'.n/\Ext n Y Y'/\Good P c S'.n Y')/\E.leF H.next E'/\E'.At Y'/\ModeIn E' u' m'/\Rel B pr E' S'.H w'/\VOK P Q L' Y' (d5_ P fuel I c fn.results.toList fin D (bd_ (bK_ H.next n) T) S'.H S'.n S'.lv u')) hfd hb λc₀ cs hmode=>?_)⟩;obtain ⟨v,E',u',Y',S',L',rfl,⟨g1,g2,g3,g4,g5⟩,g6,g7,g8,g9,g10⟩:=hq;have hkeep:Keeps H.next n E E':=⟨g6.phi,g6.sz,g6.imm,λi hi=>by rw [g7.v,hy.v];exact g4 i hi⟩;have ht':TRel E' N (bd_ (bK_ H.next n) T) tmps:=⟨ht.size,ht.le,λt hN=>by rw [aH_];exact jM_ hkeep (j1_ (ht.con t hN)),ht.gl.leF g6⟩;have hlek:E.leF c.k E':=⟨λi x hi=>g6.phi i x (Nat.lt_of_lt_of_le hi a4),g6.sz,g6.imm,g6.bim,g6.sy⟩;have ih:=jd_ hm hc (fn:=fn) (Q':=Q') (B:=B) (pr:=pr) (tmps:=tmps) D (bd_ (bK_ H.next n) T) S'.H S'.n S'.lv u' Y' L' g2 g5 g10 (λr n' lv' L2 Y2 k1 k2 k3 k4 k5 k6=>hfin r n' lv' L2 Y2 (g1.trans k1) k2 (Nat.le_trans g3 k3) (g4.trans k4 g3) k5 k6) E' w' ds' (Go.settle m') g7 ht' g9 (gr_ hkeep a3 h4) g8.settle;exact Leaves.mono (λe w ⟨Y2,r,k1,E2,k2,k3⟩=>⟨Y2,r,k1,E2,hlek.trans k2,k3⟩) _ _ _ ih
  .have st:St P B pr fd.ntmps E (aX_ args 0 tnil) H [] { tmps:=(⟨vs⟩:Array Value)++Array.replicate (fd.ntmps-(⟨vs⟩:Array Value).size) undef,defers:=[] } w:=
     ⟨eY_ ht.gl h2 a1 a2,hr,rfl⟩
   have hc₀:c₀={ c₀ with mode:=m }:=(by rw [←hmode]);have hrun:=b2_ (N:=fd.ntmps) (c:=⟨c.fc,c.cs,[],H.next,c.own,c.fs⟩) (I:=I) hm hc B pr c₀ cs cd ⟨aX_ args 0 tnil,H,n,lv,[]⟩ u _ _ Y L hL hf rfl h E _ w m hy st hmo.in;rw [←hc₀]at hrun;refine Code.wpS_mono (λe a cs' w' hq=>?_) hrun;obtain ⟨Y',S',u',m',E',L',⟨g1,g2,g3,g4,g5,g6⟩,q1,q2,rfl,q3,q4,q5⟩:=hq;have key:VOK P Q L' Y' (match dK_ P S'.T S'.H fd.results.toList with
     |some _=>d5_ P fuel I c fn.results.toList fin D (bd_ (bK_ H.next n) T) S'.H S'.n S'.lv u'
     |none=>.bad):=by
    grind
   split at key;rename_i l hl;obtain ⟨v,r1,r2⟩:=gf_ q4.r q4.t hl;rcases q5 with ⟨rfl,_⟩|⟨rfl,_⟩;exact ⟨q4.d,m',rfl,v,r1,v,E',u',Y',S',L',rfl,⟨g1,g2,g3,g4,g5⟩,q1,q2,q3,q4.r,key⟩;exact ⟨q4.d,m',rfl,v,r1,v,E',u',Y',S',L',rfl,⟨g1,g2,g3,g4,g5⟩,q1,q2,q3,q4.r,key⟩;exact key.elim
theorem ks_ (hm:P.follows .mixedOrders=true) (hc:an_ P (aM_ P fuel)) {fn:Func} {fin:FRes->Nat->Nat->VT} {Q':Sy->FRes->Prop} {u:Option AV} {S:VS} {Y:Sy} {L:LVs} (hL:L.length=S.lv) (hf:Good P c S.n Y) (h:VOK P Q L Y (lm_ P fuel I c fn.results.toList fin u S))
  (hfin:∀r n' lv' L' Y',L <+: L'->L'.length=lv'->S.n<=n'->Ext S.n Y Y'->Good P c n' Y'->VOK P Q L' Y' (fin r n' lv')->Q' Y' r):d6_ P c.k fn Q' Y S.T S.H S.D u:=by
 unfold lm_ at h;split at h;rename_i r hl;exact .inl ⟨aM_ P fuel,fuel,r,hc,hl,hfin r S.n S.lv L Y (List.prefix_refl L) hL (Nat.le_refl _) (Ext.refl _ _) hf h⟩;exact .inr λB pr E w tmps ds m hy ht hr hd hmo=>jd_ hm hc S.D S.T S.H S.n S.lv u Y L hL hf h hfin E w ds m hy ht hr hd hmo
theorem sM_ (hm:P.follows .mixedOrders=true) (hc:an_ P (aM_ P fuel)) {f:FuncId} {args:List AV} {n:Nat} {Y:Sy} (hf:Good P c n Y) (h:VOK P Q [] Y (tP_ P fuel I c f args n)):SemCallF P c.k Y f args H0 (eP_ Q):=by
 unfold tP_ at h;split at h
 .rename_i fn hfn;split at h
  .rename_i cd hb;split at h
   .rename_i hle;obtain ⟨h1,h2⟩:=aa_ hle;have h1:args.length<=fn.ntmps:=(by grind [aj_,Nat.ble_eq]);have h2:fn.ntmps<=512:=(by simp_all);have fin:∀u L Y' S,L.length=S.lv->Good P c S.n Y'->VOK P Q L Y' (o5_ P fuel I c fn.results.toList u S)->d6_ P c.k fn (eP_ Q) Y' S.T S.H S.D u:=by
     intro u L Y' S hL hg h;refine ks_ hm hc hL hg h λr n' lv' L' Y' _ _ _ _ _ h=>?_;cases r with
     |pan a H=>exact (show False from h).elim
     |ret a H=>unfold rI_ rJ_ at h;simp only at h;split at h;rename_i v hv;split at h;rename_i hs;exact ⟨a,H,v,100,rfl,hv,hs,h⟩;exact h.elim;exact h.elim
    refine nX_ hm hfn hb ⟨h1,h2,au_ cd (λY' T' H' D' hk=>?_) (λY' r hx=>?_) _ _ _ _ (bT_ hm hc cd 0 ⟨aX_ args 0 tnil,H0,n,0,[]⟩ _ _ Y [] rfl hf h)⟩
    .obtain ⟨n',lv,L',_,q2,_,_,q5,h'⟩:=hk
     grind
    .cases r with
     |norm T H D=>exact hx.elim
     |pan v T H D=>obtain ⟨n',lv,L',_,q2,_,_,q5,h'⟩:=hx;exact fin (some v) L' Y' ⟨T,H,n',lv,D⟩ q2 q5 h'
     |exit id T H D=>obtain ⟨n',lv,L',_,_,_,_,_,h'⟩:=hx;exact h'.elim
     |ret T H D=>obtain ⟨n',lv,L',_,q2,_,_,q5,h'⟩:=hx;exact fin none L' Y' ⟨T,H,n',lv,D⟩ q2 q5 h'
   exact h.elim
  exact h.elim
 exact h.elim
theorem SemCallF.low {k:Nat} {Y:Sy} {f:FuncId} {args:List AV} {H:AHeap} {R:Sy->FRes->Prop} (h:SemCallF P k Y f args H R):SemCallF P 0 Y f args H R:=λB pr E w vs hy hg hr hcon=>
 Calls.mono (h B pr E w vs hy hg hr hcon) λe w' he=>by obtain ⟨Y',r,h1,E',h2,h3⟩:=he;exact ⟨Y',r,h1,E',⟨λ_ _ hi=>absurd hi (Nat.not_lt_zero _),h2.sz,h2.imm,h2.bim,h2.sy⟩,h3⟩
def FEndW (P:Program) (ft:FT) (R:Nat->List AV->Prop) (Y0:Sy) (Y:Sy) (r:FRes):Prop:=
 ∃b a H j ws tp,r=(match b with
  |true=>.pan a H
  |false=>.ret a H)/\ft.exs[j]? =some (b,tp)/\R j ws/\okL ws=true/\ws.length=tp.nv/\∀N,Weak P N ft.k Y (eM_ topq 0 a) H [] (Y0.puts (Nat.add 64 ft.ent.nv) ws) (c2_ (Nat.add 64 ft.ent.nv) tp.slots) (tp.heap (Nat.add 64 ft.ent.nv)) []
theorem FEndW.call {ft:FT} {R:Nat->List AV->Prop} {Y0:Sy} {f:FuncId} {args:List AV} {H:AHeap} (h:SemCallF P ft.k Y0 f args H (FEndW P ft R Y0)):SemCallF P ft.k Y0 f args H (t6_ ft (Nat.add 64 ft.ent.nv) Y0 R):=λB pr E w vs hy hg hr hcon=>
 Calls.mono (h B pr E w vs hy hg hr hcon) λe w' he=>by
  obtain ⟨Y',r,⟨b,a,H',j,ws,tp,rfl,h1,h2,h3,h4,hw⟩,E',hle,hy',hres⟩:=he;have hend:∃u,e=(match b with
    |true=>.panicked [{ v:=u,recovered:=false }]
    |false=>.returned u)/\Con E' a u/\Rel B pr E' H' w':=by
   grind
  obtain ⟨u,he,hcu,hr'⟩:=hend;have hgl:GlOk E':=hg.leF hle
  let ac:Act:={ tmps:= #[u],defers:=[] }
  have st:St P B pr 1 E' (eM_ topq 0 a) H' [] ac w':=⟨⟨rfl,by omega,λt ht=>by
   by_cases e:0=t;subst e;exact hcu
   grind [ar_,cq_,Con],hgl⟩,hr',rfl⟩
  obtain ⟨E2,hle2,hy2,st2⟩:=hw 1 B pr E' ac w' hy' st;have hcu2:=st2.t.con 0 (by omega);refine ⟨_,_,⟨j,ws,b,tp,h1,h2,h3,h4,rfl,rfl⟩,E2,hle.trans hle2,hy2,?_⟩;cases b with
  |true=>exact ⟨u,he,hcu2,st2.r⟩
  |false=>exact ⟨u,he,hcu2,st2.r⟩
theorem sN_ (hm:P.follows .mixedOrders=true) (hc:an_ P (aM_ P fuel)) {g:FuncId} {args:List AV} {H:AHeap} {n lv:Nat} {ret pan:AV->AHeap->Nat->Nat->VT} {L:List (Nat->List AV->Prop)} {Y:Sy} (hL:L.length=lv) (hf:Fresh Y n/\KnownF P c.fc Y)
  (h:VOK P Q L Y (tR_ P fuel I c g args H n lv ret pan)):SemCallF P H.next Y g args H (INL P Q c.fc L n Y ret pan):=by
 unfold tR_ at h;split at h
 .rename_i fn hfn;split at h
  .rename_i cd hb;split at h
   .rename_i hle;obtain ⟨h1,h2⟩:=aa_ hle;have h1:args.length<=fn.ntmps:=(by grind [aj_,Nat.ble_eq]);have h2:fn.ntmps<=512:=(by simp_all);have fin:∀u L' Y' (S:VS),L <+: L'->L'.length=S.lv->n<=S.n->Ext n Y Y'->(Fresh Y' S.n/\KnownF P c.fc Y')->VOK P Q L' Y' (o6_ P fuel I ⟨c.fc,c.cs,[],H.next,c.own,c.fs⟩ fn.results.toList ret pan u S)->d6_ P H.next fn (INL P Q c.fc L n Y ret pan) Y' S.T S.H S.D u:=by
     intro u L' Y' S hp hl hn hx hg h;refine ks_ (c:=⟨c.fc,c.cs,[],H.next,c.own,c.fs⟩) hm hc hl hg h λr n' lv' L2 Y2 k1 k2 k3 k4 k5 h=>?_;refine ⟨n',lv',L2,hp.trans k1,k2,Nat.le_trans hn k3,hx.trans k4 hn,k5,?_⟩;cases r with
     |ret a H=>exact h
     |pan a H=>exact h
    refine nX_ hm hfn hb ⟨h1,h2,au_ cd (λY' T' H' D' hk=>?_) (λY' r hx=>?_) _ _ _ _ (bT_ (c:=⟨c.fc,c.cs,[],H.next,c.own,c.fs⟩) hm hc cd 0 ⟨aX_ args 0 tnil,H,n,lv,[]⟩ _ _ Y L hL hf h)⟩;obtain ⟨n',lv',L',q1,q2,q3,q4,q5,q6⟩:=hk;exact fin none L' Y' ⟨T',H',n',lv',D'⟩ q1 q2 q3 q4 q5 q6
    .cases r with
     |norm T H D=>exact hx.elim
     |pan v T H D=>obtain ⟨n',lv',L',q1,q2,q3,q4,q5,q6⟩:=hx;exact fin (some v) L' Y' ⟨T,H,n',lv',D⟩ q1 q2 q3 q4 q5 q6
     |exit id T H D=>obtain ⟨n',lv',L',_,_,_,_,_,q6⟩:=hx;exact (show False from q6).elim
     |ret T H D=>obtain ⟨n',lv',L',q1,q2,q3,q4,q5,q6⟩:=hx;exact fin none L' Y' ⟨T,H,n',lv',D⟩ q1 q2 q3 q4 q5 q6
   exact (show False from h).elim
  exact (show False from h).elim
 exact (show False from h).elim
end
def inN (P:Program) (fuel:Nat):Nat->Inl P fuel
 |0=>in0 P fuel
 |d+1=>⟨λc g args H n lv ret pan=>tR_ P fuel (inN P fuel d) c g args H n lv ret pan,λhm hc hL hf h=>sN_ hm hc hL hf h⟩
def vFn (P:Program) (fuel:Nat) (c:VC) (f:FuncId) (args:List AV) (n:Nat):VT:=tP_ P fuel (inN P fuel 12) c f args n
theorem tQ_ {P:Program} {Q:AV->Prop} {fuel:Nat} {c:VC} (hm:P.follows .mixedOrders=true) (hc:an_ P (aM_ P fuel)) {f:FuncId} {args:List AV} {n:Nat} {Y:Sy} (hf:Good P c n Y) (h:VOK P Q [] Y (vFn P fuel c f args n)):SemCallF P c.k Y f args H0 (eP_ Q):=sM_ hm hc hf h
end Go.Sx
namespace Go.Sx
section
variable [Gl] {P:Program} {Q:AV->Prop} {L:List (Nat->List AV->Prop)} {Y:Sy}
theorem t8_ {v:AV} (h:Q (den Y.v v)):VOK P Q L Y (.done v):=h
end
theorem uz_ [Gl] {P:Program} (hm:P.follows .mixedOrders=true) (ho:ku_ P) {f:FuncId} {args args' ls:List AV} {v:AV} {c:VC} {n m:Nat} {t:VT} (hok:mm_ args=true) (hso:ad_ args'=true) (hls:okL ls=true) (hv:bL_ v=true)
  (hden:∀Y,Fresh Y 64->ab_ (Y.puts 64 ls).v args'=args) (hk:∀Y,Fresh Y 64->KnownF P c.fc (Y.puts 64 ls)) (hm':64+ls.length=m) (ht:vFn P n c f args' m=t) (h:∀Y,Fresh Y 64->Gl.gt Y.v->VOK P (· =v) [] (Y.puts 64 ls) t):kv_ P f args v:=
 pure_sym (args':=args') hok hv hso hls hden λY hf hg=>
  (tQ_ (c:=c) (n:=m) hm (dt_ hm ho n) ⟨by have:=(hf.puts ls).1;grind,hk Y hf⟩ (by grind)).low
theorem u0_ [Gl] {P:Program} (Y:Sy):KnownF P ⟨[],[]⟩ Y:=⟨λf h=>(List.not_mem_nil h).elim,λf h=>(List.not_mem_nil h).elim⟩
def uf_ {α:Type} (enc:α->List AV):List α->List AV
 |[]=>[]
 |a::r=>enc a++uf_ enc r
section
variable {α:Type} {enc:α->List AV} {w:Nat}
variable {P:Program} {t e:TypeId} {ti:TypeInfo}
end
def th_ {α:Type} (enc:α->List AV) (w:Nat) (l:List α):AV:=.vsl l.length w (uf_ enc l)
def SlV {α:Type} (enc:α->List AV) (w:Nat) (l:List α) (a:AV):Prop:=a=th_ enc w l\/(l=[]/\a=.nsl)
section
variable {α:Type} {enc:α->List AV} {w:Nat}
theorem SlV.v (l:List α):SlV enc w l (th_ enc w l):=.inl rfl
variable {P:Program} {t e:TypeId} {ti:TypeInfo}
end
end Go.Sx
