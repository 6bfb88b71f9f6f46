/-
  Regions whose order is open, with calls that take rows: in every order, but for what moves values alone.
-/
import Derived.Test.YtbjjpimpabbpdaaGreatDoorSyO
import Derived.Test.YtbjjpimpabbpdaaGreatDoorSyH
import Derived.Test.YtbjjpimpabbpdaaGreatDoorSyM
set_option linter.unusedVariables false
set_option linter.unusedSimpArgs false
namespace Go.Sx
theorem Oper.wp_mono3 {P:Program} {o:Oper} {a:Act} {w:World} {K K':Act->World->Prop} {Q Q':Exit->Act->World->Prop} (h:∀a w,K a w->K' a w) (hq:∀e a w,e≠ .normal->Q e a w->Q' e a w)
  (hh:o.wp P a w K Q):o.wp P a w K' Q':=by
 unfold Oper.wp at*;generalize (execOp a.eval o).run P w=r at*;cases r with
 |ok n w'=>
  cases n<;>simp only [Oper.upon]at hh⊢<;>
   first
    |exact h _ _ hh
    |exact Calls.mono hh (λe w'' he=>by cases e<;>first|exact h _ _ he|exact hq _ _ _ (λe=>by cases e) he|exact he.imp λ_ hx=>hx.imp λ_ hy=>hq _ _ _ (λe=>by cases e) hy)
    |exact Rows.mono hh (λ_ _ he=>h _ _ he)
 |halt x w'=>cases x<;>simp only [Oper.upon]at hh⊢<;>first|exact hh|exact hq _ _ _ (λe=>by cases e) hh
theorem hY_ {m:Nat}:∀{l:List Edge},ln_ m l=true↔∀e∈l,Region.binds .any e=true->bit m e.on=true
 |[]=>by simp [ln_]
 |e::r=>by
  unfold ln_;rw [dB_];cases hb:Region.binds .any e with
  |true=>simp [hY_ (l:=r),hb]
  |false=>simp [hY_ (l:=r),hb]
theorem i1_ {m:Nat}:∀{l:List Oper} {k:Nat} {x:I_q},x∈i0_ m l k↔∃j,x.i=k+j/\l[j]? =some x.o/\bit m x.i=false/\∀e∈x.o.after,Region.binds .any e=true->bit m e.on=true
 |[],k,x=>by simp [i0_]
 |o::r,k,x=>by
  have ih:=i1_ (m:=m) (l:=r) (k:=Nat.succ k) (x:=x);have key:(∃j,x.i=k+j/\(o::r)[j]? =some x.o/\bit m x.i=false/\∀e∈x.o.after,Region.binds .any e=true->bit m e.on=true)↔
    (x.i=k/\o=x.o/\bit m x.i=false/\∀e∈x.o.after,Region.binds .any e=true->bit m e.on=true)\/x∈i0_ m r (Nat.succ k):=by
   rw [ih];constructor
   .rintro ⟨j,h1,h2,h3⟩;cases j with
    |zero=>exact .inl ⟨by simpa using h1,by simpa using h2,h3⟩
    |succ j=>exact .inr ⟨j,by omega,by simpa using h2,h3⟩
   rintro (⟨h1,h2,h3⟩|⟨j,h1,h2,h3⟩);exact ⟨0,by simpa using h1,by simpa using h2,h3⟩;exact ⟨j+1,by omega,by simpa using h2,h3⟩
  rw [key];have eq:i0_ m (o::r) k=(match not (bit m k)&&ln_ m o.after.toList with
   |true=>⟨k,o⟩::i0_ m r (Nat.succ k)
   |false=>i0_ m r (Nat.succ k)):=rfl
  rw [eq];cases hb:(not (bit m k)&&ln_ m o.after.toList)with
  |true=>
   simp only [List.mem_cons];have hb':bit m k=false/\∀e∈o.after,Region.binds .any e=true->bit m e.on=true:=by simp only [Bool.and_eq_true,Bool.not_eq_true']at hb;exact ⟨hb.1,λe he=>hY_.1 hb.2 e (by simpa using he)⟩
   constructor;rintro (rfl|h);exact .inl ⟨rfl,rfl,hb'⟩;exact .inr h;rintro (⟨h1,h2,h3⟩|h);refine .inl ?_;obtain ⟨i,o'⟩:=x;simp only at h1 h2;rw [h1,h2];exact .inr h
  |false=>simp only;constructor;exact .inr;rintro (⟨h1,h2,h3,h4⟩|h);exfalso;rw [h1]at h3;have:ln_ m o.after.toList=true:=hY_.2 λe he=>h4 e (by rw [←h2];simpa using he);rw [h3,this]at hb;cases hb;exact h
theorem or_ {i:Nat}:∀{l:List Edge},sa_ i l=true->∃e∈l,Region.binds .any e=true/\e.on=i
 |[],h=>by cases h
 |e::r,h=>by unfold sa_ at h;split at h;rename_i hb;simp only [Bool.and_eq_true]at hb;exact ⟨e,List.mem_cons_self,by rw [←dB_];exact hb.1,Nat.eq_of_beq_eq_true hb.2⟩;obtain ⟨e',h1,h2⟩:=or_ h;exact ⟨e',List.mem_cons_of_mem _ h1,h2⟩
theorem jg_ {t:Nat}:∀{l:List Operand},Operand.tmp t∈l->t∈ec_ l
 |[],h=>by simp at h
 |x::r,h=>by
  rcases List.mem_cons.1 h with h|h;subst h;unfold ec_;exact List.mem_cons_self
  .have ih:=jg_ h;cases x<;>unfold ec_<;>first|exact List.mem_cons_of_mem _ ih|exact ih
theorem q0_ {t:Nat} {l:List Nat} (h:memT t l=false):t∉l:=λhm=>by rw [f9_ hm]at h;cases h
theorem jx_ {ops:Array Oper} {o:Oper} {d:Nat} (h:d∈o.looksAt ops):d∈cU_ ops.toList o:=by
 unfold Oper.looksAt at h;unfold cU_;rcases List.mem_append.1 h with h|h;obtain ⟨x,h1,h2⟩:=List.mem_filterMap.1 h;have hx:x=.tmp d:=(by cases x<;>simp at h2;rw [h2]);have:=jg_ (hx▸h1);split;exact this;split;split;exact List.mem_cons_of_mem _ this;exact this;exact this
 .split at h
  .rename_i g b hg;rw [hg];simp only [iO_];cases ho:ops[g]? with
   |none=>rw [ho]at h;simp at h
   |some og=>
    rw [ho]at h;have ho':ops.toList[g]? =some og:=(by simpa using ho);rw [ho'];cases hd:og.dst with
    |none=>simp [hd]at h
    |some d'=>simp [hd]at h;subst h;simp only [hd];exact List.mem_cons_self
  simp at h
theorem pp_ {ops:Array Oper} {x y:Oper} (h:apartB ops.toList x y=true):x.apart ops y=true:=by
 unfold apartB at h;unfold Oper.apart;have key:∀(o:Oper) (d:Nat),memT d (cU_ ops.toList o)=false->(o.looksAt ops).contains d=false:=λo d hm=>by
  cases hc:(o.looksAt ops).contains d with
  |false=>rfl
  |true=>exact absurd (jx_ (by simpa using hc)) (q0_ hm)
 cases hx:x.dst with
 |none=>
  cases hy:y.dst with
  |none=>rfl
  |some e=>simp only [hx,hy,Bool.true_and,Bool.not_eq_true']at h⊢;exact key _ _ h
 |some d=>
  cases hy:y.dst with
  |none=>simp only [hx,hy,Bool.and_true,Bool.not_eq_true']at h⊢;rw [key _ _ h];rfl
  |some e=>simp only [hx,hy,Bool.and_eq_true,Bool.not_eq_true']at h⊢;obtain ⟨⟨h1,h2⟩,h3⟩:=h;refine ⟨⟨key _ _ h1,?_⟩,key _ _ h3⟩;have:d≠e:=λhde=>(by subst hde;rw [Nat.beq_refl]at h2;cases h2);simp only [bne_iff_ne,ne_eq,Option.some.injEq];exact λh=>this h.symm
theorem me_ {all:List Oper} {m i:Nat} {x:Oper}:∀{l:List Oper} {k:Nat},md_ all m i x l k=true->∀(j:Nat) (y:Oper),l[j]? =some y->k+j≠i->bit m (k+j)=false->(∀e∈y.after,Region.binds .any e=true->e.on≠i)->apartB all x y=true
 |[],k,h,j,y,hj,_,_,_=>by simp at hj
 |o::r,k,h,j,y,hj,h1,h2,h3=>by
  unfold md_ at h;obtain ⟨h,hr⟩:=aa_ h;cases j with
  |zero=>simp at hj;subst hj;simp only [Nat.add_zero]at h1 h2;simp only [Bool.or_eq_true]at h;rcases h with h|h|h|h;exact absurd (Nat.eq_of_beq_eq_true h) h1;rw [h2]at h;cases h;obtain ⟨e,he,hb,ho⟩:=or_ h;exact absurd ho (h3 e (by simpa using he) hb);exact h
  |succ j=>exact me_ hr j y (by simpa using hj) (by rw [show Nat.succ k+j=k+(j+1) by omega];exact h1) (by rw [show Nat.succ k+j=k+(j+1) by omega];exact h2) h3
theorem mE_:∀{l:List Oper},mD_ l=true->∀(j:Nat) (o:Oper) cs b,l[j]? =some o->o.op≠ .select cs b
 |[],h,j,o,cs,b,hj,_=>by simp at hj
 |x::r,h,j,o,cs,b,hj,ho=>by
  unfold mD_ at h;cases j with
  |zero=>simp at hj;subst hj;rw [ho]at h;cases h
  |succ j=>split at h;cases h;exact mE_ h j o cs b (by simpa using hj) ho
theorem kO_ {N:Nat}:∀{l:List Oper},qC_ N l=true->∀o∈l,∀d,o.dst=some d->d<N
 |[],h,o,ho,_,_=>by simp at ho
 |x::r,h,o,ho,d,hd=>by unfold qC_ at h;obtain ⟨h1,h2⟩:=aa_ h;rcases List.mem_cons.1 ho with rfl|ho;rw [hd]at h1;simpa [Nat.blt_eq]using h1;exact kO_ h2 o ho d hd
theorem gr_:∀(l:List Oper) (T:Tm) (t:Nat),t<512->(∀o∈l,∀d,o.dst=some d->d<512)->tget (fj_ l T) t=tget T t\/tget (fj_ l T) t=.opq
 |[],T,t,_,_=>.inl rfl
 |o::r,T,t,ht,hd=>by
  have hr:∀o∈r,∀d,o.dst=some d->d<512:=λo ho=>hd o (List.mem_cons_of_mem _ ho);unfold fj_;cases ho:o.dst with
  |none=>exact gr_ r T t ht hr
  |some d=>have hd':=hd o List.mem_cons_self d ho;simp only;rcases gr_ r (dx_ T d .opq) t ht hr with h|h;by_cases e:d=t;subst e;rw [ap_ T ht]at h;exact .inr h;rw [av_ T ht hd' e]at h;exact .inl h;exact .inr h
theorem eT_:∀(l:List Oper) (T:Tm) (d:Nat),(∀o∈l,∀d,o.dst=some d->d<512)->((∃o∈l,o.dst=some d)\/(d<512/\tget T d=.opq))->tget (fj_ l T) d=.opq
 |[],T,d,_,h=>by rcases h with ⟨o,ho,_⟩|h;simp at ho;exact h.2
 |o::r,T,d,hd,h=>by
  have hr:∀o∈r,∀d,o.dst=some d->d<512:=λo ho=>hd o (List.mem_cons_of_mem _ ho);unfold fj_;cases ho:o.dst with
  |none=>refine eT_ r T d hr ?_;rcases h with ⟨o',h1,h2⟩|h;rcases List.mem_cons.1 h1 with rfl|h1;rw [ho]at h2;cases h2;exact .inl ⟨o',h1,h2⟩;exact .inr h
  |some e=>have he:=hd o List.mem_cons_self e ho;simp only;by_cases hde:e=d;subst hde;exact eT_ r _ e hr (.inr ⟨he,ap_ T he _⟩);refine eT_ r _ d hr ?_;rcases h with ⟨o',h1,h2⟩|h;rcases List.mem_cons.1 h1 with rfl|h1;rw [ho]at h2;cases h2;exact absurd rfl hde;exact .inl ⟨o',h1,h2⟩;exact .inr ⟨h.1,by rw [av_ T h.1 he hde];exact h.2⟩
section
variable [Gl]
theorem q5_ {P:Program} {ops:Array Oper} {N:Nat} {E:Env} {T:Tm} {a:Act} {o:Oper} {q:AV} (h:oS_ P T o=some q) (ht:TRel E N T a.tmps):
  ∃v,Yields P ops o v a/\Con E q v:=by
 obtain ⟨dst,op,type,pos,after,guard⟩:=o;unfold oS_ at h;simp only at h;cases guard with
 |some g=>cases h
 |none=>simp only at h;split at h;rename_i x;cases h;exact ⟨a.eval x,.inl ⟨rfl,λw=>by simp [execOp]⟩,ht.look x⟩;rename_i x;split at h;rename_i id off hx;cases h;have hc:=ht.look x;rw [hx]at hc;have hc':=hc;simp only [Con]at hc;obtain ⟨b,o,h1,h2⟩:=hc;exact ⟨a.eval x,.inl ⟨rfl,λw=>by simp [execOp,h2]⟩,hc'⟩;cases h;rename_i s x f;split at h;rename_i id off hx;have hc:=ht.look x;rw [hx]at hc;unfold bX_ at h;split at h;rename_i fields hd;split at h;rename_i fl hfl;split at h;rename_i i hi;split at h;cases h;rename_i n hn;simp only at h;cases h;simp only [Con]at hc;obtain ⟨b,o,hφ,h2⟩:=hc;refine ⟨.pointer (some ⟨b,o+(off+fl.offset),none⟩),.inl ⟨rfl,λw=>?_⟩,by simp only [Con];exact ⟨b,o,hφ,rfl⟩⟩;simp [execOp,h2,Instr.fieldAt,run_underlying hd,hfl,Instr.sureAddr,fieldPlace,ai_ hi,hn,Addr.add_lit,Nat.add_assoc];cases h;cases h;cases h;cases h;rename_i x i;split at h;rename_i cs hx;have hc:=ht.look x;rw [hx]at hc;simp only [Con]at hc;obtain ⟨vs,h2,hL⟩:=hc;rw [hV_]at h;obtain ⟨u,hu,hcu⟩:=hL.at i q h;exact ⟨u,.inl ⟨rfl,λw=>by simp [execOp,h2,Instr.extract,hu]⟩,hcu⟩;cases h;cases h
def XB (ops:List Oper) (X:XP):XP:=λY r=>match r with
 | .pan v T H D=>(∀o∈ops,∀d,o.dst=some d->tget T d=.opq)/\X Y (.pan v T H D)
 |r=>X Y r
omit [Gl]in
theorem tj_ {ops:List Oper} {K:KP} {X:XP} {Y:Sy} {r:CRes} (h:ax_ K (XB ops X) Y r):ax_ K X Y r:=by
 cases r with
 |pan v T H D=>exact h.2
 |norm T H D=>exact h
 |exit i T H D=>exact h
 |ret T H D=>exact h
section
variable {P:Program} {N:Nat} {Q:AV->Prop} {fuel:Nat} {I:Inl P fuel} {c:VC}
theorem ub_ {B:World} {pr:Nat->Prop} {k:Nat} {E:Env} {ops:Array Oper} {K:KP} {X:XP} {o:Oper} (ho:o∈ops.toList) (hd:∀d,o.dst=some d->d<N) {v:Value} {ch:List PanicEntry} {a:Act} {w:World}
  (h:OutF P B pr N k E (ax_ K (XB ops.toList X)) (.panic ch) (a.put o.dst v) w):OutF P B pr N k E (ax_ K (XB ops.toList X)) (.panic ch) a w:=by
 obtain ⟨Y,r,h1,E',h2,h3,h4⟩:=h;cases r with
 |norm T H D=>cases h4.1
 |exit i T H D=>cases h4.1
 |ret T H D=>cases h4.1
 |pan u T H D=>
  obtain ⟨u',h5,h6,st⟩:=h4;refine ⟨Y,.pan u T H D,h1,E',h2,h3,u',h5,h6,?_,st.r,?_⟩
  .refine ⟨?_,st.t.le,λt ht=>?_,st.t.gl⟩
   .have:=st.t.size;cases hdst:o.dst with
    |none=>rw [hdst]at this;exact this
    |some d=>rw [hdst]at this;simpa [Act.put]using this
   .have:=st.t.con t ht;cases hdst:o.dst with
    |none=>rw [hdst]at this;exact this
    |some d=>rw [hdst]at this;by_cases e:t=d;subst e;rw [h1.1 o ho t hdst];simp [Con];simpa [Act.put,Array.getD_eq_getD_getElem?,Array.getElem?_setIfInBounds_ne (Ne.symm e)]using this
  .have:=st.d;cases hdst:o.dst with
   |none=>rw [hdst]at this;exact this
   |some d=>rw [hdst]at this;exact this
omit [Gl]in
theorem ox_:∀{a b:List (Nat×AV)},px_ a b=true->a=b
 |[],[],_=>rfl
 |(i,a)::r,(j,b)::s,h=>by simp only [px_]at h;obtain ⟨h1,h⟩:=aa_ h;obtain ⟨h2,h3⟩:=aa_ h;rw [Nat.eq_of_beq_eq_true h1,aB_ h2,ox_ h3]
 |[],_::_,h=>by simp [px_]at h
 |_::_,[],h=>by simp [px_]at h
omit [Gl]in
theorem oy_:∀{a b:List (Nat×List AV)},py_ a b=true->a=b
 |[],[],_=>rfl
 |(i,a)::r,(j,b)::s,h=>by simp only [py_]at h;obtain ⟨h1,h⟩:=aa_ h;obtain ⟨h2,h3⟩:=aa_ h;rw [Nat.eq_of_beq_eq_true h1,by_ h2,oy_ h3]
 |[],_::_,h=>by simp [py_]at h
 |_::_,[],h=>by simp [py_]at h
omit [Gl]in
theorem kQ_:∀{a b:Option Nat},ns_ a b=true->a=b
 |none,none,_=>rfl
 |some a,some b,h=>by simp only [ns_]at h;rw [Nat.eq_of_beq_eq_true h]
 |none,some _,h=>by simp [ns_]at h
 |some _,none,h=>by simp [ns_]at h
omit [Gl]in
theorem ow_:∀{a b:List (Option Nat)},pw_ a b=true->a=b
 |[],[],_=>rfl
 |a::r,b::s,h=>by simp only [pw_]at h;obtain ⟨h1,h2⟩:=aa_ h;rw [kQ_ h1,ow_ h2]
 |[],_::_,h=>by simp [pw_]at h
 |_::_,[],h=>by simp [pw_]at h
omit [Gl]in
theorem kP_:∀{a b:List (Nat×Nat)},nr_ a b=true->a=b
 |[],[],_=>rfl
 |(i,a)::r,(j,b)::s,h=>by simp only [nr_]at h;obtain ⟨h1,h⟩:=aa_ h;obtain ⟨h2,h3⟩:=aa_ h;rw [Nat.eq_of_beq_eq_true h1,Nat.eq_of_beq_eq_true h2,kP_ h3]
 |[],_::_,h=>by simp [nr_]at h
 |_::_,[],h=>by simp [nr_]at h
omit [Gl]in
theorem l0_:∀{a b:List TA},jY_ a b=true->a=b
 |[],[],_=>rfl
 |⟨a,b,c,d,e⟩::r,⟨a',b',c',d',e'⟩::s,h=>by simp only [jY_]at h;obtain ⟨h1,h⟩:=aa_ h;obtain ⟨h2,h⟩:=aa_ h;obtain ⟨h3,h⟩:=aa_ h;obtain ⟨h4,h⟩:=aa_ h;obtain ⟨h5,h6⟩:=aa_ h;rw [Nat.eq_of_beq_eq_true h1,Nat.eq_of_beq_eq_true h2,Nat.eq_of_beq_eq_true h3,Nat.eq_of_beq_eq_true h4,kQ_ h5,l0_ h6]
 |[],_::_,h=>by simp [jY_]at h
 |_::_,[],h=>by simp [jY_]at h
omit [Gl]in
theorem l1_:∀{a b:Tpl},oz_ a b=true->a=b
 |⟨a,b,c,d,e,f,g⟩,⟨a',b',c',d',e',f',g'⟩,h=>by simp only [oz_]at h;obtain ⟨h1,h⟩:=aa_ h;obtain ⟨h2,h⟩:=aa_ h;obtain ⟨h3,h⟩:=aa_ h;obtain ⟨h4,h⟩:=aa_ h;obtain ⟨h5,h⟩:=aa_ h;obtain ⟨h6,h7⟩:=aa_ h;rw [ox_ h1,oy_ h2,Nat.eq_of_beq_eq_true h3,Nat.eq_of_beq_eq_true h4,l0_ h5,kP_ h6,kP_ h7]
omit [Gl]in
theorem ov_:∀{a b:List (Bool×Tpl)},pv_ a b=true->a=b
 |[],[],_=>rfl
 |(i,a)::r,(j,b)::s,h=>by simp only [pv_]at h;obtain ⟨h1,h⟩:=aa_ h;obtain ⟨h2,h3⟩:=aa_ h;rw [eq_of_beq h1,l1_ h2,ov_ h3]
 |[],_::_,h=>by simp [pv_]at h
 |_::_,[],h=>by simp [pv_]at h
omit [Gl]in
theorem sc_:∀{a b:FT},tp_ a b=true->a=b
 |⟨a,b,c⟩,⟨a',b',c'⟩,h=>by simp only [tp_]at h;obtain ⟨h1,h⟩:=aa_ h;obtain ⟨h2,h3⟩:=aa_ h;rw [Nat.eq_of_beq_eq_true h1,l1_ h2,ov_ h3]
omit [Gl]in
theorem sd_ {a b:XOp} (h:tq_ a b=true):a=b:=by
 unfold tq_ at h;split at h<;>first
  |cases h;done
  |rfl
  |(try simp only [Bool.and_eq_true,decide_eq_true_eq,beq_iff_eq]at h
    first
     |(obtain ⟨h1,h2,h3,h4⟩:=h;rw [h1,Nat.eq_of_beq_eq_true h2,h3,h4])
     |(obtain ⟨h1,h2,h3,h4⟩:=h;rw [Nat.eq_of_beq_eq_true h1,Nat.eq_of_beq_eq_true h2,Nat.eq_of_beq_eq_true h3,Nat.eq_of_beq_eq_true h4])
     |(obtain ⟨h1,h2,h3⟩:=h;rw [Nat.eq_of_beq_eq_true h1,h2,h3])
     |(obtain ⟨h1,h2,h3⟩:=h;rw [Nat.eq_of_beq_eq_true h1,Nat.eq_of_beq_eq_true h2,Nat.eq_of_beq_eq_true h3])
     |(obtain ⟨h1,h2,h3⟩:=h;rw [Nat.eq_of_beq_eq_true h1,Nat.eq_of_beq_eq_true h2,by_ h3])
     |(obtain ⟨h1,h2⟩:=h;rw [Nat.eq_of_beq_eq_true h1,Nat.eq_of_beq_eq_true h2])
     |rw [h]
     |rw [Nat.eq_of_beq_eq_true h])
omit [Gl]in
theorem qE_ {a b:Chk} (h:qD_ a b=true):a=b:=by
 unfold qD_ at h;split at h<;>first
  |cases h;done
  |(obtain ⟨h1,h2⟩:=aa_ h;rw [Nat.eq_of_beq_eq_true h1,Nat.eq_of_beq_eq_true h2])
  |rw [Nat.eq_of_beq_eq_true h]
omit [Gl]in
mutual
theorem cO_:∀{a b:VT},dE_ a b=true->a=b
 | .bad,_,h=>by simp [dE_]at h
 | .done v,b,h=>by cases b<;>simp only [dE_]at h<;>first|cases h;done|rw [aB_ h]
 | .ite i a1 a2,b,h=>by
   cases b<;>simp only [dE_]at h<;>first|cases h;done|skip
   obtain ⟨h1,h⟩:=aa_ h;obtain ⟨h2,h3⟩:=aa_ h;rw [Nat.eq_of_beq_eq_true h1,cO_ h2,cO_ h3]
 | .lt o l n m t,b,h=>by
   cases b<;>simp only [dE_]at h<;>first|cases h;done|skip
   obtain ⟨h1,h⟩:=aa_ h;obtain ⟨h2,h⟩:=aa_ h;obtain ⟨h3,h⟩:=aa_ h;obtain ⟨h4,h5⟩:=aa_ h;rw [sd_ h1,by_ h2,Nat.eq_of_beq_eq_true h3,kQ_ h4,cO_ h5]
 | .call f l n sh t,b,h=>by
   cases b<;>simp only [dE_]at h<;>first|cases h;done|skip
   obtain ⟨h1,h⟩:=aa_ h;obtain ⟨h2,h⟩:=aa_ h;obtain ⟨h3,h⟩:=aa_ h;obtain ⟨h4,h5⟩:=aa_ h;rw [Nat.eq_of_beq_eq_true h1,by_ h2,Nat.eq_of_beq_eq_true h3,ow_ h4,cO_ h5]
 | .loop n j hv bs,b,h=>by
   cases b<;>simp only [dE_]at h<;>first|cases h;done|skip
   obtain ⟨h1,h⟩:=aa_ h;obtain ⟨h2,h⟩:=aa_ h;obtain ⟨h3,h4⟩:=aa_ h;rw [Nat.eq_of_beq_eq_true h1,Nat.eq_of_beq_eq_true h2,by_ h3,in_ h4]
 | .again l j hv,b,h=>by
   cases b<;>simp only [dE_]at h<;>first|cases h;done|skip
   obtain ⟨h1,h⟩:=aa_ h;obtain ⟨h2,h3⟩:=aa_ h;rw [Nat.eq_of_beq_eq_true h1,Nat.eq_of_beq_eq_true h2,by_ h3]
 | .chk c t,b,h=>by
   cases b<;>simp only [dE_]at h<;>first|cases h;done|skip
   obtain ⟨h1,h2⟩:=aa_ h;rw [qE_ h1,cO_ h2]
 | .callF f ft hv n bs,b,h=>by
   cases b<;>simp only [dE_]at h<;>first|cases h;done|skip
   obtain ⟨h1,h⟩:=aa_ h;obtain ⟨h2,h⟩:=aa_ h;obtain ⟨h3,h⟩:=aa_ h;obtain ⟨h4,h5⟩:=aa_ h;rw [Nat.eq_of_beq_eq_true h1,sc_ h2,by_ h3,Nat.eq_of_beq_eq_true h4,in_ h5]
 | .both a1 a2,b,h=>by
   cases b<;>simp only [dE_]at h<;>first|cases h;done|skip
   obtain ⟨h1,h2⟩:=aa_ h;rw [cO_ h1,cO_ h2]
theorem in_:∀{a b:VTs},jZ_ a b=true->a=b
 | .nil,b,h=>by cases b<;>simp only [jZ_]at h<;>first|rfl|cases h;done
 | .cons n t r,b,h=>by
   cases b<;>simp only [jZ_]at h<;>first|cases h;done|skip
   obtain ⟨h1,h⟩:=aa_ h;obtain ⟨h2,h3⟩:=aa_ h;rw [Nat.eq_of_beq_eq_true h1,cO_ h2,in_ h3]
end
theorem pR_ {L:LVs} {Y:Sy} {a b:VT} (h:VOK P Q L Y (nP_ a b)):VOK P Q L Y a/\VOK P Q L Y b:=by unfold nP_ at h;split at h;rename_i e;rw [←cO_ e];exact ⟨h,h⟩;unfold VOK at h;exact h
theorem lO_ {L:LVs} {Y:Sy} {f:I_q->VT}:∀{l:List I_q} {x:I_q},VOK P Q L Y (om_ f x l)->∀y,y∈x::l->VOK P Q L Y (f y)
 |[],x,h,y,hy=>by rw [List.mem_singleton.1 hy];exact h
 |z::r,x,h,y,hy=>by unfold om_ at h;have h:=pR_ h;rcases List.mem_cons.1 hy with rfl|hy;exact h.1;exact lO_ h.2 y hy
theorem gW_ {all:List Oper} {m:Nat} {T:Tm}:∀{l:List I_q} {q:MV},iX_ P all m T l=some q->q.x∈l/\oS_ P T q.x.o=some q.a/\md_ all m q.x.i q.x.o all 0=true
 |[],q,h=>by cases h
 |x::r,q,h=>by unfold iX_ at h;split at h;rename_i a ha;split at h;rename_i hf;cases h;exact ⟨List.mem_cons_self,ha,hf⟩;obtain ⟨h1,h2⟩:=gW_ h;exact ⟨List.mem_cons_of_mem _ h1,h2⟩;obtain ⟨h1,h2⟩:=gW_ h;exact ⟨List.mem_cons_of_mem _ h1,h2⟩
theorem lx_ (hm:P.follows .mixedOrders=true) (hc:as_ P (a6_ P fuel)) {ops:Array Oper} {X:VX->VT} {K:VS->VT} (hs:mD_ ops.toList=true) (hd:qC_ N ops.toList=true) (hN:N<=512) {L0:LVs} {n0:Nat} {Y0:Sy} {B:World} {pr:Nat->Prop} {E0:Env}:
  ∀(k m:Nat) (S:VS) (Y:Sy) (L:LVs),L.length=S.lv->Good P c S.n Y->L0 <+: L->n0<=S.n->Ext n0 Y0 Y->VOK P Q L Y (m7_ P N fuel I c ops.toList (fP_ ops.toList X) K k m S)->
   ∀(f:Nat) (listed:Array Bool) (E:Env) (a:Act) (w:World),listed.size=ops.size->listed.toList.countP (· ==false)<=f->(∀j,listed.getD j false=bit m j)->E0.leF c.k E->E.At Y->St P B pr N E S.T S.H S.D a w->
    wpAny P .any ops (OutF P B pr N c.k E0 (ax_ (kV P Q c L0 n0 Y0 K) (XB ops.toList (xV P Q c L0 n0 Y0 X)))) f listed a w
 |0,m,S,Y,L,_,_,_,_,_,h=>by unfold m7_ at h;exact h.elim
 |k+1,m,S,Y,L,hL,hf,hpre,hn0,hext,h=>by
  intro f listed E a w hsz hcnt hl hle hy st;have hd512:∀o∈ops.toList,∀d,o.dst=some d->d<512:=λo ho d hdst=>Nat.lt_of_lt_of_le (kO_ hd o ho d hdst) hN;have hmem:∀i,i∈Region.ready .any ops listed->∃x:I_q,x.i=i/\x∈i0_ m ops.toList 0/\ops[i]? =some x.o:=λi hi=>by obtain ⟨h1,o,h2,h3⟩:=mem_ready.1 hi;have hlt:i<ops.size:=(Array.getElem?_eq_some_iff.1 h2).1;have hg:listed.getD i false=false:=(by have hlt':i<listed.size:=(by omega);simpa [hlt']using h1);refine ⟨⟨i,o⟩,rfl,i1_.2 ⟨i,(Nat.zero_add i).symm,by simpa using h2,by rw [←hl];exact hg,λe he hb=>by rw [←hl];exact h3 e he hb⟩,h2⟩
  have hrdy:∀x:I_q,x∈i0_ m ops.toList 0->x.i∈Region.ready .any ops listed/\ops[x.i]? =some x.o/\∃hlt:x.i<listed.size,listed[x.i]=false:=λx hx=>(by obtain ⟨j,h1,h2,h3,h4⟩:=i1_.1 hx;rw [Nat.zero_add]at h1;subst h1;have ho:ops[x.i]? =some x.o:=(by simpa using h2);have hlt:x.i<ops.size:=(Array.getElem?_eq_some_iff.1 ho).1;have hlt':x.i<listed.size:=(by omega);have hg:listed.getD x.i false=false:=(by rw [hl];exact h3);refine ⟨mem_ready.2 ⟨by simpa [hlt']using hg,x.o,ho,λe he hb=>by rw [hl];exact h4 e he hb⟩,ho,hlt',by simpa [hlt']using hg⟩);have cy_:∀x:I_q,x.i<listed.size->∀j,(listed.setIfInBounds x.i true).getD j false=bit (mU_ m x.i) j:=λx hlt j=>(by have:=congrFun (dI_ (listed:=listed) (i:=x.i) hlt) j;rw [this];unfold plus mU_;rw [kH_,ol_];by_cases e:j=x.i;subst e;simp;rw [if_neg e];show listed.getD j false=_;rw [hl];simp [Ne.symm e]);unfold m7_ at h;split at h
  .rename_i hnil;have hr0:Region.ready .any ops listed=[]:=by rw [List.eq_nil_iff_forall_not_mem];intro i hi;obtain ⟨x,_,hx,_⟩:=hmem i hi;rw [hnil]at hx;exact List.not_mem_nil hx
   refine wpAny_done hr0 ?_ f;exact ⟨Y,.norm S.T S.H S.D,⟨S.n,S.lv,L,hpre,hL,hn0,hext,hf,h⟩,E,hle,hy,rfl,st⟩
  .rename_i x0 r0 hcons;obtain ⟨hr1,ho1,hlt1,hg1⟩:=hrdy x0 (by rw [hcons];exact List.mem_cons_self);obtain ⟨f',rfl⟩:∃f',f=f'+1:=by have:=bJ_ hlt1 hg1;exact ⟨f-1,by omega⟩
   split at h
   .rename_i q hq;obtain ⟨q1,q2,q3⟩:=gW_ hq;rw [←hcons]at q1;obtain ⟨hr2,ho2,hlt2,hg2⟩:=hrdy q.x q1;split at h
    .rename_i u hu;obtain ⟨v,hv1,hv2⟩:=q5_ (ops:=ops) q2 st.t;have hmo:q.x.o∈ops.toList:=by have:=List.mem_of_getElem? (l:=ops.toList) (i:=q.x.i) (a:=q.x.o) (by simpa using ho2);exact this
     refine wpAny_first ho2 (λj o cs b ho=>mE_ hs j o cs b (by simpa using ho)) (λch a w hp=>ub_ hmo (λd hdst=>kO_ hd _ hmo d hdst) hp) f' listed a w (λj oj hj hji hun hno=>?_) hr2 hv1 ?_;refine pp_ (me_ q3 j oj (by simpa using hj) (by rw [Nat.zero_add];exact hji) ?_ hno);rw [Nat.zero_add,←hl];have hlt:j<listed.size:=(by rw [hsz];exact (Array.getElem?_eq_some_iff.1 hj).1);simpa [hlt]using hun;refine lx_ hm hc hs hd hN k (mU_ m q.x.i) ⟨u S.T q.a,S.H,S.n,S.lv,S.D⟩ Y L hL hf hpre hn0 hext h f' _ E _ w (by simpa using hsz) ?_ (cy_ q.x hlt2) hle hy ⟨st.t.put hu hv2,st.r,?_⟩;have:=bJ_ hlt2 hg2;omega;have:(a.put q.x.o.dst v).defers=a.defers:=(by unfold Act.put;split<;>rfl);rw [this];exact st.d
    exact h.elim
   .have h:=lO_ h;refine wpAny_all (rs:=Region.ready .any ops listed) rfl (λhnil=>by rw [hnil]at hr1;cases hr1) λi hi=>?_;obtain ⟨x,rfl,hx,ho⟩:=hmem i hi;obtain ⟨_,_,hlt,hg⟩:=hrdy x hx;have hx':=h x (by rw [←hcons];exact hx);have hw:=h6_ ops [x.o] Y S.T S.H S.D _ _ (h5_ hm hc [x.o] S Y hL hf hx') B pr E a w hy st;have next:∀(a:Act) (w:World),OutF P B pr N c.k E (ax_ (kV P Q c L S.n Y λS'=>m7_ P N fuel I c ops.toList (fP_ ops.toList X) K k (mU_ m x.i) S') (xV P Q c L S.n Y (fP_ ops.toList X))) .normal a w->
      wpAny P .any ops (OutF P B pr N c.k E0 (ax_ (kV P Q c L0 n0 Y0 K) (XB ops.toList (xV P Q c L0 n0 Y0 X)))) f' (listed.setIfInBounds x.i true) a w:=by
     intro a w hq;obtain ⟨Y',r,g1,E',g2,g3,g4⟩:=hq;cases r with
     |norm T H D=>obtain ⟨n',lv,L',p1,p2,p3,p4,p5,p6⟩:=g1;refine lx_ hm hc hs hd hN k (mU_ m x.i) ⟨T,H,n',lv,D⟩ Y' L' p2 p5 (hpre.trans p1) (Nat.le_trans hn0 p3) (hext.trans p4 hn0) p6 f' _ E' a w (by simpa using hsz) ?_ (cy_ x hlt) (hle.trans g2) g3 g4.2;have:=bJ_ hlt hg;omega
     |exit i T H D=>cases g4.1
     |ret T H D=>cases g4.1
     |pan v T H D=>obtain ⟨u,g5,_⟩:=g4;cases g5
    have outs:∀(e:Exit) (a:Act) (w:World),e≠ .normal->OutF P B pr N c.k E (ax_ (kV P Q c L S.n Y λS'=>m7_ P N fuel I c ops.toList (fP_ ops.toList X) K k (mU_ m x.i) S') (xV P Q c L S.n Y (fP_ ops.toList X))) e a w->
      OutF P B pr N c.k E0 (ax_ (kV P Q c L0 n0 Y0 K) (XB ops.toList (xV P Q c L0 n0 Y0 X))) e a w:=by
     intro e a w he hq;obtain ⟨Y',r,g1,E',g2,g3,g4⟩:=hq;cases r with
     |norm T H D=>exact absurd g4.1 he
     |exit i T H D=>have g1:xV P Q c L S.n Y (fP_ ops.toList X) Y' (.exit i T H D):=g1;have g1':xV P Q c L S.n Y X Y' (.exit i T H D):=g1;exact ⟨Y',.exit i T H D,cW_ hpre hn0 hext g1',E',hle.trans g2,g3,g4⟩
     |ret T H D=>have g1:xV P Q c L S.n Y (fP_ ops.toList X) Y' (.ret T H D):=g1;have g1':xV P Q c L S.n Y X Y' (.ret T H D):=g1;exact ⟨Y',.ret T H D,cW_ hpre hn0 hext g1',E',hle.trans g2,g3,g4⟩
     |pan v T H D=>have g1:xV P Q c L S.n Y (fP_ ops.toList X) Y' (.pan v T H D):=g1;have g1':xV P Q c L S.n Y X Y' (.pan v (fj_ ops.toList T) H D):=g1;obtain ⟨u,g5,g6,st'⟩:=g4;refine ⟨Y',.pan v (fj_ ops.toList T) H D,⟨λo ho d hdst=>eT_ _ _ d hd512 (.inl ⟨o,ho,hdst⟩),cW_ hpre hn0 hext g1'⟩,E',hle.trans g2,g3,u,g5,g6,⟨st'.t.size,st'.t.le,λt ht=>?_,st'.t.gl⟩,st'.r,st'.d⟩;rcases gr_ ops.toList T t ht hd512 with e|e;rw [e];exact st'.t.con t ht;rw [e];simp [Con]
    unfold wpOp;simp only [ho];unfold wpList at hw;split
    .rename_i hwt;rw [if_pos hwt]at hw;rcases hw with hw|⟨_,a',w',hw⟩;refine .inl (Oper.wp_mono3 (λa w hq=>?_) outs hw);unfold wpList at hq;exact next a w hq
     .exfalso;obtain ⟨Y',r,g1,E',g2,g3,g4⟩:=hw;cases r with
      |norm T H D=>cases g4.1
      |exit i T H D=>cases g4.1
      |ret T H D=>cases g4.1
      |pan v T H D=>obtain ⟨u,g5,_⟩:=g4;cases g5
    rename_i hwt;rw [if_neg hwt]at hw;unfold wpList at hw;exact next _ w hw
theorem m8_ (hm:P.follows .mixedOrders=true) (hc:as_ P (a6_ P fuel)) {L:LVs} {ops:Array Oper} {id:Nat} {S:VS} {Y:Sy} {X:VX->VT} {K:VS->VT} (hL:L.length=S.lv) (hf:Good P c S.n Y) (h:VOK P Q L Y (ph_ P N fuel I c ops.toList S X K)):
  ∀(B:World) (pr:Nat->Prop) (E:Env) (a:Act) (w:World),E.At Y->St P B pr N E S.T S.H S.D a w->(Code.region id ops true).wp P (OutF P B pr N c.k E (ax_ (kV P Q c L S.n Y K) (xV P Q c L S.n Y X))) a w:=by
 intro B pr E a w hy st;unfold ph_ at h;split at h
 .rename_i hb;obtain ⟨h1,h2⟩:=aa_ hb;obtain ⟨h2,h3⟩:=aa_ h2;have hempty:∀j,(Array.replicate ops.size false).getD j false=false:=λj=>by rw [Array.getD_eq_getD_getElem?,Array.getElem?_replicate];split<;>rfl
  refine Code.wp_mono (λe a w hq=>?_) (wp_region_any hm (lx_ (B:=B) (pr:=pr) (E0:=E) (L0:=L) (n0:=S.n) (Y0:=Y) hm hc h1 h2 (by simpa using h3) _ 0 S Y L hL hf (List.prefix_refl L) (Nat.le_refl _) (Ext.refl _ _) h ops.size _ E a _ (by simp) ?_ (λj=>by rw [hempty,lM_]) (Env.leF_refl _ E) hy ⟨st.t,st.r.drawn _,st.d⟩));obtain ⟨Y',r,g1,g2⟩:=hq;exact ⟨Y',r,tj_ g1,g2⟩;exact Nat.le_trans (List.countP_le_length) (by simp)
 exact h.elim
end
end
theorem gh_:∀n m:Nat,(ah_ n m).length=m
 |_,0=>rfl
 |n,m+1=>by simp only [ah_,List.length_cons,gh_ (Nat.succ n) m]
theorem hA_:∀{n m j:Nat} {a:AV},(ah_ n m)[j]? =some a->j<m/\a=.sym (n+j)
 |n,0,j,a,h=>by simp [ah_]at h
 |n,m+1,0,a,h=>by simp only [ah_,List.getElem?_cons_zero,Option.some.injEq]at h;exact ⟨by omega,h.symm⟩
 |n,m+1,j+1,a,h=>by simp only [ah_,List.getElem?_cons_succ]at h;obtain ⟨h1,h2⟩:=hA_ h;exact ⟨by omega,by rw [h2];congr 1;omega⟩
theorem rf_ {B:World} {pr:Nat->Prop} {E:Env} {H:AHeap} {w:World} (hr:Rel B pr E H w) {id i n0 len sz:Nat} {cs:List AV} (hk:H.get id=some (.syl i)) (hi:E.sy i=some (.vsl len sz cs)) (hs:∀(j:Nat) (a:AV),cs[j]? =some a->E.sy (n0+j)=some a):
  Rel B pr E (H.set id (.cells (ah_ n0 cs.length))) w:=by
 refine hr.setTo hk λown h=>?_;rcases h with ⟨_,hv⟩|⟨b,o,h1,h2,len',sz',cs',h3,h4,arr,t,h5,h6,h7,h8⟩;have hv:E.sy i=some .nsl:=hv;rw [hi]at hv;cases hv;rw [hi]at h3;cases h3;refine .inr ⟨b,o,h1,h2,arr,t,h5,h6,by rw [gh_];exact h7,λj a ha=>?_⟩;obtain ⟨hj,rfl⟩:=hA_ ha;obtain ⟨v,k1,k2,k3⟩:=h8 j cs[j] (List.getElem?_eq_getElem hj);exact ⟨v,k1,by simp only [Con];exact ⟨cs[j],hs j _ (List.getElem?_eq_getElem hj),k2,k3⟩⟩
theorem nV_ {B:World} {pr:Nat->Prop} {E:Env} {H:AHeap} {w:World} (hr:Rel B pr E H w) {id:Nat} {cs ds:List AV} (hk:H.get id=some (.cells cs)) (hl:ds.length=cs.length) (hc:∀(j:Nat) (a:AV),ds[j]? =some a->∃b,cs[j]? =some b/\∀v,Con E b v->Con E a v):
  Rel B pr E (H.set id (.cells ds)) w:=by
 refine hr.setTo hk λown h=>?_;rcases h with ⟨_,hv⟩|⟨b,o,h1,h2,arr,t,h5,h6,h7,h8⟩;exact hv.elim;refine .inr ⟨b,o,h1,h2,arr,t,h5,h6,by rw [hl];exact h7,λj a ha=>?_⟩;obtain ⟨y,hy,hcv⟩:=hc j a ha;obtain ⟨v,k1,k2⟩:=h8 j y hy;exact ⟨v,k1,hcv v k2⟩
theorem sv_ {E:Env} {id sz i len:Nat} {cs:List AV} (hi:E.sy i=some (.vsl len sz cs)) {v:Value} (h:Con E (.slx id sz i) v):Con E (.sl id 0 len sz none) v:=by simp only [Con]at h⊢;obtain ⟨a,h1,h2⟩:=h;rw [hi]at h1;cases h1;rcases h2 with ⟨h2,_⟩|⟨len',cs',h2,b,o,n,c,off',q1,q2,q3,q4,q5,q6⟩;cases h2;cases h2;exact ⟨b,o,n,c,off',q1,q2,q3,q4,q5,by omega,λk hk=>by cases hk⟩
mutual
theorem iU_ {E:Env} {id sz i len:Nat} {cs:List AV} (hi:E.sy i=some (.vsl len sz cs)):∀(a:AV) (v:Value),Con E a v->Con E (mG_ id sz i len a) v
 | .slx id' z j,v,h=>by unfold mG_;split;rename_i hb;obtain ⟨e1,hb⟩:=aa_ hb;obtain ⟨e2,e3⟩:=aa_ hb;have e1:=Nat.eq_of_beq_eq_true e1;have e2:=Nat.eq_of_beq_eq_true e2;have e3:=Nat.eq_of_beq_eq_true e3;subst e1 e2 e3;exact sv_ hi h;exact h
 | .agg l,v,h=>by simp only [mG_,Con]at h⊢;obtain ⟨vs,h1,h2⟩:=h;exact ⟨vs,h1,iV_ hi l vs h2⟩
 | .tup l,v,h=>by simp only [mG_,Con]at h⊢;obtain ⟨vs,h1,h2⟩:=h;exact ⟨vs,h1,iV_ hi l vs h2⟩
 | .opq,v,h=>h
 | .bool _,v,h=>h
 | .int _ _,v,h=>h
 | .flt _ _,v,h=>h
 | .nan _,v,h=>h
 | .str _,v,h=>h
 | .nptr,v,h=>h
 | .ptr _ _,v,h=>h
 | .vptr _,v,h=>h
 | .nsl,v,h=>h
 | .sl ..,v,h=>h
 | .vsl ..,v,h=>h
 | .nmap,v,h=>h
 | .map _,v,h=>h
 | .nfn,v,h=>h
 | .fn _ _,v,h=>h
 | .nif,v,h=>h
 | .iface _ _,v,h=>h
 | .sym _,v,h=>h
 | .ptx ..,v,h=>h
theorem iV_ {E:Env} {id sz i len:Nat} {cs:List AV} (hi:E.sy i=some (.vsl len sz cs)):∀(l:List AV) (vs:List Value),ConL E l vs->ConL E (hG_ id sz i len l) vs
 |[],vs,h=>h
 |a::r,vs,h=>by simp only [hG_,ConL]at h⊢;obtain ⟨v,q,h1,h2,h3⟩:=h;exact ⟨v,q,h1,iU_ hi a v h2,iV_ hi r q h3⟩
end
theorem o2_ {id sz i len:Nat}:∀(l:List AV) (j:Nat) (a:AV),(hG_ id sz i len l)[j]? =some a->∃b,l[j]? =some b/\a=mG_ id sz i len b
 |[],j,a,h=>by simp [hG_]at h
 |b::r,0,a,h=>by simp only [hG_,List.getElem?_cons_zero,Option.some.injEq]at h;exact ⟨b,rfl,h.symm⟩
 |b::r,j+1,a,h=>by simp only [hG_,List.getElem?_cons_succ]at h;exact o2_ r j a h
theorem mH_ {id sz i len:Nat}:∀l:List AV,(hG_ id sz i len l).length=l.length
 |[]=>rfl
 |b::r=>by simp only [hG_,List.length_cons,mH_ r]
theorem o1_ {B:World} {pr:Nat->Prop} {E:Env} {w:World} {id sz i len:Nat} {cs:List AV} (hi:E.sy i=some (.vsl len sz cs)) {H:AHeap} (hr:Rel B pr E H w):∀l:List Nat,Rel B pr E (p0_ id sz i len H l) w
 |[]=>hr
 |q::r=>by have ih:=o1_ (id:=id) hi hr r;unfold p0_;split;rename_i l hk;refine nV_ ih hk (mH_ l) λj a ha=>?_;obtain ⟨b,hb,rfl⟩:=o2_ _ _ _ ha;exact ⟨b,hb,λv hv=>iU_ hi b v hv⟩;exact ih
theorem sw_ {P:Program} {i len sz:Nat} {Y:Sy} {cs:List AV} (h:(XOp.opn len sz).run P (ab_ Y.v [.sym i])=some (.agg cs)):Y.v i=some (.vsl len sz cs)/\cs.length=len*sz:=by
 have h:(match den Y.v (.sym i)with
  | .vsl n z cs=>match Nat.beq n len&&(Nat.beq z sz&&Nat.beq (aY_ cs) (Nat.mul len sz))with
    |true=>some (AV.agg cs)
    |false=>none
  |_=>none)=some (AV.agg cs):=h
 cases hy:Y.v i with
 |none=>simp only [den,hy]at h;cases h
 |some a=>simp only [den,hy]at h;split at h;split at h;rename_i hb;cases h;obtain ⟨e1,hb⟩:=aa_ hb;obtain ⟨e2,e3⟩:=aa_ hb;have e1:=Nat.eq_of_beq_eq_true e1;have e2:=Nat.eq_of_beq_eq_true e2;have e3:=Nat.eq_of_beq_eq_true e3;subst e1 e2;rw [aj_]at e3;exact ⟨rfl,e3⟩;cases h;cases h
end Go.Sx
