/-
  Regions whose order is open, with calls that take rows: in every order, but for what moves values alone.
-/
import Derived.Test.YtelnbodnjmldeaaGreatSyO
import Derived.Test.YtelnbodnjmldeaaGreatSyH
import Derived.Test.YtelnbodnjmldeaaGreatSyM
set_option linter.unusedVariables false
set_option linter.unusedSimpArgs false
open Nat renaming eq_of_beq_eq_true→za'
open List renaming mem_cons_of_mem→zb',mem_cons_self→zc'
namespace Go.Sx
theorem Oper.wp_mono3 {P:Program} {o:Oper} {a:Act} {w:World} {K K':Act->World->Prop} {Q Q':Exit->Act->World->Prop} (h:∀a w,K a w->K' a w) (hq:∀e a w,e≠ .normal->Q e a w->Q' e a w)
  (hh:o.wp P a w K Q):o.wp P a w K' Q':=by
 unfold Oper.wp at*;generalize (execOp a.eval o).run P w=r at*;cases r with
 |ok n w'=>
  cases n<;>simp only [Oper.upon]at hh⊢<;>
   first
    |exact h _ _ hh
    |exact Calls.mono hh (λe w'' he=>by cases e<;>first|exact h _ _ he|exact hq _ _ _ (λe=>by cases e) he|exact he.imp λ_ hx=>hx.imp λ_ hy=>hq _ _ _ (λe=>by cases e) hy)
    |exact Rows.mono hh (λ_ _ he=>h _ _ he)
 |halt x w'=>cases x<;>simp only [Oper.upon]at hh⊢<;>first|exact hh|exact hq _ _ _ (λe=>by cases e) hh
theorem h9_ {m:Nat}:∀{l:List Edge},mU_ m l=true↔∀e∈l,Region.binds .any e=true->bit m e.on=true
 |[]=>by simp [mU_]
 |e::r=>by
  unfold mU_;rw [gC_];cases hb:Region.binds .any e with
  |true=>simp [h9_ (l:=r),hb]
  |false=>simp [h9_ (l:=r),hb]
theorem jb_ {m:Nat}:∀{l:List Oper} {k:Nat} {x:I_q},x∈ja_ m l k↔∃j,x.i=k+j/\l[j]? =some x.o/\bit m x.i=false/\∀e∈x.o.after,Region.binds .any e=true->bit m e.on=true
 |[],k,x=>by simp [ja_]
 |o::r,k,x=>by
  have ih:=jb_ (m:=m) (l:=r) (k:=Nat.succ k) (x:=x);have key:(∃j,x.i=k+j/\(o::r)[j]? =some x.o/\bit m x.i=false/\∀e∈x.o.after,Region.binds .any e=true->bit m e.on=true)↔
    (x.i=k/\o=x.o/\bit m x.i=false/\∀e∈x.o.after,Region.binds .any e=true->bit m e.on=true)\/x∈ja_ m r (Nat.succ k):=by
   rw [ih];constructor
   .grind
   .rintro (⟨h1,h2,h3⟩|⟨j,h1,h2,h3⟩);simp_all
    exact ⟨j+1,by omega,by grind,h3⟩
  rw [key];have eq:ja_ m (o::r) k=(match not (bit m k)&&mU_ m o.after.toList with
   |true=>⟨k,o⟩::ja_ m r (Nat.succ k)
   |false=>ja_ m r (Nat.succ k)):=rfl
  rw [eq];cases hb:(not (bit m k)&&mU_ m o.after.toList)with
  |true=>
   simp only [List.mem_cons];have hb':bit m k=false/\∀e∈o.after,Region.binds .any e=true->bit m e.on=true:=by simp_all [h9_]
   constructor
   .grind
   .rintro (⟨h1,h2,h3⟩|h)
    .obtain ⟨i,o'⟩:=x
     grind
    grind
  |false=>
   grind [h9_]
theorem oz_ {i:Nat}:∀{l:List Edge},sB_ i l=true->∃e∈l,Region.binds .any e=true/\e.on=i
 |[],h=>by cases h
 |e::r,h=>by unfold sB_ at h;split at h<;>simp_all [gC_,oz_]
theorem js_ {t:Nat}:∀{l:List Operand},Operand.tmp t∈l->t∈ei_ l
 |[],h=>by simp at h
 |x::r,h=>by
  rcases List.mem_cons.1 h with h|h;subst h;unfold ei_;exact zc'
  .have ih:=js_ h;cases x<;>unfold ei_<;>first|exact zb' _ ih|exact ih
theorem rm_ {t:Nat} {l:List Nat} (h:memT t l=false):t∉l:=by grind [gm_]
theorem jM_ {ops:Array Oper} {o:Oper} {d:Nat} (h:d∈o.looksAt ops):d∈cT_ ops.toList o:=by
 unfold cT_;rcases List.mem_append.1 h with h|h
 .grind [js_]
 .split at h
  .grind [iW_]
  simp at h
theorem pC_ {ops:Array Oper} {x y:Oper} (h:apartB ops.toList x y=true):x.apart ops y=true:=by
 unfold apartB at h;unfold Oper.apart;have key:∀(o:Oper) (d:Nat),memT d (cT_ ops.toList o)=false->(o.looksAt ops).contains d=false:=λo d hm=>by
  cases hc:(o.looksAt ops).contains d with
  |false=>rfl
  |true=>exact absurd (jM_ (by grind)) (rm_ hm)
 cases hx:x.dst with
 |none=>
  grind
 |some d=>
  cases hy:y.dst with
  |none=>
   grind
  |some e=>
   simp only [hx,hy,Bool.and_eq_true,Bool.not_eq_true']at h⊢;obtain ⟨⟨h1,h2⟩,h3⟩:=h;have:d≠e:=λhde=>by simp_all
   grind
theorem ml_ {all:List Oper} {m i:Nat} {x:Oper}:∀{l:List Oper} {k:Nat},oP_ all m i x l k=true->∀(j:Nat) (y:Oper),l[j]? =some y->k+j≠i->bit m (k+j)=false->(∀e∈y.after,Region.binds .any e=true->e.on≠i)->apartB all x y=true
 |[],k,h,j,y,hj,_,_,_=>by simp at hj
 |o::r,k,h,j,y,hj,h1,h2,h3=>by
  obtain ⟨h,hr⟩:=aa_ h;cases j with
  |zero=>
   grind [za',oz_]
  |succ j=>exact ml_ hr j y (by simpa using hj) (by rw [show Nat.succ k+j=k+(j+1) by omega];exact h1) (by rw [show Nat.succ k+j=k+(j+1) by omega];exact h2) h3
theorem mM_:∀{l:List Oper},mL_ l=true->∀(j:Nat) (o:Oper) cs b,l[j]? =some o->o.op≠ .select cs b
 |[],h,j,o,cs,b,hj,_=>by simp at hj
 |x::r,h,j,o,cs,b,hj,ho=>by
  unfold mL_ at h;cases j with
  |zero=>simp at hj;subst hj;rw [ho]at h;cases h
  |succ j=>split at h;cases h;exact mM_ h j o cs b (by simpa using hj) ho
theorem kX_ {N:Nat}:∀{l:List Oper},sC_ N l=true->∀o∈l,∀d,o.dst=some d->d<N
 |[],h,o,ho,_,_=>by simp at ho
 |x::r,h,o,ho,d,hd=>by
  obtain ⟨h1,h2⟩:=aa_ h;rcases List.mem_cons.1 ho with rfl|ho;simp_all
  exact kX_ h2 o ho d hd
theorem gD_:∀(l:List Oper) (T:Tm) (t:Nat),t<512->(∀o∈l,∀d,o.dst=some d->d<512)->tget (ew_ l T) t=tget T t\/tget (ew_ l T) t=.opq
 |[],T,t,_,_=>.inl rfl
 |o::r,T,t,ht,hd=>by
  have hr:∀o∈r,∀d,o.dst=some d->d<512:=λo ho=>hd o (zb' _ ho);unfold ew_;cases ho:o.dst with
  |none=>exact gD_ r T t ht hr
  |some d=>have hd':=hd o zc' d ho;simp only;rcases gD_ r (dB_ T d .opq) t ht hr with h|h;by_cases e:d=t;subst e;rw [aq_ T ht]at h;exact .inr h;rw [ao_ T ht hd' e]at h;exact .inl h;exact .inr h
theorem e1_:∀(l:List Oper) (T:Tm) (d:Nat),(∀o∈l,∀d,o.dst=some d->d<512)->((∃o∈l,o.dst=some d)\/(d<512/\tget T d=.opq))->tget (ew_ l T) d=.opq
 |[],T,d,_,h=>by simp_all [ew_]
 |o::r,T,d,hd,h=>by
  have hr:∀o∈r,∀d,o.dst=some d->d<512:=λo ho=>hd o (zb' _ ho);unfold ew_;cases ho:o.dst with
  |none=>
   refine e1_ r T d hr ?_
   grind
  |some e=>
   have he:=hd o zc' e ho;by_cases hde:e=d;subst hde;exact e1_ r _ e hr (.inr ⟨he,aq_ T he _⟩)
   .refine e1_ r _ d hr ?_;rcases h with ⟨o',h1,h2⟩|h
    .grind
    grind [ao_]
section
variable [Gl]
theorem ru_ {P:Program} {ops:Array Oper} {N:Nat} {E:Env} {T:Tm} {a:Act} {o:Oper} {q:AV} (h:o4_ P T o=some q) (ht:TRel E N T a.tmps):
  ∃v,Yields P ops o v a/\Con E q v:=by
 obtain ⟨dst,op,type,pos,after,guard⟩:=o;unfold o4_ at h;cases guard with
 |some g=>cases h
 |none=>
  simp only at h;split at h;rename_i x;cases h;exact ⟨a.eval x,.inl ⟨rfl,λw=>by rfl⟩,ht.look x⟩;rename_i x;split at h;rename_i id off hx;cases h;have hc:=ht.look x;rw [hx]at hc;have hc':=hc;obtain ⟨b,o,h1,h2⟩:=hc;exact ⟨a.eval x,.inl ⟨rfl,λw=>by simp [execOp,h2]⟩,hc'⟩;cases h
  .rename_i s x f;split at h
   .rename_i id off hx;have hc:=ht.look x;rw [hx]at hc;unfold bT_ at h;split at h
    .rename_i fields hd;split at h
     .rename_i fl hfl;split at h;split at h;cases h;cases h;obtain ⟨b,o,hφ,h2⟩:=hc;refine ⟨.pointer (some ⟨b,o+(off+fl.offset),none⟩),.inl ⟨rfl,λw=>?_⟩,by simp only [Con];grind⟩;simp_all [execOp,Instr.fieldAt,run_underlying,Instr.sureAddr,fieldPlace,af_,Addr.add_lit]
      cases h
     cases h
    cases h
   cases h
  rename_i x i;split at h;rename_i cs hx;have hc:=ht.look x;rw [hx]at hc;obtain ⟨vs,h2,hL⟩:=hc;rw [gp_]at h;obtain ⟨u,hu,hcu⟩:=hL.at i q h;exact ⟨u,.inl ⟨rfl,λw=>by simp [execOp,h2,Instr.extract,hu]⟩,hcu⟩;cases h;cases h
def XB (ops:List Oper) (X:XP):XP:=λY r=>match r with
 | .pan v T H D=>(∀o∈ops,∀d,o.dst=some d->tget T d=.opq)/\X Y (.pan v T H D)
 |r=>X Y r
omit [Gl]in
theorem tW_ {ops:List Oper} {K:KP} {X:XP} {Y:Sy} {r:CRes} (h:ay_ K (XB ops X) Y r):ay_ K X Y r:=by
 cases r with
 |pan v T H D=>exact h.2
 |norm T H D=>exact h
 |exit i T H D=>exact h
 |ret T H D=>exact h
section
variable {P:Program} {N:Nat} {Q:AV->Prop} {fuel:Nat} {I:Inl P fuel} {c:VC}
theorem uZ_ {B:World} {pr:Nat->Prop} {k:Nat} {E:Env} {ops:Array Oper} {K:KP} {X:XP} {o:Oper} (ho:o∈ops.toList) (hd:∀d,o.dst=some d->d<N) {v:Value} {ch:List PanicEntry} {a:Act} {w:World}
  (h:OutF P B pr N k E (ay_ K (XB ops.toList X)) (.panic ch) (a.put o.dst v) w):OutF P B pr N k E (ay_ K (XB ops.toList X)) (.panic ch) a w:=by
 obtain ⟨Y,r,h1,E',h2,h3,h4⟩:=h;cases r with
 |norm T H D=>cases h4.1
 |exit i T H D=>cases h4.1
 |ret T H D=>cases h4.1
 |pan u T H D=>
  obtain ⟨u',h5,h6,st⟩:=h4;refine ⟨Y,.pan u T H D,h1,E',h2,h3,u',h5,h6,?_,st.r,?_⟩
  .refine ⟨?_,st.t.le,λt ht=>?_,st.t.gl⟩
   .have:=st.t.size;cases hdst:o.dst<;>grind [Act.put]
   .have:=st.t.con t ht;cases hdst:o.dst with
    |none=>rw [hdst]at this;exact this
    |some d=>by_cases e:t=d;subst e;rw [h1.1 o ho t hdst];simp [Con];simp_all [Act.put,Ne.symm]
  .have:=st.d;cases hdst:o.dst with
   |none=>rw [hdst]at this;exact this
   |some d=>rw [hdst]at this;exact this
omit [Gl]in
theorem oH_:∀{a b:List (Nat×AV)},q1_ a b=true->a=b
 |[],[],_=>rfl
 |(i,a)::r,(j,b)::s,h=>by obtain ⟨h1,h⟩:=aa_ h;obtain ⟨h2,h3⟩:=aa_ h;rw [Nat.eq_of_beq_eq_true h1,aH_ h2,oH_ h3]
 |[],_::_,h=>by simp [q1_]at h
 |_::_,[],h=>by simp [q1_]at h
omit [Gl]in
theorem oI_:∀{a b:List (Nat×List AV)},q2_ a b=true->a=b
 |[],[],_=>rfl
 |(i,a)::r,(j,b)::s,h=>by obtain ⟨h1,h⟩:=aa_ h;obtain ⟨h2,h3⟩:=aa_ h;rw [Nat.eq_of_beq_eq_true h1,bn_ h2,oI_ h3]
 |[],_::_,h=>by simp [q2_]at h
 |_::_,[],h=>by simp [q2_]at h
omit [Gl]in
theorem kZ_:∀{a b:Option Nat},nD_ a b=true->a=b
 |none,none,_=>rfl
 |some a,some b,h=>by grind [nD_,za']
 |none,some _,h=>by simp [nD_]at h
 |some _,none,h=>by simp [nD_]at h
omit [Gl]in
theorem oG_:∀{a b:List (Option Nat)},q0_ a b=true->a=b
 |[],[],_=>rfl
 |a::r,b::s,h=>by obtain ⟨h1,h2⟩:=aa_ h;rw [kZ_ h1,oG_ h2]
 |[],_::_,h=>by simp [q0_]at h
 |_::_,[],h=>by simp [q0_]at h
omit [Gl]in
theorem oF_:∀{a b:List (Nat×Nat)},pH_ a b=true->a=b
 |[],[],_=>rfl
 |(i,a)::r,(j,b)::s,h=>by obtain ⟨h1,h⟩:=aa_ h;obtain ⟨h2,h3⟩:=aa_ h;rw [Nat.eq_of_beq_eq_true h1,Nat.eq_of_beq_eq_true h2,oF_ h3]
 |[],_::_,h=>by simp [pH_]at h
 |_::_,[],h=>by simp [pH_]at h
omit [Gl]in
theorem l8_:∀{a b:List TA},l7_ a b=true->a=b
 |[],[],_=>rfl
 |⟨a,b,c,d,e⟩::r,⟨a',b',c',d',e'⟩::s,h=>by obtain ⟨h1,h⟩:=aa_ h;obtain ⟨h2,h⟩:=aa_ h;obtain ⟨h3,h⟩:=aa_ h;obtain ⟨h4,h⟩:=aa_ h;obtain ⟨h5,h6⟩:=aa_ h;rw [Nat.eq_of_beq_eq_true h1,Nat.eq_of_beq_eq_true h2,Nat.eq_of_beq_eq_true h3,Nat.eq_of_beq_eq_true h4,kZ_ h5,l8_ h6]
 |[],_::_,h=>by simp [l7_]at h
 |_::_,[],h=>by simp [l7_]at h
omit [Gl]in
theorem l9_:∀{a b:Tpl},oJ_ a b=true->a=b
 |⟨a,b,c,d,e,f,g⟩,⟨a',b',c',d',e',f',g'⟩,h=>by
  simp only [oJ_]at h
  grind [oH_,oI_,za',l8_,oF_]
omit [Gl]in
theorem oE_:∀{a b:List (Bool×Tpl)},qY_ a b=true->a=b
 |[],[],_=>rfl
 |(i,a)::r,(j,b)::s,h=>by obtain ⟨h1,h⟩:=aa_ h;obtain ⟨h2,h3⟩:=aa_ h;rw [eq_of_beq h1,l9_ h2,oE_ h3]
 |[],_::_,h=>by simp [qY_]at h
 |_::_,[],h=>by simp [qY_]at h
omit [Gl]in
theorem sE_:∀{a b:FT},u6_ a b=true->a=b
 |⟨a,b,c⟩,⟨a',b',c'⟩,h=>by obtain ⟨h1,h⟩:=aa_ h;obtain ⟨h2,h3⟩:=aa_ h;rw [Nat.eq_of_beq_eq_true h1,l9_ h2,oE_ h3]
omit [Gl]in
theorem sG_ {a b:XOp} (h:t1_ a b=true):a=b:=by
 unfold t1_ at h;split at h<;>first
  |cases h;done
  |rfl
  |(try simp only [Bool.and_eq_true,decide_eq_true_eq,beq_iff_eq]at h
    first
     |(obtain ⟨h1,h2,h3,h4⟩:=h;rw [h1,Nat.eq_of_beq_eq_true h2,h3,h4])
     |(obtain ⟨h1,h2,h3,h4⟩:=h;rw [Nat.eq_of_beq_eq_true h1,Nat.eq_of_beq_eq_true h2,Nat.eq_of_beq_eq_true h3,Nat.eq_of_beq_eq_true h4])
     |(obtain ⟨h1,h2,h3⟩:=h;rw [Nat.eq_of_beq_eq_true h1,h2,h3])
     |(obtain ⟨h1,h2,h3⟩:=h;rw [Nat.eq_of_beq_eq_true h1,Nat.eq_of_beq_eq_true h2,Nat.eq_of_beq_eq_true h3])
     |(obtain ⟨h1,h2,h3⟩:=h;rw [Nat.eq_of_beq_eq_true h1,Nat.eq_of_beq_eq_true h2,bn_ h3])
     |(obtain ⟨h1,h2⟩:=h;rw [Nat.eq_of_beq_eq_true h1,Nat.eq_of_beq_eq_true h2])
     |rw [h]
     |rw [Nat.eq_of_beq_eq_true h])
omit [Gl]in
theorem qX_ {a b:Chk} (h:qW_ a b=true):a=b:=by
 unfold qW_ at h;split at h<;>first
  |cases h;done
  |(obtain ⟨h1,h2⟩:=aa_ h;rw [Nat.eq_of_beq_eq_true h1,Nat.eq_of_beq_eq_true h2])
  |rw [Nat.eq_of_beq_eq_true h]
omit [Gl]in
mutual
theorem cL_:∀{a b:VT},dH_ a b=true->a=b
 | .bad,_,h=>by simp [dH_]at h
 | .done v,b,h=>by cases b<;>simp only [dH_]at h<;>first|cases h;done|rw [aH_ h]
 | .ite i a1 a2,b,h=>by
   cases b<;>simp only [dH_]at h<;>first|cases h;done|skip
   obtain ⟨h1,h⟩:=aa_ h;obtain ⟨h2,h3⟩:=aa_ h;rw [Nat.eq_of_beq_eq_true h1,cL_ h2,cL_ h3]
 | .lt o l n m t,b,h=>by
   cases b<;>simp only [dH_]at h<;>first|cases h;done|skip
   obtain ⟨h1,h⟩:=aa_ h;obtain ⟨h2,h⟩:=aa_ h;obtain ⟨h3,h⟩:=aa_ h;obtain ⟨h4,h5⟩:=aa_ h;rw [sG_ h1,bn_ h2,Nat.eq_of_beq_eq_true h3,kZ_ h4,cL_ h5]
 | .call f l n sh t,b,h=>by
   cases b<;>simp only [dH_]at h<;>first|cases h;done|skip
   obtain ⟨h1,h⟩:=aa_ h;obtain ⟨h2,h⟩:=aa_ h;obtain ⟨h3,h⟩:=aa_ h;obtain ⟨h4,h5⟩:=aa_ h;rw [Nat.eq_of_beq_eq_true h1,bn_ h2,Nat.eq_of_beq_eq_true h3,oG_ h4,cL_ h5]
 | .loop n j hv bs,b,h=>by
   cases b<;>simp only [dH_]at h<;>first|cases h;done|skip
   obtain ⟨h1,h⟩:=aa_ h;obtain ⟨h2,h⟩:=aa_ h;obtain ⟨h3,h4⟩:=aa_ h;rw [Nat.eq_of_beq_eq_true h1,Nat.eq_of_beq_eq_true h2,bn_ h3,iv_ h4]
 | .again l j hv,b,h=>by
   cases b<;>simp only [dH_]at h<;>first|cases h;done|skip
   grind [za',bn_]
 | .chk c t,b,h=>by
   cases b<;>simp only [dH_]at h<;>first|cases h;done|skip
   obtain ⟨h1,h2⟩:=aa_ h;rw [qX_ h1,cL_ h2]
 | .callF f ft hv n bs,b,h=>by
   cases b<;>simp only [dH_]at h<;>first|cases h;done|skip
   obtain ⟨h1,h⟩:=aa_ h;obtain ⟨h2,h⟩:=aa_ h;obtain ⟨h3,h⟩:=aa_ h;obtain ⟨h4,h5⟩:=aa_ h;rw [Nat.eq_of_beq_eq_true h1,sE_ h2,bn_ h3,Nat.eq_of_beq_eq_true h4,iv_ h5]
 | .both a1 a2,b,h=>by
   cases b<;>simp only [dH_]at h<;>first|cases h;done|skip
   obtain ⟨h1,h2⟩:=aa_ h;rw [cL_ h1,cL_ h2]
theorem iv_:∀{a b:VTs},kc_ a b=true->a=b
 | .nil,b,h=>by
   grind [kc_]
 | .cons n t r,b,h=>by
   cases b<;>simp only [kc_]at h<;>first|cases h;done|skip
   obtain ⟨h1,h⟩:=aa_ h;obtain ⟨h2,h3⟩:=aa_ h;rw [Nat.eq_of_beq_eq_true h1,cL_ h2,iv_ h3]
end
theorem p3_ {L:LVs} {Y:Sy} {a b:VT} (h:VOK P Q L Y (n0_ a b)):VOK P Q L Y a/\VOK P Q L Y b:=by
 grind [n0_,cL_,VOK]
theorem lV_ {L:LVs} {Y:Sy} {f:I_q->VT}:∀{l:List I_q} {x:I_q},VOK P Q L Y (ou_ f x l)->∀y,y∈x::l->VOK P Q L Y (f y)
 |[],x,h,y,hy=>by simp_all [ou_]
 |z::r,x,h,y,hy=>by have h:=p3_ h;rcases List.mem_cons.1 hy with rfl|hy;exact h.1;exact lV_ h.2 y hy
theorem g6_ {all:List Oper} {m:Nat} {T:Tm}:∀{l:List I_q} {q:MV},i6_ P all m T l=some q->q.x∈l/\o4_ P T q.x.o=some q.a/\oP_ all m q.x.i q.x.o all 0=true
 |[],q,h=>by cases h
 |x::r,q,h=>by unfold i6_ at h;split at h;rename_i a ha;split at h;rename_i hf;cases h;exact ⟨zc',ha,hf⟩;obtain ⟨h1,h2⟩:=g6_ h;exact ⟨zb' _ h1,h2⟩;obtain ⟨h1,h2⟩:=g6_ h;exact ⟨zb' _ h1,h2⟩
theorem lE_ (hm:P.follows .mixedOrders=true) (hc:as_ P (a8_ P fuel)) {ops:Array Oper} {X:VX->VT} {K:VS->VT} (hs:mL_ ops.toList=true) (hd:sC_ N ops.toList=true) (hN:N<=512) {L0:LVs} {n0:Nat} {Y0:Sy} {B:World} {pr:Nat->Prop} {E0:Env}:
  ∀(k m:Nat) (S:VS) (Y:Sy) (L:LVs),L.length=S.lv->Good P c S.n Y->L0 <+: L->n0<=S.n->Ext n0 Y0 Y->VOK P Q L Y (om_ P N fuel I c ops.toList (j1_ ops.toList X) K k m S)->
   ∀(f:Nat) (listed:Array Bool) (E:Env) (a:Act) (w:World),listed.size=ops.size->listed.toList.countP (· ==false)<=f->(∀j,listed.getD j false=bit m j)->E0.leF c.k E->E.At Y->St P B pr N E S.T S.H S.D a w->
    wpAny P .any ops (OutF P B pr N c.k E0 (ay_ (kV P Q c L0 n0 Y0 K) (XB ops.toList (xV P Q c L0 n0 Y0 X)))) f listed a w
 |0,m,S,Y,L,_,_,_,_,_,h=>by exact h.elim
 |k+1,m,S,Y,L,hL,hf,hpre,hn0,hext,h=>by
  intro f listed E a w hsz hcnt hl hle hy st;have hd512:∀o∈ops.toList,∀d,o.dst=some d->d<512:=λo ho d hdst=>Nat.lt_of_lt_of_le (kX_ hd o ho d hdst) hN;have hmem:∀i,i∈Region.ready .any ops listed->∃x:I_q,x.i=i/\x∈ja_ m ops.toList 0/\ops[i]? =some x.o:=λi hi=>by
   obtain ⟨h1,o,h2,h3⟩:=mem_ready.1 hi;have hlt:i<ops.size:=(Array.getElem?_eq_some_iff.1 h2).1;have hg:listed.getD i false=false:=by
    grind
   refine ⟨⟨i,o⟩,rfl,jb_.2 ⟨i,(Nat.zero_add i).symm,by grind,by grind,λe he hb=>by grind⟩,h2⟩
  have hrdy:∀x:I_q,x∈ja_ m ops.toList 0->x.i∈Region.ready .any ops listed/\ops[x.i]? =some x.o/\∃hlt:x.i<listed.size,listed[x.i]=false:=λx hx=>(by obtain ⟨j,h1,h2,h3,h4⟩:=jb_.1 hx;rw [Nat.zero_add]at h1;subst h1;have ho:ops[x.i]? =some x.o:=(by grind);have hlt:x.i<ops.size:=(Array.getElem?_eq_some_iff.1 ho).1;have hg:listed.getD x.i false=false:=(by grind);simp_all [mem_ready]);have cP_:∀x:I_q,x.i<listed.size->∀j,(listed.setIfInBounds x.i true).getD j false=bit (m4_ m x.i) j:=λx hlt j=>by
   have:=congrFun (dP_ (listed:=listed) (i:=x.i) hlt) j;rw [this];unfold plus m4_;rw [kQ_,ot_]
   grind
  unfold om_ at h;split at h
  .rename_i hnil;have hr0:Region.ready .any ops listed=[]:=by simp_all [List.eq_nil_iff_forall_not_mem]
   refine wpAny_done hr0 ?_ f;exact ⟨Y,.norm S.T S.H S.D,⟨S.n,S.lv,L,hpre,hL,hn0,hext,hf,h⟩,E,hle,hy,rfl,st⟩
  .rename_i x0 r0 hcons;obtain ⟨hr1,ho1,hlt1,hg1⟩:=hrdy x0 (by grind);obtain ⟨f',rfl⟩:∃f',f=f'+1:=by have:=e6_ hlt1 hg1;exact ⟨f-1,by omega⟩
   split at h
   .rename_i q hq;obtain ⟨q1,q2,q3⟩:=g6_ hq;rw [←hcons]at q1;obtain ⟨hr2,ho2,hlt2,hg2⟩:=hrdy q.x q1;split at h
    .rename_i u hu;obtain ⟨v,hv1,hv2⟩:=ru_ (ops:=ops) q2 st.t;have hmo:q.x.o∈ops.toList:=by
      grind
     refine wpAny_first ho2 (λj o cs b ho=>mM_ hs j o cs b (by grind)) (λch a w hp=>uZ_ hmo (λd hdst=>kX_ hd _ hmo d hdst) hp) f' listed a w (λj oj hj hji hun hno=>?_) hr2 hv1 ?_
     .refine pC_ (ml_ q3 j oj (by grind) (by omega) ?_ hno)
      grind
     .refine lE_ hm hc hs hd hN k (m4_ m q.x.i) ⟨u S.T q.a,S.H,S.n,S.lv,S.D⟩ Y L hL hf hpre hn0 hext h f' _ E _ w (by grind) ?_ (cP_ q.x hlt2) hle hy ⟨st.t.put hu hv2,st.r,?_⟩
      .grind
      have:(a.put q.x.o.dst v).defers=a.defers:=(by unfold Act.put;split<;>rfl);rw [this];exact st.d
    exact h.elim
   .have h:=lV_ h;refine wpAny_all (rs:=Region.ready .any ops listed) rfl (λhnil=>by grind) λi hi=>?_;obtain ⟨x,rfl,hx,ho⟩:=hmem i hi;obtain ⟨_,_,hlt,hg⟩:=hrdy x hx;have hx':=h x (by grind);have hw:=ig_ ops [x.o] Y S.T S.H S.D _ _ (if_ hm hc [x.o] S Y hL hf hx') B pr E a w hy st;have next:∀(a:Act) (w:World),OutF P B pr N c.k E (ay_ (kV P Q c L S.n Y λS'=>om_ P N fuel I c ops.toList (j1_ ops.toList X) K k (m4_ m x.i) S') (xV P Q c L S.n Y (j1_ ops.toList X))) .normal a w->
      wpAny P .any ops (OutF P B pr N c.k E0 (ay_ (kV P Q c L0 n0 Y0 K) (XB ops.toList (xV P Q c L0 n0 Y0 X)))) f' (listed.setIfInBounds x.i true) a w:=by
     intro a w hq;obtain ⟨Y',r,g1,E',g2,g3,g4⟩:=hq;cases r with
     |norm T H D=>
      obtain ⟨n',lv,L',p1,p2,p3,p4,p5,p6⟩:=g1;refine lE_ hm hc hs hd hN k (m4_ m x.i) ⟨T,H,n',lv,D⟩ Y' L' p2 p5 (hpre.trans p1) (Nat.le_trans hn0 p3) (hext.trans p4 hn0) p6 f' _ E' a w (by grind) ?_ (cP_ x hlt) (hle.trans g2) g3 g4.2
      grind
     |exit i T H D=>cases g4.1
     |ret T H D=>cases g4.1
     |pan v T H D=>grind
    have outs:∀(e:Exit) (a:Act) (w:World),e≠ .normal->OutF P B pr N c.k E (ay_ (kV P Q c L S.n Y λS'=>om_ P N fuel I c ops.toList (j1_ ops.toList X) K k (m4_ m x.i) S') (xV P Q c L S.n Y (j1_ ops.toList X))) e a w->
      OutF P B pr N c.k E0 (ay_ (kV P Q c L0 n0 Y0 K) (XB ops.toList (xV P Q c L0 n0 Y0 X))) e a w:=by
     intro e a w he hq;obtain ⟨Y',r,g1,E',g2,g3,g4⟩:=hq;cases r with
     |norm T H D=>grind
     |exit i T H D=>have g1':xV P Q c L S.n Y X Y' (.exit i T H D):=g1;exact ⟨Y',.exit i T H D,cV_ hpre hn0 hext g1',E',hle.trans g2,g3,g4⟩
     |ret T H D=>have g1':xV P Q c L S.n Y X Y' (.ret T H D):=g1;exact ⟨Y',.ret T H D,cV_ hpre hn0 hext g1',E',hle.trans g2,g3,g4⟩
     |pan v T H D=>
      have g1':xV P Q c L S.n Y X Y' (.pan v (ew_ ops.toList T) H D):=g1;obtain ⟨u,g5,g6,st'⟩:=g4;refine ⟨Y',.pan v (ew_ ops.toList T) H D,⟨λo ho d hdst=>e1_ _ _ d hd512 (.inl ⟨o,ho,hdst⟩),cV_ hpre hn0 hext g1'⟩,E',hle.trans g2,g3,u,g5,g6,⟨st'.t.size,st'.t.le,λt ht=>?_,st'.t.gl⟩,st'.r,st'.d⟩;rcases gD_ ops.toList T t ht hd512 with e|e;rw [e];exact st'.t.con t ht
      grind [Con]
    unfold wpOp;simp only [ho];unfold wpList at hw;split
    .rename_i hwt;rw [if_pos hwt]at hw;rcases hw with hw|⟨_,a',w',hw⟩
     .grind [Oper.wp_mono3,wpList]
     .obtain ⟨Y',r,g1,E',g2,g3,g4⟩:=hw
      grind
    simp_all [wpList]
theorem nh_ (hm:P.follows .mixedOrders=true) (hc:as_ P (a8_ P fuel)) {L:LVs} {ops:Array Oper} {id:Nat} {S:VS} {Y:Sy} {X:VX->VT} {K:VS->VT} (hL:L.length=S.lv) (hf:Good P c S.n Y) (h:VOK P Q L Y (pu_ P N fuel I c ops.toList S X K)):
  ∀(B:World) (pr:Nat->Prop) (E:Env) (a:Act) (w:World),E.At Y->St P B pr N E S.T S.H S.D a w->(Code.region id ops true).wp P (OutF P B pr N c.k E (ay_ (kV P Q c L S.n Y K) (xV P Q c L S.n Y X))) a w:=by
 intro B pr E a w hy st;unfold pu_ at h;split at h
 .rename_i hb;obtain ⟨h1,h2⟩:=aa_ hb;obtain ⟨h2,h3⟩:=aa_ h2;have hempty:∀j,(Array.replicate ops.size false).getD j false=false:=λj=>by rw [Array.getD_eq_getD_getElem?,Array.getElem?_replicate];split<;>rfl
  refine Code.wp_mono (λe a w hq=>?_) (wp_region_any hm (lE_ (B:=B) (pr:=pr) (E0:=E) (L0:=L) (n0:=S.n) (Y0:=Y) hm hc h1 h2 (by simpa using h3) _ 0 S Y L hL hf (List.prefix_refl L) (Nat.le_refl _) (Ext.refl _ _) h ops.size _ E a _ (by simp) ?_ (λj=>by rw [hempty,lT_]) (Env.leF_refl _ E) hy ⟨st.t,st.r.drawn _,st.d⟩));obtain ⟨Y',r,g1,g2⟩:=hq;exact ⟨Y',r,tW_ g1,g2⟩
  grind
 exact h.elim
end
end
theorem gv_:∀n m:Nat,(ak_ n m).length=m
 |_,0=>rfl
 |n,m+1=>by simp only [ak_,List.length_cons,gv_ (Nat.succ n) m]
theorem hH_:∀{n m j:Nat} {a:AV},(ak_ n m)[j]? =some a->j<m/\a=.sym (n+j)
 |n,0,j,a,h=>by simp [ak_]at h
 |n,m+1,0,a,h=>by
  grind [ak_]
 |n,m+1,j+1,a,h=>by
  simp only [ak_,List.getElem?_cons_succ]at h;obtain ⟨h1,h2⟩:=hH_ h
  grind
theorem rD_ {B:World} {pr:Nat->Prop} {E:Env} {H:AHeap} {w:World} (hr:Rel B pr E H w) {id i n0 len sz:Nat} {cs:List AV} (hk:H.get id=some (.syl i)) (hi:E.sy i=some (.vsl len sz cs)) (hs:∀(j:Nat) (a:AV),cs[j]? =some a->E.sy (n0+j)=some a):
  Rel B pr E (H.set id (.cells (ak_ n0 cs.length))) w:=by
 refine hr.setTo hk λown h=>?_;rcases h with ⟨_,hv⟩|⟨b,o,h1,h2,len',sz',cs',h3,h4,arr,t,h5,h6,h7,h8⟩
 .have hv:E.sy i=some .nsl:=hv
  grind
 rw [hi]at h3;cases h3;refine .inr ⟨b,o,h1,h2,arr,t,h5,h6,by rw [gv_];exact h7,λj a ha=>?_⟩;obtain ⟨hj,rfl⟩:=hH_ ha;simp_all [Con]
theorem n5_ {B:World} {pr:Nat->Prop} {E:Env} {H:AHeap} {w:World} (hr:Rel B pr E H w) {id:Nat} {cs ds:List AV} (hk:H.get id=some (.cells cs)) (hl:ds.length=cs.length) (hc:∀(j:Nat) (a:AV),ds[j]? =some a->∃b,cs[j]? =some b/\∀v,Con E b v->Con E a v):
  Rel B pr E (H.set id (.cells ds)) w:=by
 refine hr.setTo hk λown h=>?_;rcases h with ⟨_,hv⟩|⟨b,o,h1,h2,arr,t,h5,h6,h7,h8⟩;exact hv.elim
 .refine .inr ⟨b,o,h1,h2,arr,t,h5,h6,by grind,λj a ha=>?_⟩
  grind
theorem s0_ {E:Env} {id sz i len:Nat} {cs:List AV} (hi:E.sy i=some (.vsl len sz cs)) {v:Value} (h:Con E (.slx id sz i) v):Con E (.sl id 0 len sz none) v:=by
 grind [Con]
mutual
theorem i2_ {E:Env} {id sz i len:Nat} {cs:List AV} (hi:E.sy i=some (.vsl len sz cs)):∀(a:AV) (v:Value),Con E a v->Con E (mQ_ id sz i len a) v
 | .slx id' z j,v,h=>by
   unfold mQ_;split
   .grind [za',s0_]
   exact h
 | .agg l,v,h=>by simp only [mQ_,Con]at h⊢;obtain ⟨vs,h1,h2⟩:=h;exact ⟨vs,h1,i3_ hi l vs h2⟩
 | .tup l,v,h=>by simp only [mQ_,Con]at h⊢;obtain ⟨vs,h1,h2⟩:=h;exact ⟨vs,h1,i3_ hi l vs h2⟩
 | .opq,v,h=>h
 | .bool _,v,h=>h
 | .int _ _,v,h=>h
 | .flt _ _,v,h=>h
 | .nan _,v,h=>h
 | .str _,v,h=>h
 | .nptr,v,h=>h
 | .ptr _ _,v,h=>h
 | .vptr _,v,h=>h
 | .nsl,v,h=>h
 | .sl ..,v,h=>h
 | .vsl ..,v,h=>h
 | .nmap,v,h=>h
 | .map _,v,h=>h
 | .nfn,v,h=>h
 | .fn _ _,v,h=>h
 | .nif,v,h=>h
 | .iface _ _,v,h=>h
 | .sym _,v,h=>h
 | .ptx ..,v,h=>h
theorem i3_ {E:Env} {id sz i len:Nat} {cs:List AV} (hi:E.sy i=some (.vsl len sz cs)):∀(l:List AV) (vs:List Value),ConL E l vs->ConL E (hO_ id sz i len l) vs
 |[],vs,h=>h
 |a::r,vs,h=>by simp only [hO_,ConL]at h⊢;obtain ⟨v,q,h1,h2,h3⟩:=h;exact ⟨v,q,h1,i2_ hi a v h2,i3_ hi r q h3⟩
end
theorem pd_ {id sz i len:Nat}:∀(l:List AV) (j:Nat) (a:AV),(hO_ id sz i len l)[j]? =some a->∃b,l[j]? =some b/\a=mQ_ id sz i len b
 |[],j,a,h=>by simp [hO_]at h
 |b::r,0,a,h=>by
  simp only [hO_,List.getElem?_cons_zero,Option.some.injEq]at h
  grind
 |b::r,j+1,a,h=>by simp only [hO_,List.getElem?_cons_succ]at h;exact pd_ r j a h
theorem mR_ {id sz i len:Nat}:∀l:List AV,(hO_ id sz i len l).length=l.length
 |[]=>rfl
 |b::r=>by simp only [hO_,List.length_cons,mR_ r]
theorem pc_ {B:World} {pr:Nat->Prop} {E:Env} {w:World} {id sz i len:Nat} {cs:List AV} (hi:E.sy i=some (.vsl len sz cs)) {H:AHeap} (hr:Rel B pr E H w):∀l:List Nat,Rel B pr E (qe_ id sz i len H l) w
 |[]=>hr
 |q::r=>by
  have ih:=pc_ (id:=id) hi hr r;unfold qe_;split
  .rename_i l hk;refine n5_ ih hk (mR_ l) λj a ha=>?_;obtain ⟨b,hb,rfl⟩:=pd_ _ _ _ ha
   grind [i2_]
  exact ih
theorem s1_ {P:Program} {i len sz:Nat} {Y:Sy} {cs:List AV} (h:(XOp.opn len sz).run P (ab_ Y.v [.sym i])=some (.agg cs)):Y.v i=some (.vsl len sz cs)/\cs.length=len*sz:=by
 have h:(match den Y.v (.sym i)with
  | .vsl n z cs=>match Nat.beq n len&&(Nat.beq z sz&&Nat.beq (aK_ cs) (Nat.mul len sz))with
    |true=>some (AV.agg cs)
    |false=>none
  |_=>none)=some (AV.agg cs):=h
 cases hy:Y.v i with
 |none=>grind [den]
 |some a=>
  simp only [den,hy]at h;split at h
  .split at h
   .rename_i hb;obtain ⟨e1,hb⟩:=aa_ hb;obtain ⟨e2,e3⟩:=aa_ hb;have e1:=za' e1;have e2:=za' e2;have e3:=za' e3;rw [ah_]at e3
    grind
   cases h
  cases h
end Go.Sx
