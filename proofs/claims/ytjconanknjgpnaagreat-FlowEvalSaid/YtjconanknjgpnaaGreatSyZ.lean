/-
  Regions whose order is open, with calls that take rows: in every order, but for what moves values alone.
-/
import Derived.Test.YtjconanknjgpnaaGreatSyO
set_option linter.unusedVariables false
set_option linter.unusedSimpArgs false
namespace Go.Sx
theorem Oper.wp_mono3 {P:Program} {o:Oper} {a:Act} {w:World} {K K':Act->World->Prop} {Q Q':Exit->Act->World->Prop} (h:∀a w,K a w->K' a w) (hq:∀e a w,e≠ .normal->Q e a w->Q' e a w)
  (hh:o.wp P a w K Q):o.wp P a w K' Q':=by
 unfold Oper.wp at*
 generalize (execOp a.eval o).run P w=r at*
 cases r with
 |ok n w'=>
  cases n<;>simp only [Oper.upon]at hh⊢<;>
   first
    |exact h _ _ hh
    |exact Calls.mono hh (λe w'' he=>by cases e<;>first|exact h _ _ he|exact hq _ _ _ (λe=>by cases e) he|exact he.imp λ_ hx=>hx.imp λ_ hy=>hq _ _ _ (λe=>by cases e) hy)
    |exact Rows.mono hh (λ_ _ he=>h _ _ he)
 |halt x w'=>cases x<;>simp only [Oper.upon]at hh⊢<;>first|exact hh|exact hq _ _ _ (λe=>by cases e) hh
theorem rdyE_ok {m:Nat}:∀{l:List Edge},rdyE m l=true↔∀e∈l,Region.binds .any e=true->bit m e.on=true
 |[]=>by simp [rdyE]
 |e::r=>by
  unfold rdyE
  rw [bindsE_eq]
  cases hb:Region.binds .any e with
  |true=>simp [rdyE_ok (l:=r),hb]
  |false=>simp [rdyE_ok (l:=r),hb]
theorem rdyL_mem {m:Nat}:∀{l:List Oper} {k:Nat} {x:I_q},x∈rdyL m l k↔∃j,x.i=k+j/\l[j]? =some x.o/\bit m x.i=false/\∀e∈x.o.after,Region.binds .any e=true->bit m e.on=true
 |[],k,x=>by simp [rdyL]
 |o::r,k,x=>by
  have ih:=rdyL_mem (m:=m) (l:=r) (k:=Nat.succ k) (x:=x)
  have key:(∃j,x.i=k+j/\(o::r)[j]? =some x.o/\bit m x.i=false/\∀e∈x.o.after,Region.binds .any e=true->bit m e.on=true)↔
    (x.i=k/\o=x.o/\bit m x.i=false/\∀e∈x.o.after,Region.binds .any e=true->bit m e.on=true)\/x∈rdyL m r (Nat.succ k):=by
   rw [ih]
   constructor
   ·rintro ⟨j,h1,h2,h3⟩
    cases j with
    |zero=>exact .inl ⟨by simpa using h1,by simpa using h2,h3⟩
    |succ j=>exact .inr ⟨j,by omega,by simpa using h2,h3⟩
   ·rintro (⟨h1,h2,h3⟩|⟨j,h1,h2,h3⟩)
    ·exact ⟨0,by simpa using h1,by simpa using h2,h3⟩
    ·exact ⟨j+1,by omega,by simpa using h2,h3⟩
  rw [key]
  have eq:rdyL m (o::r) k=(match not (bit m k)&&rdyE m o.after.toList with
   |true=>⟨k,o⟩::rdyL m r (Nat.succ k)
   |false=>rdyL m r (Nat.succ k)):=rfl
  rw [eq]
  cases hb:(not (bit m k)&&rdyE m o.after.toList)with
  |true=>
   simp only [List.mem_cons]
   have hb':bit m k=false/\∀e∈o.after,Region.binds .any e=true->bit m e.on=true:=by
    simp only [Bool.and_eq_true,Bool.not_eq_true']at hb
    exact ⟨hb.1,λe he=>rdyE_ok.1 hb.2 e (by simpa using he)⟩
   constructor
   ·rintro (rfl|h)
    ·exact .inl ⟨rfl,rfl,hb'⟩
    ·exact .inr h
   ·rintro (⟨h1,h2,h3⟩|h)
    ·refine .inl ?_
     obtain ⟨i,o'⟩:=x
     simp only at h1 h2
     rw [h1,h2]
    ·exact .inr h
  |false=>
   simp only
   constructor
   ·exact .inr
   ·rintro (⟨h1,h2,h3,h4⟩|h)
    ·exfalso
     rw [h1]at h3
     have:rdyE m o.after.toList=true:=rdyE_ok.2 λe he=>h4 e (by rw [←h2];simpa using he)
     rw [h3,this]at hb
     cases hb
    ·exact h
theorem dirE_ok {i:Nat}:∀{l:List Edge},dirE i l=true->∃e∈l,Region.binds .any e=true/\e.on=i
 |[],h=>by cases h
 |e::r,h=>by
  unfold dirE at h
  split at h
  ·rename_i hb
   simp only [Bool.and_eq_true]at hb
   exact ⟨e,List.mem_cons_self,by rw [←bindsE_eq];exact hb.1,Nat.eq_of_beq_eq_true hb.2⟩
  ·obtain ⟨e',h1,h2⟩:=dirE_ok h
   exact ⟨e',List.mem_cons_of_mem _ h1,h2⟩
theorem tmpsOf_mem {t:Nat}:∀{l:List Operand},Operand.tmp t∈l->t∈tmpsOf l
 |[],h=>by simp at h
 |x::r,h=>by
  rcases List.mem_cons.1 h with h|h
  ·subst h;unfold tmpsOf;exact List.mem_cons_self
  ·have ih:=tmpsOf_mem h
   cases x<;>unfold tmpsOf<;>first|exact List.mem_cons_of_mem _ ih|exact ih
theorem memT_not {t:Nat} {l:List Nat} (h:memT t l=false):t∉l:=λhm=>by rw [memT_mem hm]at h;cases h
theorem looksAt_reads {ops:Array Oper} {o:Oper} {d:Nat} (h:d∈o.looksAt ops):d∈readsOf ops.toList o:=by
 unfold Oper.looksAt at h
 unfold readsOf
 rcases List.mem_append.1 h with h|h
 ·obtain ⟨x,h1,h2⟩:=List.mem_filterMap.1 h
  have hx:x=.tmp d:=by cases x<;>simp at h2;rw [h2]
  have:=tmpsOf_mem (hx▸h1)
  split
  ·exact this
  ·split
   ·split
    ·exact List.mem_cons_of_mem _ this
    ·exact this
   ·exact this
 ·split at h
  ·rename_i g b hg
   rw [hg]
   simp only [nthOp_eq]
   cases ho:ops[g]? with
   |none=>rw [ho]at h;simp at h
   |some og=>
    rw [ho]at h
    have ho':ops.toList[g]? =some og:=by simpa using ho
    rw [ho']
    cases hd:og.dst with
    |none=>simp [hd]at h
    |some d'=>
     simp [hd]at h
     subst h
     simp only [hd]
     exact List.mem_cons_self
  ·simp at h
theorem apartB_ok {ops:Array Oper} {x y:Oper} (h:apartB ops.toList x y=true):x.apart ops y=true:=by
 unfold apartB at h
 unfold Oper.apart
 have key:∀(o:Oper) (d:Nat),memT d (readsOf ops.toList o)=false->(o.looksAt ops).contains d=false:=λo d hm=>by
  cases hc:(o.looksAt ops).contains d with
  |false=>rfl
  |true=>exact absurd (looksAt_reads (by simpa using hc)) (memT_not hm)
 cases hx:x.dst with
 |none=>
  cases hy:y.dst with
  |none=>rfl
  |some e=>
   simp only [hx,hy,Bool.true_and,Bool.not_eq_true']at h⊢
   exact key _ _ h
 |some d=>
  cases hy:y.dst with
  |none=>
   simp only [hx,hy,Bool.and_true,Bool.not_eq_true']at h⊢
   rw [key _ _ h];rfl
  |some e=>
   simp only [hx,hy,Bool.and_eq_true,Bool.not_eq_true']at h⊢
   obtain ⟨⟨h1,h2⟩,h3⟩:=h
   refine ⟨⟨key _ _ h1,?_⟩,key _ _ h3⟩
   have:d≠e:=λhde=>by subst hde;rw [Nat.beq_refl]at h2;cases h2
   simp only [bne_iff_ne,ne_eq,Option.some.injEq]
   exact λh=>this h.symm
theorem freeB_ok {all:List Oper} {m i:Nat} {x:Oper}:∀{l:List Oper} {k:Nat},freeB all m i x l k=true->∀(j:Nat) (y:Oper),l[j]? =some y->k+j≠i->bit m (k+j)=false->(∀e∈y.after,Region.binds .any e=true->e.on≠i)->apartB all x y=true
 |[],k,h,j,y,hj,_,_,_=>by simp at hj
 |o::r,k,h,j,y,hj,h1,h2,h3=>by
  unfold freeB at h
  obtain ⟨h,hr⟩:=and_split h
  cases j with
  |zero=>
   simp at hj
   subst hj
   simp only [Nat.add_zero]at h1 h2
   simp only [Bool.or_eq_true]at h
   rcases h with h|h|h|h
   ·exact absurd (Nat.eq_of_beq_eq_true h) h1
   ·rw [h2]at h;cases h
   ·obtain ⟨e,he,hb,ho⟩:=dirE_ok h
    exact absurd ho (h3 e (by simpa using he) hb)
   ·exact h
  |succ j=>
   exact freeB_ok hr j y (by simpa using hj) (by rw [show Nat.succ k+j=k+(j+1) by omega];exact h1) (by rw [show Nat.succ k+j=k+(j+1) by omega];exact h2) h3
theorem noSel_ok:∀{l:List Oper},noSel l=true->∀(j:Nat) (o:Oper) cs b,l[j]? =some o->o.op≠ .select cs b
 |[],h,j,o,cs,b,hj,_=>by simp at hj
 |x::r,h,j,o,cs,b,hj,ho=>by
  unfold noSel at h
  cases j with
  |zero=>simp at hj;subst hj;rw [ho]at h;cases h
  |succ j=>
   split at h
   ·cases h
   ·exact noSel_ok h j o cs b (by simpa using hj) ho
theorem dstB_ok {N:Nat}:∀{l:List Oper},dstB N l=true->∀o∈l,∀d,o.dst=some d->d<N
 |[],h,o,ho,_,_=>by simp at ho
 |x::r,h,o,ho,d,hd=>by
  unfold dstB at h
  obtain ⟨h1,h2⟩:=and_split h
  rcases List.mem_cons.1 ho with rfl|ho
  ·rw [hd]at h1;simpa [Nat.blt_eq]using h1
  ·exact dstB_ok h2 o ho d hd
theorem blurL_get:∀(l:List Oper) (T:Tm) (t:Nat),t<512->(∀o∈l,∀d,o.dst=some d->d<512)->tget (blurL l T) t=tget T t\/tget (blurL l T) t=.opq
 |[],T,t,_,_=>.inl rfl
 |o::r,T,t,ht,hd=>by
  have hr:∀o∈r,∀d,o.dst=some d->d<512:=λo ho=>hd o (List.mem_cons_of_mem _ ho)
  unfold blurL
  cases ho:o.dst with
  |none=>exact blurL_get r T t ht hr
  |some d=>
   have hd':=hd o List.mem_cons_self d ho
   simp only
   rcases blurL_get r (tset T d .opq) t ht hr with h|h
   ·by_cases e:d=t
    ·subst e;rw [tget_tset_same T ht]at h;exact .inr h
    ·rw [tget_tset_ne T ht hd' e]at h;exact .inl h
   ·exact .inr h
theorem blurL_opq:∀(l:List Oper) (T:Tm) (d:Nat),(∀o∈l,∀d,o.dst=some d->d<512)->((∃o∈l,o.dst=some d)\/(d<512/\tget T d=.opq))->tget (blurL l T) d=.opq
 |[],T,d,_,h=>by
  rcases h with ⟨o,ho,_⟩|h
  ·simp at ho
  ·exact h.2
 |o::r,T,d,hd,h=>by
  have hr:∀o∈r,∀d,o.dst=some d->d<512:=λo ho=>hd o (List.mem_cons_of_mem _ ho)
  unfold blurL
  cases ho:o.dst with
  |none=>
   refine blurL_opq r T d hr ?_
   rcases h with ⟨o',h1,h2⟩|h
   ·rcases List.mem_cons.1 h1 with rfl|h1
    ·rw [ho]at h2;cases h2
    ·exact .inl ⟨o',h1,h2⟩
   ·exact .inr h
  |some e=>
   have he:=hd o List.mem_cons_self e ho
   simp only
   by_cases hde:e=d
   ·subst hde;exact blurL_opq r _ e hr (.inr ⟨he,tget_tset_same T he _⟩)
   ·refine blurL_opq r _ d hr ?_
    rcases h with ⟨o',h1,h2⟩|h
    ·rcases List.mem_cons.1 h1 with rfl|h1
     ·rw [ho]at h2;cases h2;exact absurd rfl hde
     ·exact .inl ⟨o',h1,h2⟩
    ·exact .inr ⟨h.1,by rw [tget_tset_ne T h.1 he hde];exact h.2⟩
section
variable [Gl]
theorem mvVal_ok {P:Program} {ops:Array Oper} {N:Nat} {E:Env} {T:Tm} {a:Act} {o:Oper} {q:AV} (h:mvVal P T o=some q) (ht:TRel E N T a.tmps):
  ∃v,Yields P ops o v a/\Con E q v:=by
 obtain ⟨dst,op,type,pos,after,guard⟩:=o
 unfold mvVal at h
 simp only at h
 cases guard with
 |some g=>cases h
 |none=>
  simp only at h
  split at h
  ·rename_i x
   cases h
   exact ⟨a.eval x,.inl ⟨rfl,λw=>by simp [execOp]⟩,ht.look x⟩
  ·rename_i x
   split at h
   ·rename_i id off hx
    cases h
    have hc:=ht.look x
    rw [hx]at hc
    have hc':=hc
    simp only [Con]at hc
    obtain ⟨b,o,h1,h2⟩:=hc
    exact ⟨a.eval x,.inl ⟨rfl,λw=>by simp [execOp,h2]⟩,hc'⟩
   ·cases h
  ·rename_i s x f
   split at h
   ·rename_i id off hx
    have hc:=ht.look x
    rw [hx]at hc
    unfold evField at h
    split at h
    ·rename_i fields hd
     split at h
     ·rename_i fl hfl
      split at h
      ·rename_i i hi
       split at h
       ·cases h
       rename_i n hn
       simp only at h
       cases h
       simp only [Con]at hc
       obtain ⟨b,o,hφ,h2⟩:=hc
       refine ⟨.pointer (some ⟨b,o+(off+fl.offset),none⟩),.inl ⟨rfl,λw=>?_⟩,by simp only [Con];exact ⟨b,o,hφ,rfl⟩⟩
       simp [execOp,h2,Instr.fieldAt,run_underlying hd,hfl,Instr.sureAddr,fieldPlace,run_sizeOfI hi,hn,Addr.add_lit,Nat.add_assoc]
      ·cases h
     ·cases h
    ·cases h
   ·cases h
  ·rename_i x i
   split at h
   ·rename_i cs hx
    have hc:=ht.look x
    rw [hx]at hc
    simp only [Con]at hc
    obtain ⟨vs,h2,hL⟩:=hc
    rw [nthL_eq]at h
    obtain ⟨u,hu,hcu⟩:=hL.at i q h
    exact ⟨u,.inl ⟨rfl,λw=>by simp [execOp,h2,Instr.extract,hu]⟩,hcu⟩
   ·cases h
  ·cases h
def XB (ops:List Oper) (X:XP):XP:=λY r=>match r with
 | .pan v T H D=>(∀o∈ops,∀d,o.dst=some d->tget T d=.opq)/\X Y (.pan v T H D)
 |r=>X Y r
omit [Gl]in
theorem XB_imp {ops:List Oper} {K:KP} {X:XP} {Y:Sy} {r:CRes} (h:deliverP K (XB ops X) Y r):deliverP K X Y r:=by
 cases r with
 |pan v T H D=>exact h.2
 |norm T H D=>exact h
 |exit i T H D=>exact h
 |ret T H D=>exact h
section
variable {P:Program} {N:Nat} {Q:AV->Prop} {fuel:Nat} {c:VC}
theorem XB_un {B:World} {pr:Nat->Prop} {k:Nat} {E:Env} {ops:Array Oper} {K:KP} {X:XP} {o:Oper} (ho:o∈ops.toList) (hd:∀d,o.dst=some d->d<N) {v:Value} {ch:List PanicEntry} {a:Act} {w:World}
  (h:OutF P B pr N k E (deliverP K (XB ops.toList X)) (.panic ch) (a.put o.dst v) w):OutF P B pr N k E (deliverP K (XB ops.toList X)) (.panic ch) a w:=by
 obtain ⟨Y,r,h1,E',h2,h3,h4⟩:=h
 cases r with
 |norm T H D=>cases h4.1
 |exit i T H D=>cases h4.1
 |ret T H D=>cases h4.1
 |pan u T H D=>
  obtain ⟨u',h5,h6,st⟩:=h4
  refine ⟨Y,.pan u T H D,h1,E',h2,h3,u',h5,h6,?_,st.r,?_⟩
  ·refine ⟨?_,st.t.le,λt ht=>?_,st.t.gl⟩
   ·have:=st.t.size
    cases hdst:o.dst with
    |none=>rw [hdst]at this;exact this
    |some d=>rw [hdst]at this;simpa [Act.put]using this
   ·have:=st.t.con t ht
    cases hdst:o.dst with
    |none=>rw [hdst]at this;exact this
    |some d=>
     rw [hdst]at this
     by_cases e:t=d
     ·subst e;rw [h1.1 o ho t hdst];simp [Con]
     ·simpa [Act.put,Array.getD_eq_getD_getElem?,Array.getElem?_setIfInBounds_ne (Ne.symm e)]using this
  ·have:=st.d
   cases hdst:o.dst with
   |none=>rw [hdst]at this;exact this
   |some d=>rw [hdst]at this;exact this
omit [Gl]in
theorem eqPs_eq:∀{a b:List (Nat×AV)},eqPs a b=true->a=b
 |[],[],_=>rfl
 |(i,a)::r,(j,b)::s,h=>by
  simp only [eqPs]at h
  obtain ⟨h1,h⟩:=and_split h
  obtain ⟨h2,h3⟩:=and_split h
  rw [Nat.eq_of_beq_eq_true h1,beqA_eq h2,eqPs_eq h3]
 |[],_::_,h=>by simp [eqPs]at h
 |_::_,[],h=>by simp [eqPs]at h
omit [Gl]in
theorem eqRs_eq:∀{a b:List (Nat×List AV)},eqRs a b=true->a=b
 |[],[],_=>rfl
 |(i,a)::r,(j,b)::s,h=>by
  simp only [eqRs]at h
  obtain ⟨h1,h⟩:=and_split h
  obtain ⟨h2,h3⟩:=and_split h
  rw [Nat.eq_of_beq_eq_true h1,beqL_eq h2,eqRs_eq h3]
 |[],_::_,h=>by simp [eqRs]at h
 |_::_,[],h=>by simp [eqRs]at h
omit [Gl]in
theorem eqON_eq:∀{a b:Option Nat},eqON a b=true->a=b
 |none,none,_=>rfl
 |some a,some b,h=>by simp only [eqON]at h;rw [Nat.eq_of_beq_eq_true h]
 |none,some _,h=>by simp [eqON]at h
 |some _,none,h=>by simp [eqON]at h
omit [Gl]in
theorem eqOs_eq:∀{a b:List (Option Nat)},eqOs a b=true->a=b
 |[],[],_=>rfl
 |a::r,b::s,h=>by
  simp only [eqOs]at h
  obtain ⟨h1,h2⟩:=and_split h
  rw [eqON_eq h1,eqOs_eq h2]
 |[],_::_,h=>by simp [eqOs]at h
 |_::_,[],h=>by simp [eqOs]at h
omit [Gl]in
theorem eqNs_eq:∀{a b:List (Nat×Nat)},eqNs a b=true->a=b
 |[],[],_=>rfl
 |(i,a)::r,(j,b)::s,h=>by
  simp only [eqNs]at h
  obtain ⟨h1,h⟩:=and_split h
  obtain ⟨h2,h3⟩:=and_split h
  rw [Nat.eq_of_beq_eq_true h1,Nat.eq_of_beq_eq_true h2,eqNs_eq h3]
 |[],_::_,h=>by simp [eqNs]at h
 |_::_,[],h=>by simp [eqNs]at h
omit [Gl]in
theorem eqTAs_eq:∀{a b:List TA},eqTAs a b=true->a=b
 |[],[],_=>rfl
 |⟨a,b,c,d,e⟩::r,⟨a',b',c',d',e'⟩::s,h=>by
  simp only [eqTAs]at h
  obtain ⟨h1,h⟩:=and_split h
  obtain ⟨h2,h⟩:=and_split h
  obtain ⟨h3,h⟩:=and_split h
  obtain ⟨h4,h⟩:=and_split h
  obtain ⟨h5,h6⟩:=and_split h
  rw [Nat.eq_of_beq_eq_true h1,Nat.eq_of_beq_eq_true h2,Nat.eq_of_beq_eq_true h3,Nat.eq_of_beq_eq_true h4,eqON_eq h5,eqTAs_eq h6]
 |[],_::_,h=>by simp [eqTAs]at h
 |_::_,[],h=>by simp [eqTAs]at h
omit [Gl]in
theorem eqTpl_eq:∀{a b:Tpl},eqTpl a b=true->a=b
 |⟨a,b,c,d,e,f,g⟩,⟨a',b',c',d',e',f',g'⟩,h=>by
  simp only [eqTpl]at h
  obtain ⟨h1,h⟩:=and_split h
  obtain ⟨h2,h⟩:=and_split h
  obtain ⟨h3,h⟩:=and_split h
  obtain ⟨h4,h⟩:=and_split h
  obtain ⟨h5,h⟩:=and_split h
  obtain ⟨h6,h7⟩:=and_split h
  rw [eqPs_eq h1,eqRs_eq h2,Nat.eq_of_beq_eq_true h3,Nat.eq_of_beq_eq_true h4,eqTAs_eq h5,eqNs_eq h6,eqNs_eq h7]
omit [Gl]in
theorem eqEx_eq:∀{a b:List (Bool×Tpl)},eqEx a b=true->a=b
 |[],[],_=>rfl
 |(i,a)::r,(j,b)::s,h=>by
  simp only [eqEx]at h
  obtain ⟨h1,h⟩:=and_split h
  obtain ⟨h2,h3⟩:=and_split h
  rw [eq_of_beq h1,eqTpl_eq h2,eqEx_eq h3]
 |[],_::_,h=>by simp [eqEx]at h
 |_::_,[],h=>by simp [eqEx]at h
omit [Gl]in
theorem eqFT_eq:∀{a b:FT},eqFT a b=true->a=b
 |⟨a,b,c⟩,⟨a',b',c'⟩,h=>by
  simp only [eqFT]at h
  obtain ⟨h1,h⟩:=and_split h
  obtain ⟨h2,h3⟩:=and_split h
  rw [Nat.eq_of_beq_eq_true h1,eqTpl_eq h2,eqEx_eq h3]
omit [Gl]in
theorem eqXO_eq {a b:XOp} (h:eqXO a b=true):a=b:=by
 unfold eqXO at h
 split at h<;>first
  |cases h;done
  |rfl
  |(try simp only [Bool.and_eq_true,decide_eq_true_eq,beq_iff_eq]at h
    first
     |(obtain ⟨h1,h2,h3,h4⟩:=h;rw [h1,Nat.eq_of_beq_eq_true h2,h3,h4])
     |(obtain ⟨h1,h2,h3,h4⟩:=h;rw [Nat.eq_of_beq_eq_true h1,Nat.eq_of_beq_eq_true h2,Nat.eq_of_beq_eq_true h3,Nat.eq_of_beq_eq_true h4])
     |(obtain ⟨h1,h2,h3⟩:=h;rw [Nat.eq_of_beq_eq_true h1,h2,h3])
     |(obtain ⟨h1,h2,h3⟩:=h;rw [Nat.eq_of_beq_eq_true h1,Nat.eq_of_beq_eq_true h2,Nat.eq_of_beq_eq_true h3])
     |(obtain ⟨h1,h2,h3⟩:=h;rw [Nat.eq_of_beq_eq_true h1,Nat.eq_of_beq_eq_true h2,beqL_eq h3])
     |(obtain ⟨h1,h2⟩:=h;rw [Nat.eq_of_beq_eq_true h1,Nat.eq_of_beq_eq_true h2])
     |rw [h]
     |rw [Nat.eq_of_beq_eq_true h])
omit [Gl]in
theorem eqChk_eq {a b:Chk} (h:eqChk a b=true):a=b:=by
 unfold eqChk at h
 split at h<;>first
  |cases h;done
  |(obtain ⟨h1,h2⟩:=and_split h;rw [Nat.eq_of_beq_eq_true h1,Nat.eq_of_beq_eq_true h2])
  |rw [Nat.eq_of_beq_eq_true h]
omit [Gl]in
mutual
theorem eqVT_eq:∀{a b:VT},eqVT a b=true->a=b
 | .bad,_,h=>by simp [eqVT]at h
 | .done v,b,h=>by
   cases b<;>simp only [eqVT]at h<;>first|cases h;done|rw [beqA_eq h]
 | .ite i a1 a2,b,h=>by
   cases b<;>simp only [eqVT]at h<;>first|cases h;done|skip
   obtain ⟨h1,h⟩:=and_split h
   obtain ⟨h2,h3⟩:=and_split h
   rw [Nat.eq_of_beq_eq_true h1,eqVT_eq h2,eqVT_eq h3]
 | .lt o l n m t,b,h=>by
   cases b<;>simp only [eqVT]at h<;>first|cases h;done|skip
   obtain ⟨h1,h⟩:=and_split h
   obtain ⟨h2,h⟩:=and_split h
   obtain ⟨h3,h⟩:=and_split h
   obtain ⟨h4,h5⟩:=and_split h
   rw [eqXO_eq h1,beqL_eq h2,Nat.eq_of_beq_eq_true h3,eqON_eq h4,eqVT_eq h5]
 | .call f l n sh t,b,h=>by
   cases b<;>simp only [eqVT]at h<;>first|cases h;done|skip
   obtain ⟨h1,h⟩:=and_split h
   obtain ⟨h2,h⟩:=and_split h
   obtain ⟨h3,h⟩:=and_split h
   obtain ⟨h4,h5⟩:=and_split h
   rw [Nat.eq_of_beq_eq_true h1,beqL_eq h2,Nat.eq_of_beq_eq_true h3,eqOs_eq h4,eqVT_eq h5]
 | .loop n j hv bs,b,h=>by
   cases b<;>simp only [eqVT]at h<;>first|cases h;done|skip
   obtain ⟨h1,h⟩:=and_split h
   obtain ⟨h2,h⟩:=and_split h
   obtain ⟨h3,h4⟩:=and_split h
   rw [Nat.eq_of_beq_eq_true h1,Nat.eq_of_beq_eq_true h2,beqL_eq h3,eqVTs_eq h4]
 | .again l j hv,b,h=>by
   cases b<;>simp only [eqVT]at h<;>first|cases h;done|skip
   obtain ⟨h1,h⟩:=and_split h
   obtain ⟨h2,h3⟩:=and_split h
   rw [Nat.eq_of_beq_eq_true h1,Nat.eq_of_beq_eq_true h2,beqL_eq h3]
 | .chk c t,b,h=>by
   cases b<;>simp only [eqVT]at h<;>first|cases h;done|skip
   obtain ⟨h1,h2⟩:=and_split h
   rw [eqChk_eq h1,eqVT_eq h2]
 | .callF f ft hv n bs,b,h=>by
   cases b<;>simp only [eqVT]at h<;>first|cases h;done|skip
   obtain ⟨h1,h⟩:=and_split h
   obtain ⟨h2,h⟩:=and_split h
   obtain ⟨h3,h⟩:=and_split h
   obtain ⟨h4,h5⟩:=and_split h
   rw [Nat.eq_of_beq_eq_true h1,eqFT_eq h2,beqL_eq h3,Nat.eq_of_beq_eq_true h4,eqVTs_eq h5]
 | .both a1 a2,b,h=>by
   cases b<;>simp only [eqVT]at h<;>first|cases h;done|skip
   obtain ⟨h1,h2⟩:=and_split h
   rw [eqVT_eq h1,eqVT_eq h2]
theorem eqVTs_eq:∀{a b:VTs},eqVTs a b=true->a=b
 | .nil,b,h=>by
   cases b<;>simp only [eqVTs]at h<;>first|rfl|cases h;done
 | .cons n t r,b,h=>by
   cases b<;>simp only [eqVTs]at h<;>first|cases h;done|skip
   obtain ⟨h1,h⟩:=and_split h
   obtain ⟨h2,h3⟩:=and_split h
   rw [Nat.eq_of_beq_eq_true h1,eqVT_eq h2,eqVTs_eq h3]
end
theorem mkBoth_ok {L:LVs} {Y:Sy} {a b:VT} (h:VOK P Q L Y (mkBoth a b)):VOK P Q L Y a/\VOK P Q L Y b:=by
 unfold mkBoth at h
 split at h
 ·rename_i e
  rw [←eqVT_eq e]
  exact ⟨h,h⟩
 ·unfold VOK at h
  exact h
theorem bothL_ok {L:LVs} {Y:Sy} {f:I_q->VT}:∀{l:List I_q} {x:I_q},VOK P Q L Y (bothL f x l)->∀y,y∈x::l->VOK P Q L Y (f y)
 |[],x,h,y,hy=>by rw [List.mem_singleton.1 hy];exact h
 |z::r,x,h,y,hy=>by
  unfold bothL at h
  have h:=mkBoth_ok h
  rcases List.mem_cons.1 hy with rfl|hy
  ·exact h.1
  ·exact bothL_ok h.2 y hy
theorem pickMv_ok {all:List Oper} {m:Nat} {T:Tm}:∀{l:List I_q} {q:MV},pickMv P all m T l=some q->q.x∈l/\mvVal P T q.x.o=some q.a/\freeB all m q.x.i q.x.o all 0=true
 |[],q,h=>by cases h
 |x::r,q,h=>by
  unfold pickMv at h
  split at h
  ·rename_i a ha
   split at h
   ·rename_i hf
    cases h
    exact ⟨List.mem_cons_self,ha,hf⟩
   ·obtain ⟨h1,h2⟩:=pickMv_ok h
    exact ⟨List.mem_cons_of_mem _ h1,h2⟩
  ·obtain ⟨h1,h2⟩:=pickMv_ok h
   exact ⟨List.mem_cons_of_mem _ h1,h2⟩
theorem vAny_ok (hc:CallOk P (callN P fuel)) {ops:Array Oper} {X:VX->VT} {K:VS->VT} (hs:noSel ops.toList=true) (hd:dstB N ops.toList=true) (hN:N<=512) {L0:LVs} {n0:Nat} {Y0:Sy} {B:World} {pr:Nat->Prop} {E0:Env}:
  ∀(k m:Nat) (S:VS) (Y:Sy) (L:LVs),L.length=S.lv->Good P c S.n Y->L0 <+: L->n0<=S.n->Ext n0 Y0 Y->VOK P Q L Y (vAny P N fuel c ops.toList (blurX ops.toList X) K k m S)->
   ∀(f:Nat) (listed:Array Bool) (E:Env) (a:Act) (w:World),listed.size=ops.size->listed.toList.countP (· ==false)<=f->(∀j,listed.getD j false=bit m j)->E0.leF c.k E->E.At Y->St P B pr N E S.T S.H S.D a w->
    wpAny P .any ops (OutF P B pr N c.k E0 (deliverP (kV P Q c L0 n0 Y0 K) (XB ops.toList (xV P Q c L0 n0 Y0 X)))) f listed a w
 |0,m,S,Y,L,_,_,_,_,_,h=>by unfold vAny at h;exact h.elim
 |k+1,m,S,Y,L,hL,hf,hpre,hn0,hext,h=>by
  intro f listed E a w hsz hcnt hl hle hy st
  have hd512:∀o∈ops.toList,∀d,o.dst=some d->d<512:=λo ho d hdst=>Nat.lt_of_lt_of_le (dstB_ok hd o ho d hdst) hN
  have hmem:∀i,i∈Region.ready .any ops listed->∃x:I_q,x.i=i/\x∈rdyL m ops.toList 0/\ops[i]? =some x.o:=λi hi=>by
   obtain ⟨h1,o,h2,h3⟩:=mem_ready.1 hi
   have hlt:i<ops.size:=(Array.getElem?_eq_some_iff.1 h2).1
   have hg:listed.getD i false=false:=by
    have hlt':i<listed.size:=by omega
    simpa [hlt']using h1
   refine ⟨⟨i,o⟩,rfl,rdyL_mem.2 ⟨i,(Nat.zero_add i).symm,by simpa using h2,by rw [←hl];exact hg,λe he hb=>by rw [←hl];exact h3 e he hb⟩,h2⟩
  have hrdy:∀x:I_q,x∈rdyL m ops.toList 0->x.i∈Region.ready .any ops listed/\ops[x.i]? =some x.o/\∃hlt:x.i<listed.size,listed[x.i]=false:=λx hx=>by
   obtain ⟨j,h1,h2,h3,h4⟩:=rdyL_mem.1 hx
   rw [Nat.zero_add]at h1
   subst h1
   have ho:ops[x.i]? =some x.o:=by simpa using h2
   have hlt:x.i<ops.size:=(Array.getElem?_eq_some_iff.1 ho).1
   have hlt':x.i<listed.size:=by omega
   have hg:listed.getD x.i false=false:=by rw [hl];exact h3
   refine ⟨mem_ready.2 ⟨by simpa [hlt']using hg,x.o,ho,λe he hb=>by rw [hl];exact h4 e he hb⟩,ho,hlt',by simpa [hlt']using hg⟩
  have hset:∀x:I_q,x.i<listed.size->∀j,(listed.setIfInBounds x.i true).getD j false=bit (setB m x.i) j:=λx hlt j=>by
   have:=congrFun (getD_plus (listed:=listed) (i:=x.i) hlt) j
   rw [this]
   unfold plus setB
   rw [bit_lor,bit_pow]
   by_cases e:j=x.i
   ·subst e;simp
   ·rw [if_neg e]
    show listed.getD j false=_
    rw [hl];simp [Ne.symm e]
  unfold vAny at h
  split at h
  ·rename_i hnil
   have hr0:Region.ready .any ops listed=[]:=by
    rw [List.eq_nil_iff_forall_not_mem]
    intro i hi
    obtain ⟨x,_,hx,_⟩:=hmem i hi
    rw [hnil]at hx
    exact List.not_mem_nil hx
   refine wpAny_done hr0 ?_ f
   exact ⟨Y,.norm S.T S.H S.D,⟨S.n,S.lv,L,hpre,hL,hn0,hext,hf,h⟩,E,hle,hy,rfl,st⟩
  ·rename_i x0 r0 hcons
   obtain ⟨hr1,ho1,hlt1,hg1⟩:=hrdy x0 (by rw [hcons];exact List.mem_cons_self)
   obtain ⟨f',rfl⟩:∃f',f=f'+1:=by
    have:=count_set hlt1 hg1
    exact ⟨f-1,by omega⟩
   split at h
   ·rename_i q hq
    obtain ⟨q1,q2,q3⟩:=pickMv_ok hq
    rw [←hcons]at q1
    obtain ⟨hr2,ho2,hlt2,hg2⟩:=hrdy q.x q1
    split at h
    ·rename_i u hu
     obtain ⟨v,hv1,hv2⟩:=mvVal_ok (ops:=ops) q2 st.t
     have hmo:q.x.o∈ops.toList:=by
      have:=List.mem_of_getElem? (l:=ops.toList) (i:=q.x.i) (a:=q.x.o) (by simpa using ho2)
      exact this
     refine wpAny_first ho2 (λj o cs b ho=>noSel_ok hs j o cs b (by simpa using ho)) (λch a w hp=>XB_un hmo (λd hdst=>dstB_ok hd _ hmo d hdst) hp) f' listed a w (λj oj hj hji hun hno=>?_) hr2 hv1 ?_
     ·refine apartB_ok (freeB_ok q3 j oj (by simpa using hj) (by rw [Nat.zero_add];exact hji) ?_ hno)
      rw [Nat.zero_add,←hl]
      have hlt:j<listed.size:=by rw [hsz];exact (Array.getElem?_eq_some_iff.1 hj).1
      simpa [hlt]using hun
     ·refine vAny_ok hc hs hd hN k (setB m q.x.i) ⟨u S.T q.a,S.H,S.n,S.lv,S.D⟩ Y L hL hf hpre hn0 hext h f' _ E _ w (by simpa using hsz) ?_ (hset q.x hlt2) hle hy ⟨st.t.put hu hv2,st.r,?_⟩
      ·have:=count_set hlt2 hg2
       omega
      ·have:(a.put q.x.o.dst v).defers=a.defers:=by unfold Act.put;split<;>rfl
       rw [this];exact st.d
    ·exact h.elim
   ·have h:=bothL_ok h
    refine wpAny_all (rs:=Region.ready .any ops listed) rfl (λhnil=>by rw [hnil]at hr1;cases hr1) λi hi=>?_
    obtain ⟨x,rfl,hx,ho⟩:=hmem i hi
    obtain ⟨_,_,hlt,hg⟩:=hrdy x hx
    have hx':=h x (by rw [←hcons];exact hx)
    have hw:=wOps_ok ops [x.o] Y S.T S.H S.D _ _ (vOps_ok hc [x.o] S Y hL hf hx') B pr E a w hy st
    have next:∀(a:Act) (w:World),OutF P B pr N c.k E (deliverP (kV P Q c L S.n Y λS'=>vAny P N fuel c ops.toList (blurX ops.toList X) K k (setB m x.i) S') (xV P Q c L S.n Y (blurX ops.toList X))) .normal a w->
      wpAny P .any ops (OutF P B pr N c.k E0 (deliverP (kV P Q c L0 n0 Y0 K) (XB ops.toList (xV P Q c L0 n0 Y0 X)))) f' (listed.setIfInBounds x.i true) a w:=by
     intro a w hq
     obtain ⟨Y',r,g1,E',g2,g3,g4⟩:=hq
     cases r with
     |norm T H D=>
      obtain ⟨n',lv,L',p1,p2,p3,p4,p5,p6⟩:=g1
      refine vAny_ok hc hs hd hN k (setB m x.i) ⟨T,H,n',lv,D⟩ Y' L' p2 p5 (hpre.trans p1) (Nat.le_trans hn0 p3) (hext.trans p4 hn0) p6 f' _ E' a w (by simpa using hsz) ?_ (hset x hlt) (hle.trans g2) g3 g4.2
      have:=count_set hlt hg
      omega
     |exit i T H D=>cases g4.1
     |ret T H D=>cases g4.1
     |pan v T H D=>obtain ⟨u,g5,_⟩:=g4;cases g5
    have outs:∀(e:Exit) (a:Act) (w:World),e≠ .normal->OutF P B pr N c.k E (deliverP (kV P Q c L S.n Y λS'=>vAny P N fuel c ops.toList (blurX ops.toList X) K k (setB m x.i) S') (xV P Q c L S.n Y (blurX ops.toList X))) e a w->
      OutF P B pr N c.k E0 (deliverP (kV P Q c L0 n0 Y0 K) (XB ops.toList (xV P Q c L0 n0 Y0 X))) e a w:=by
     intro e a w he hq
     obtain ⟨Y',r,g1,E',g2,g3,g4⟩:=hq
     cases r with
     |norm T H D=>exact absurd g4.1 he
     |exit i T H D=>
      have g1:xV P Q c L S.n Y (blurX ops.toList X) Y' (.exit i T H D):=g1
      have g1':xV P Q c L S.n Y X Y' (.exit i T H D):=g1
      exact ⟨Y',.exit i T H D,xV_mono hpre hn0 hext g1',E',hle.trans g2,g3,g4⟩
     |ret T H D=>
      have g1:xV P Q c L S.n Y (blurX ops.toList X) Y' (.ret T H D):=g1
      have g1':xV P Q c L S.n Y X Y' (.ret T H D):=g1
      exact ⟨Y',.ret T H D,xV_mono hpre hn0 hext g1',E',hle.trans g2,g3,g4⟩
     |pan v T H D=>
      have g1:xV P Q c L S.n Y (blurX ops.toList X) Y' (.pan v T H D):=g1
      have g1':xV P Q c L S.n Y X Y' (.pan v (blurL ops.toList T) H D):=g1
      obtain ⟨u,g5,g6,st'⟩:=g4
      refine ⟨Y',.pan v (blurL ops.toList T) H D,⟨λo ho d hdst=>blurL_opq _ _ d hd512 (.inl ⟨o,ho,hdst⟩),xV_mono hpre hn0 hext g1'⟩,E',hle.trans g2,g3,u,g5,g6,⟨st'.t.size,st'.t.le,λt ht=>?_,st'.t.gl⟩,st'.r,st'.d⟩
      rcases blurL_get ops.toList T t ht hd512 with e|e
      ·rw [e];exact st'.t.con t ht
      ·rw [e];simp [Con]
    unfold wpOp
    simp only [ho]
    unfold wpList at hw
    split
    ·rename_i hwt
     rw [if_pos hwt]at hw
     rcases hw with hw|⟨_,a',w',hw⟩
     ·refine .inl (Oper.wp_mono3 (λa w hq=>?_) outs hw)
      unfold wpList at hq
      exact next a w hq
     ·exfalso
      obtain ⟨Y',r,g1,E',g2,g3,g4⟩:=hw
      cases r with
      |norm T H D=>cases g4.1
      |exit i T H D=>cases g4.1
      |ret T H D=>cases g4.1
      |pan v T H D=>obtain ⟨u,g5,_⟩:=g4;cases g5
    ·rename_i hwt
     rw [if_neg hwt]at hw
     unfold wpList at hw
     exact next _ w hw
theorem vAnyR_ok (hm:P.follows .mixedOrders=true) (hc:CallOk P (callN P fuel)) {L:LVs} {ops:Array Oper} {id:Nat} {S:VS} {Y:Sy} {X:VX->VT} {K:VS->VT} (hL:L.length=S.lv) (hf:Good P c S.n Y) (h:VOK P Q L Y (vAnyR P N fuel c ops.toList S X K)):
  ∀(B:World) (pr:Nat->Prop) (E:Env) (a:Act) (w:World),E.At Y->St P B pr N E S.T S.H S.D a w->(Code.region id ops true).wp P (OutF P B pr N c.k E (deliverP (kV P Q c L S.n Y K) (xV P Q c L S.n Y X))) a w:=by
 intro B pr E a w hy st
 unfold vAnyR at h
 split at h
 ·rename_i hb
  obtain ⟨h1,h2⟩:=and_split hb
  obtain ⟨h2,h3⟩:=and_split h2
  have hempty:∀j,(Array.replicate ops.size false).getD j false=false:=λj=>by
   rw [Array.getD_eq_getD_getElem?,Array.getElem?_replicate]
   split<;>rfl
  refine Code.wp_mono (λe a w hq=>?_) (wp_region_any hm (vAny_ok (B:=B) (pr:=pr) (E0:=E) (L0:=L) (n0:=S.n) (Y0:=Y) hc h1 h2 (by simpa using h3) _ 0 S Y L hL hf (List.prefix_refl L) (Nat.le_refl _) (Ext.refl _ _) h ops.size _ E a _ (by simp) ?_ (λj=>by rw [hempty,bit_zero]) (Env.leF_refl _ E) hy ⟨st.t,st.r.drawn _,st.d⟩))
  ·obtain ⟨Y',r,g1,g2⟩:=hq
   exact ⟨Y',r,XB_imp g1,g2⟩
  ·exact Nat.le_trans (List.countP_le_length) (by simp)
 ·exact h.elim
end
end
end Go.Sx
