/-
  The evaluator of code: operations in a row, code.
-/
import Derived.Test.YteegdnoekakdbaaGreatDoorSxI
import Derived.Recover
import Derived.Test.YteegdnoekakdbaaGreatDoorSyF
import Derived.Orders
set_option linter.unusedVariables false
set_option linter.unusedSimpArgs false
namespace Go.Sx
variable [Gl]
def DRel (P:Program) (E:Env):Dfs->List Deferred->Prop
 |[],ds=>ds=[]
 |(f,args)::D,ds=>∃vs r,ds={ target:=.fn (.func f) #[],args:=⟨vs⟩ }::r/\ConL E args vs/\bP_ P f=true/\DRel P E D r
omit [Gl]in
theorem DRel.mono {P:Program} {E E':Env} (h:E.le E'):∀{D:Dfs} {ds:List Deferred},DRel P E D ds->DRel P E' D ds
 |[],ds,hd=>hd
 |(f,args)::D,ds,hd=>by obtain ⟨vs,r,h1,h2,h3,h4⟩:=hd;exact ⟨vs,r,h1,h2.mono h,h3,h4.mono h⟩
structure St (P:Program) (B:World) (pr:Nat->Prop) (N:Nat) (E:Env) (T:Tm) (H:AHeap) (D:Dfs) (a:Act) (w:World):Prop where
 t:TRel E N T a.tmps
 r:Rel B pr E H w
 d:DRel P E D a.defers
def FPost (B:World) (pr:Nat->Prop) (E:Env) (r:FRes) (e:Ending) (w':World):Prop:=
 ∃E',E.le E'/\match r with
  | .ret v H'=>∃u,e=.returned u/\Con E' v u/\Rel B pr E' H' w'
  | .pan v H'=>∃u,e=.panicked [{ v:=u,recovered:=false }]/\Con E' v u/\Rel B pr E' H' w'
def an_ (P:Program) (call:CallF):Prop:=
 ∀(f:FuncId) (args:List AV) (H:AHeap) (r:FRes),call f args H=some r->∀(B:World) (pr:Nat->Prop) (E:Env) (w:World) (vs:List Value),GlOk E->Rel B pr E H w->ConL E args vs->
  Calls P f ⟨vs⟩ w (FPost B pr E r)
def QOut (P:Program) (B:World) (pr:Nat->Prop) (N:Nat) (E:Env) (r:CRes) (e:Exit) (a:Act) (w:World):Prop:=
 ∃E',E.le E'/\match r with
  | .norm T H D=>e=.normal/\St P B pr N E' T H D a w
  | .exit id T H D=>e=.exit id/\St P B pr N E' T H D a w
  | .ret T H D=>e=.ret/\St P B pr N E' T H D a w
  | .pan v T H D=>∃u,e=.panic [{ v:=u,recovered:=false }]/\Con E' v u/\St P B pr N E' T H D a w
def fR_ (K:Kn) (X:CRes->Res) (r:CRes):Res:=match r with
 | .norm T H D=>K T H D
 |r=>X r
section
variable {P:Program} {B:World} {pr:Nat->Prop} {N:Nat} {E:Env}
theorem QOut.le {E':Env} (h:E.le E') {r:CRes} {e:Exit} {a:Act} {w:World} (hq:QOut P B pr N E' r e a w):QOut P B pr N E r e a w:=by obtain ⟨E'',h1,h2⟩:=hq;exact ⟨E'',Env.le_trans h h1,h2⟩
omit [Gl]in
theorem Oper.wp_mono2 {o:Oper} {a:Act} {w:World} {K K':Act->World->Prop} {Q Q':Exit->Act->World->Prop} (h:∀a w,K a w->K' a w) (hq:∀e a w,Q e a w->Q' e a w)
  (hh:o.wp P a w K Q):o.wp P a w K' Q':=by
 unfold Oper.wp at*;generalize (execOp a.eval o).run P w=r at*;cases r with
 |ok n w'=>
  cases n<;>simp only [Oper.upon]at hh⊢<;>
   first
    |exact h _ _ hh
    |exact Calls.mono hh (λe w'' he=>by cases e<;>first|exact h _ _ he|exact hq _ _ _ he|exact he.imp λ_ hx=>hx.imp λ_ hy=>hq _ _ _ hy)
    |exact Rows.mono hh (λ_ _ he=>h _ _ he)
 |halt x w'=>cases x<;>simp only [Oper.upon]at hh⊢<;>first|exact hh|exact hq _ _ _ hh
omit [Gl]in
theorem wpList_mono {ops:Array Oper} {Q Q':Exit->Act->World->Prop} (hq:∀e a w,Q e a w->Q' e a w):∀(l:List Oper) (a:Act) (w:World),wpList P ops Q l a w->wpList P ops Q' l a w
 |[],a,w,h=>hq _ _ _ h
 |o::r,a,w,h=>by unfold wpList at h⊢;split;rename_i hw;rw [if_pos hw]at h;refine h.imp (λh=>Oper.wp_mono2 (wpList_mono hq r) hq h) λh=>⟨h.1,?_⟩;obtain ⟨a',w',h'⟩:=h.2;exact ⟨a',w',hq _ _ _ h'⟩;rename_i hw;rw [if_neg hw]at h;exact wpList_mono hq r _ _ h
omit [Gl]in
theorem iK_ {r:Option AV} {k:AV->Res} {res:FRes} (h:onP r k=some res):∃a,r=some a/\k a=some res:=by
 cases r with
 |none=>cases h
 |some a=>exact ⟨a,rfl,h⟩
omit [Gl]in
theorem rc_ {r:Option (AV×AHeap)} {k:AV->AHeap->Res} {res:FRes} (h:onM r k=some res):∃p,r=some p/\k p.1 p.2=some res:=by
 cases r with
 |none=>cases h
 |some a=>exact ⟨a,rfl,h⟩
omit [Gl]in
theorem mn_ {r:Option (FuncId×List AV)} {k:FuncId->List AV->Res} {res:FRes} (h:onC r k=some res):∃p,r=some p/\k p.1 p.2=some res:=by
 cases r with
 |none=>cases h
 |some a=>exact ⟨a,rfl,h⟩
omit [Gl]in
theorem rb_ {r:Option FRes} {k x:AV->AHeap->Res} {res:FRes} (h:onF r k x=some res):(∃a H,r=some (.ret a H)/\k a H=some res)\/∃a H,r=some (.pan a H)/\x a H=some res:=by
 cases r with
 |none=>cases h
 |some f=>cases f with
  |ret a H=>exact .inl ⟨a,H,rfl,h⟩
  |pan a H=>exact .inr ⟨a,H,rfl,h⟩
omit [Gl]in
theorem nD_ {c:OC} {u:Tm->AV->Tm} {k:LC} {call:CallF} {T:Tm} {H:AHeap} {D:Dfs} {K:Kn} {X:CRes->Res} {res:FRes} (h:(st_ c u k).f call T H D K X=some res):
  (∃x H',c.run T H=some (.val x H')/\k.f call (u T x) H' D K X=some res)\/
  (∃g args,c.run T H=some (.call g args)/\((∃x H',call g args H=some (.ret x H')/\k.f call (u T x) H' D K X=some res)\/∃v H',call g args H=some (.pan v H')/\X (.pan v T H' D)=some res))\/
  (∃g args,c.run T H=some (.dfr g args)/\k.f call (u T (.tup [])) H ((g,args)::D) K X=some res)\/
  (∃v,c.run T H=some (.pan v)/\X (.pan v T H D)=some res):=by
 cases c with
 |pv f=>exact .inl ⟨f T,H,rfl,h⟩
 |po f=>
  obtain ⟨a,ha,hk⟩:=iK_ (r:=f T) h
  grind [OC.run]
 |ho f=>
  obtain ⟨a,ha,hk⟩:=iK_ (r:=f T H) h
  grind [OC.run]
 |hm f=>
  obtain ⟨⟨x,H'⟩,ha,hk⟩:=rc_ (r:=f T H) (k:=λa H'=>k.f call (u T a) H' D K X) h
  grind [OC.run]
 |cl f=>
  obtain ⟨⟨g,args⟩,ha,hk⟩:=mn_ (r:=f T) (k:=λg args=>onF (call g args H) (λa H'=>k.f call (u T a) H' D K X) (λv H'=>X (.pan v T H' D))) h
  grind [OC.run,rb_]
 |df f=>
  obtain ⟨⟨g,args⟩,ha,hk⟩:=mn_ (r:=f T) (k:=λg args=>k.f call (u T (.tup [])) H ((g,args)::D) K X) h
  grind [OC.run]
 |pn f=>
  obtain ⟨a,ha,hk⟩:=iK_ (r:=f T) h
  grind [OC.run]
 |rc=>cases h
 |no=>cases h
theorem aw_ {T:Tm} {H:AHeap} {o:Oper} {r:ORes} (h:(ac_ P o).run T H=some r) {a:Act} {w:World} (hr:Rel B pr E H w) (ht:TRel E N T a.tmps):OpOk P B pr E w (execOp a.eval o) r:=by rcases rt_ h with h|h;exact gw_ hr (λx=>ht.look x) h;exact lU_ hr (λx=>ht.look x) h
def t7_ (P:Program) (N:Nat) (call:CallF) (ops:Array Oper) (k:LC) (l:List Oper):Prop:=
 ∀(T:Tm) (H:AHeap) (D:Dfs) (K:Kn) (X:CRes->Res) (res:FRes),k.f call T H D K X=some res->
  ∃r:CRes,fR_ K X r=some res/\∀B pr E a w,St P B pr N E T H D a w->wpList P ops (QOut P B pr N E r) l a w
theorem oO_ {call:CallF} (hcall:an_ P call) {ops:Array Oper} {o:Oper} {l:List Oper} {k:LC} (hk:t7_ P N call ops k l) {u:Tm->AV->Tm} (hu:bN_ N o.dst=.mk u)
  {T:Tm} {H:AHeap} {D:Dfs} {K:Kn} {X:CRes->Res} {res:FRes} (h:(st_ (ac_ P o) u k).f call T H D K X=some res):
  ∃r:CRes,fR_ K X r=some res/\∀B pr E a w,St P B pr N E T H D a w->o.wp P a w (wpList P ops (QOut P B pr N E r) l) (QOut P B pr N E r):=by
 rcases nD_ h with ⟨x,H',hrun,hrest⟩|⟨g,args,hrun,hrest⟩|⟨g,args,hrun,hrest⟩|⟨v,hrun,hX⟩;obtain ⟨r,hd,hw⟩:=hk _ _ _ _ _ _ hrest;refine ⟨r,hd,λB pr E a w st=>?_⟩;obtain ⟨E',n,v,w',h1,h2,h3,h4,h5⟩:=aw_ hrun st.r st.t;unfold Oper.wp;rw [h1];have key:wpList P ops (QOut P B pr N E r) l (a.put o.dst v) w':=(by refine wpList_mono (λe a w hq=>QOut.le h3 hq) _ _ _ (hw B pr E' (a.put o.dst v) w' ⟨(st.t.mono h3).put hu h5,h4,?_⟩);have:(a.put o.dst v).defers=a.defers:=(by unfold Act.put;split<;>rfl);rw [this];exact st.d.mono h3);rcases h2 with rfl|⟨rfl,rfl⟩;exact key;exact key;rcases hrest with ⟨x,H',hc,hrest⟩|⟨v,H',hc,hX⟩;obtain ⟨r,hd,hw⟩:=hk _ _ _ _ _ _ hrest;refine ⟨r,hd,λB pr E a w st=>?_⟩;obtain ⟨vs,h1,h2⟩:=aw_ hrun st.r st.t;unfold Oper.wp;rw [h1];refine Calls.mono (hcall g args H _ hc B pr E w vs st.t.gl st.r h2) λe w' he=>?_;obtain ⟨E',h3,v,rfl,h4,h5⟩:=he;refine wpList_mono (λe a w hq=>QOut.le h3 hq) _ _ _ (hw B pr E' (a.put o.dst v) w' ⟨(st.t.mono h3).put hu h4,h5,?_⟩);have:(a.put o.dst v).defers=a.defers:=(by unfold Act.put;split<;>rfl);rw [this];exact st.d.mono h3;refine ⟨.pan v T H' D,hX,λB pr E a w st=>?_⟩;obtain ⟨vs,h1,h2⟩:=aw_ hrun st.r st.t;unfold Oper.wp;rw [h1];refine Calls.mono (hcall g args H _ hc B pr E w vs st.t.gl st.r h2) λe w' he=>?_;obtain ⟨E',h3,u',rfl,h4,h5⟩:=he;exact ⟨E',h3,u',rfl,h4,st.t.mono h3,h5,st.d.mono h3⟩
 .obtain ⟨r,hd,hw⟩:=hk _ _ _ _ _ _ hrest;refine ⟨r,hd,λB pr E a w st=>?_⟩;obtain ⟨vs,h1,h2,h3⟩:=aw_ hrun st.r st.t;unfold Oper.wp;rw [h1];refine hw B pr E _ w ⟨?_,st.r,?_⟩
  .have:=st.t.put (a:=a) hu (a1_ E);have e:(({ a with defers:={ target:=.fn (.func g) #[],args:=⟨vs⟩ }::a.defers }:Act).put o.dst undef).tmps=(a.put o.dst undef).tmps:=by unfold Act.put;split<;>rfl
   grind
  have e:(({ a with defers:={ target:=.fn (.func g) #[],args:=⟨vs⟩ }::a.defers }:Act).put o.dst undef).defers={ target:=.fn (.func g) #[],args:=⟨vs⟩ }::a.defers:=(by unfold Act.put;split<;>rfl);rw [e];exact ⟨vs,a.defers,rfl,h2,h3,st.d⟩
 refine ⟨.pan v T H D,hX,λB pr E a w st=>?_⟩;obtain ⟨u',h1,h2⟩:=aw_ hrun st.r st.t;unfold Oper.wp;rw [h1];exact ⟨E,Env.le_refl _,u',rfl,h2,st⟩
theorem h5_ {call:CallF} (hcall:an_ P call) (ops:Array Oper):∀l:List Oper,t7_ P N call ops (eU_ P N ops.toList l) l
 |[]=>λT H D K X res h=>⟨.norm T H D,h,λB pr E a w st=>⟨E,Env.le_refl _,rfl,st⟩⟩
 |o::l=>λT H D K X res h=>by
  have ih:=h5_ hcall ops l;unfold eU_ at h;split at h;cases h
  .rename_i u hu;split at h;obtain ⟨r,hd,hw⟩:=oO_ hcall ih hu h;refine ⟨r,hd,λB pr E a w st=>?_⟩;simp_all [wpList,cK_]
   .rename_i g hg;simp only at h;split at h
    .rename_i t ht;split at h
     .obtain ⟨r,hd,hw⟩:=oO_ hcall ih hu h;refine ⟨r,hd,λB pr E a w st=>?_⟩;unfold wpList;rw [if_pos (ew_ st.t hg ht)]
      grind
     obtain ⟨r,hd,hw⟩:=ih _ _ _ _ _ _ h;refine ⟨r,hd,λB pr E a w st=>?_⟩;unfold wpList;rw [if_neg (by rw [ew_ st.t hg ht];simp)];refine hw B pr E _ w ⟨st.t.put hu (a1_ E),st.r,?_⟩;have:(a.put o.dst undef).defers=a.defers:=(by unfold Act.put;split<;>rfl);rw [this];exact st.d
    cases h
def t5_ (P:Program) (N:Nat) (call:CallF) (n:Nat) (k:CC) (c:Code):Prop:=
 ∀(T:Tm) (H:AHeap) (D:Dfs) (K:Kn) (X:CRes->Res) (res:FRes),k.f call n T H D K X=some res->
  ∃r:CRes,fR_ K X r=some res/\∀B pr E a w,St P B pr N E T H D a w->c.wp P (QOut P B pr N E r) a w
def gi_ (P:Program) (N:Nat) (call:CallF):Prop:=
 ∀(id:Nat) (ops:Array Oper) (T:Tm) (H:AHeap) (D:Dfs) (r:CRes),h8_ P call N ops.toList T H D=some r->
  ∀B pr E a w,St P B pr N E T H D a w->(Code.region id ops true).wp P (QOut P B pr N E r) a w
omit [Gl]in
theorem lt_ {id:Nat} {K:Kn} {X:CRes->Res} {r:CRes} {res:FRes} (h:fR_ K (sV_ id K X) r=some res):
  (∃T H D,r=.exit id T H D/\K T H D=some res)\/((∀T H D,r≠ .exit id T H D)/\fR_ K X r=some res):=by
 cases r with
 |norm T H D=>exact .inr ⟨λ_ _ _ e=>(nomatch e),h⟩
 |ret T H D=>exact .inr ⟨λ_ _ _ e=>(nomatch e),h⟩
 |pan v T H D=>exact .inr ⟨λ_ _ _ e=>(nomatch e),h⟩
 |exit id' T H D=>
  have h2:(match Nat.beq id' id with|true=>K T H D|false=>X (.exit id' T H D))=some res:=h;cases hb:Nat.beq id' id with
  |true=>
   grind [Nat.eq_of_beq_eq_true]
  |false=>simp only [hb]at h2;refine .inr ⟨λT' H' D' e=>?_,h2⟩;simp_all
omit [Gl]in
theorem hm_ {c:Code} {Q Q':Exit->Act->World->Prop} (hq:∀e a w,Q e a w->Q' e a w):∀(m:Nat) (a:Act) (w:World),Code.rounds P c Q m a w->Code.rounds P c Q' m a w
 |0,_,_,h=>h
 |m+1,a,w,h=>Code.wp_mono (λe a w hx=>by
   cases e with
   |normal=>exact hm_ hq m a w hx
   |exit id=>exact hq _ _ _ hx
   |goto l=>exact hq _ _ _ hx
   |ret=>exact hq _ _ _ hx
   |panic ch=>exact hq _ _ _ hx
   |outgrown=>exact hq _ _ _ hx) h
theorem QOut.then {r:CRes} (hr:∀T H D,r≠ .norm T H D) {K:Act->World->Prop} {e:Exit} {a:Act} {w:World} (h:QOut P B pr N E r e a w):Exit.then K (QOut P B pr N E r) e a w:=by
 cases e with
 |normal=>
  obtain ⟨E',h1,h2⟩:=h
  grind
 |exit id=>exact h
 |goto l=>exact h
 |ret=>exact h
 |panic ch=>exact h
 |outgrown=>exact h
theorem QOut.norm {T:Tm} {H:AHeap} {D:Dfs} {Q:Exit->Act->World->Prop} {K:Act->World->Prop} {e:Exit} {a:Act} {w:World} (h:QOut P B pr N E (.norm T H D) e a w)
  (hk:∀E' a w,E.le E'->St P B pr N E' T H D a w->K a w):Exit.then K Q e a w:=by
 obtain ⟨E',h1,rfl,h2⟩:=h;exact hk E' a w h1 h2
theorem oA_ {call:CallF} {n:Nat} {k:CC} {c:Code} (hk:t5_ P N call n k c):∀(m:Nat) (T:Tm) (H:AHeap) (D:Dfs) (X:CRes->Res) (res:FRes),
  loopE (λT H D K X=>k.f call n T H D K X) m T H D X=some res->
  ∃r:CRes,(∀T H D,r≠ .norm T H D)/\X r=some res/\∀B pr E a w,St P B pr N E T H D a w->Code.rounds P c (QOut P B pr N E r) m a w
 |0,T,H,D,X,res,h=>by cases h
 |m+1,T,H,D,X,res,h=>by
  obtain ⟨r,hd,hw⟩:=hk _ _ _ _ _ _ h;by_cases hr:∀T H D,r≠ .norm T H D
  .refine ⟨r,hr,?_,λB pr E a w st=>Code.wp_mono (λe a w hq=>hq.then hr) (hw B pr E a w st)⟩;cases r with
   |norm T H D=>grind
   |exit id T H D=>exact hd
   |ret T H D=>exact hd
   |pan v T H D=>exact hd
  .cases r with
   |exit id T H D=>grind
   |ret T H D=>grind
   |pan v T H D=>grind
   |norm T' H' D'=>obtain ⟨r2,hn,hX,hw2⟩:=oA_ hk m T' H' D' X res hd;refine ⟨r2,hn,hX,λB pr E a w st=>Code.wp_mono (λe a w hq=>?_) (hw B pr E a w st)⟩;exact hq.norm λE' a w hle st'=>hm_ (λe a w hq=>QOut.le hle hq) m a w (hw2 B pr E' a w st')
theorem dP_ {call:CallF} (hcall:an_ P call) (hdraw:gi_ P N call) (n:Nat):∀c:Code,t5_ P N call n (bb_ P N c) c
 | .skip=>λT H D K X res h=>by exact ⟨.norm T H D,h,λB pr E a w st=>wp_skip ⟨E,Env.le_refl _,rfl,st⟩⟩
 | .label l=>λT H D K X res h=>by exact ⟨.norm T H D,h,λB pr E a w st=>wp_label ⟨E,Env.le_refl _,rfl,st⟩⟩
 | .exit id=>λT H D K X res h=>by exact ⟨.exit id T H D,h,λB pr E a w st=>wp_exit ⟨E,Env.le_refl _,rfl,st⟩⟩
 | .ret=>λT H D K X res h=>by exact ⟨.ret T H D,h,λB pr E a w st=>wp_ret ⟨E,Env.le_refl _,rfl,st⟩⟩
 | .region id ops false=>λT H D K X res h=>by
   obtain ⟨r,hd,hw⟩:=h5_ hcall ops ops.toList _ _ _ _ _ _ h
   grind [wp_region_list]
 | .region id ops true=>λT H D K X res h=>by
   unfold bb_ at h;simp only at h;unfold sZ_ at h;split at h;cases h
   .rename_i r hr;refine ⟨r,?_,λB pr E a w st=>hdraw id ops T H D r hr B pr E a w st⟩;cases r<;>exact h
 | .seq x y=>λT H D K X res h=>by
   obtain ⟨r,hd,hw⟩:=dP_ hcall hdraw n x _ _ _ _ _ _ h;by_cases hr:∀T H D,r≠ .norm T H D
   .refine ⟨r,?_,λB pr E a w st=>wp_seq (Code.wp_mono (λe a w hq=>hq.then hr) (hw B pr E a w st))⟩;cases r with
    |norm T H D=>grind
    |exit id T H D=>exact hd
    |ret T H D=>exact hd
    |pan v T H D=>exact hd
   .cases r with
    |exit id T H D=>grind
    |ret T H D=>grind
    |pan v T H D=>grind
    |norm T' H' D'=>obtain ⟨r2,hd2,hw2⟩:=dP_ hcall hdraw n y _ _ _ _ _ _ hd;refine ⟨r2,hd2,λB pr E a w st=>wp_seq (Code.wp_mono (λe a w hq=>?_) (hw B pr E a w st))⟩;exact hq.norm λE' a w hle st'=>Code.wp_mono (λe a w hq=>QOut.le hle hq) (hw2 B pr E' a w st')
 | .cond c x y=>λT H D K X res h=>by
   unfold bb_ at h;simp only at h;unfold sX_ at h;split at h
   .rename_i t ht;split at h
    .obtain ⟨r,hd,hw⟩:=dP_ hcall hdraw n x _ _ _ _ _ _ h;refine ⟨r,hd,λB pr E a w st=>?_⟩;have:a.eval c=.bool true:=by have:=st.t.look c;grind [look,Con]
     grind [wp_cond_true]
    .obtain ⟨r,hd,hw⟩:=dP_ hcall hdraw n y _ _ _ _ _ _ h;refine ⟨r,hd,λB pr E a w st=>?_⟩;have:a.eval c=.bool false:=by have:=st.t.look c;grind [look,Con]
     grind [wp_cond_false]
   cases h
 | .block id b=>λT H D K X res h=>by
   obtain ⟨r,hd,hw⟩:=dP_ hcall hdraw n b _ _ _ _ _ _ h;rcases lt_ hd with ⟨T',H',D',rfl,hk⟩|⟨hne,hk⟩
   .refine ⟨.norm T' H' D',hk,λB pr E a w st=>wp_block (Code.wp_mono (λe a w hq=>?_) (hw B pr E a w st))⟩;obtain ⟨E',h1,rfl,h2⟩:=hq;show if id=id then _ else _
    rw [if_pos rfl];exact ⟨E',h1,rfl,h2⟩
   .refine ⟨r,hk,λB pr E a w st=>wp_block (Code.wp_mono (λe a w hq=>?_) (hw B pr E a w st))⟩;cases e with
    |exit id'=>
     show if id'=id then _ else _
     split
     .obtain ⟨E',h1,h2⟩:=hq
      grind
     exact hq
    |normal=>exact hq
    |goto l=>exact hq
    |ret=>exact hq
    |panic ch=>exact hq
    |outgrown=>exact hq
 | .loop b=>λT H D K X res h=>by
   obtain ⟨r,hn,hX,hw⟩:=oA_ (dP_ hcall hdraw n b) n T H D X res h;refine ⟨r,?_,λB pr E a w st=>wp_loop_rounds n (hw B pr E a w st)⟩;cases r with
   |norm T H D=>grind
   |exit id T H D=>exact hX
   |ret T H D=>exact hX
   |pan v T H D=>exact hX
 | .scope _=>λT H D K X res h=>by grind [bb_]
 | .goto _=>λT H D K X res h=>by grind [bb_]
 | .refuse _=>λT H D K X res h=>by grind [bb_]
 | .rangeFunc _ _ _ _=>λT H D K X res h=>by grind [bb_]
end
end Go.Sx
namespace Go.Sx
variable [Gl]
omit [Gl]in
theorem bg_ {P:Program} {ops:Array Oper} {Q Q':Exit->Act->List Frame->World->Prop} (hq:∀e a cs w,Q e a cs w->Q' e a cs w):
  ∀(l:List Nat) (a:Act) (cs:List Frame) (w:World),wpOpsS P ops Q l a cs w->wpOpsS P ops Q' l a cs w
 |[],a,cs,w,h=>hq _ _ _ _ h
 |i::r,a,cs,w,h=>by
  unfold wpOpsS at h⊢;cases ho:ops[i]? with
  |none=>simp only [ho]at h⊢;exact bg_ hq r _ _ _ h
  |some o=>
   simp only [ho]at h⊢;split
   .rename_i hw;rw [if_pos hw]at h;generalize (execOp a.eval o).run P w=x at*;cases x with
    |ok n w'=>
     cases n<;>simp only [Oper.upon]at h⊢<;>
      first
       |exact bg_ hq r _ _ _ h
       |exact Calls.mono h (λe w'' he=>by cases e<;>first|exact bg_ hq r _ _ _ he|exact hq _ _ _ _ he|exact he.imp λ_ hx=>hx.imp λ_ hy=>hq _ _ _ _ hy)
       |exact Rows.mono h (λ_ _ he=>bg_ hq r _ _ _ he)
       |skip
     split at h<;>exact bg_ hq r _ _ _ h
    |halt x w'=>cases x<;>simp only [Oper.upon]at h⊢<;>first|exact h|exact hq _ _ _ _ h
   rename_i hw;rw [if_neg hw]at h;exact bg_ hq r _ _ _ h
section
variable {P:Program} {B:World} {pr:Nat->Prop} {N:Nat} {E:Env} {H:AHeap} {w:World}
omit [Gl]in
theorem ni_ (hr:Rel B pr E H w) {t:TypeId} {a:AV} {v:Value} (hc:Con E a v) {r:AV} (h:bx_ P H t a=some r):
  ∃u,(asAddr v >>= λx=>loadVar t x).run P w=.ok u w/\Con E r u:=by
 unfold bx_ at h;split at h;cases h;rename_i d hd;split at h
 .rename_i hag;split at h;cases h;rename_i i hi;split at h;rename_i l hl;cases h;obtain ⟨b,o,vs,rfl,hlen,hL,hcell⟩:=bn_ hr hc hl;refine ⟨.agg ⟨vs⟩,?_,by simp only [Con];grind⟩;have:=bu_ (P:=P) hcell;simp_all [asAddr,loadVar,bD_,af_]
  cases h
 .rename_i hag;split at h;rename_i c hl;cases h;obtain ⟨b,o,vs,rfl,hlen,hL,hcell⟩:=bn_ hr hc hl;obtain ⟨u,hu,hcu⟩:=hL.at 0 r rfl;have:=hcell 0 u hu;simp_all [asAddr,loadVar,bD_]
  cases h
def iY_ (tmps:Array Value) (x:ResultVar):Sem Value:=match x with
 | .tmp t=>pure (tmps.getD t undef)
 | .cell a t=>do loadVar t (←asAddr (tmps.getD a undef))
theorem fB_ {T:Tm} {tmps:Array Value} (hr:Rel B pr E H w) (ht:TRel E N T tmps):∀(rs:List ResultVar) (l:List AV),dK_ P T H rs=some l->
  ∃vs,(rs.mapM (iY_ tmps)).run P w=.ok vs w/\ConL E l vs
 |[],l,h=>by simp_all [dK_,ConL.nil]
 | .tmp t::rs,l,h=>by unfold dK_ at h;split at h;rename_i hb;split at h;rename_i l' hl;cases h;obtain ⟨vs,h1,h2⟩:=fB_ hr ht rs l' hl;refine ⟨tmps.getD t undef::vs,?_,?_⟩;simp [List.mapM_cons,iY_,h1];exact ConL.cons (ht.con t (by simpa [Nat.blt_eq]using hb)) h2;cases h;cases h
 | .cell a t::rs,l,h=>by
   unfold dK_ at h;split at h
   .rename_i hb;split at h
    .rename_i v hv;split at h;rename_i l' hl;cases h;obtain ⟨vs,h1,h2⟩:=fB_ hr ht rs l' hl;obtain ⟨u,h3,h4⟩:=ni_ hr (ht.con a (by simp_all)) hv;refine ⟨u::vs,?_,ConL.cons h4 h2⟩;have h3:(iY_ tmps (.cell a t)).run P w=.ok u w:=h3;simp_all
     cases h
    cases h
   cases h
theorem gf_ {fn:Func} {T:Tm} {tmps:Array Value} (hr:Rel B pr E H w) (ht:TRel E N T tmps) {l:List AV} (h:dK_ P T H fn.results.toList=some l):
  ∃v,(results fn tmps).run P w=.ok v w/\Con E (rj_ l) v:=by
 obtain ⟨vs,h1,h2⟩:=fB_ (P:=P) hr ht _ _ h;have h3:(fn.results.mapM (iY_ tmps)).run P w=.ok ⟨vs⟩ w:=by rw [Array.mapM_eq_mapM_toList];simp [h1]
 match l,vs,h2,h3 with
 |[],vs,h2,h3=>
  have:vs=[]:=(by grind [ConL]);subst this;refine ⟨.tuple #[],?_,?_⟩;show (fn.results.mapM (iY_ tmps) >>= λvs=>pure (if h:vs.size=1 then vs[0]else Value.tuple vs)).run P w=_;simp [h3]
  .show Con E (.tup []) _;simp only [Con];grind
 |[a],vs,h2,h3=>obtain ⟨v,r,rfl,h4,h5⟩:=(by grind [ConL]:∃v r,vs=v::r/\Con E a v/\r=[]);subst h5;refine ⟨v,?_,h4⟩;show (fn.results.mapM (iY_ tmps) >>= λvs=>pure (if h:vs.size=1 then vs[0]else Value.tuple vs)).run P w=_;simp [h3]
 |a::b::r,vs,h2,h3=>
  obtain ⟨v,s,rfl,h4,h5⟩:=(by grind [ConL]:∃v s,vs=v::s/\Con E a v/\∃v' r',s=v'::r'/\Con E b v'/\ConL E r r');obtain ⟨v',r',rfl,h6,h7⟩:=h5;refine ⟨.tuple ⟨v::v'::r'⟩,?_,?_⟩;show (fn.results.mapM (iY_ tmps) >>= λvs=>pure (if h:vs.size=1 then vs[0]else Value.tuple vs)).run P w=_;simp [h3]
  .show Con E (.tup (a::b::r)) _;simp only [Con];grind
omit [Gl]in
theorem ho_:∀(args:List AV) (i:Nat) (T:Tm),i+args.length<=512->∀t,t<512->
  tget (aX_ args i T) t=if i<=t then (match args[t-i]? with|some a=>a|none=>tget T t)else tget T t
 |[],i,T,hl,t,ht=>by simp [aX_]
 |a::r,i,T,hl,t,ht=>by
  simp only [List.length_cons]at hl;unfold aX_;rw [ho_ r (Nat.succ i) (eM_ T i a) (by omega) t ht];by_cases h1:t=i;simp_all [if_neg,aq_]
  .rw [ar_ T ht (by omega) (λe=>h1 e.symm)]
   grind
theorem eY_ {args:List AV} {vs:List Value} (hg:GlOk E) (hc:ConL E args vs) (hN:args.length<=N) (h5:N<=512):
  TRel E N (aX_ args 0 tnil) ((⟨vs⟩:Array Value)++Array.replicate (N-(⟨vs⟩:Array Value).size) undef):=by
 have hlen:=hc.length;refine ⟨by grind,h5,λt ht=>?_,hg⟩;rw [ho_ args 0 tnil (by omega) t ht];simp only [Nat.zero_le,if_true,Nat.sub_zero,pX_];rcases Nat.lt_or_ge t args.length with hlt|hge
 .obtain ⟨v,h1,h2⟩:=hc.at t args[t] (by simp [hlt]);have:((⟨vs⟩:Array Value)++Array.replicate (N-(⟨vs⟩:Array Value).size) undef).getD t undef=v:=by simp_all [Array.getElem?_append]
  grind
 .have:((⟨vs⟩:Array Value)++Array.replicate (N-(⟨vs⟩:Array Value).size) undef).getD t undef=undef:=by
    rw [Array.getD_eq_getD_getElem?,Array.getElem?_append]
    grind
  grind [a1_]
def ModeIn (E:Env) (u:Option AV) (m:FrameMode):Prop:=match u with
 |none=>m=.returning\/∃v,m=.panicking [{ v:=v,recovered:=true }]
 |some a=>∃v,m=.panicking [{ v:=v,recovered:=false }]/\Con E a v
def ModeAt (E:Env) (u:Option AV) (m:FrameMode):Prop:=match u with
 |none=>m=.returning
 |some a=>∃v,m=.panicking [{ v:=v,recovered:=false }]/\Con E a v
omit [Gl]in
theorem ModeIn.mono {E E':Env} (h:E.le E') {u:Option AV} {m:FrameMode} (hm:ModeIn E u m):ModeIn E' u m:=by
 cases u with
 |none=>exact hm
 |some a=>obtain ⟨v,h1,h2⟩:=hm;exact ⟨v,h1,h2.mono h⟩
omit [Gl]in
theorem ModeAt.mono {E E':Env} (h:E.le E') {u:Option AV} {m:FrameMode} (hm:ModeAt E u m):ModeAt E' u m:=by
 cases u with
 |none=>exact hm
 |some a=>obtain ⟨v,h1,h2⟩:=hm;exact ⟨v,h1,h2.mono h⟩
omit [Gl]in
theorem ModeAt.in {E:Env} {u:Option AV} {m:FrameMode} (hm:ModeAt E u m):ModeIn E u m:=by
 cases u with
 |none=>exact .inl hm
 |some a=>exact hm
omit [Gl]in
theorem ModeAt.ne_run {E:Env} {u:Option AV} {m:FrameMode} (hm:ModeAt E u m):m≠ .run:=by
 cases u with
 |none=>rw [show m=.returning from hm];grind
 |some a=>obtain ⟨v,rfl,_⟩:=hm;grind
omit [Gl]in
theorem ModeIn.settle {E:Env} {u:Option AV} {m:FrameMode} (hm:ModeIn E u m):ModeAt E u (Go.settle m):=by
 cases u with
 |none=>rcases hm with rfl|⟨v,rfl⟩;rfl;rfl
 |some a=>obtain ⟨v,rfl,h⟩:=hm;exact ⟨v,rfl,h⟩
def SOut (P:Program) (B:World) (pr:Nat->Prop) (N:Nat) (E:Env) (c₀:Frame) (cs:List Frame) (r:SRes) (e:Exit) (a:Act) (cs':List Frame) (w:World):Prop:=
 ∃E' m,E.le E'/\cs'={ c₀ with mode:=m }::cs/\match r with
  | .norm T H u=>e=.normal/\ModeIn E' u m/\St P B pr N E' T H [] a w
  | .ret T H u=>e=.ret/\ModeIn E' u m/\St P B pr N E' T H [] a w
theorem SOut.le {E':Env} (h:E.le E') {c₀:Frame} {cs cs':List Frame} {r:SRes} {e:Exit} {a:Act} {w:World} (hq:SOut P B pr N E' c₀ cs r e a cs' w):SOut P B pr N E c₀ cs r e a cs' w:=by obtain ⟨E'',m,h1,h2⟩:=hq;exact ⟨E'',m,Env.le_trans h h1,h2⟩
omit [Gl]in
theorem Act.put_defers' (a:Act) (d:Option Tmp) (v:Value):(a.put d v).defers=a.defers:=by unfold Act.put;split<;>rfl
theorem St.putV {T:Tm} {H H':AHeap} {D:Dfs} {a:Act} {w w':World} (st:St P B pr N E T H D a w) {E':Env} (hle:E.le E') (hr:Rel B pr E' H' w') {dst:Option Nat} {p:Tm->AV->Tm}
  (hp:bN_ N dst=.mk p) {x:AV} {v:Value} (hc:Con E' x v):St P B pr N E' (p T x) H' D (a.put dst v) w':=
 ⟨(st.t.mono hle).put hp hc,hr,by rw [Act.put_defers'];exact st.d.mono hle⟩
theorem k7_ {call:CallF} (hcall:an_ P call) (ops:Array Oper) (c₀:Frame) (cs:List Frame):∀(l:List Oper) (k:Nat),(∀j,l[j]? =ops[k+j]?)->∀(T:Tm) (H:AHeap) (u:Option AV) (r:SRes),
  k6_ P call N ops.toList l T H u=some r->∀(E:Env) (a:Act) (w:World) (m:FrameMode),St P B pr N E T H [] a w->ModeIn E u m->
  wpOpsS P ops (SOut P B pr N E c₀ cs r) (List.range' k l.length) a ({ c₀ with mode:=m }::cs) w
 |[],k,hl,T,H,u,r,h,E,a,w,m,st,hm=>by cases h;exact ⟨E,m,Env.le_refl _,rfl,rfl,hm,st⟩
 |o::l,k,hl,T,H,u,r,h,E,a,w,m,st,hm=>by
  have h0:ops[k]? =some o:=(by simpa using (hl 0).symm);have hl':∀j,l[j]? =ops[k+1+j]? :=λj=>(by have:=hl (j+1);grind);have ih:=k7_ hcall ops c₀ cs l (k+1) hl';unfold k6_ at h;split at h;cases h
  .rename_i p hp;rw [List.length_cons,List.range'_succ];unfold wpOpsS;simp only [h0];have key:∀(g:Option Bool),(match aT_ ops.toList o with| .always=>some true| .mk g=>g T)=g->∀t,g=some t->Region.wanted o (yielded ops a.tmps)=t:=λg hg t ht=>by
    subst ht;split at hg
    .grind [cK_]
    rename_i g' hga;exact ew_ st.t hga hg
   split at h;cases h;rename_i hg;rw [key _ hg false rfl];exact ih _ _ _ _ h E _ w m (st.putV (Env.le_refl _) st.r hp (a1_ E)) hm;rename_i hg;rw [key _ hg true rfl];split at h;cases h;rename_i x H' hrun;obtain ⟨E',n,v,w',h1,h2,h3,h4,h5⟩:=aw_ hrun st.r st.t;have fin:=bg_ (λe a cs' w hq=>SOut.le h3 hq) _ _ _ _ (ih _ _ _ _ h E' _ w' m (st.putV h3 h4 hp h5) (hm.mono h3));rw [h1];rcases h2 with rfl|⟨rfl,rfl⟩;exact fin;exact fin;rename_i f args hrun;split at h;rename_i x H' hc;obtain ⟨vs,h1,h2⟩:=aw_ hrun st.r st.t;rw [h1];refine Calls.mono (hcall f args H _ hc B pr E w vs st.t.gl st.r h2) λe w' he=>?_;obtain ⟨E',h3,v,rfl,h4,h5⟩:=he;exact bg_ (λe a cs' w hq=>SOut.le h3 hq) _ _ _ _ (ih _ _ _ _ h E' _ w' m (st.putV h3 h5 hp h4) (hm.mono h3));cases h;rename_i hrun;have h1:=aw_ hrun st.r st.t;rw [h1];split at h;obtain ⟨v',rfl,hcv⟩:=hm;exact ih _ _ _ _ h E _ w _ (st.putV (Env.le_refl _) st.r hp hcv) (.inr ⟨v',rfl⟩);have hrec:recoverD ({ c₀ with mode:=m }::cs)=none:=(by rcases hm with rfl|⟨v,rfl⟩<;>simp [recoverD]);rw [hrec];exact ih _ _ _ _ h E _ w m (st.putV (Env.le_refl _) st.r hp (by simp [Con])) hm;cases h
omit [Gl]in
theorem Code.wpS_mono {c:Code} {Q Q':Exit->Act->List Frame->World->Prop} (hq:∀e a cs w,Q e a cs w->Q' e a cs w) {a:Act} {cs:List Frame} {w:World} (h:c.wpS P Q a cs w):c.wpS P Q' a cs w:=
 λb k hb hr=>let ⟨e,a',cs',w',q,arr⟩:=h b k hb hr;⟨e,a',cs',w',hq _ _ _ _ q,arr⟩
omit [Gl]in
theorem ed_ {id:Nat} {c:Code} {Q:Exit->Act->List Frame->World->Prop} {a:Act} {cs:List Frame} {w:World} (h:c.wpS P Q a cs w) (hQ:∀e a cs w,Q e a cs w->e=.normal\/e=.ret):(Code.block id c).wpS P Q a cs w:=by intro b k hb hr;obtain ⟨e,a₁,cs₁,w₁,hq,harr⟩:=h b (.inBlock id::k) hb hr;rcases hQ _ _ _ _ hq with rfl|rfl;exact ⟨.normal,a₁,cs₁,w₁,hq,.head step_block (Steps.trans harr (.one step_inBlock))⟩;exact ⟨_,a₁,cs₁,w₁,hq,.of_steps (.one step_block) harr⟩
theorem qm_ {call:CallF} (hcall:an_ P call) (hdraw:gi_ P N call) (n:Nat) (B:World) (pr:Nat->Prop) (c₀:Frame) (cs:List Frame):∀(c:Code) (T:Tm) (H:AHeap) (u:Option AV) (r:SRes),
  ci_ P call N n c T H u=some r->∀(E:Env) (a:Act) (w:World) (m:FrameMode),St P B pr N E T H [] a w->ModeIn E u m->
  c.wpS P (SOut P B pr N E c₀ cs r) a ({ c₀ with mode:=m }::cs) w:=by
 intro c
 induction c with
 |skip=>intro T H u r h E a w m st hm;cases h;exact wpS_of_wp (wp_skip ⟨E,m,Env.le_refl _,rfl,rfl,hm,st⟩)
 |ret=>intro T H u r h E a w m st hm;cases h;exact wpS_of_wp (wp_ret ⟨E,m,Env.le_refl _,rfl,rfl,hm,st⟩)
 |region id ops draw=>
  intro T H u r h E a w m st hm;unfold ci_ at h;split at h
  .refine wpS_region ?_;have:=k7_ hcall ops c₀ cs ops.toList 0 (by simp) T H u r h E a w m st hm
   grind [List.range_eq_range']
  split at h;rename_i T' H' hd;cases h;refine wpS_of_wp (Code.wp_mono (λe a w hq=>?_) (hdraw id ops T H [] _ hd B pr E a w st));obtain ⟨E',h1,rfl,h2⟩:=hq;exact ⟨E',m,h1,rfl,rfl,hm.mono h1,h2⟩;cases h
 |seq x y ihx ihy=>
  intro T H u r h E a w m st hm;unfold ci_ at h;split at h;rename_i T' H' u' hx;refine wpS_seq (Code.wpS_mono (λe a cs' w hq=>?_) (ihx T H u _ hx E a w m st hm));obtain ⟨E',m',h1,rfl,rfl,h3,h4⟩:=hq;exact Code.wpS_mono (λe a cs w hq=>SOut.le h1 hq) (ihy T' H' u' r h E' a w m' h4 h3)
  .rename_i hne;refine wpS_seq (Code.wpS_mono (λe a cs' w hq=>?_) (ihx T H u r h E a w m st hm));obtain ⟨E',m',h1,h2,h3⟩:=hq;cases r with
   |norm T' H' u'=>grind
   |ret T' H' u'=>obtain ⟨rfl,h4⟩:=h3;exact ⟨E',m',h1,h2,rfl,h4⟩
 |cond c x y ihx ihy=>
  intro T H u r h E a w m st hm;unfold ci_ at h;have hl:=st.t.look c
  grind [wpS_cond,Con]
 |block id b ih=>
  intro T H u r h E a w m st hm;refine ed_ (ih T H u r h E a w m st hm) λe a cs' w hq=>?_;obtain ⟨E',m',_,_,h3⟩:=hq
  grind
 |loop _ _=>grind [ci_]
 |exit _=>grind [ci_]
 |label _=>grind [ci_]
 |scope _ _=>grind [ci_]
 |goto _=>grind [ci_]
 |rangeFunc _ _ _ _ _ _=>grind [ci_]
 |refuse _=>grind [ci_]
def uR_ (B:World) (pr:Nat->Prop) (E:Env) (H:AHeap) (u:Option AV) (e:Ending) (m:FrameMode) (w:World):Prop:=
 ∃E' v,E.le E'/\e=.returned v/\ModeIn E' u m/\Rel B pr E' H w
theorem r8_ {call:CallF} (hcall:an_ P call) (hdraw:∀N,gi_ P N call) {n:Nat} {f:FuncId} {args:List AV} {H H':AHeap} {u u':Option AV} (h:to_ P call n f args H u=some (H',u'))
  {E:Env} {w:World} {vs:List Value} {m:FrameMode} (hg:GlOk E) (hr:Rel B pr E H w) (hc:ConL E args vs) (hm:ModeIn E u m):CallsD P f ⟨vs⟩ m w (uR_ B pr E H' u'):=by
 unfold to_ at h;split at h
 .rename_i fn hf;split at h
  .rename_i c hb;split at h
   .rename_i hle;obtain ⟨h1,h2⟩:=aa_ hle;have h1:args.length<=fn.ntmps:=(by grind [aj_,Nat.ble_eq]);have h2:fn.ntmps<=512:=(by simp_all);refine callsD_of_wpS hf hb λc₀ cs hmode=>?_;have st:St P B pr fn.ntmps E (aX_ args 0 tnil) H [] { tmps:=(⟨vs⟩:Array Value)++Array.replicate (fn.ntmps-(⟨vs⟩:Array Value).size) undef,defers:=[] } w:=
     ⟨eY_ hg hc h1 h2,hr,rfl⟩
    have hc₀:c₀={ c₀ with mode:=m }:=(by rw [←hmode]);have run:∀r,ci_ P call fn.ntmps n c (aX_ args 0 tnil) H u=some r->c.wpS P (SOut P B pr fn.ntmps E c₀ cs r) { tmps:=(⟨vs⟩:Array Value)++Array.replicate (fn.ntmps-(⟨vs⟩:Array Value).size) undef,defers:=[] } (c₀::cs) w:=λr hr=>by
     grind [qm_]
    split at h;rename_i T' H₂ u₂ hcode;split at h;rename_i l hl;cases h;refine Code.wpS_mono (λe a cs' w' hq=>?_) (run _ hcode);obtain ⟨E',m',h3,rfl,rfl,h4,h5⟩:=hq;obtain ⟨v,h6,h7⟩:=gf_ h5.r h5.t hl;exact ⟨h5.d,m',rfl,v,h6,E',v,h3,rfl,h4,h5.r⟩;cases h;rename_i T' H₂ u₂ hcode;split at h;rename_i l hl;cases h;refine Code.wpS_mono (λe a cs' w' hq=>?_) (run _ hcode);obtain ⟨E',m',h3,rfl,rfl,h4,h5⟩:=hq;obtain ⟨v,h6,h7⟩:=gf_ h5.r h5.t hl;exact ⟨h5.d,m',rfl,v,h6,E',v,h3,rfl,h4,h5.r⟩;cases h;cases h
   cases h
  cases h
 cases h
omit [Gl]in
theorem FPost.le {E':Env} (h:E.le E') {r:FRes} {e:Ending} {w:World} (hq:FPost B pr E' r e w):FPost B pr E r e w:=by obtain ⟨E'',h1,h2⟩:=hq;exact ⟨E'',Env.le_trans h h1,h2⟩
omit [Gl]in
theorem Leaves.mono {fn:Func} {tmps:Array Value} {R R':Ending->World->Prop} (hq:∀e w,R e w->R' e w):∀(ds:List Deferred) (u:FrameMode) (w:World),Leaves P fn tmps R ds u w->Leaves P fn tmps R' ds u w
 |[],.returning,w,h=>by obtain ⟨v,h1,h2⟩:=h;exact ⟨v,h1,hq _ _ h2⟩
 |[],.panicking ch,w,h=>hq _ _ h
 |[],.run,w,h=>h
 |d::ds,u,w,h=>by
  unfold Leaves at h⊢;obtain ⟨h1,fv,cap,f,args,h2,h3,h4⟩:=h;refine ⟨h1,fv,cap,f,args,h2,h3,λc cs hm=>?_⟩;obtain ⟨e,u',w',fr,h5,h6⟩:=h4 c cs hm;refine ⟨e,u',w',fr,?_,h6⟩;cases e with
  |returned v=>exact Leaves.mono hq ds _ _ h5
  |panicked ch=>exact Leaves.mono hq ds _ _ h5
  |outgrown=>exact hq _ _ h5
omit [Gl]in
theorem CallsD.mono {f:FuncId} {args:Array Value} {u:FrameMode} {R R':Ending->FrameMode->World->Prop} {w:World} (hq:∀e u w,R e u w->R' e u w) (h:CallsD P f args u w R):CallsD P f args u w R':=by
 intro c cs hm;obtain ⟨e,u',w',fr,h5,h6⟩:=h c cs hm
 grind
theorem cS_ {call:CallF} (hcall:an_ P call) (hdraw:∀N,gi_ P N call) {n:Nat} {fn:Func} {T:Tm} {tmps:Array Value}:∀(D:Dfs) (H:AHeap) (u:Option AV) (r:FRes),
  cC_ P call n fn.results.toList T D H u=some r->∀(E:Env) (w:World) (ds:List Deferred) (m:FrameMode),TRel E N T tmps->Rel B pr E H w->DRel P E D ds->ModeAt E u m->
  Leaves P fn tmps (FPost B pr E r) ds m w
 |[],H,u,r,h,E,w,ds,m,ht,hr,hd,hm=>by subst hd;unfold cC_ at h;split at h;subst hm;split at h;rename_i l hl;cases h;obtain ⟨v,h1,h2⟩:=gf_ hr ht hl;exact ⟨v,h1,E,Env.le_refl _,v,rfl,h2,hr⟩;cases h;cases h;obtain ⟨v',rfl,h1⟩:=hm;exact ⟨E,Env.le_refl _,v',rfl,h1,hr⟩
 |(f,args)::D,H,u,r,h,E,w,ds,m,ht,hr,hd,hm=>by obtain ⟨vs,ds',rfl,h2,h3,h4⟩:=hd;unfold cC_ at h;split at h;rename_i H' u' hdf;refine ⟨hm.ne_run,.func f,#[],f,⟨vs⟩,rfl,?_,CallsD.mono (λe m' w' hq=>?_) (r8_ hcall hdraw hdf ht.gl hr h2 hm.in)⟩;simp [invoke,dN_ h3];obtain ⟨E',v,h5,rfl,h6,h7⟩:=hq;exact Leaves.mono (λe w hq=>FPost.le h5 hq) _ _ _ (cS_ hcall hdraw D H' u' r h E' w' ds' _ (ht.mono h5) h7 (h4.mono h5) h6.settle);cases h
theorem g3_ {call:CallF} (hcall:an_ P call) (hdraw:∀N,gi_ P N call) (n:Nat):an_ P (du_ P call n):=by
 intro f args H r h B pr E w vs hg hr hc;unfold du_ at h;split at h
 .rename_i N c rs hcf;unfold qn_ at hcf;split at hcf
  .rename_i fn hf;split at hcf
   .rename_i code hb;split at hcf
    .rename_i h5;cases hcf;split at h
     .rename_i hle;have h5:fn.ntmps<=512:=(by simp_all);have hle:args.length<=fn.ntmps:=(by grind [aj_,Nat.ble_eq]);obtain ⟨r',hd,hw⟩:=dP_ hcall (hdraw _) n code _ _ _ _ _ _ h;refine calls_of_wp_defers hf hb (Code.wp_mono (λe a w' hq=>?_) (hw B pr E _ w ⟨eY_ hg hc hle h5,hr,rfl⟩));obtain ⟨E',h1,h2⟩:=hq;cases r' with
      |norm T H' D=>obtain ⟨rfl,st⟩:=h2;exact Leaves.mono (λe w hq=>FPost.le h1 hq) _ _ _ (cS_ hcall hdraw D H' none r hd E' w' a.defers .returning st.t st.r st.d rfl)
      |ret T H' D=>obtain ⟨rfl,st⟩:=h2;exact Leaves.mono (λe w hq=>FPost.le h1 hq) _ _ _ (cS_ hcall hdraw D H' none r hd E' w' a.defers .returning st.t st.r st.d rfl)
      |pan v T H' D=>obtain ⟨u,rfl,h3,st⟩:=h2;exact Leaves.mono (λe w hq=>FPost.le h1 hq) _ _ _ (cS_ hcall hdraw D H' (some v) r hd E' w' a.defers _ st.t st.r st.d ⟨u,rfl,h3⟩)
      |exit id T H' D=>cases hd
     cases h
    cases hcf
   cases hcf
  cases hcf
 cases h
end
end Go.Sx
namespace Go.Sx
theorem AHeap.ofFun (f:Nat->Option ABlk) (nx hi:Nat):∃H:AHeap,H.next=nx/\H.hi=hi/\∀id k,H.get id=some k↔id<top/\f id=some k:=by
 have key:∀n,n<=top->∃H:AHeap,H.next=nx/\H.hi=hi/\∀id k,H.get id=some k↔id<n/\f id=some k:=by
  intro n
  induction n with
  |zero=>
   intro _;refine ⟨⟨hnil,nx,hi⟩,rfl,rfl,λid k=>⟨λh=>?_,λh=>absurd h.1 (Nat.not_lt_zero _)⟩⟩
   grind [AHeap.get_of_lt,cR_,AHeap.get_of_ge]
  |succ n ih=>
   intro hn;obtain ⟨H,h1,h2,h3⟩:=ih (by omega);cases hf:f n with
   |none=>
    grind
   |some b=>
    refine ⟨H.set n b,h1,h2,λid k=>?_⟩
    grind [AHeap.get_set_same,AHeap.get_set_ne]
 simp_all
def Env.withRes (E:Env) (r:Nat->Prop):Env:={ E with res:=r }
def Env.re (E:Env) (r:Nat->Prop) (m:Nat->Nat->Option Value) (d:Nat->Prop):Env:={ E with res:=r,bim:=m,vd:=d }
theorem Env.sub_re (E:Env) (r:Nat->Prop) (m:Nat->Nat->Option Value) (d:Nat->Prop):E.sub (E.re r m d):=⟨λ_ _ h=>h,λ_ _ h=>h,λ_ _ _ h=>h,rfl,rfl⟩
theorem Env.sub_withRes (E:Env) (r:Nat->Prop):E.sub (E.withRes r):=⟨λ_ _ h=>h,λ_ _ h=>h,λ_ _ _ h=>h,rfl,rfl⟩
theorem Rel.frame {B:World} {pr:Nat->Prop} {E:Env} {H:AHeap} {w:World} (h:Rel B pr E H w) {K:AHeap} (hK:∀id k,K.get id=some k->H.get id=some k)
  (res':Nat->Prop) (hvd:∀id,E.vd id->res' id) (hres:∀id,res' id->E.φ id=none) (hrng:∀id,K.next<=id->id<K.hi->E.φ id=none/\¬res' id):
  ∃pr':Nat->Prop,Rel w pr' (E.re res' E.imm λid=>E.vd id/\K.get id≠none) K w/\∀(E':Env) (K':AHeap) (w':World),(E.re res' E.imm λid=>E.vd id/\K.get id≠none).le E'->Rel w pr' E' K' w'->
   (∀id,res' id->E'.φ id=none)/\(∀id,K'.next<=id->id<K'.hi->E'.φ id=none)/\E.sub E'/\
   (∀id k,H.get id=some k->K.get id=none->K'.get id=none)/\
   ∀(nx hi:Nat) (res'':Nat->Prop),(∀id,nx<=id->id<hi->E'.φ id=none/\¬res'' id)->(∀id,res'' id->E'.φ id=none)->(∀id,E.vd id->res'' id)->
   ∃H':AHeap,H'.next=nx/\H'.hi=hi/\Rel B pr (E'.re res'' E.bim E.vd) H' w'/\(∀id k,K'.get id=some k->H'.get id=some k)/\
    (∀id k,H.get id=some k->K.get id=none->H'.get id=some k):=by
 obtain ⟨own,g1,g2,g3,g4⟩:∃own:Nat->Option Nat,(∀id k,H.get id=some k->RowAt E w own id k)/\
   (∀b,pr b->own b=none)/\(∀b o v,E.imm b o=some v->own b=none)/\∀b,¬b<w.heap.size->own b=none:=by
  obtain ⟨own,g1,g2,g3⟩:=h.own;refine ⟨λb=>if b<w.heap.size then own b else none,λid k hk=>?_,λb hb=>?_,λb o v hi=>?_,λb hb=>if_neg hb⟩;exact (g1 id k hk).imp (λ_ h=>h) (λh=>h) λb o h1 h2 h3=>⟨(if_pos h3.lt).trans h2,h3⟩;all_goals grind
 refine ⟨λb=>b<w.heap.size/\¬∃id k,own b=some id/\K.get id=some k,?_,?_⟩
 .refine { own:=?_,imm:=h.imm,ib:=λ_ _ _ _ h=>h,fresh:=λid h1 h2=>(hrng id h1 h2).1,resv:=λid hi=>⟨hres id hi,λhx=>(hrng id hx.1 hx.2).2 hi⟩,vds:=λid h=>hvd id h.1,szs:=h.szs,
           prot:=λb hb=>⟨hb.1,rfl⟩,size:=Nat.le_refl _,os:=rfl,output:=rfl }
  refine ⟨λb=>match own b with
   |some id=>match K.get id with
    |some _=>some id
    |none=>none
   |none=>none,λid k hk=>?_,λb hb=>?_,λb o v hi=>?_⟩
  .obtain ⟨hv,hv2⟩|⟨b,o,h1,h2,h3⟩:=g1 id k (hK id k hk);exact .inl ⟨⟨hv,by grind⟩,hv2⟩
   .refine .inr ⟨b,o,h1,?_,h3.sub (Env.sub_re E res' E.imm _) rfl⟩
    grind
  .grind
  .have:own b=none:=g3 b o v hi
   grind
 .intro E' K' w' hle hr';obtain ⟨own',q1,q2,q3⟩:=hr'.own;have hsub:E.sub E':=⟨λi x hx=>hle.1.1 i x hx,λb n hx=>hle.1.2.1 b n hx,hle.1.2.2⟩;have hresE:E'.res=res':=hle.2.1;have hbimE:E'.bim=E.imm:=hle.2.2.1;have hvdE:∀id,E'.vd id->E.vd id/\K.get id≠none:=λid hx=>(by rw [hle.2.2.2]at hx;exact hx);have hr1:∀id,res' id->E'.φ id=none:=λid hi=>(hr'.resv id (by grind)).1;have hstay:∀id k,H.get id=some k->K.get id=none->((E.vd id/\Void E k)\/∃b o,E.φ id=some (b,o)/\own b=some id/\BlkAt E w b o k/\own' b=none/\w'.heap[b]? =w.heap[b]?)/\K'.get id=none:=by
   intro id k hk hn;obtain hvoid|⟨b,o,h1,h2,h3⟩:=g1 id k hk
   .refine ⟨.inl hvoid,?_⟩;cases hk':K'.get id with
    |none=>rfl
    |some k'=>obtain ⟨hv',_⟩|⟨b',o',e1,_⟩:=q1 id k' hk'<;>grind
   have hpr:b<w.heap.size/\¬∃id k,own b=some id/\K.get id=some k:=by
    grind
   have ho':=q2 b hpr;refine ⟨.inr ⟨b,o,h1,h2,h3,ho',(hr'.prot b hpr).2⟩,?_⟩;cases hk':K'.get id with
   |none=>rfl
   |some k'=>
    obtain ⟨hv',_⟩|⟨b',o',e1,e2,_⟩:=q1 id k' hk'
    .grind
    .rw [hsub.1 _ _ h1]at e1;grind
  refine ⟨hr1,hr'.fresh,hsub,λid k h1 h2=>(hstay id k h1 h2).2,?_⟩;intro nx hi res'' hrng' hres'' hvd'';obtain ⟨H',e1,e2,e3⟩:=AHeap.ofFun (λid=>match K'.get id with
   |some k=>some k
   |none=>match K.get id with
    |some _=>none
    |none=>H.get id) nx hi
  have cf_:∀id k,H'.get id=some k->K'.get id=some k\/(H.get id=some k/\K.get id=none):=by
   grind
  refine ⟨H',e1,e2,?_,λid k hk=>(e3 id k).2 ⟨AHeap.get_lt hk,by grind⟩,λid k hk hn=>?_⟩
  .have hs2:=Env.sub_re E' res'' E.bim E.vd;have hprpr:∀b,pr b->b<w.heap.size/\¬∃id k,own b=some id/\K.get id=some k:=λb hb=>by
    refine ⟨Nat.lt_of_lt_of_le (h.prot b hb).1 h.size,λhx=>?_⟩
    grind
   have himm:∀b o v,(b<w.heap.size/\¬∃id k,own b=some id/\K.get id=some k)->E'.imm b o=some v->E.imm b o=some v:=λb o v hb hv=>(by rw [←hbimE];exact hr'.ib b o v hb hv)
   refine { own:=?_,imm:=hr'.imm,ib:=λb o v hb hv=>h.ib b o v hb (himm b o v (hprpr b hb) hv),fresh:=λid h1 h2=>(hrng' id (e1▸h1) (e2▸h2)).1,
            resv:=λid hi=>⟨hres'' id hi,λhx=>(hrng' id (e1▸hx.1) (e2▸hx.2)).2 hi⟩,vds:=hvd'',szs:=hr'.szs,prot:=λb hb=>?_,size:=Nat.le_trans h.size hr'.size,os:=hr'.os.trans h.os,output:=hr'.output.trans h.output }
   .refine ⟨λb=>match own' b with
      |some id=>some id
      |none=>match own b with
       |some id=>match K.get id with
        |some _=>none
        |none=>some id
       |none=>none,λid k hk=>?_,λb hb=>?_,λb o v hi=>?_⟩
    rcases cf_ id k hk with hk|⟨hk,hn⟩;obtain ⟨hv',hv2⟩|⟨b,o,f1,f2,f3⟩:=q1 id k hk;exact .inl ⟨(hvdE id hv').1,hv2⟩;exact .inr ⟨b,o,f1,by grind,f3.sub hs2 rfl⟩;obtain ⟨hv1,hv2⟩|⟨b,o,f1,f2,f3,f4,f5⟩:=(hstay id k hk hn).1;exact .inl ⟨hv1,hv2.sub λi hi=>by show E'.sy i=_;rw [hsub.2.2.2.1];exact hi⟩;exact .inr ⟨b,o,hsub.1 _ _ f1,by grind,BlkAt.sub (Env.sub_trans hsub hs2) f5 f3⟩
    .grind
    .have hi1:E'.imm b o=some v:=hi;have ho':=q3 b o v hi1;simp only [ho'];cases ho:own b with
     |none=>rfl
     |some id=>
      cases hk:K.get id with
      |some k=>grind
      |none=>
       grind
   .have hpr:b<w.heap.size/\¬∃id k,own b=some id/\K.get id=some k:=by
      grind
    exact ⟨(h.prot b hb).1,(hr'.prot b hpr).2.trans (h.prot b hb).2⟩
  grind [AHeap.get_lt]
theorem m6_ (m i:Nat):bit m i=m.testBit i:=by
 unfold bit;have e:Nat.land (Nat.shiftRight m i) 1=(m>>>i)&&&1:=rfl
 grind [Nat.testBit]
theorem ky_ (a b i:Nat):bit (Nat.lor a b) i=(bit a i||bit b i):=by simp_all [m6_]
theorem n3_ (a i:Nat):bit (Nat.pow 2 a) i=decide (a=i):=by rw [m6_];exact Nat.testBit_two_pow
theorem lv_ (i:Nat):bit 0 i=false:=by grind [m6_]
theorem gm_ (e:Edge):dM_ e=Region.binds .any e:=by
 cases e with
 |mk on g=>cases g<;>rfl
theorem k2_:∀(l:List Nat) (n:Nat),pJ_ l n=l.getD n 0
 |[],n=>by simp [pJ_]
 |a::r,0=>rfl
 |a::r,n+1=>by simp [pJ_,k2_ r n]
theorem jD_ (bs:List Nat):∀(l:List Edge) (j:Nat),bit (d8_ bs l) j=true↔∃e∈l,dM_ e=true/\(e.on=j\/bit (pJ_ bs e.on) j=true)
 |[],j=>by simp [d8_,lv_]
 |e::r,j=>by
  unfold d8_;have ih:=jD_ bs r j;split
  .rw [ky_,ky_,n3_]
   grind
  grind
theorem jE_:∀(l:List Oper) (bs:List Nat),∃cs,qi_ l bs=bs++cs/\cs.length=l.length/\
  ∀k o,l[k]? =some o->∃b,(bs++cs)[bs.length+k]? =some b/\b=d8_ ((bs++cs).take (bs.length+k)) o.after.toList
 |[],bs=>⟨[],by simp [qi_],rfl,λk o h=>by simp at h⟩
 |o::l,bs=>by
  obtain ⟨cs,h1,h2,h3⟩:=jE_ l (bs++[d8_ bs o.after.toList]);refine ⟨d8_ bs o.after.toList::cs,?_,by simp [h2],λk x hk=>?_⟩
  .grind [qi_]
  .have e:bs++d8_ bs o.after.toList::cs=(bs++[d8_ bs o.after.toList])++cs:=(by simp);cases k with
   |zero=>
    grind
   |succ k=>
    obtain ⟨b,g1,g2⟩:=h3 k x (by grind);have el:(bs++[d8_ bs o.after.toList]).length+k=bs.length+(k+1):=(by simp;omega);rw [el]at g1 g2
    grind
theorem cN_:∀(l:List Edge) (i:Nat),e7_ l i=true->∀e∈l,dM_ e=true->e.on<i
 |[],i,h,e,he,hb=>by simp at he
 |e'::r,i,h,e,he,hb=>by
  unfold e7_ at h;rcases List.mem_cons.1 he with rfl|he;simp_all
  split at h;exact cN_ r i (aa_ h).2 e he hb;exact cN_ r i h e he hb
theorem iG_:∀(l:List Oper) (k:Nat),okE l k=true->∀i o,l[i]? =some o->e7_ o.after.toList (k+i)=true
 |[],k,h,i,o,hi=>by simp at hi
 |a::r,k,h,i,o,hi=>by
  obtain ⟨h1,h2⟩:=aa_ h;cases i with
  |zero=>grind
  |succ i=>
   have:=iG_ r (Nat.succ k) h2 i o (by grind)
   grind
theorem mF_ (ops:List Oper) (bs:List Nat):∀(l:List Oper) (c:List Nat) (k:Nat),l.length=c.length->(sis ops bs l c k).length=l.length/\
  ∀i o b,l[i]? =some o->c[i]? =some b->(sis ops bs l c k)[i]? =some (SI.mk o b (bz_ o.op) (l9_ b ops 0) (l2_ (k+i) ops bs) (cP_ ops o) (ts_ ops bs b (k+i) o))
 |[],c,k,h=>⟨rfl,λi o b hi=>by simp at hi⟩
 |a::r,[],k,h=>by simp at h
 |a::r,b::c,k,h=>by
  obtain ⟨h1,h2⟩:=mF_ ops bs r c (Nat.succ k) (by simpa using h);refine ⟨by simp [sis,h1],λi o b' hi hb=>?_⟩;cases i with
  |zero=>simp at hi hb;subst hi;subst hb;simp [sis]
  |succ i=>have:=h2 i o b' (by simpa using hi) (by simpa using hb);have e:Nat.succ k+i=k+(i+1):=(by omega);rw [e]at this;simpa [sis]using this
theorem hk_ (x:SI) (i:Nat):∀l:List SI,nC_ x i l=true->∀(j:Nat) (y:SI),l[j]? =some y->k4_ x i y=true
 |[],h,j,y,hj=>by simp at hj
 |a::r,h,j,y,hj=>by
  obtain ⟨h1,h2⟩:=aa_ h;cases j with
  |zero=>simp at hj;subst hj;exact h1
  |succ j=>exact hk_ x i r h2 j y (by simpa using hj)
theorem iF_:∀(l:List SI) (k:Nat),q9_ l k=true->∀(i j:Nat) (x y:SI),i<j->l[i]? =some x->l[j]? =some y->k4_ x (k+i) y=true
 |[],k,h,i,j,x,y,hij,hi,hj=>by simp at hi
 |a::r,k,h,i,j,x,y,hij,hi,hj=>by
  obtain ⟨h1,h2⟩:=aa_ h;cases j with
  |zero=>omega
  |succ j=>
   cases i with
   |zero=>
    grind [hk_]
   |succ i=>
    have:=iF_ r (Nat.succ k) h2 i j x y (by omega) (by grind) (by grind)
    grind
structure PlanOk (ops:List Oper) (l:List SI):Prop where
 len:l.length=ops.length
 op:∀(i:Nat) (x:SI),l[i]? =some x->ops[i]? =some x.o
 kd:∀(i:Nat) (x:SI),l[i]? =some x->x.kd=bz_ x.o.op
 rd:∀(i:Nat) (x:SI),l[i]? =some x->x.rd=cP_ ops x.o
 lo:∀(i:Nat) (x:SI),l[i]? =some x->x.lo=l9_ x.bef ops 0
 hi:∀(i:Nat) (x:SI),l[i]? =some x->x.hi=l2_ i ops (l.map SI.bef)
 lt:∀(i:Nat) (x:SI) (e:Edge),l[i]? =some x->e∈x.o.after->Region.binds .any e=true->e.on<i
 bef:∀(i:Nat) (x:SI) (j:Nat),l[i]? =some x->(bit x.bef j=true↔∃e∈x.o.after,Region.binds .any e=true/\(e.on=j\/∃y:SI,l[e.on]? =some y/\bit y.bef j=true))
 pair:∀(i j:Nat) (x y:SI),i<j->l[i]? =some x->l[j]? =some y->g5_ x y=true\/(a8_ x.kd=true/\a8_ y.kd=true)->bit y.bef i=true
theorem k8_ {ops:List Oper} {l:List SI} {n:Nat} (h:nI_ ops=.mk l n):PlanOk ops l/\n=aV_ l:=by
 unfold nI_ at h;split at h
 .rename_i hE;dsimp only at h;split at h
  .rename_i hA;cases h;obtain ⟨cs,h1,h2,h3⟩:=jE_ ops [];rw [List.nil_append]at h1;rw [h1]at hA⊢;simp only [List.nil_append,List.length_nil,Nat.zero_add]at h3;obtain ⟨s1,s2⟩:=mF_ ops cs ops cs 0 h2.symm;have hx:∀(i:Nat) (x:SI),(sis ops cs ops cs 0)[i]? =some x->∃o b,ops[i]? =some o/\cs[i]? =some b/\x=SI.mk o b (bz_ o.op) (l9_ b ops 0) (l2_ i ops cs) (cP_ ops o) (ts_ ops cs b i o):=by simp_all [List.getElem?_eq_some_iff]
   have hmap:(sis ops cs ops cs 0).map SI.bef=cs:=by
    apply List.ext_getElem?
    grind
   refine ⟨{ len:=s1,op:=?_,kd:=?_,rd:=?_,lo:=?_,hi:=?_,lt:=?_,bef:=?_,pair:=?_ },rfl⟩
   .grind
   .grind
   .grind
   .grind
   .grind
   intro i x e hi he hb;obtain ⟨o,b,g1,g2,rfl⟩:=hx i x hi;have:=iG_ ops 0 hE i o g1;rw [Nat.zero_add]at this;exact cN_ _ _ this e (by grind) (by exact hb)
   .intro i x j hi;obtain ⟨o,b,g1,g2,rfl⟩:=hx i x hi;obtain ⟨b',g3,g4⟩:=h3 i o g1;rw [g2]at g3;cases g3;have hlt:∀e∈o.after,dM_ e=true->e.on<i:=λe he hb=>by have:=iG_ ops 0 hE i o g1;rw [Nat.zero_add]at this;exact cN_ _ _ this e (by grind) hb
    have hil:i<ops.length:=(List.getElem?_eq_some_iff.1 g1).1;rw [g4,jD_];constructor
    .grind [gm_,k2_]
    .rintro ⟨e,he,hb,hj⟩;have hb':dM_ e=true:=by exact hb
     grind [k2_]
   .intro i j x y hij hi hj hc;have:=iF_ _ 0 hA i j x y hij hi hj
    grind [k4_]
  cases h
 cases h
def b3_ (p:Nat->Bool):List Oper->Nat->Nat
 |[],_=>0
 |o::r,k=>match a8_ (bz_ o.op)&&p k with
  |true=>Nat.succ (b3_ p r (Nat.succ k))
  |false=>b3_ p r (Nat.succ k)
theorem oz_ (b:Nat):∀(l:List Oper) (k:Nat),l9_ b l k=b3_ (bit b) l k
 |[],k=>rfl
 |o::r,k=>by unfold l9_ b3_;rw [oz_ b r (Nat.succ k)];rfl
theorem jK_ {p q:Nat->Bool} (h:∀k,p k=true->q k=true):∀(l:List Oper) (k:Nat),b3_ p l k<=b3_ q l k
 |[],k=>Nat.le_refl _
 |o::r,k=>by
  unfold b3_;have ih:=jK_ h r (Nat.succ k)
  grind
theorem cY_ {p q:Nat->Bool}:∀(l:List Oper) (k:Nat),(∀i o,l[i]? =some o->a8_ (bz_ o.op)=true->p (k+i)=q (k+i))->b3_ p l k=b3_ q l k
 |[],k,h=>rfl
 |o::r,k,h=>by
  unfold b3_;rw [cY_ (p:=p) (q:=q) r (Nat.succ k) λi o' hi hw=>by
   have:=h (i+1) o' (by grind) hw
   grind]
  cases hw:a8_ (bz_ o.op)with
  |false=>rfl
  |true=>
   have:=h 0 o rfl hw
   grind
theorem eT_ {p:Nat->Bool}:∀(l:List Oper) (k:Nat),(∀i o,l[i]? =some o->a8_ (bz_ o.op)=true->p (k+i)=false)->b3_ p l k=0
 |[],k,h=>rfl
 |o::r,k,h=>by
  unfold b3_;rw [eT_ r (Nat.succ k) λi o' hi hw=>by
   have:=h (i+1) o' (by grind) hw
   grind]
  cases hw:a8_ (bz_ o.op)with
  |false=>rfl
  |true=>
   have:=h 0 o rfl hw
   grind
def plus (S:Nat->Bool) (i:Nat):Nat->Bool:=λj=>if j=i then true else S j
theorem gp_ {S:Nat->Bool}:∀(l:List Oper) (k i:Nat) (o:Oper),l[i]? =some o->a8_ (bz_ o.op)=true->S (k+i)=false->b3_ (plus S (k+i)) l k=Nat.succ (b3_ S l k)
 |[],k,i,o,h,hw,hs=>by simp at h
 |a::r,k,0,o,h,hw,hs=>by simp at h;subst h;rw [Nat.add_zero]at hs⊢;unfold b3_;have e1:plus S k k=true:=(by simp [plus]);rw [hw,hs,e1];simp only [Bool.and_true,Bool.and_false];rw [cY_ (p:=plus S k) (q:=S) r (Nat.succ k) λj o' hj hw'=>by have:Nat.succ k+j≠k:=(by omega);simp_all [plus]]
 |a::r,k,i+1,o,h,hw,hs=>by
  have e:k+(i+1)=Nat.succ k+i:=(by omega);have ih:=gp_ (S:=S) r (Nat.succ k) i o (by simpa using h) hw (by grind)
  grind [b3_,plus]
theorem n7_ {S:Nat->Bool} {i:Nat}:∀(l:List Oper) (bs:List Nat) (k:Nat),l.length=bs.length->
  (∀j b o,bs[j]? =some b->l[j]? =some o->a8_ (bz_ o.op)=true->S (k+j)=true->bit b i=false)->
  (∀j j' o o',j<j'->l[j]? =some o->l[j']? =some o'->a8_ (bz_ o.op)=true->a8_ (bz_ o'.op)=true->S (k+j')=true->S (k+j)=true)->b3_ S l k<=l2_ i l bs
 |[],bs,k,hl,h1,h2=>Nat.zero_le _
 |o::r,[],k,hl,h1,h2=>by simp at hl
 |o::r,b::bs,k,hl,h1,h2=>by
  have ih:=n7_ (S:=S) (i:=i) r bs (Nat.succ k) (by grind)
   (λj b' o' hb ho hw hs=>by have e:Nat.succ k+j=k+(j+1):=(by omega);exact h1 (j+1) b' o' (by grind) (by grind) hw (by grind))
   (λj j' o1 o2 hjj h3 h4 h5 h6 h7=>by have e:Nat.succ k+j=k+(j+1):=(by omega);have e':Nat.succ k+j'=k+(j'+1):=(by omega);rw [e];exact h2 (j+1) (j'+1) o1 o2 (by omega) (by grind) (by grind) h5 h6 (by grind))
  unfold b3_ l2_;cases hw:a8_ (bz_ o.op)with
  |false=>grind
  |true=>
   cases hs:S k with
   |true=>
    have:=h1 0 b o rfl rfl hw (by grind)
    grind
   |false=>
    have:b3_ S r (Nat.succ k)=0:=eT_ r _ λj o' hj hw'=>by
     cases hsj:S (Nat.succ k+j)with
     |false=>rfl
     |true=>
      have e:Nat.succ k+j=k+(j+1):=(by omega);have:=h2 0 (j+1) o o' (by omega) rfl (by grind) hw hw' (by grind)
      grind
    grind
inductive Evt where
 |gone
 |off
 |val (a:AV)
 |row (a:AV) (id:Nat) (b:ABlk)
 |step (a:AV)
 |die
def Evt.put:Evt->Option AV
 | .off=>some (.tup [])
 | .val a=>some a
 | .row a _ _=>some a
 | .step a=>some a
 |_=>none
def Sl (l:List SI) (ev:Nat->Evt) (T0:Tm) (S:Nat->Bool) (t:Nat) (a:AV):Prop:=
 (a=tget T0 t/\∀j x,l[j]? =some x->S j=true->x.o.dst=some t->(ev j).put=none)\/
 ∃j x,l[j]? =some x/\S j=true/\x.o.dst=some t/\(ev j).put=some a/\∀j' x',l[j']? =some x'->S j'=true->x'.o.dst=some t->(ev j').put≠none->j'<=j
section
variable {l:List SI} {ev:Nat->Evt} {T0:Tm} {S S':Nat->Bool} {t:Nat} {a a':AV}
theorem Sl.congr (h:Sl l ev T0 S t a) (hc:∀j x,l[j]? =some x->x.o.dst=some t->S j=S' j):Sl l ev T0 S' t a:=by rcases h with ⟨h1,h2⟩|⟨j,x,h1,h2,h3,h4,h5⟩;exact .inl ⟨h1,λj x hj hs hd=>h2 j x hj (by grind) hd⟩;exact .inr ⟨j,x,h1,by grind,h3,h4,λj' x' hj hs hd=>h5 j' x' hj (by grind) hd⟩
theorem Sl.unique (h:Sl l ev T0 S t a) (h':Sl l ev T0 S t a'):a=a':=by rcases h with ⟨h1,h2⟩|⟨j,x,h1,h2,h3,h4,h5⟩<;>rcases h' with ⟨g1,g2⟩|⟨j',x',g1,g2,g3,g4,g5⟩<;>grind
theorem Sl.put {i:Nat} {x:SI} (hx:l[i]? =some x) (hd:x.o.dst=some t) (he:(ev i).put=some a) (hlast:∀j y,l[j]? =some y->S j=true->y.o.dst=some t->j<=i):Sl l ev T0 (plus S i) t a:=by
 refine .inr ⟨i,x,hx,by simp [plus],hd,he,λj' x' hj hs hd' _=>?_⟩
 grind [plus]
theorem Sl.keep {i:Nat} (h:Sl l ev T0 S t a) (hk:∀x,l[i]? =some x->x.o.dst=some t->(ev i).put=none):Sl l ev T0 (plus S i) t a:=by
 rcases h with ⟨h1,h2⟩|⟨j,x,h1,h2,h3,h4,h5⟩
 .refine .inl ⟨h1,λj x hj hs hd=>?_⟩
  grind [plus]
 .refine .inr ⟨j,x,h1,?_,h3,h4,λj' x' hj hs hd hp=>?_⟩<;>grind [plus]
end
variable [Gl]
theorem bF_ {ops:Array Oper} {E:Env} {N:Nat} {R:Tm} {a:Act} {x:SI} {t:Bool} (ht:TRel E N R a.tmps) (h:aJ_ ops.toList x R=some t):Region.wanted x.o (yielded ops a.tmps)=t:=by
 grind [aJ_,cK_,ew_]
omit [Gl]in
theorem kf_ {c:OC} {T:Tm} {H:AHeap} {a:AV} (h:cc_ c T H=some a):c.run T H=some (.val a H):=by
 unfold cc_ at h
 grind [OC.run]
omit [Gl]in
theorem Rel.reres {B:World} {pr:Nat->Prop} {E:Env} {H:AHeap} {w:World} (h:Rel B pr E H w) {r:Nat->Prop} (hr:∀id,r id->E.φ id=none/\¬(H.next<=id/\id<H.hi)) (hvd:∀id,E.vd id->r id):Rel B pr (E.withRes r) H w where
 own:=by obtain ⟨own,h1,h2⟩:=h.own;refine ⟨own,λid k hk=>?_,h2⟩;exact (h1 id k hk).imp (λ_ h=>h) (λh=>h) λb o hφ ho hb=>⟨ho,hb.sub (Env.sub_withRes E r) rfl⟩
 imm:=h.imm
 ib:=h.ib
 fresh:=h.fresh
 resv:=hr
 vds:=hvd
 szs:=h.szs
 prot:=h.prot
 size:=h.size
 os:=h.os
 output:=h.output
omit [Gl]in
theorem DRel.sub {P:Program} {E E':Env} (h:E.sub E'):∀{D:Dfs} {ds:List Deferred},DRel P E D ds->DRel P E' D ds
 |[],ds,hd=>hd
 |(f,args)::D,ds,hd=>by obtain ⟨vs,r,h1,h2,h3,h4⟩:=hd;exact ⟨vs,r,h1,h2.sub h,h3,DRel.sub h h4⟩
def wAt (ops:List Oper) (i:Nat):Nat:=b3_ (λj=>decide (j<i)) ops 0
structure Took (l:List SI) (ev:Nat->Evt) (i:Nat) (x:SI) (G G1:AHeap):Prop where
 next:G1.next=G.next
 hi:G1.hi=G.hi
 row:∀id k,G1.get id=some k->G.get id=some k\/∃j y a,l[j]? =some y/\ev j=.row a id k/\bit x.bef j=true/\
  ∀k' y' a',l[k']? =some y'->k'<i->ev k'=.step a'->bit y'.bef j=false
inductive Did (P:Program) (call:CallF) (ops:List Oper) (l:List SI) (ev:Nat->Evt) (idOf:Nat->Nat) (Gs:List AHeap) (dd:Option (Nat×AV×AHeap)) (i:Nat) (x:SI) (R:Tm):Evt->Prop
 |off (hg:aJ_ ops x R=some false) (hw:a8_ x.kd=true->∃G,Gs[wAt ops i]? =some G/\Gs[wAt ops i+1]? =some G):Did P call ops l ev idOf Gs dd i x R .off
 |pure {a:AV} (hg:aJ_ ops x R=some true) (hk:x.kd=.pure) (h:cc_ (ac_ P x.o) R ⟨hnil,0,0⟩=some a):Did P call ops l ev idOf Gs dd i x R (.val a)
 |read {a:AV} (hg:aJ_ ops x R=some true) (hk:x.kd=.read) (h:∀m G,x.lo<=m->m<=x.hi->Gs[m]? =some G->cc_ (ac_ P x.o) R G=some a):Did P call ops l ev idOf Gs dd i x R (.val a)
 |fl {a:AV} {j id:Nat} {y:SI} {c:AV} {b:ABlk} (hg:aJ_ ops x R=some true) (hk:x.kd=.read) (hy:l[j]? =some y) (hj:ev j=.row c id b) (hbit:bit x.bef j=true)
   (hno:∀(k:Nat) (y':SI) (a':AV),l[k]? =some y'->k<i->ev k=.step a'->bit y'.bef j=false) (hlater:∀(k:Nat) (y':SI),l[k]? =some y'->i<k->a8_ y'.kd=true->bit y'.bef j=true->bit y'.bef i=true)
   (ht:id<top) (h:cc_ (ac_ P x.o) R ((⟨hnil,0,0⟩:AHeap).set id b)=some a):Did P call ops l ev idOf Gs dd i x R (.val a)
 |mem {a:AV} {b:ABlk} {H':AHeap} (hg:aJ_ ops x R=some true) (hk:x.kd=.mem) (h:(ac_ P x.o).run R ⟨hnil,idOf i,Nat.succ (idOf i)⟩=some (.val a H')) (hb:H'.get (idOf i)=some b):
   Did P call ops l ev idOf Gs dd i x R (.row a (idOf i) b)
 |wr {a:AV} {G G1 H':AHeap} (hg:aJ_ ops x R=some true) (hk:x.kd=.wr) (h1:Gs[wAt ops i]? =some G) (h2:Gs[wAt ops i+1]? =some H') (ht:Took l ev i x G G1)
   (h:(ac_ P x.o).run R G1=some (.val a H')\/∃f args,(ac_ P x.o).run R G1=some (.call f args)/\call f args G1=some (.ret a H')):Did P call ops l ev idOf Gs dd i x R (.step a)
 |die {v:AV} {G G1 H':AHeap} (hg:aJ_ ops x R=some true) (hk:x.kd=.wr) (h1:Gs[wAt ops i]? =some G) (ht:Took l ev i x G G1) (hd:dd=some (i,v,H'))
   (h:((ac_ P x.o).run R G1=some (.pan v)/\H'=G1)\/∃f args,(ac_ P x.o).run R G1=some (.call f args)/\call f args G1=some (.pan v H')):Did P call ops l ev idOf Gs dd i x R .die
structure Facts (P:Program) (call:CallF) (N:Nat) (ops:List Oper) (l:List SI) (ev:Nat->Evt) (T0:Tm) (idOf:Nat->Nat) (Gs:List AHeap) (dd:Option (Nat×AV×AHeap)):Prop where
 each:∀(i:Nat) (x:SI),l[i]? =some x->(ev i=.gone/\∃d v H,dd=some (d,v,H)/\bit x.bef d=true)\/
  ∃u R,bN_ N x.o.dst=.mk u/\(∀t,t<512->tget R t=.opq\/(t∈x.rd/\Sl l ev T0 (λj=>decide (j<i)) t (tget R t)))/\Did P call ops l ev idOf Gs dd i x R (ev i)
 dead:∀d v H,dd=some (d,v,H)->ev d=.die
 row:∀j y a id b,l[j]? =some y->ev j=.row a id b->id=idOf j/\y.kd=.mem
 inj:∀i j x y,l[i]? =some x->l[j]? =some y->x.kd=.mem->y.kd=.mem->idOf i=idOf j->i=j
structure Cl (l:List SI) (ev:Nat->Evt) (S:Nat->Bool):Prop where
 lt:∀i,S i=true->i<l.length
 ev:∀i,S i=true->ev i≠ .gone/\ev i≠ .die
 bef:∀i x j,l[i]? =some x->S i=true->bit x.bef j=true->S j=true
def b1_ (E0:Env) (l:List SI) (idOf:Nat->Nat) (S:Nat->Bool) (id:Nat):Prop:=E0.res id\/∃j x,l[j]? =some x/\S j=false/\x.kd=.mem/\id=idOf j
structure InvE (P:Program) (B:World) (pr:Nat->Prop) (N:Nat) (E0:Env) (D:Dfs) (ops:List Oper) (l:List SI) (ev:Nat->Evt) (T0:Tm) (idOf:Nat->Nat) (Gs:List AHeap)
  (S:Nat->Bool) (a:Act) (w:World) (E:Env) (G H:AHeap):Prop where
 sub:E0.sub E
 res:E.res=b1_ E0 l idOf S
 bim:E.bim=E0.bim
 vd:E.vd=E0.vd
 vd0:∀id,E0.vd id->E0.res id
 gl:GlOk E0
 size:a.tmps.size=N
 dfs:DRel P E0 D a.defers
 slot:∀t,t<512->∃q,Sl l ev T0 S t q/\Con E q (a.tmps.getD t undef)
 g:Gs[b3_ S ops 0]? =some G
 r:Rel B pr E H w
 nx:H.next=G.next
 hi:H.hi=G.hi
 old:∀id k,G.get id=some k->H.get id=some k
 row:∀j y q id b,l[j]? =some y->ev j=.row q id b->S j=true->(∀k y' q',l[k]? =some y'->S k=true->ev k=.step q'->bit y'.bef j=false)->H.get id=some b/\G.get id=none
omit [Gl]in
theorem oS_ {N:Nat} {d:Nat} {u:Tm->AV->Tm} (h:bN_ N (some d)=.mk u):d<N/\d<512:=by unfold bN_ at h;simp only at h;split at h<;>simp_all
omit [Gl]in
theorem fk_ {a:Act} {d:Nat} {v:Value} (h:d<a.tmps.size):(a.put (some d) v).tmps.getD d undef=v:=by simp_all [Act.put]
omit [Gl]in
theorem he_ {a:Act} {dst:Option Nat} {t:Nat} {v:Value} (h:dst≠some t):(a.put dst v).tmps.getD t undef=a.tmps.getD t undef:=by
 cases dst with
 |none=>rfl
 |some d=>simp_all [Act.put]
omit [Gl]in
theorem mG_ {a:Act} {dst:Option Nat} {v:Value}:(a.put dst v).tmps.size=a.tmps.size:=by cases dst<;>simp [Act.put]
omit [Gl]in
theorem jJ_ {x y:SI} {d:Nat} (h1:x.o.dst=some d) (h2:y.o.dst=some d):g5_ x y=true:=by simp_all [g5_]
omit [Gl]in
theorem f7_ {t:Nat}:∀{l:List Nat},t∈l->memT t l=true
 |[],h=>by simp at h
 |a::r,h=>by unfold memT;rcases List.mem_cons.1 h with rfl|h;simp [Nat.beq_refl];split;rfl;exact f7_ h
omit [Gl]in
theorem h4_ {x y:SI} {d:Nat} (h1:x.o.dst=some d) (h2:d∈y.rd):g5_ x y=true:=by
 grind [g5_,f7_]
omit [Gl]in
theorem g6_ {x y:SI} {d:Nat} (h1:y.o.dst=some d) (h2:d∈x.rd):g5_ x y=true:=by
 grind [g5_,f7_]
end Go.Sx
