/-
  The evaluator of code: operations in a row, code.
-/
import Derived.Test.YtjconanknjgpnaaGreatSxJ
set_option linter.unusedVariables false
set_option linter.unusedSimpArgs false
namespace Go.Sx
variable [Gl]
def DRel (P:Program) (E:Env):Dfs->List Deferred->Prop
 |[],ds=>ds=[]
 |(f,args)::D,ds=>∃vs r,ds={ target:=.fn (.func f) #[],args:=⟨vs⟩ }::r/\ConL E args vs/\bR_ P f=true/\DRel P E D r
omit [Gl]in
theorem DRel.mono {P:Program} {E E':Env} (h:E.le E'):∀{D:Dfs} {ds:List Deferred},DRel P E D ds->DRel P E' D ds
 |[],ds,hd=>hd
 |(f,args)::D,ds,hd=>by obtain ⟨vs,r,h1,h2,h3,h4⟩:=hd;exact ⟨vs,r,h1,h2.mono h,h3,h4.mono h⟩
structure St (P:Program) (B:World) (pr:Nat->Prop) (N:Nat) (E:Env) (T:Tm) (H:AHeap) (D:Dfs) (a:Act) (w:World):Prop where
 t:TRel E N T a.tmps
 r:Rel B pr E H w
 d:DRel P E D a.defers
def FPost (B:World) (pr:Nat->Prop) (E:Env) (r:FRes) (e:Ending) (w':World):Prop:=
 ∃E',E.le E'/\match r with
  | .ret v H'=>∃u,e=.returned u/\Con E' v u/\Rel B pr E' H' w'
  | .pan v H'=>∃u,e=.panicked [{ v:=u,recovered:=false }]/\Con E' v u/\Rel B pr E' H' w'
def aq_ (P:Program) (call:CallF):Prop:=
 ∀(f:FuncId) (args:List AV) (H:AHeap) (r:FRes),call f args H=some r->∀(B:World) (pr:Nat->Prop) (E:Env) (w:World) (vs:List Value),GlOk E->Rel B pr E H w->ConL E args vs->
  Calls P f ⟨vs⟩ w (FPost B pr E r)
def QOut (P:Program) (B:World) (pr:Nat->Prop) (N:Nat) (E:Env) (r:CRes) (e:Exit) (a:Act) (w:World):Prop:=
 ∃E',E.le E'/\match r with
  | .norm T H D=>e=.normal/\St P B pr N E' T H D a w
  | .exit id T H D=>e=.exit id/\St P B pr N E' T H D a w
  | .ret T H D=>e=.ret/\St P B pr N E' T H D a w
  | .pan v T H D=>∃u,e=.panic [{ v:=u,recovered:=false }]/\Con E' v u/\St P B pr N E' T H D a w
def f0_ (K:Kn) (X:CRes->Res) (r:CRes):Res:=match r with
 | .norm T H D=>K T H D
 |r=>X r
section
variable {P:Program} {B:World} {pr:Nat->Prop} {N:Nat} {E:Env}
theorem QOut.le {E':Env} (h:E.le E') {r:CRes} {e:Exit} {a:Act} {w:World} (hq:QOut P B pr N E' r e a w):QOut P B pr N E r e a w:=by obtain ⟨E'',h1,h2⟩:=hq;exact ⟨E'',Env.le_trans h h1,h2⟩
omit [Gl]in
theorem Oper.wp_mono2 {o:Oper} {a:Act} {w:World} {K K':Act->World->Prop} {Q Q':Exit->Act->World->Prop} (h:∀a w,K a w->K' a w) (hq:∀e a w,Q e a w->Q' e a w)
  (hh:o.wp P a w K Q):o.wp P a w K' Q':=by
 unfold Oper.wp at*;generalize (execOp a.eval o).run P w=r at*;cases r with
 |ok n w'=>
  cases n<;>simp only [Oper.upon]at hh⊢<;>
   first
    |exact h _ _ hh
    |exact Calls.mono hh (λe w'' he=>by cases e<;>first|exact h _ _ he|exact hq _ _ _ he|exact he.imp λ_ hx=>hx.imp λ_ hy=>hq _ _ _ hy)
    |exact Rows.mono hh (λ_ _ he=>h _ _ he)
 |halt x w'=>cases x<;>simp only [Oper.upon]at hh⊢<;>first|exact hh|exact hq _ _ _ hh
omit [Gl]in
theorem wpList_mono {ops:Array Oper} {Q Q':Exit->Act->World->Prop} (hq:∀e a w,Q e a w->Q' e a w):∀(l:List Oper) (a:Act) (w:World),wpList P ops Q l a w->wpList P ops Q' l a w
 |[],a,w,h=>hq _ _ _ h
 |o::r,a,w,h=>by unfold wpList at h⊢;split;rename_i hw;rw [if_pos hw]at h;refine h.imp (λh=>Oper.wp_mono2 (wpList_mono hq r) hq h) λh=>⟨h.1,?_⟩;obtain ⟨a',w',h'⟩:=h.2;exact ⟨a',w',hq _ _ _ h'⟩;rename_i hw;rw [if_neg hw]at h;exact wpList_mono hq r _ _ h
omit [Gl]in
theorem iR_ {r:Option AV} {k:AV->Res} {res:FRes} (h:onP r k=some res):∃a,r=some a/\k a=some res:=by
 cases r with
 |none=>cases h
 |some a=>exact ⟨a,rfl,h⟩
omit [Gl]in
theorem rs_ {r:Option (AV×AHeap)} {k:AV->AHeap->Res} {res:FRes} (h:onM r k=some res):∃p,r=some p/\k p.1 p.2=some res:=by
 cases r with
 |none=>cases h
 |some a=>exact ⟨a,rfl,h⟩
omit [Gl]in
theorem mJ_ {r:Option (FuncId×List AV)} {k:FuncId->List AV->Res} {res:FRes} (h:onC r k=some res):∃p,r=some p/\k p.1 p.2=some res:=by
 cases r with
 |none=>cases h
 |some a=>exact ⟨a,rfl,h⟩
omit [Gl]in
theorem rr_ {r:Option FRes} {k x:AV->AHeap->Res} {res:FRes} (h:onF r k x=some res):(∃a H,r=some (.ret a H)/\k a H=some res)\/∃a H,r=some (.pan a H)/\x a H=some res:=by
 cases r with
 |none=>cases h
 |some f=>cases f with
  |ret a H=>exact .inl ⟨a,H,rfl,h⟩
  |pan a H=>exact .inr ⟨a,H,rfl,h⟩
omit [Gl]in
theorem n0_ {c:OC} {u:Tm->AV->Tm} {k:LC} {call:CallF} {T:Tm} {H:AHeap} {D:Dfs} {K:Kn} {X:CRes->Res} {res:FRes} (h:(sM_ c u k).f call T H D K X=some res):
  (∃x H',c.run T H=some (.val x H')/\k.f call (u T x) H' D K X=some res)\/
  (∃g args,c.run T H=some (.call g args)/\((∃x H',call g args H=some (.ret x H')/\k.f call (u T x) H' D K X=some res)\/∃v H',call g args H=some (.pan v H')/\X (.pan v T H' D)=some res))\/
  (∃g args,c.run T H=some (.dfr g args)/\k.f call (u T (.tup [])) H ((g,args)::D) K X=some res)\/
  (∃v,c.run T H=some (.pan v)/\X (.pan v T H D)=some res):=by
 cases c with
 |pv f=>exact .inl ⟨f T,H,rfl,h⟩
 |po f=>obtain ⟨a,ha,hk⟩:=iR_ (r:=f T) h;exact .inl ⟨a,H,by unfold OC.run;simp only [ha],hk⟩
 |ho f=>obtain ⟨a,ha,hk⟩:=iR_ (r:=f T H) h;exact .inl ⟨a,H,by unfold OC.run;simp only [ha],hk⟩
 |hm f=>obtain ⟨⟨x,H'⟩,ha,hk⟩:=rs_ (r:=f T H) (k:=λa H'=>k.f call (u T a) H' D K X) h;exact .inl ⟨x,H',by unfold OC.run;simp only [ha],hk⟩
 |cl f=>obtain ⟨⟨g,args⟩,ha,hk⟩:=mJ_ (r:=f T) (k:=λg args=>onF (call g args H) (λa H'=>k.f call (u T a) H' D K X) (λv H'=>X (.pan v T H' D))) h;refine .inr (.inl ⟨g,args,by unfold OC.run;simp only [ha],?_⟩);rcases rr_ (r:=call g args H) (k:=λa H'=>k.f call (u T a) H' D K X) (x:=λv H'=>X (.pan v T H' D)) hk with ⟨a,H',h1,h2⟩|⟨a,H',h1,h2⟩;exact .inl ⟨a,H',h1,h2⟩;exact .inr ⟨a,H',h1,h2⟩
 |df f=>obtain ⟨⟨g,args⟩,ha,hk⟩:=mJ_ (r:=f T) (k:=λg args=>k.f call (u T (.tup [])) H ((g,args)::D) K X) h;exact .inr (.inr (.inl ⟨g,args,by unfold OC.run;simp only [ha],hk⟩))
 |pn f=>obtain ⟨a,ha,hk⟩:=iR_ (r:=f T) h;exact .inr (.inr (.inr ⟨a,by unfold OC.run;simp only [ha],hk⟩))
 |rc=>cases h
 |no=>cases h
theorem au_ {T:Tm} {H:AHeap} {o:Oper} {r:ORes} (h:(ac_ P o).run T H=some r) {a:Act} {w:World} (hr:Rel B pr E H w) (ht:TRel E N T a.tmps):OpOk P B pr E w (execOp a.eval o) r:=by rcases rK_ h with h|h;exact gG_ hr (λx=>ht.look x) h;exact mc_ hr (λx=>ht.look x) h
def uF_ (P:Program) (N:Nat) (call:CallF) (ops:Array Oper) (k:LC) (l:List Oper):Prop:=
 ∀(T:Tm) (H:AHeap) (D:Dfs) (K:Kn) (X:CRes->Res) (res:FRes),k.f call T H D K X=some res->
  ∃r:CRes,f0_ K X r=some res/\∀B pr E a w,St P B pr N E T H D a w->wpList P ops (QOut P B pr N E r) l a w
theorem o5_ {call:CallF} (hcall:aq_ P call) {ops:Array Oper} {o:Oper} {l:List Oper} {k:LC} (hk:uF_ P N call ops k l) {u:Tm->AV->Tm} (hu:b3_ N o.dst=.mk u)
  {T:Tm} {H:AHeap} {D:Dfs} {K:Kn} {X:CRes->Res} {res:FRes} (h:(sM_ (ac_ P o) u k).f call T H D K X=some res):
  ∃r:CRes,f0_ K X r=some res/\∀B pr E a w,St P B pr N E T H D a w->o.wp P a w (wpList P ops (QOut P B pr N E r) l) (QOut P B pr N E r):=by
 rcases n0_ h with ⟨x,H',hrun,hrest⟩|⟨g,args,hrun,hrest⟩|⟨g,args,hrun,hrest⟩|⟨v,hrun,hX⟩;obtain ⟨r,hd,hw⟩:=hk _ _ _ _ _ _ hrest;refine ⟨r,hd,λB pr E a w st=>?_⟩;obtain ⟨E',n,v,w',h1,h2,h3,h4,h5⟩:=au_ hrun st.r st.t;unfold Oper.wp;rw [h1];have key:wpList P ops (QOut P B pr N E r) l (a.put o.dst v) w':=(by refine wpList_mono (λe a w hq=>QOut.le h3 hq) _ _ _ (hw B pr E' (a.put o.dst v) w' ⟨(st.t.mono h3).put hu h5,h4,?_⟩);have:(a.put o.dst v).defers=a.defers:=(by unfold Act.put;split<;>rfl);rw [this];exact st.d.mono h3);rcases h2 with rfl|⟨rfl,rfl⟩;exact key;exact key;rcases hrest with ⟨x,H',hc,hrest⟩|⟨v,H',hc,hX⟩;obtain ⟨r,hd,hw⟩:=hk _ _ _ _ _ _ hrest;refine ⟨r,hd,λB pr E a w st=>?_⟩;obtain ⟨vs,h1,h2⟩:=au_ hrun st.r st.t;unfold Oper.wp;rw [h1];refine Calls.mono (hcall g args H _ hc B pr E w vs st.t.gl st.r h2) λe w' he=>?_;obtain ⟨E',h3,v,rfl,h4,h5⟩:=he;refine wpList_mono (λe a w hq=>QOut.le h3 hq) _ _ _ (hw B pr E' (a.put o.dst v) w' ⟨(st.t.mono h3).put hu h4,h5,?_⟩);have:(a.put o.dst v).defers=a.defers:=(by unfold Act.put;split<;>rfl);rw [this];exact st.d.mono h3;refine ⟨.pan v T H' D,hX,λB pr E a w st=>?_⟩;obtain ⟨vs,h1,h2⟩:=au_ hrun st.r st.t;unfold Oper.wp;rw [h1];refine Calls.mono (hcall g args H _ hc B pr E w vs st.t.gl st.r h2) λe w' he=>?_;obtain ⟨E',h3,u',rfl,h4,h5⟩:=he;exact ⟨E',h3,u',rfl,h4,st.t.mono h3,h5,st.d.mono h3⟩;obtain ⟨r,hd,hw⟩:=hk _ _ _ _ _ _ hrest;refine ⟨r,hd,λB pr E a w st=>?_⟩;obtain ⟨vs,h1,h2,h3⟩:=au_ hrun st.r st.t;unfold Oper.wp;rw [h1];refine hw B pr E _ w ⟨?_,st.r,?_⟩;have:=st.t.put (a:=a) hu (bd_ E);have e:(({ a with defers:={ target:=.fn (.func g) #[],args:=⟨vs⟩ }::a.defers }:Act).put o.dst undef).tmps=(a.put o.dst undef).tmps:=(by unfold Act.put;split<;>rfl);rw [e];exact this;have e:(({ a with defers:={ target:=.fn (.func g) #[],args:=⟨vs⟩ }::a.defers }:Act).put o.dst undef).defers={ target:=.fn (.func g) #[],args:=⟨vs⟩ }::a.defers:=(by unfold Act.put;split<;>rfl);rw [e];exact ⟨vs,a.defers,rfl,h2,h3,st.d⟩;refine ⟨.pan v T H D,hX,λB pr E a w st=>?_⟩;obtain ⟨u',h1,h2⟩:=au_ hrun st.r st.t;unfold Oper.wp;rw [h1];exact ⟨E,Env.le_refl _,u',rfl,h2,st⟩
theorem ih_ {call:CallF} (hcall:aq_ P call) (ops:Array Oper):∀l:List Oper,uF_ P N call ops (e2_ P N ops.toList l) l
 |[]=>λT H D K X res h=>⟨.norm T H D,h,λB pr E a w st=>⟨E,Env.le_refl _,rfl,st⟩⟩
 |o::l=>λT H D K X res h=>by have ih:=ih_ hcall ops l;unfold e2_ at h;split at h;cases h;rename_i u hu;split at h;rename_i hg;obtain ⟨r,hd,hw⟩:=o5_ hcall ih hu h;refine ⟨r,hd,λB pr E a w st=>?_⟩;unfold wpList;rw [if_pos (cR_ hg a.tmps)];exact .inl (hw B pr E a w st);rename_i g hg;simp only at h;split at h;rename_i t ht;split at h;obtain ⟨r,hd,hw⟩:=o5_ hcall ih hu h;refine ⟨r,hd,λB pr E a w st=>?_⟩;unfold wpList;rw [if_pos (eH_ st.t hg ht)];exact .inl (hw B pr E a w st);obtain ⟨r,hd,hw⟩:=ih _ _ _ _ _ _ h;refine ⟨r,hd,λB pr E a w st=>?_⟩;unfold wpList;rw [if_neg (by rw [eH_ st.t hg ht];simp)];refine hw B pr E _ w ⟨st.t.put hu (bd_ E),st.r,?_⟩;have:(a.put o.dst undef).defers=a.defers:=(by unfold Act.put;split<;>rfl);rw [this];exact st.d;cases h
def uE_ (P:Program) (N:Nat) (call:CallF) (n:Nat) (k:CC) (c:Code):Prop:=
 ∀(T:Tm) (H:AHeap) (D:Dfs) (K:Kn) (X:CRes->Res) (res:FRes),k.f call n T H D K X=some res->
  ∃r:CRes,f0_ K X r=some res/\∀B pr E a w,St P B pr N E T H D a w->c.wp P (QOut P B pr N E r) a w
def gq_ (P:Program) (N:Nat) (call:CallF):Prop:=
 ∀(id:Nat) (ops:Array Oper) (T:Tm) (H:AHeap) (D:Dfs) (r:CRes),j1_ P call N ops.toList T H D=some r->
  ∀B pr E a w,St P B pr N E T H D a w->(Code.region id ops true).wp P (QOut P B pr N E r) a w
omit [Gl]in
theorem lM_ {id:Nat} {K:Kn} {X:CRes->Res} {r:CRes} {res:FRes} (h:f0_ K (tk_ id K X) r=some res):
  (∃T H D,r=.exit id T H D/\K T H D=some res)\/((∀T H D,r≠ .exit id T H D)/\f0_ K X r=some res):=by
 cases r with
 |norm T H D=>exact .inr ⟨λ_ _ _ e=>(nomatch e),h⟩
 |ret T H D=>exact .inr ⟨λ_ _ _ e=>(nomatch e),h⟩
 |pan v T H D=>exact .inr ⟨λ_ _ _ e=>(nomatch e),h⟩
 |exit id' T H D=>
  have h2:(match Nat.beq id' id with|true=>K T H D|false=>X (.exit id' T H D))=some res:=h;cases hb:Nat.beq id' id with
  |true=>simp only [hb]at h2;exact .inl ⟨T,H,D,by rw [Nat.eq_of_beq_eq_true hb],h2⟩
  |false=>simp only [hb]at h2;refine .inr ⟨λT' H' D' e=>?_,h2⟩;cases e;rw [Nat.beq_refl]at hb;cases hb
omit [Gl]in
theorem hz_ {c:Code} {Q Q':Exit->Act->World->Prop} (hq:∀e a w,Q e a w->Q' e a w):∀(m:Nat) (a:Act) (w:World),Code.rounds P c Q m a w->Code.rounds P c Q' m a w
 |0,_,_,h=>h
 |m+1,a,w,h=>Code.wp_mono (λe a w hx=>by
   cases e with
   |normal=>exact hz_ hq m a w hx
   |exit id=>exact hq _ _ _ hx
   |goto l=>exact hq _ _ _ hx
   |ret=>exact hq _ _ _ hx
   |panic ch=>exact hq _ _ _ hx
   |outgrown=>exact hq _ _ _ hx) h
theorem QOut.then {r:CRes} (hr:∀T H D,r≠ .norm T H D) {K:Act->World->Prop} {e:Exit} {a:Act} {w:World} (h:QOut P B pr N E r e a w):Exit.then K (QOut P B pr N E r) e a w:=by
 cases e with
 |normal=>
  obtain ⟨E',h1,h2⟩:=h;cases r with
  |norm T H D=>exact absurd rfl (hr T H D)
  |exit id T H D=>cases h2.1
  |ret T H D=>cases h2.1
  |pan v T H D=>obtain ⟨u,h3,_⟩:=h2;cases h3
 |exit id=>exact h
 |goto l=>exact h
 |ret=>exact h
 |panic ch=>exact h
 |outgrown=>exact h
theorem QOut.norm {T:Tm} {H:AHeap} {D:Dfs} {Q:Exit->Act->World->Prop} {K:Act->World->Prop} {e:Exit} {a:Act} {w:World} (h:QOut P B pr N E (.norm T H D) e a w)
  (hk:∀E' a w,E.le E'->St P B pr N E' T H D a w->K a w):Exit.then K Q e a w:=by
 obtain ⟨E',h1,rfl,h2⟩:=h;exact hk E' a w h1 h2
theorem oS_ {call:CallF} {n:Nat} {k:CC} {c:Code} (hk:uE_ P N call n k c):∀(m:Nat) (T:Tm) (H:AHeap) (D:Dfs) (X:CRes->Res) (res:FRes),
  loopE (λT H D K X=>k.f call n T H D K X) m T H D X=some res->
  ∃r:CRes,(∀T H D,r≠ .norm T H D)/\X r=some res/\∀B pr E a w,St P B pr N E T H D a w->Code.rounds P c (QOut P B pr N E r) m a w
 |0,T,H,D,X,res,h=>by cases h
 |m+1,T,H,D,X,res,h=>by
  unfold loopE at h;obtain ⟨r,hd,hw⟩:=hk _ _ _ _ _ _ h;by_cases hr:∀T H D,r≠ .norm T H D
  .refine ⟨r,hr,?_,λB pr E a w st=>Code.wp_mono (λe a w hq=>hq.then hr) (hw B pr E a w st)⟩;cases r with
   |norm T H D=>exact absurd rfl (hr T H D)
   |exit id T H D=>exact hd
   |ret T H D=>exact hd
   |pan v T H D=>exact hd
  .cases r with
   |exit id T H D=>exact absurd (λ_ _ _ e=>by cases e) hr
   |ret T H D=>exact absurd (λ_ _ _ e=>by cases e) hr
   |pan v T H D=>exact absurd (λ_ _ _ e=>by cases e) hr
   |norm T' H' D'=>obtain ⟨r2,hn,hX,hw2⟩:=oS_ hk m T' H' D' X res hd;refine ⟨r2,hn,hX,λB pr E a w st=>Code.wp_mono (λe a w hq=>?_) (hw B pr E a w st)⟩;exact hq.norm λE' a w hle st'=>hz_ (λe a w hq=>QOut.le hle hq) m a w (hw2 B pr E' a w st')
theorem d2_ {call:CallF} (hcall:aq_ P call) (hdraw:gq_ P N call) (n:Nat):∀c:Code,uE_ P N call n (ax_ P N c) c
 | .skip=>λT H D K X res h=>by unfold ax_ at h;exact ⟨.norm T H D,h,λB pr E a w st=>wp_skip ⟨E,Env.le_refl _,rfl,st⟩⟩
 | .label l=>λT H D K X res h=>by unfold ax_ at h;exact ⟨.norm T H D,h,λB pr E a w st=>wp_label ⟨E,Env.le_refl _,rfl,st⟩⟩
 | .exit id=>λT H D K X res h=>by unfold ax_ at h;exact ⟨.exit id T H D,h,λB pr E a w st=>wp_exit ⟨E,Env.le_refl _,rfl,st⟩⟩
 | .ret=>λT H D K X res h=>by unfold ax_ at h;exact ⟨.ret T H D,h,λB pr E a w st=>wp_ret ⟨E,Env.le_refl _,rfl,st⟩⟩
 | .region id ops false=>λT H D K X res h=>by unfold ax_ at h;obtain ⟨r,hd,hw⟩:=ih_ hcall ops ops.toList _ _ _ _ _ _ h;exact ⟨r,hd,λB pr E a w st=>wp_region_list (hw B pr E a w st)⟩
 | .region id ops true=>λT H D K X res h=>by
   unfold ax_ at h;simp only at h;unfold to_ at h;split at h;cases h
   .rename_i r hr;refine ⟨r,?_,λB pr E a w st=>hdraw id ops T H D r hr B pr E a w st⟩;cases r<;>exact h
 | .seq x y=>λT H D K X res h=>by
   unfold ax_ at h;obtain ⟨r,hd,hw⟩:=d2_ hcall hdraw n x _ _ _ _ _ _ h;by_cases hr:∀T H D,r≠ .norm T H D
   .refine ⟨r,?_,λB pr E a w st=>wp_seq (Code.wp_mono (λe a w hq=>hq.then hr) (hw B pr E a w st))⟩;cases r with
    |norm T H D=>exact absurd rfl (hr T H D)
    |exit id T H D=>exact hd
    |ret T H D=>exact hd
    |pan v T H D=>exact hd
   .cases r with
    |exit id T H D=>exact absurd (λ_ _ _ e=>by cases e) hr
    |ret T H D=>exact absurd (λ_ _ _ e=>by cases e) hr
    |pan v T H D=>exact absurd (λ_ _ _ e=>by cases e) hr
    |norm T' H' D'=>obtain ⟨r2,hd2,hw2⟩:=d2_ hcall hdraw n y _ _ _ _ _ _ hd;refine ⟨r2,hd2,λB pr E a w st=>wp_seq (Code.wp_mono (λe a w hq=>?_) (hw B pr E a w st))⟩;exact hq.norm λE' a w hle st'=>Code.wp_mono (λe a w hq=>QOut.le hle hq) (hw2 B pr E' a w st')
 | .cond c x y=>λT H D K X res h=>by unfold ax_ at h;simp only at h;unfold tm_ at h;split at h;rename_i t ht;split at h;obtain ⟨r,hd,hw⟩:=d2_ hcall hdraw n x _ _ _ _ _ _ h;refine ⟨r,hd,λB pr E a w st=>?_⟩;have:a.eval c=.bool true:=(by have:=st.t.look c;unfold look at this;rw [ht]at this;simpa [Con]using this);exact wp_cond_true this (hw B pr E a w st);obtain ⟨r,hd,hw⟩:=d2_ hcall hdraw n y _ _ _ _ _ _ h;refine ⟨r,hd,λB pr E a w st=>?_⟩;have:a.eval c=.bool false:=(by have:=st.t.look c;unfold look at this;rw [ht]at this;simpa [Con]using this);exact wp_cond_false this (hw B pr E a w st);cases h
 | .block id b=>λT H D K X res h=>by
   unfold ax_ at h;obtain ⟨r,hd,hw⟩:=d2_ hcall hdraw n b _ _ _ _ _ _ h;rcases lM_ hd with ⟨T',H',D',rfl,hk⟩|⟨hne,hk⟩
   .refine ⟨.norm T' H' D',hk,λB pr E a w st=>wp_block (Code.wp_mono (λe a w hq=>?_) (hw B pr E a w st))⟩;obtain ⟨E',h1,rfl,h2⟩:=hq;show if id=id then _ else _
    rw [if_pos rfl];exact ⟨E',h1,rfl,h2⟩
   .refine ⟨r,hk,λB pr E a w st=>wp_block (Code.wp_mono (λe a w hq=>?_) (hw B pr E a w st))⟩;cases e with
    |exit id'=>
     show if id'=id then _ else _
     split
     .rename_i hid;subst hid;obtain ⟨E',h1,h2⟩:=hq;cases r with
      |exit i2 T H D=>cases h2.1;exact absurd rfl (hne T H D)
      |norm T H D=>cases h2.1
      |ret T H D=>cases h2.1
      |pan v T H D=>obtain ⟨u,h3,_⟩:=h2;cases h3
     exact hq
    |normal=>exact hq
    |goto l=>exact hq
    |ret=>exact hq
    |panic ch=>exact hq
    |outgrown=>exact hq
 | .loop b=>λT H D K X res h=>by
   unfold ax_ at h;obtain ⟨r,hn,hX,hw⟩:=oS_ (d2_ hcall hdraw n b) n T H D X res h;refine ⟨r,?_,λB pr E a w st=>wp_loop_rounds n (hw B pr E a w st)⟩;cases r with
   |norm T H D=>exact absurd rfl (hn T H D)
   |exit id T H D=>exact hX
   |ret T H D=>exact hX
   |pan v T H D=>exact hX
 | .scope _=>λT H D K X res h=>by unfold ax_ at h;cases h
 | .goto _=>λT H D K X res h=>by unfold ax_ at h;cases h
 | .refuse _=>λT H D K X res h=>by unfold ax_ at h;cases h
 | .rangeFunc _ _ _ _=>λT H D K X res h=>by unfold ax_ at h;cases h
end
end Go.Sx
