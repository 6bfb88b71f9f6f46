/-
  The evaluator of code: results, deferred calls, calls.
-/
import Derived.Test.YtmgenobllanmjaaGreatDoorSxJ
import Derived.Recover
import Derived.Test.YtmgenobllanmjaaGreatDoorSxB
import Derived.Orders
set_option linter.unusedVariables false
set_option linter.unusedSimpArgs false
namespace Go.Sx
variable [Gl]
omit [Gl]in
theorem bm_ {P:Program} {ops:Array Oper} {Q Q':Exit->Act->List Frame->World->Prop} (hq:∀e a cs w,Q e a cs w->Q' e a cs w):
  ∀(l:List Nat) (a:Act) (cs:List Frame) (w:World),wpOpsS P ops Q l a cs w->wpOpsS P ops Q' l a cs w
 |[],a,cs,w,h=>hq _ _ _ _ h
 |i::r,a,cs,w,h=>by
  unfold wpOpsS at h⊢;cases ho:ops[i]? with
  |none=>simp only [ho]at h⊢;exact bm_ hq r _ _ _ h
  |some o=>
   simp only [ho]at h⊢;split
   .rename_i hw;rw [if_pos hw]at h;generalize (execOp a.eval o).run P w=x at*;cases x with
    |ok n w'=>
     cases n<;>simp only [Oper.upon]at h⊢<;>
      first
       |exact bm_ hq r _ _ _ h
       |exact Calls.mono h (λe w'' he=>by cases e<;>first|exact bm_ hq r _ _ _ he|exact hq _ _ _ _ he|exact he.imp λ_ hx=>hx.imp λ_ hy=>hq _ _ _ _ hy)
       |exact Rows.mono h (λ_ _ he=>bm_ hq r _ _ _ he)
       |skip
     split at h<;>exact bm_ hq r _ _ _ h
    |halt x w'=>cases x<;>simp only [Oper.upon]at h⊢<;>first|exact h|exact hq _ _ _ _ h
   rename_i hw;rw [if_neg hw]at h;exact bm_ hq r _ _ _ h
section
variable {P:Program} {B:World} {pr:Nat->Prop} {N:Nat} {E:Env} {H:AHeap} {w:World}
omit [Gl]in
theorem n3_ (hr:Rel B pr E H w) {t:TypeId} {a:AV} {v:Value} (hc:Con E a v) {r:AV} (h:bn_ P H t a=some r):
  ∃u,(asAddr v >>= λx=>loadVar t x).run P w=.ok u w/\Con E r u:=by
 unfold bn_ at h;split at h;cases h;rename_i d hd;split at h
 .rename_i hag;split at h;cases h;rename_i i hi;split at h;rename_i l hl;cases h;obtain ⟨b,o,vs,rfl,hlen,hL,hcell⟩:=bv_ hr hc hl;refine ⟨.agg ⟨vs⟩,?_,by simp only [Con];grind⟩;have:=bG_ (P:=P) hcell;simp_all [asAddr,loadVar,bO_,af_]
  cases h
 .rename_i hag;split at h;rename_i c hl;cases h;obtain ⟨b,o,vs,rfl,hlen,hL,hcell⟩:=bv_ hr hc hl;obtain ⟨u,hu,hcu⟩:=hL.at 0 r rfl;have:=hcell 0 u hu;simp_all [asAddr,loadVar,bO_]
  cases h
def jB_ (tmps:Array Value) (x:ResultVar):Sem Value:=match x with
 | .tmp t=>pure (tmps.getD t undef)
 | .cell a t=>do loadVar t (←asAddr (tmps.getD a undef))
theorem f4_ {T:Tm} {tmps:Array Value} (hr:Rel B pr E H w) (ht:TRel E N T tmps):∀(rs:List ResultVar) (l:List AV),d2_ P T H rs=some l->
  ∃vs,(rs.mapM (jB_ tmps)).run P w=.ok vs w/\ConL E l vs
 |[],l,h=>by simp_all [d2_,ConL.nil]
 | .tmp t::rs,l,h=>by unfold d2_ at h;split at h;rename_i hb;split at h;rename_i l' hl;cases h;obtain ⟨vs,h1,h2⟩:=f4_ hr ht rs l' hl;refine ⟨tmps.getD t undef::vs,?_,?_⟩;simp [List.mapM_cons,jB_,h1];exact ConL.cons (ht.con t (by simpa [Nat.blt_eq]using hb)) h2;cases h;cases h
 | .cell a t::rs,l,h=>by
   unfold d2_ at h;split at h
   .rename_i hb;split at h
    .rename_i v hv;split at h;rename_i l' hl;cases h;obtain ⟨vs,h1,h2⟩:=f4_ hr ht rs l' hl;obtain ⟨u,h3,h4⟩:=n3_ hr (ht.con a (by simp_all)) hv;refine ⟨u::vs,?_,ConL.cons h4 h2⟩;have h3:(jB_ tmps (.cell a t)).run P w=.ok u w:=h3;simp_all
     cases h
    cases h
   cases h
theorem gH_ {fn:Func} {T:Tm} {tmps:Array Value} (hr:Rel B pr E H w) (ht:TRel E N T tmps) {l:List AV} (h:d2_ P T H fn.results.toList=some l):
  ∃v,(results fn tmps).run P w=.ok v w/\Con E (sd_ l) v:=by
 obtain ⟨vs,h1,h2⟩:=f4_ (P:=P) hr ht _ _ h;have h3:(fn.results.mapM (jB_ tmps)).run P w=.ok ⟨vs⟩ w:=by rw [Array.mapM_eq_mapM_toList];simp [h1]
 match l,vs,h2,h3 with
 |[],vs,h2,h3=>
  have:vs=[]:=(by grind [ConL]);subst this;refine ⟨.tuple #[],?_,?_⟩;show (fn.results.mapM (jB_ tmps) >>= λvs=>pure (if h:vs.size=1 then vs[0]else Value.tuple vs)).run P w=_;simp [h3]
  .show Con E (.tup []) _;simp only [Con];grind
 |[a],vs,h2,h3=>obtain ⟨v,r,rfl,h4,h5⟩:=(by grind [ConL]:∃v r,vs=v::r/\Con E a v/\r=[]);subst h5;refine ⟨v,?_,h4⟩;show (fn.results.mapM (jB_ tmps) >>= λvs=>pure (if h:vs.size=1 then vs[0]else Value.tuple vs)).run P w=_;simp [h3]
 |a::b::r,vs,h2,h3=>
  obtain ⟨v,s,rfl,h4,h5⟩:=(by grind [ConL]:∃v s,vs=v::s/\Con E a v/\∃v' r',s=v'::r'/\Con E b v'/\ConL E r r');obtain ⟨v',r',rfl,h6,h7⟩:=h5;refine ⟨.tuple ⟨v::v'::r'⟩,?_,?_⟩;show (fn.results.mapM (jB_ tmps) >>= λvs=>pure (if h:vs.size=1 then vs[0]else Value.tuple vs)).run P w=_;simp [h3]
  .show Con E (.tup (a::b::r)) _;simp only [Con];grind
omit [Gl]in
theorem hW_:∀(args:List AV) (i:Nat) (T:Tm),i+args.length<=512->∀t,t<512->
  tget (aT_ args i T) t=if i<=t then (match args[t-i]? with|some a=>a|none=>tget T t)else tget T t
 |[],i,T,hl,t,ht=>by simp [aT_]
 |a::r,i,T,hl,t,ht=>by
  simp only [List.length_cons]at hl;unfold aT_;rw [hW_ r (Nat.succ i) (dL_ T i a) (by omega) t ht];by_cases h1:t=i;simp_all [if_neg,ar_]
  .rw [ap_ T ht (by omega) (λe=>h1 e.symm)]
   grind
theorem fh_ {args:List AV} {vs:List Value} (hg:GlOk E) (hc:ConL E args vs) (hN:args.length<=N) (h5:N<=512):
  TRel E N (aT_ args 0 tnil) ((⟨vs⟩:Array Value)++Array.replicate (N-(⟨vs⟩:Array Value).size) undef):=by
 have hlen:=hc.length;refine ⟨by grind,h5,λt ht=>?_,hg⟩;rw [hW_ args 0 tnil (by omega) t ht];simp only [Nat.zero_le,if_true,Nat.sub_zero,qN_];rcases Nat.lt_or_ge t args.length with hlt|hge
 .obtain ⟨v,h1,h2⟩:=hc.at t args[t] (by simp [hlt]);have:((⟨vs⟩:Array Value)++Array.replicate (N-(⟨vs⟩:Array Value).size) undef).getD t undef=v:=by simp_all [Array.getElem?_append]
  grind
 .have:((⟨vs⟩:Array Value)++Array.replicate (N-(⟨vs⟩:Array Value).size) undef).getD t undef=undef:=by
    rw [Array.getD_eq_getD_getElem?,Array.getElem?_append]
    grind
  grind [a6_]
def ModeIn (E:Env) (u:Option AV) (m:FrameMode):Prop:=match u with
 |none=>m=.returning\/∃v,m=.panicking [{ v:=v,recovered:=true }]
 |some a=>∃v,m=.panicking [{ v:=v,recovered:=false }]/\Con E a v
def ModeAt (E:Env) (u:Option AV) (m:FrameMode):Prop:=match u with
 |none=>m=.returning
 |some a=>∃v,m=.panicking [{ v:=v,recovered:=false }]/\Con E a v
omit [Gl]in
theorem ModeIn.mono {E E':Env} (h:E.le E') {u:Option AV} {m:FrameMode} (hm:ModeIn E u m):ModeIn E' u m:=by
 cases u with
 |none=>exact hm
 |some a=>obtain ⟨v,h1,h2⟩:=hm;exact ⟨v,h1,h2.mono h⟩
omit [Gl]in
theorem ModeAt.mono {E E':Env} (h:E.le E') {u:Option AV} {m:FrameMode} (hm:ModeAt E u m):ModeAt E' u m:=by
 cases u with
 |none=>exact hm
 |some a=>obtain ⟨v,h1,h2⟩:=hm;exact ⟨v,h1,h2.mono h⟩
omit [Gl]in
theorem ModeAt.in {E:Env} {u:Option AV} {m:FrameMode} (hm:ModeAt E u m):ModeIn E u m:=by
 cases u with
 |none=>exact .inl hm
 |some a=>exact hm
omit [Gl]in
theorem ModeAt.ne_run {E:Env} {u:Option AV} {m:FrameMode} (hm:ModeAt E u m):m≠ .run:=by
 cases u with
 |none=>rw [show m=.returning from hm];grind
 |some a=>obtain ⟨v,rfl,_⟩:=hm;grind
omit [Gl]in
theorem ModeIn.settle {E:Env} {u:Option AV} {m:FrameMode} (hm:ModeIn E u m):ModeAt E u (Go.settle m):=by
 cases u with
 |none=>rcases hm with rfl|⟨v,rfl⟩;rfl;rfl
 |some a=>obtain ⟨v,rfl,h⟩:=hm;exact ⟨v,rfl,h⟩
def SOut (P:Program) (B:World) (pr:Nat->Prop) (N:Nat) (E:Env) (c₀:Frame) (cs:List Frame) (r:SRes) (e:Exit) (a:Act) (cs':List Frame) (w:World):Prop:=
 ∃E' m,E.le E'/\cs'={ c₀ with mode:=m }::cs/\match r with
  | .norm T H u=>e=.normal/\ModeIn E' u m/\St P B pr N E' T H [] a w
  | .ret T H u=>e=.ret/\ModeIn E' u m/\St P B pr N E' T H [] a w
theorem SOut.le {E':Env} (h:E.le E') {c₀:Frame} {cs cs':List Frame} {r:SRes} {e:Exit} {a:Act} {w:World} (hq:SOut P B pr N E' c₀ cs r e a cs' w):SOut P B pr N E c₀ cs r e a cs' w:=by obtain ⟨E'',m,h1,h2⟩:=hq;exact ⟨E'',m,Env.le_trans h h1,h2⟩
omit [Gl]in
theorem Act.put_defers' (a:Act) (d:Option Tmp) (v:Value):(a.put d v).defers=a.defers:=by unfold Act.put;split<;>rfl
theorem St.putV {T:Tm} {H H':AHeap} {D:Dfs} {a:Act} {w w':World} (st:St P B pr N E T H D a w) {E':Env} (hle:E.le E') (hr:Rel B pr E' H' w') {dst:Option Nat} {p:Tm->AV->Tm}
  (hp:bT_ N dst=.mk p) {x:AV} {v:Value} (hc:Con E' x v):St P B pr N E' (p T x) H' D (a.put dst v) w':=
 ⟨(st.t.mono hle).put hp hc,hr,by rw [Act.put_defers'];exact st.d.mono hle⟩
theorem lM_ {call:CallF} (hcall:an_ P call) (ops:Array Oper) (c₀:Frame) (cs:List Frame):∀(l:List Oper) (k:Nat),(∀j,l[j]? =ops[k+j]?)->∀(T:Tm) (H:AHeap) (u:Option AV) (r:SRes),
  lL_ P call N ops.toList l T H u=some r->∀(E:Env) (a:Act) (w:World) (m:FrameMode),St P B pr N E T H [] a w->ModeIn E u m->
  wpOpsS P ops (SOut P B pr N E c₀ cs r) (List.range' k l.length) a ({ c₀ with mode:=m }::cs) w
 |[],k,hl,T,H,u,r,h,E,a,w,m,st,hm=>by cases h;exact ⟨E,m,Env.le_refl _,rfl,rfl,hm,st⟩
 |o::l,k,hl,T,H,u,r,h,E,a,w,m,st,hm=>by
  have h0:ops[k]? =some o:=(by simpa using (hl 0).symm);have hl':∀j,l[j]? =ops[k+1+j]? :=λj=>(by have:=hl (j+1);grind);have ih:=lM_ hcall ops c₀ cs l (k+1) hl';unfold lL_ at h;split at h;cases h
  .rename_i p hp;rw [List.length_cons,List.range'_succ];unfold wpOpsS;simp only [h0];have key:∀(g:Option Bool),(match aZ_ ops.toList o with| .always=>some true| .mk g=>g T)=g->∀t,g=some t->Region.wanted o (yielded ops a.tmps)=t:=λg hg t ht=>by
    subst ht;split at hg
    .grind [cZ_]
    rename_i g' hga;exact eO_ st.t hga hg
   split at h;cases h;rename_i hg;rw [key _ hg false rfl];exact ih _ _ _ _ h E _ w m (st.putV (Env.le_refl _) st.r hp (a6_ E)) hm;rename_i hg;rw [key _ hg true rfl];split at h;cases h;rename_i x H' hrun;obtain ⟨E',n,v,w',h1,h2,h3,h4,h5⟩:=aw_ hrun st.r st.t;have fin:=bm_ (λe a cs' w hq=>SOut.le h3 hq) _ _ _ _ (ih _ _ _ _ h E' _ w' m (st.putV h3 h4 hp h5) (hm.mono h3));rw [h1];rcases h2 with rfl|⟨rfl,rfl⟩;exact fin;exact fin;rename_i f args hrun;split at h;rename_i x H' hc;obtain ⟨vs,h1,h2⟩:=aw_ hrun st.r st.t;rw [h1];refine Calls.mono (hcall f args H _ hc B pr E w vs st.t.gl st.r h2) λe w' he=>?_;obtain ⟨E',h3,v,rfl,h4,h5⟩:=he;exact bm_ (λe a cs' w hq=>SOut.le h3 hq) _ _ _ _ (ih _ _ _ _ h E' _ w' m (st.putV h3 h5 hp h4) (hm.mono h3));cases h;rename_i hrun;have h1:=aw_ hrun st.r st.t;rw [h1];split at h;obtain ⟨v',rfl,hcv⟩:=hm;exact ih _ _ _ _ h E _ w _ (st.putV (Env.le_refl _) st.r hp hcv) (.inr ⟨v',rfl⟩);have hrec:recoverD ({ c₀ with mode:=m }::cs)=none:=(by rcases hm with rfl|⟨v,rfl⟩<;>simp [recoverD]);rw [hrec];exact ih _ _ _ _ h E _ w m (st.putV (Env.le_refl _) st.r hp (by simp [Con])) hm;cases h
omit [Gl]in
theorem Code.wpS_mono {c:Code} {Q Q':Exit->Act->List Frame->World->Prop} (hq:∀e a cs w,Q e a cs w->Q' e a cs w) {a:Act} {cs:List Frame} {w:World} (h:c.wpS P Q a cs w):c.wpS P Q' a cs w:=
 λb k hb hr=>let ⟨e,a',cs',w',q,arr⟩:=h b k hb hr;⟨e,a',cs',w',hq _ _ _ _ q,arr⟩
omit [Gl]in
theorem eu_ {id:Nat} {c:Code} {Q:Exit->Act->List Frame->World->Prop} {a:Act} {cs:List Frame} {w:World} (h:c.wpS P Q a cs w) (hQ:∀e a cs w,Q e a cs w->e=.normal\/e=.ret):(Code.block id c).wpS P Q a cs w:=by intro b k hb hr;obtain ⟨e,a₁,cs₁,w₁,hq,harr⟩:=h b (.inBlock id::k) hb hr;rcases hQ _ _ _ _ hq with rfl|rfl;exact ⟨.normal,a₁,cs₁,w₁,hq,.head step_block (Steps.trans harr (.one step_inBlock))⟩;exact ⟨_,a₁,cs₁,w₁,hq,.of_steps (.one step_block) harr⟩
theorem re_ {call:CallF} (hcall:an_ P call) (hdraw:gK_ P N call) (n:Nat) (B:World) (pr:Nat->Prop) (c₀:Frame) (cs:List Frame):∀(c:Code) (T:Tm) (H:AHeap) (u:Option AV) (r:SRes),
  ct_ P call N n c T H u=some r->∀(E:Env) (a:Act) (w:World) (m:FrameMode),St P B pr N E T H [] a w->ModeIn E u m->
  c.wpS P (SOut P B pr N E c₀ cs r) a ({ c₀ with mode:=m }::cs) w:=by
 intro c
 induction c with
 |skip=>intro T H u r h E a w m st hm;cases h;exact wpS_of_wp (wp_skip ⟨E,m,Env.le_refl _,rfl,rfl,hm,st⟩)
 |ret=>intro T H u r h E a w m st hm;cases h;exact wpS_of_wp (wp_ret ⟨E,m,Env.le_refl _,rfl,rfl,hm,st⟩)
 |region id ops draw=>
  intro T H u r h E a w m st hm;unfold ct_ at h;split at h
  .refine wpS_region ?_;have:=lM_ hcall ops c₀ cs ops.toList 0 (by simp) T H u r h E a w m st hm
   grind [List.range_eq_range']
  split at h;rename_i T' H' hd;cases h;refine wpS_of_wp (Code.wp_mono (λe a w hq=>?_) (hdraw id ops T H [] _ hd B pr E a w st));obtain ⟨E',h1,rfl,h2⟩:=hq;exact ⟨E',m,h1,rfl,rfl,hm.mono h1,h2⟩;cases h
 |seq x y ihx ihy=>
  intro T H u r h E a w m st hm;unfold ct_ at h;split at h;rename_i T' H' u' hx;refine wpS_seq (Code.wpS_mono (λe a cs' w hq=>?_) (ihx T H u _ hx E a w m st hm));obtain ⟨E',m',h1,rfl,rfl,h3,h4⟩:=hq;exact Code.wpS_mono (λe a cs w hq=>SOut.le h1 hq) (ihy T' H' u' r h E' a w m' h4 h3)
  .rename_i hne;refine wpS_seq (Code.wpS_mono (λe a cs' w hq=>?_) (ihx T H u r h E a w m st hm));obtain ⟨E',m',h1,h2,h3⟩:=hq;cases r with
   |norm T' H' u'=>grind
   |ret T' H' u'=>obtain ⟨rfl,h4⟩:=h3;exact ⟨E',m',h1,h2,rfl,h4⟩
 |cond c x y ihx ihy=>
  intro T H u r h E a w m st hm;unfold ct_ at h;have hl:=st.t.look c
  grind [wpS_cond,Con]
 |block id b ih=>
  intro T H u r h E a w m st hm;refine eu_ (ih T H u r h E a w m st hm) λe a cs' w hq=>?_;obtain ⟨E',m',_,_,h3⟩:=hq
  grind
 |loop _ _=>grind [ct_]
 |exit _=>grind [ct_]
 |label _=>grind [ct_]
 |scope _ _=>grind [ct_]
 |goto _=>grind [ct_]
 |rangeFunc _ _ _ _ _ _=>grind [ct_]
 |refuse _=>grind [ct_]
def wp_ (B:World) (pr:Nat->Prop) (E:Env) (H:AHeap) (u:Option AV) (e:Ending) (m:FrameMode) (w:World):Prop:=
 ∃E' v,E.le E'/\e=.returned v/\ModeIn E' u m/\Rel B pr E' H w
theorem s6_ {call:CallF} (hcall:an_ P call) (hdraw:∀N,gK_ P N call) {n:Nat} {f:FuncId} {args:List AV} {H H':AHeap} {u u':Option AV} (h:uC_ P call n f args H u=some (H',u'))
  {E:Env} {w:World} {vs:List Value} {m:FrameMode} (hg:GlOk E) (hr:Rel B pr E H w) (hc:ConL E args vs) (hm:ModeIn E u m):CallsD P f ⟨vs⟩ m w (wp_ B pr E H' u'):=by
 unfold uC_ at h;split at h
 .rename_i fn hf;split at h
  .rename_i c hb;split at h
   .rename_i hle;obtain ⟨h1,h2⟩:=aa_ hle;have h1:args.length<=fn.ntmps:=(by grind [ai_,Nat.ble_eq]);have h2:fn.ntmps<=512:=(by simp_all);refine callsD_of_wpS hf hb λc₀ cs hmode=>?_;have st:St P B pr fn.ntmps E (aT_ args 0 tnil) H [] { tmps:=(⟨vs⟩:Array Value)++Array.replicate (fn.ntmps-(⟨vs⟩:Array Value).size) undef,defers:=[] } w:=
     ⟨fh_ hg hc h1 h2,hr,rfl⟩
    have hc₀:c₀={ c₀ with mode:=m }:=(by rw [←hmode]);have run:∀r,ct_ P call fn.ntmps n c (aT_ args 0 tnil) H u=some r->c.wpS P (SOut P B pr fn.ntmps E c₀ cs r) { tmps:=(⟨vs⟩:Array Value)++Array.replicate (fn.ntmps-(⟨vs⟩:Array Value).size) undef,defers:=[] } (c₀::cs) w:=λr hr=>by
     grind [re_]
    split at h;rename_i T' H₂ u₂ hcode;split at h;rename_i l hl;cases h;refine Code.wpS_mono (λe a cs' w' hq=>?_) (run _ hcode);obtain ⟨E',m',h3,rfl,rfl,h4,h5⟩:=hq;obtain ⟨v,h6,h7⟩:=gH_ h5.r h5.t hl;exact ⟨h5.d,m',rfl,v,h6,E',v,h3,rfl,h4,h5.r⟩;cases h;rename_i T' H₂ u₂ hcode;split at h;rename_i l hl;cases h;refine Code.wpS_mono (λe a cs' w' hq=>?_) (run _ hcode);obtain ⟨E',m',h3,rfl,rfl,h4,h5⟩:=hq;obtain ⟨v,h6,h7⟩:=gH_ h5.r h5.t hl;exact ⟨h5.d,m',rfl,v,h6,E',v,h3,rfl,h4,h5.r⟩;cases h;cases h
   cases h
  cases h
 cases h
omit [Gl]in
theorem FPost.le {E':Env} (h:E.le E') {r:FRes} {e:Ending} {w:World} (hq:FPost B pr E' r e w):FPost B pr E r e w:=by obtain ⟨E'',h1,h2⟩:=hq;exact ⟨E'',Env.le_trans h h1,h2⟩
omit [Gl]in
theorem Leaves.mono {fn:Func} {tmps:Array Value} {R R':Ending->World->Prop} (hq:∀e w,R e w->R' e w):∀(ds:List Deferred) (u:FrameMode) (w:World),Leaves P fn tmps R ds u w->Leaves P fn tmps R' ds u w
 |[],.returning,w,h=>by obtain ⟨v,h1,h2⟩:=h;exact ⟨v,h1,hq _ _ h2⟩
 |[],.panicking ch,w,h=>hq _ _ h
 |[],.run,w,h=>h
 |d::ds,u,w,h=>by
  unfold Leaves at h⊢;obtain ⟨h1,fv,cap,f,args,h2,h3,h4⟩:=h;refine ⟨h1,fv,cap,f,args,h2,h3,λc cs hm=>?_⟩;obtain ⟨e,u',w',fr,h5,h6⟩:=h4 c cs hm;refine ⟨e,u',w',fr,?_,h6⟩;cases e with
  |returned v=>exact Leaves.mono hq ds _ _ h5
  |panicked ch=>exact Leaves.mono hq ds _ _ h5
  |outgrown=>exact hq _ _ h5
omit [Gl]in
theorem CallsD.mono {f:FuncId} {args:Array Value} {u:FrameMode} {R R':Ending->FrameMode->World->Prop} {w:World} (hq:∀e u w,R e u w->R' e u w) (h:CallsD P f args u w R):CallsD P f args u w R':=by
 intro c cs hm;obtain ⟨e,u',w',fr,h5,h6⟩:=h c cs hm
 grind
theorem c6_ {call:CallF} (hcall:an_ P call) (hdraw:∀N,gK_ P N call) {n:Nat} {fn:Func} {T:Tm} {tmps:Array Value}:∀(D:Dfs) (H:AHeap) (u:Option AV) (r:FRes),
  cU_ P call n fn.results.toList T D H u=some r->∀(E:Env) (w:World) (ds:List Deferred) (m:FrameMode),TRel E N T tmps->Rel B pr E H w->DRel P E D ds->ModeAt E u m->
  Leaves P fn tmps (FPost B pr E r) ds m w
 |[],H,u,r,h,E,w,ds,m,ht,hr,hd,hm=>by subst hd;unfold cU_ at h;split at h;subst hm;split at h;rename_i l hl;cases h;obtain ⟨v,h1,h2⟩:=gH_ hr ht hl;exact ⟨v,h1,E,Env.le_refl _,v,rfl,h2,hr⟩;cases h;cases h;obtain ⟨v',rfl,h1⟩:=hm;exact ⟨E,Env.le_refl _,v',rfl,h1,hr⟩
 |(f,args)::D,H,u,r,h,E,w,ds,m,ht,hr,hd,hm=>by obtain ⟨vs,ds',rfl,h2,h3,h4⟩:=hd;unfold cU_ at h;split at h;rename_i H' u' hdf;refine ⟨hm.ne_run,.func f,#[],f,⟨vs⟩,rfl,?_,CallsD.mono (λe m' w' hq=>?_) (s6_ hcall hdraw hdf ht.gl hr h2 hm.in)⟩;simp [invoke,d6_ h3];obtain ⟨E',v,h5,rfl,h6,h7⟩:=hq;exact Leaves.mono (λe w hq=>FPost.le h5 hq) _ _ _ (c6_ hcall hdraw D H' u' r h E' w' ds' _ (ht.mono h5) h7 (h4.mono h5) h6.settle);cases h
theorem mg_ {call:CallF} (hcall:an_ P call) (hdraw:∀N,gK_ P N call) (n:Nat):an_ P (iE_ P call n):=by
 intro f args H r h B pr E w vs hg hr hc;unfold iE_ at h;split at h
 .rename_i N c rs hcf;unfold rf_ at hcf;split at hcf
  .rename_i fn hf;split at hcf
   .rename_i code hb;split at hcf
    .rename_i h5;cases hcf;split at h
     .rename_i hle;have h5:fn.ntmps<=512:=(by simp_all);have hle:args.length<=fn.ntmps:=(by grind [ai_,Nat.ble_eq]);obtain ⟨r',hd,hw⟩:=d8_ hcall (hdraw _) n code _ _ _ _ _ _ h;refine calls_of_wp_defers hf hb (Code.wp_mono (λe a w' hq=>?_) (hw B pr E _ w ⟨fh_ hg hc hle h5,hr,rfl⟩));obtain ⟨E',h1,h2⟩:=hq;cases r' with
      |norm T H' D=>obtain ⟨rfl,st⟩:=h2;exact Leaves.mono (λe w hq=>FPost.le h1 hq) _ _ _ (c6_ hcall hdraw D H' none r hd E' w' a.defers .returning st.t st.r st.d rfl)
      |ret T H' D=>obtain ⟨rfl,st⟩:=h2;exact Leaves.mono (λe w hq=>FPost.le h1 hq) _ _ _ (c6_ hcall hdraw D H' none r hd E' w' a.defers .returning st.t st.r st.d rfl)
      |pan v T H' D=>obtain ⟨u,rfl,h3,st⟩:=h2;exact Leaves.mono (λe w hq=>FPost.le h1 hq) _ _ _ (c6_ hcall hdraw D H' (some v) r hd E' w' a.defers _ st.t st.r st.d ⟨u,rfl,h3⟩)
      |exit id T H' D=>cases hd
     cases h
    cases hcf
   cases hcf
  cases hcf
 cases h
end
end Go.Sx
namespace Go.Sx
theorem AHeap.ofFun (f:Nat->Option ABlk) (nx hi:Nat):∃H:AHeap,H.next=nx/\H.hi=hi/\∀id k,H.get id=some k↔id<top/\f id=some k:=by
 have key:∀n,n<=top->∃H:AHeap,H.next=nx/\H.hi=hi/\∀id k,H.get id=some k↔id<n/\f id=some k:=by
  intro n
  induction n with
  |zero=>
   intro _;refine ⟨⟨hnil,nx,hi⟩,rfl,rfl,λid k=>⟨λh=>?_,λh=>absurd h.1 (Nat.not_lt_zero _)⟩⟩
   grind [AHeap.get_of_lt,c5_,AHeap.get_of_ge]
  |succ n ih=>
   intro hn;obtain ⟨H,h1,h2,h3⟩:=ih (by omega);cases hf:f n with
   |none=>
    grind
   |some b=>
    refine ⟨H.set n b,h1,h2,λid k=>?_⟩
    grind [AHeap.get_set_same,AHeap.get_set_ne]
 simp_all
def Env.withRes (E:Env) (r:Nat->Prop):Env:={ E with res:=r }
def Env.re (E:Env) (r:Nat->Prop) (m:Nat->Nat->Option Value) (d:Nat->Prop):Env:={ E with res:=r,bim:=m,vd:=d }
theorem Env.sub_re (E:Env) (r:Nat->Prop) (m:Nat->Nat->Option Value) (d:Nat->Prop):E.sub (E.re r m d):=⟨λ_ _ h=>h,λ_ _ h=>h,λ_ _ _ h=>h,rfl,rfl⟩
theorem Env.sub_withRes (E:Env) (r:Nat->Prop):E.sub (E.withRes r):=⟨λ_ _ h=>h,λ_ _ h=>h,λ_ _ _ h=>h,rfl,rfl⟩
theorem Rel.frame {B:World} {pr:Nat->Prop} {E:Env} {H:AHeap} {w:World} (h:Rel B pr E H w) {K:AHeap} (hK:∀id k,K.get id=some k->H.get id=some k)
  (res':Nat->Prop) (hvd:∀id,E.vd id->res' id) (hres:∀id,res' id->E.φ id=none) (hrng:∀id,K.next<=id->id<K.hi->E.φ id=none/\¬res' id):
  ∃pr':Nat->Prop,Rel w pr' (E.re res' E.imm λid=>E.vd id/\K.get id≠none) K w/\∀(E':Env) (K':AHeap) (w':World),(E.re res' E.imm λid=>E.vd id/\K.get id≠none).le E'->Rel w pr' E' K' w'->
   (∀id,res' id->E'.φ id=none)/\(∀id,K'.next<=id->id<K'.hi->E'.φ id=none)/\E.sub E'/\
   (∀id k,H.get id=some k->K.get id=none->K'.get id=none)/\
   ∀(nx hi:Nat) (res'':Nat->Prop),(∀id,nx<=id->id<hi->E'.φ id=none/\¬res'' id)->(∀id,res'' id->E'.φ id=none)->(∀id,E.vd id->res'' id)->
   ∃H':AHeap,H'.next=nx/\H'.hi=hi/\Rel B pr (E'.re res'' E.bim E.vd) H' w'/\(∀id k,K'.get id=some k->H'.get id=some k)/\
    (∀id k,H.get id=some k->K.get id=none->H'.get id=some k):=by
 obtain ⟨own,g1,g2,g3,g4⟩:∃own:Nat->Option Nat,(∀id k,H.get id=some k->RowAt E w own id k)/\
   (∀b,pr b->own b=none)/\(∀b o v,E.imm b o=some v->own b=none)/\∀b,¬b<w.heap.size->own b=none:=by
  obtain ⟨own,g1,g2,g3⟩:=h.own;refine ⟨λb=>if b<w.heap.size then own b else none,λid k hk=>?_,λb hb=>?_,λb o v hi=>?_,λb hb=>if_neg hb⟩;exact (g1 id k hk).imp (λ_ h=>h) (λh=>h) λb o h1 h2 h3=>⟨(if_pos h3.lt).trans h2,h3⟩;all_goals grind
 refine ⟨λb=>b<w.heap.size/\¬∃id k,own b=some id/\K.get id=some k,?_,?_⟩
 .refine { own:=?_,imm:=h.imm,ib:=λ_ _ _ _ h=>h,fresh:=λid h1 h2=>(hrng id h1 h2).1,resv:=λid hi=>⟨hres id hi,λhx=>(hrng id hx.1 hx.2).2 hi⟩,vds:=λid h=>hvd id h.1,szs:=h.szs,
           prot:=λb hb=>⟨hb.1,rfl⟩,size:=Nat.le_refl _,os:=rfl,output:=rfl }
  refine ⟨λb=>match own b with
   |some id=>match K.get id with
    |some _=>some id
    |none=>none
   |none=>none,λid k hk=>?_,λb hb=>?_,λb o v hi=>?_⟩
  .obtain ⟨hv,hv2⟩|⟨b,o,h1,h2,h3⟩:=g1 id k (hK id k hk);exact .inl ⟨⟨hv,by grind⟩,hv2⟩
   .refine .inr ⟨b,o,h1,?_,h3.sub (Env.sub_re E res' E.imm _) rfl⟩
    grind
  .grind
  .have:own b=none:=g3 b o v hi
   grind
 .intro E' K' w' hle hr';obtain ⟨own',q1,q2,q3⟩:=hr'.own;have hsub:E.sub E':=⟨λi x hx=>hle.1.1 i x hx,λb n hx=>hle.1.2.1 b n hx,hle.1.2.2⟩;have hresE:E'.res=res':=hle.2.1;have hbimE:E'.bim=E.imm:=hle.2.2.1;have hvdE:∀id,E'.vd id->E.vd id/\K.get id≠none:=λid hx=>(by rw [hle.2.2.2]at hx;exact hx);have hr1:∀id,res' id->E'.φ id=none:=λid hi=>(hr'.resv id (by grind)).1;have hstay:∀id k,H.get id=some k->K.get id=none->((E.vd id/\Void E k)\/∃b o,E.φ id=some (b,o)/\own b=some id/\BlkAt E w b o k/\own' b=none/\w'.heap[b]? =w.heap[b]?)/\K'.get id=none:=by
   intro id k hk hn;obtain hvoid|⟨b,o,h1,h2,h3⟩:=g1 id k hk
   .refine ⟨.inl hvoid,?_⟩;cases hk':K'.get id with
    |none=>rfl
    |some k'=>obtain ⟨hv',_⟩|⟨b',o',e1,_⟩:=q1 id k' hk'<;>grind
   have hpr:b<w.heap.size/\¬∃id k,own b=some id/\K.get id=some k:=by
    grind
   have ho':=q2 b hpr;refine ⟨.inr ⟨b,o,h1,h2,h3,ho',(hr'.prot b hpr).2⟩,?_⟩;cases hk':K'.get id with
   |none=>rfl
   |some k'=>
    obtain ⟨hv',_⟩|⟨b',o',e1,e2,_⟩:=q1 id k' hk'
    .grind
    .rw [hsub.1 _ _ h1]at e1;grind
  refine ⟨hr1,hr'.fresh,hsub,λid k h1 h2=>(hstay id k h1 h2).2,?_⟩;intro nx hi res'' hrng' hres'' hvd'';obtain ⟨H',e1,e2,e3⟩:=AHeap.ofFun (λid=>match K'.get id with
   |some k=>some k
   |none=>match K.get id with
    |some _=>none
    |none=>H.get id) nx hi
  have cr_:∀id k,H'.get id=some k->K'.get id=some k\/(H.get id=some k/\K.get id=none):=by
   grind
  refine ⟨H',e1,e2,?_,λid k hk=>(e3 id k).2 ⟨AHeap.get_lt hk,by grind⟩,λid k hk hn=>?_⟩
  .have hs2:=Env.sub_re E' res'' E.bim E.vd;have hprpr:∀b,pr b->b<w.heap.size/\¬∃id k,own b=some id/\K.get id=some k:=λb hb=>by
    refine ⟨Nat.lt_of_lt_of_le (h.prot b hb).1 h.size,λhx=>?_⟩
    grind
   have himm:∀b o v,(b<w.heap.size/\¬∃id k,own b=some id/\K.get id=some k)->E'.imm b o=some v->E.imm b o=some v:=λb o v hb hv=>(by rw [←hbimE];exact hr'.ib b o v hb hv)
   refine { own:=?_,imm:=hr'.imm,ib:=λb o v hb hv=>h.ib b o v hb (himm b o v (hprpr b hb) hv),fresh:=λid h1 h2=>(hrng' id (e1▸h1) (e2▸h2)).1,
            resv:=λid hi=>⟨hres'' id hi,λhx=>(hrng' id (e1▸hx.1) (e2▸hx.2)).2 hi⟩,vds:=hvd'',szs:=hr'.szs,prot:=λb hb=>?_,size:=Nat.le_trans h.size hr'.size,os:=hr'.os.trans h.os,output:=hr'.output.trans h.output }
   .refine ⟨λb=>match own' b with
      |some id=>some id
      |none=>match own b with
       |some id=>match K.get id with
        |some _=>none
        |none=>some id
       |none=>none,λid k hk=>?_,λb hb=>?_,λb o v hi=>?_⟩
    rcases cr_ id k hk with hk|⟨hk,hn⟩;obtain ⟨hv',hv2⟩|⟨b,o,f1,f2,f3⟩:=q1 id k hk;exact .inl ⟨(hvdE id hv').1,hv2⟩;exact .inr ⟨b,o,f1,by grind,f3.sub hs2 rfl⟩;obtain ⟨hv1,hv2⟩|⟨b,o,f1,f2,f3,f4,f5⟩:=(hstay id k hk hn).1;exact .inl ⟨hv1,hv2.sub λi hi=>by show E'.sy i=_;rw [hsub.2.2.2.1];exact hi⟩;exact .inr ⟨b,o,hsub.1 _ _ f1,by grind,BlkAt.sub (Env.sub_trans hsub hs2) f5 f3⟩
    .grind
    .have hi1:E'.imm b o=some v:=hi;have ho':=q3 b o v hi1;simp only [ho'];cases ho:own b with
     |none=>rfl
     |some id=>
      cases hk:K.get id with
      |some k=>grind
      |none=>
       grind
   .have hpr:b<w.heap.size/\¬∃id k,own b=some id/\K.get id=some k:=by
      grind
    exact ⟨(h.prot b hb).1,(hr'.prot b hpr).2.trans (h.prot b hb).2⟩
  grind [AHeap.get_lt]
theorem nR_ (m i:Nat):bit m i=m.testBit i:=by
 unfold bit;have e:Nat.land (Nat.shiftRight m i) 1=(m>>>i)&&&1:=rfl
 grind [Nat.testBit]
theorem lf_ (a b i:Nat):bit (Nat.lor a b) i=(bit a i||bit b i):=by simp_all [nR_]
theorem oN_ (a i:Nat):bit (Nat.pow 2 a) i=decide (a=i):=by rw [nR_];exact Nat.testBit_two_pow
theorem md_ (i:Nat):bit 0 i=false:=by grind [nR_]
theorem gO_ (e:Edge):d5_ e=Region.binds .any e:=by
 cases e with
 |mk on g=>cases g<;>rfl
theorem lH_:∀(l:List Nat) (n:Nat),qx_ l n=l.getD n 0
 |[],n=>by simp [qx_]
 |a::r,0=>rfl
 |a::r,n+1=>by simp [qx_,lH_ r n]
theorem km_ (bs:List Nat):∀(l:List Edge) (j:Nat),bit (ep_ bs l) j=true↔∃e∈l,d5_ e=true/\(e.on=j\/bit (qx_ bs e.on) j=true)
 |[],j=>by simp [ep_,md_]
 |e::r,j=>by
  unfold ep_;have ih:=km_ bs r j;split
  .rw [lf_,lf_,oN_]
   grind
  grind
theorem kn_:∀(l:List Oper) (bs:List Nat),∃cs,q9_ l bs=bs++cs/\cs.length=l.length/\
  ∀k o,l[k]? =some o->∃b,(bs++cs)[bs.length+k]? =some b/\b=ep_ ((bs++cs).take (bs.length+k)) o.after.toList
 |[],bs=>⟨[],by simp [q9_],rfl,λk o h=>by simp at h⟩
 |o::l,bs=>by
  obtain ⟨cs,h1,h2,h3⟩:=kn_ l (bs++[ep_ bs o.after.toList]);refine ⟨ep_ bs o.after.toList::cs,?_,by simp [h2],λk x hk=>?_⟩
  .grind [q9_]
  .have e:bs++ep_ bs o.after.toList::cs=(bs++[ep_ bs o.after.toList])++cs:=(by simp);cases k with
   |zero=>
    grind
   |succ k=>
    obtain ⟨b,g1,g2⟩:=h3 k x (by grind);have el:(bs++[ep_ bs o.after.toList]).length+k=bs.length+(k+1):=(by simp;omega);rw [el]at g1 g2
    grind
theorem c0_:∀(l:List Edge) (i:Nat),fu_ l i=true->∀e∈l,d5_ e=true->e.on<i
 |[],i,h,e,he,hb=>by simp at he
 |e'::r,i,h,e,he,hb=>by
  unfold fu_ at h;rcases List.mem_cons.1 he with rfl|he;simp_all
  split at h;exact c0_ r i (aa_ h).2 e he hb;exact c0_ r i h e he hb
theorem jg_:∀(l:List Oper) (k:Nat),okE l k=true->∀i o,l[i]? =some o->fu_ o.after.toList (k+i)=true
 |[],k,h,i,o,hi=>by simp at hi
 |a::r,k,h,i,o,hi=>by
  obtain ⟨h1,h2⟩:=aa_ h;cases i with
  |zero=>grind
  |succ i=>
   have:=jg_ r (Nat.succ k) h2 i o (by grind)
   grind
theorem no_ (ops:List Oper) (bs:List Nat):∀(l:List Oper) (c:List Nat) (k:Nat),l.length=c.length->(sis ops bs l c k).length=l.length/\
  ∀i o b,l[i]? =some o->c[i]? =some b->(sis ops bs l c k)[i]? =some (SI.mk o b (bN_ o.op) (mS_ b ops 0) (mL_ (k+i) ops bs) (c2_ ops o) (uG_ ops bs b (k+i) o))
 |[],c,k,h=>⟨rfl,λi o b hi=>by simp at hi⟩
 |a::r,[],k,h=>by simp at h
 |a::r,b::c,k,h=>by
  obtain ⟨h1,h2⟩:=no_ ops bs r c (Nat.succ k) (by simpa using h);refine ⟨by simp [sis,h1],λi o b' hi hb=>?_⟩;cases i with
  |zero=>simp at hi hb;subst hi;subst hb;simp [sis]
  |succ i=>have:=h2 i o b' (by simpa using hi) (by simpa using hb);have e:Nat.succ k+i=k+(i+1):=(by omega);rw [e]at this;simpa [sis]using this
theorem hQ_ (x:SI) (i:Nat):∀l:List SI,om_ x i l=true->∀(j:Nat) (y:SI),l[j]? =some y->lJ_ x i y=true
 |[],h,j,y,hj=>by simp at hj
 |a::r,h,j,y,hj=>by
  obtain ⟨h1,h2⟩:=aa_ h;cases j with
  |zero=>simp at hj;subst hj;exact h1
  |succ j=>exact hQ_ x i r h2 j y (by simpa using hj)
theorem jf_:∀(l:List SI) (k:Nat),r2_ l k=true->∀(i j:Nat) (x y:SI),i<j->l[i]? =some x->l[j]? =some y->lJ_ x (k+i) y=true
 |[],k,h,i,j,x,y,hij,hi,hj=>by simp at hi
 |a::r,k,h,i,j,x,y,hij,hi,hj=>by
  obtain ⟨h1,h2⟩:=aa_ h;cases j with
  |zero=>omega
  |succ j=>
   cases i with
   |zero=>
    grind [hQ_]
   |succ i=>
    have:=jf_ r (Nat.succ k) h2 i j x y (by omega) (by grind) (by grind)
    grind
structure PlanOk (ops:List Oper) (l:List SI):Prop where
 len:l.length=ops.length
 op:∀(i:Nat) (x:SI),l[i]? =some x->ops[i]? =some x.o
 kd:∀(i:Nat) (x:SI),l[i]? =some x->x.kd=bN_ x.o.op
 rd:∀(i:Nat) (x:SI),l[i]? =some x->x.rd=c2_ ops x.o
 lo:∀(i:Nat) (x:SI),l[i]? =some x->x.lo=mS_ x.bef ops 0
 hi:∀(i:Nat) (x:SI),l[i]? =some x->x.hi=mL_ i ops (l.map SI.bef)
 lt:∀(i:Nat) (x:SI) (e:Edge),l[i]? =some x->e∈x.o.after->Region.binds .any e=true->e.on<i
 bef:∀(i:Nat) (x:SI) (j:Nat),l[i]? =some x->(bit x.bef j=true↔∃e∈x.o.after,Region.binds .any e=true/\(e.on=j\/∃y:SI,l[e.on]? =some y/\bit y.bef j=true))
 pair:∀(i j:Nat) (x y:SI),i<j->l[i]? =some x->l[j]? =some y->hA_ x y=true\/(bf_ x.kd=true/\bf_ y.kd=true)->bit y.bef i=true
theorem lN_ {ops:List Oper} {l:List SI} {n:Nat} (h:os_ ops=.mk l n):PlanOk ops l/\n=a2_ l:=by
 unfold os_ at h;split at h
 .rename_i hE;dsimp only at h;split at h
  .rename_i hA;cases h;obtain ⟨cs,h1,h2,h3⟩:=kn_ ops [];rw [List.nil_append]at h1;rw [h1]at hA⊢;simp only [List.nil_append,List.length_nil,Nat.zero_add]at h3;obtain ⟨s1,s2⟩:=no_ ops cs ops cs 0 h2.symm;have hx:∀(i:Nat) (x:SI),(sis ops cs ops cs 0)[i]? =some x->∃o b,ops[i]? =some o/\cs[i]? =some b/\x=SI.mk o b (bN_ o.op) (mS_ b ops 0) (mL_ i ops cs) (c2_ ops o) (uG_ ops cs b i o):=by simp_all [List.getElem?_eq_some_iff]
   have hmap:(sis ops cs ops cs 0).map SI.bef=cs:=by
    apply List.ext_getElem?
    grind
   refine ⟨{ len:=s1,op:=?_,kd:=?_,rd:=?_,lo:=?_,hi:=?_,lt:=?_,bef:=?_,pair:=?_ },rfl⟩
   .grind
   .grind
   .grind
   .grind
   .grind
   intro i x e hi he hb;obtain ⟨o,b,g1,g2,rfl⟩:=hx i x hi;have:=jg_ ops 0 hE i o g1;rw [Nat.zero_add]at this;exact c0_ _ _ this e (by grind) (by exact hb)
   .intro i x j hi;obtain ⟨o,b,g1,g2,rfl⟩:=hx i x hi;obtain ⟨b',g3,g4⟩:=h3 i o g1;rw [g2]at g3;cases g3;have hlt:∀e∈o.after,d5_ e=true->e.on<i:=λe he hb=>by have:=jg_ ops 0 hE i o g1;rw [Nat.zero_add]at this;exact c0_ _ _ this e (by grind) hb
    have hil:i<ops.length:=(List.getElem?_eq_some_iff.1 g1).1;rw [g4,km_];constructor
    .grind [gO_,lH_]
    .rintro ⟨e,he,hb,hj⟩;have hb':d5_ e=true:=by exact hb
     grind [lH_]
   .intro i j x y hij hi hj hc;have:=jf_ _ 0 hA i j x y hij hi hj
    grind [lJ_]
  cases h
 cases h
end Go.Sx
