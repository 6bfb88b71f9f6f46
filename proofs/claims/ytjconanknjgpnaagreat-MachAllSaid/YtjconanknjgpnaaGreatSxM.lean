/-
  The evaluator of code: results, deferred calls, calls.
-/
import Derived.Test.YtjconanknjgpnaaGreatSxL
import Derived.Recover
import Derived.Test.YtjconanknjgpnaaGreatSxB
set_option linter.unusedVariables false
set_option linter.unusedSimpArgs false
namespace Go.Sx
variable [Gl]
omit [Gl]in
theorem bk_ {P:Program} {ops:Array Oper} {Q Q':Exit->Act->List Frame->World->Prop} (hq:∀e a cs w,Q e a cs w->Q' e a cs w):
  ∀(l:List Nat) (a:Act) (cs:List Frame) (w:World),wpOpsS P ops Q l a cs w->wpOpsS P ops Q' l a cs w
 |[],a,cs,w,h=>hq _ _ _ _ h
 |i::r,a,cs,w,h=>by
  unfold wpOpsS at h⊢;cases ho:ops[i]? with
  |none=>simp only [ho]at h⊢;exact bk_ hq r _ _ _ h
  |some o=>
   simp only [ho]at h⊢;split
   .rename_i hw;rw [if_pos hw]at h;generalize (execOp a.eval o).run P w=x at*;cases x with
    |ok n w'=>
     cases n<;>simp only [Oper.upon]at h⊢<;>
      first
       |exact bk_ hq r _ _ _ h
       |exact Calls.mono h (λe w'' he=>by cases e<;>first|exact bk_ hq r _ _ _ he|exact hq _ _ _ _ he|exact he.imp λ_ hx=>hx.imp λ_ hy=>hq _ _ _ _ hy)
       |exact Rows.mono h (λ_ _ he=>bk_ hq r _ _ _ he)
       |skip
     split at h<;>exact bk_ hq r _ _ _ h
    |halt x w'=>cases x<;>simp only [Oper.upon]at h⊢<;>first|exact h|exact hq _ _ _ _ h
   rename_i hw;rw [if_neg hw]at h;exact bk_ hq r _ _ _ h
section
variable {P:Program} {B:World} {pr:Nat->Prop} {N:Nat} {E:Env} {H:AHeap} {w:World}
omit [Gl]in
theorem nE_ (hr:Rel B pr E H w) {t:TypeId} {a:AV} {v:Value} (hc:Con E a v) {r:AV} (h:bl_ P H t a=some r):
  ∃u,(asAddr v >>= λx=>loadVar t x).run P w=.ok u w/\Con E r u:=by
 unfold bl_ at h;split at h;cases h;rename_i d hd;split at h;rename_i hag;split at h;cases h;rename_i i hi;split at h;rename_i l hl;cases h;obtain ⟨b,o,vs,rfl,hlen,hL,hcell⟩:=bt_ hr hc hl;refine ⟨.agg ⟨vs⟩,?_,by simp only [Con];exact ⟨vs,rfl,hL⟩⟩;have:=bA_ (P:=P) hcell;rw [hlen]at this;simp [asAddr,loadVar,bI_ hd,hag,ai_ hi,this];cases h;rename_i hag;split at h;rename_i c hl;cases h;obtain ⟨b,o,vs,rfl,hlen,hL,hcell⟩:=bt_ hr hc hl;obtain ⟨u,hu,hcu⟩:=hL.at 0 r rfl;refine ⟨u,?_,hcu⟩;have:=hcell 0 u hu;simp only [Nat.add_zero]at this;simp [asAddr,loadVar,bI_ hd,hag,this];cases h
def i5_ (tmps:Array Value) (x:ResultVar):Sem Value:=match x with
 | .tmp t=>pure (tmps.getD t undef)
 | .cell a t=>do loadVar t (←asAddr (tmps.getD a undef))
theorem fN_ {T:Tm} {tmps:Array Value} (hr:Rel B pr E H w) (ht:TRel E N T tmps):∀(rs:List ResultVar) (l:List AV),en_ P T H rs=some l->
  ∃vs,(rs.mapM (i5_ tmps)).run P w=.ok vs w/\ConL E l vs
 |[],l,h=>by unfold en_ at h;cases h;exact ⟨[],by simp,ConL.nil E⟩
 | .tmp t::rs,l,h=>by unfold en_ at h;split at h;rename_i hb;split at h;rename_i l' hl;cases h;obtain ⟨vs,h1,h2⟩:=fN_ hr ht rs l' hl;refine ⟨tmps.getD t undef::vs,?_,?_⟩;simp [List.mapM_cons,i5_,h1];exact ConL.cons (ht.con t (by simpa [Nat.blt_eq]using hb)) h2;cases h;cases h
 | .cell a t::rs,l,h=>by unfold en_ at h;split at h;rename_i hb;split at h;rename_i v hv;split at h;rename_i l' hl;cases h;obtain ⟨vs,h1,h2⟩:=fN_ hr ht rs l' hl;obtain ⟨u,h3,h4⟩:=nE_ hr (ht.con a (by simpa [Nat.blt_eq]using hb)) hv;refine ⟨u::vs,?_,ConL.cons h4 h2⟩;have h3:(i5_ tmps (.cell a t)).run P w=.ok u w:=h3;simp only [List.mapM_cons,Sem.run_bind,h3,Result.andThen_ok,h1];simp;cases h;cases h;cases h
theorem gk_ {fn:Func} {T:Tm} {tmps:Array Value} (hr:Rel B pr E H w) (ht:TRel E N T tmps) {l:List AV} (h:en_ P T H fn.results.toList=some l):
  ∃v,(results fn tmps).run P w=.ok v w/\Con E (u2_ l) v:=by
 obtain ⟨vs,h1,h2⟩:=fN_ (P:=P) hr ht _ _ h;have h3:(fn.results.mapM (i5_ tmps)).run P w=.ok ⟨vs⟩ w:=by rw [Array.mapM_eq_mapM_toList];simp [h1]
 match l,vs,h2,h3 with
 |[],vs,h2,h3=>have:vs=[]:=(by simpa [ConL]using h2);subst this;refine ⟨.tuple #[],?_,?_⟩;show (fn.results.mapM (i5_ tmps) >>= λvs=>pure (if h:vs.size=1 then vs[0]else Value.tuple vs)).run P w=_;simp [h3];show Con E (.tup []) _;simp only [Con];exact ⟨[],rfl,ConL.nil E⟩
 |[a],vs,h2,h3=>obtain ⟨v,r,rfl,h4,h5⟩:=(by simpa only [ConL]using h2:∃v r,vs=v::r/\Con E a v/\r=[]);subst h5;refine ⟨v,?_,h4⟩;show (fn.results.mapM (i5_ tmps) >>= λvs=>pure (if h:vs.size=1 then vs[0]else Value.tuple vs)).run P w=_;simp [h3]
 |a::b::r,vs,h2,h3=>obtain ⟨v,s,rfl,h4,h5⟩:=(by simpa only [ConL]using h2:∃v s,vs=v::s/\Con E a v/\∃v' r',s=v'::r'/\Con E b v'/\ConL E r r');obtain ⟨v',r',rfl,h6,h7⟩:=h5;refine ⟨.tuple ⟨v::v'::r'⟩,?_,?_⟩;show (fn.results.mapM (i5_ tmps) >>= λvs=>pure (if h:vs.size=1 then vs[0]else Value.tuple vs)).run P w=_;simp [h3];show Con E (.tup (a::b::r)) _;simp only [Con];exact ⟨_,rfl,h2⟩
omit [Gl]in
theorem hC_:∀(args:List AV) (i:Nat) (T:Tm),i+args.length<=512->∀t,t<512->
  tget (aY_ args i T) t=if i<=t then (match args[t-i]? with|some a=>a|none=>tget T t)else tget T t
 |[],i,T,hl,t,ht=>by simp [aY_]
 |a::r,i,T,hl,t,ht=>by simp only [List.length_cons]at hl;unfold aY_;rw [hC_ r (Nat.succ i) (dY_ T i a) (by omega) t ht];by_cases h1:t=i;subst h1;rw [if_neg (by omega),if_pos (Nat.le_refl _)];simp [ao_ T ht a];rw [ap_ T ht (by omega) (λe=>h1 e.symm)];by_cases h2:i<=t;rw [if_pos h2,if_pos (by omega)];have:t-i=(t-Nat.succ i)+1:=(by omega);rw [this,List.getElem?_cons_succ];rw [if_neg h2,if_neg (by omega)]
theorem e6_ {args:List AV} {vs:List Value} (hg:GlOk E) (hc:ConL E args vs) (hN:args.length<=N) (h5:N<=512):
  TRel E N (aY_ args 0 tnil) ((⟨vs⟩:Array Value)++Array.replicate (N-(⟨vs⟩:Array Value).size) undef):=by
 have hlen:=hc.length;refine ⟨by simp [hlen];omega,h5,λt ht=>?_,hg⟩;rw [hC_ args 0 tnil (by omega) t ht];simp only [Nat.zero_le,if_true,Nat.sub_zero,qg_];rcases Nat.lt_or_ge t args.length with hlt|hge;obtain ⟨v,h1,h2⟩:=hc.at t args[t] (by simp [hlt]);rw [List.getElem?_eq_getElem hlt];have:((⟨vs⟩:Array Value)++Array.replicate (N-(⟨vs⟩:Array Value).size) undef).getD t undef=v:=(by rw [Array.getD_eq_getD_getElem?,Array.getElem?_append];have:t<vs.length:=(by omega);simp only [List.size_toArray,this,if_true];simp [h1]);rw [this];exact h2
 .rw [List.getElem?_eq_none hge];have:((⟨vs⟩:Array Value)++Array.replicate (N-(⟨vs⟩:Array Value).size) undef).getD t undef=undef:=by rw [Array.getD_eq_getD_getElem?,Array.getElem?_append];have:¬t<vs.length:=(by omega);simp only [List.size_toArray,this,if_false];rw [Array.getElem?_replicate];split<;>rfl
  rw [this];exact bd_ E
def ModeIn (E:Env) (u:Option AV) (m:FrameMode):Prop:=match u with
 |none=>m=.returning\/∃v,m=.panicking [{ v:=v,recovered:=true }]
 |some a=>∃v,m=.panicking [{ v:=v,recovered:=false }]/\Con E a v
def ModeAt (E:Env) (u:Option AV) (m:FrameMode):Prop:=match u with
 |none=>m=.returning
 |some a=>∃v,m=.panicking [{ v:=v,recovered:=false }]/\Con E a v
omit [Gl]in
theorem ModeIn.mono {E E':Env} (h:E.le E') {u:Option AV} {m:FrameMode} (hm:ModeIn E u m):ModeIn E' u m:=by
 cases u with
 |none=>exact hm
 |some a=>obtain ⟨v,h1,h2⟩:=hm;exact ⟨v,h1,h2.mono h⟩
omit [Gl]in
theorem ModeAt.mono {E E':Env} (h:E.le E') {u:Option AV} {m:FrameMode} (hm:ModeAt E u m):ModeAt E' u m:=by
 cases u with
 |none=>exact hm
 |some a=>obtain ⟨v,h1,h2⟩:=hm;exact ⟨v,h1,h2.mono h⟩
omit [Gl]in
theorem ModeAt.in {E:Env} {u:Option AV} {m:FrameMode} (hm:ModeAt E u m):ModeIn E u m:=by
 cases u with
 |none=>exact .inl hm
 |some a=>exact hm
omit [Gl]in
theorem ModeAt.ne_run {E:Env} {u:Option AV} {m:FrameMode} (hm:ModeAt E u m):m≠ .run:=by
 cases u with
 |none=>rw [show m=.returning from hm];exact λe=>by cases e
 |some a=>obtain ⟨v,rfl,_⟩:=hm;exact λe=>by cases e
omit [Gl]in
theorem ModeIn.settle {E:Env} {u:Option AV} {m:FrameMode} (hm:ModeIn E u m):ModeAt E u (Go.settle m):=by
 cases u with
 |none=>rcases hm with rfl|⟨v,rfl⟩;rfl;rfl
 |some a=>obtain ⟨v,rfl,h⟩:=hm;exact ⟨v,rfl,h⟩
def SOut (P:Program) (B:World) (pr:Nat->Prop) (N:Nat) (E:Env) (c₀:Frame) (cs:List Frame) (r:SRes) (e:Exit) (a:Act) (cs':List Frame) (w:World):Prop:=
 ∃E' m,E.le E'/\cs'={ c₀ with mode:=m }::cs/\match r with
  | .norm T H u=>e=.normal/\ModeIn E' u m/\St P B pr N E' T H [] a w
  | .ret T H u=>e=.ret/\ModeIn E' u m/\St P B pr N E' T H [] a w
theorem SOut.le {E':Env} (h:E.le E') {c₀:Frame} {cs cs':List Frame} {r:SRes} {e:Exit} {a:Act} {w:World} (hq:SOut P B pr N E' c₀ cs r e a cs' w):SOut P B pr N E c₀ cs r e a cs' w:=by obtain ⟨E'',m,h1,h2⟩:=hq;exact ⟨E'',m,Env.le_trans h h1,h2⟩
omit [Gl]in
theorem Act.put_defers' (a:Act) (d:Option Tmp) (v:Value):(a.put d v).defers=a.defers:=by unfold Act.put;split<;>rfl
theorem St.putV {T:Tm} {H H':AHeap} {D:Dfs} {a:Act} {w w':World} (st:St P B pr N E T H D a w) {E':Env} (hle:E.le E') (hr:Rel B pr E' H' w') {dst:Option Nat} {p:Tm->AV->Tm}
  (hp:b3_ N dst=.mk p) {x:AV} {v:Value} (hc:Con E' x v):St P B pr N E' (p T x) H' D (a.put dst v) w':=
 ⟨(st.t.mono hle).put hp hc,hr,by rw [Act.put_defers'];exact st.d.mono hle⟩
theorem ll_ {call:CallF} (hcall:aq_ P call) (ops:Array Oper) (c₀:Frame) (cs:List Frame):∀(l:List Oper) (k:Nat),(∀j,l[j]? =ops[k+j]?)->∀(T:Tm) (H:AHeap) (u:Option AV) (r:SRes),
  jE_ P call N ops.toList l T H u=some r->∀(E:Env) (a:Act) (w:World) (m:FrameMode),St P B pr N E T H [] a w->ModeIn E u m->
  wpOpsS P ops (SOut P B pr N E c₀ cs r) (List.range' k l.length) a ({ c₀ with mode:=m }::cs) w
 |[],k,hl,T,H,u,r,h,E,a,w,m,st,hm=>by unfold jE_ at h;cases h;exact ⟨E,m,Env.le_refl _,rfl,rfl,hm,st⟩
 |o::l,k,hl,T,H,u,r,h,E,a,w,m,st,hm=>by
  have h0:ops[k]? =some o:=(by simpa using (hl 0).symm);have hl':∀j,l[j]? =ops[k+1+j]? :=λj=>(by have:=hl (j+1);simpa [Nat.add_assoc,Nat.add_comm 1 j]using this);have ih:=ll_ hcall ops c₀ cs l (k+1) hl';unfold jE_ at h;split at h;cases h
  .rename_i p hp;rw [List.length_cons,List.range'_succ];unfold wpOpsS;simp only [h0];have key:∀(g:Option Bool),(match a4_ ops.toList o with| .always=>some true| .mk g=>g T)=g->∀t,g=some t->Region.wanted o (yielded ops a.tmps)=t:=λg hg t ht=>by subst ht;split at hg;rename_i hga;cases hg;exact cR_ hga a.tmps;rename_i g' hga;exact eH_ st.t hga hg
   split at h;cases h;rename_i hg;rw [key _ hg false rfl];simp only [Bool.false_eq_true,if_false];exact ih _ _ _ _ h E _ w m (st.putV (Env.le_refl _) st.r hp (bd_ E)) hm;rename_i hg;rw [key _ hg true rfl];simp only [if_true];split at h;cases h;rename_i x H' hrun;obtain ⟨E',n,v,w',h1,h2,h3,h4,h5⟩:=au_ hrun st.r st.t;have fin:=bk_ (λe a cs' w hq=>SOut.le h3 hq) _ _ _ _ (ih _ _ _ _ h E' _ w' m (st.putV h3 h4 hp h5) (hm.mono h3));rw [h1];rcases h2 with rfl|⟨rfl,rfl⟩;exact fin;exact fin;rename_i f args hrun;split at h;rename_i x H' hc;obtain ⟨vs,h1,h2⟩:=au_ hrun st.r st.t;rw [h1];refine Calls.mono (hcall f args H _ hc B pr E w vs st.t.gl st.r h2) λe w' he=>?_;obtain ⟨E',h3,v,rfl,h4,h5⟩:=he;exact bk_ (λe a cs' w hq=>SOut.le h3 hq) _ _ _ _ (ih _ _ _ _ h E' _ w' m (st.putV h3 h5 hp h4) (hm.mono h3));cases h;rename_i hrun;have h1:=au_ hrun st.r st.t;have h1:(execOp a.eval o).run P w=.ok .recover w:=h1;rw [h1];simp only;split at h;rename_i v;obtain ⟨v',rfl,hcv⟩:=hm;simp only [recoverD];exact ih _ _ _ _ h E _ w _ (st.putV (Env.le_refl _) st.r hp hcv) (.inr ⟨v',rfl⟩);have hrec:recoverD ({ c₀ with mode:=m }::cs)=none:=(by rcases hm with rfl|⟨v,rfl⟩<;>simp [recoverD]);rw [hrec];exact ih _ _ _ _ h E _ w m (st.putV (Env.le_refl _) st.r hp (by simp [Con])) hm;cases h
omit [Gl]in
theorem Code.wpS_mono {c:Code} {Q Q':Exit->Act->List Frame->World->Prop} (hq:∀e a cs w,Q e a cs w->Q' e a cs w) {a:Act} {cs:List Frame} {w:World} (h:c.wpS P Q a cs w):c.wpS P Q' a cs w:=
 λb k hb hr=>let ⟨e,a',cs',w',q,arr⟩:=h b k hb hr;⟨e,a',cs',w',hq _ _ _ _ q,arr⟩
omit [Gl]in
theorem er_ {id:Nat} {c:Code} {Q:Exit->Act->List Frame->World->Prop} {a:Act} {cs:List Frame} {w:World} (h:c.wpS P Q a cs w) (hQ:∀e a cs w,Q e a cs w->e=.normal\/e=.ret):(Code.block id c).wpS P Q a cs w:=by intro b k hb hr;obtain ⟨e,a₁,cs₁,w₁,hq,harr⟩:=h b (.inBlock id::k) hb hr;rcases hQ _ _ _ _ hq with rfl|rfl;exact ⟨.normal,a₁,cs₁,w₁,hq,.head step_block (Steps.trans harr (.one step_inBlock))⟩;exact ⟨_,a₁,cs₁,w₁,hq,.of_steps (.one step_block) harr⟩
theorem qG_ {call:CallF} (hcall:aq_ P call) (hdraw:gq_ P N call) (n:Nat) (B:World) (pr:Nat->Prop) (c₀:Frame) (cs:List Frame):∀(c:Code) (T:Tm) (H:AHeap) (u:Option AV) (r:SRes),
  bS_ P call N n c T H u=some r->∀(E:Env) (a:Act) (w:World) (m:FrameMode),St P B pr N E T H [] a w->ModeIn E u m->
  c.wpS P (SOut P B pr N E c₀ cs r) a ({ c₀ with mode:=m }::cs) w:=by
 intro c
 induction c with
 |skip=>intro T H u r h E a w m st hm;unfold bS_ at h;cases h;exact wpS_of_wp (wp_skip ⟨E,m,Env.le_refl _,rfl,rfl,hm,st⟩)
 |ret=>intro T H u r h E a w m st hm;unfold bS_ at h;cases h;exact wpS_of_wp (wp_ret ⟨E,m,Env.le_refl _,rfl,rfl,hm,st⟩)
 |region id ops draw=>intro T H u r h E a w m st hm;unfold bS_ at h;split at h;refine wpS_region ?_;have:=ll_ hcall ops c₀ cs ops.toList 0 (by simp) T H u r h E a w m st hm;rw [List.range_eq_range'];simpa using this;split at h;rename_i T' H' hd;cases h;refine wpS_of_wp (Code.wp_mono (λe a w hq=>?_) (hdraw id ops T H [] _ hd B pr E a w st));obtain ⟨E',h1,rfl,h2⟩:=hq;exact ⟨E',m,h1,rfl,rfl,hm.mono h1,h2⟩;cases h
 |seq x y ihx ihy=>
  intro T H u r h E a w m st hm;unfold bS_ at h;split at h;rename_i T' H' u' hx;refine wpS_seq (Code.wpS_mono (λe a cs' w hq=>?_) (ihx T H u _ hx E a w m st hm));obtain ⟨E',m',h1,rfl,rfl,h3,h4⟩:=hq;exact Code.wpS_mono (λe a cs w hq=>SOut.le h1 hq) (ihy T' H' u' r h E' a w m' h4 h3)
  .rename_i hne;refine wpS_seq (Code.wpS_mono (λe a cs' w hq=>?_) (ihx T H u r h E a w m st hm));obtain ⟨E',m',h1,h2,h3⟩:=hq;cases r with
   |norm T' H' u'=>exact absurd h (hne T' H' u')
   |ret T' H' u'=>obtain ⟨rfl,h4⟩:=h3;exact ⟨E',m',h1,h2,rfl,h4⟩
 |cond c x y ihx ihy=>intro T H u r h E a w m st hm;unfold bS_ at h;have hl:=st.t.look c;split at h;rename_i hv;rw [hv]at hl;exact wpS_cond (t:=true) (by simpa [Con]using hl) (ihx T H u r h E a w m st hm);rename_i hv;rw [hv]at hl;exact wpS_cond (t:=false) (by simpa [Con]using hl) (ihy T H u r h E a w m st hm);cases h
 |block id b ih=>
  intro T H u r h E a w m st hm;unfold bS_ at h;refine er_ (ih T H u r h E a w m st hm) λe a cs' w hq=>?_;obtain ⟨E',m',_,_,h3⟩:=hq;cases r with
  |norm T' H' u'=>exact .inl h3.1
  |ret T' H' u'=>exact .inr h3.1
 |loop _ _=>intro T H u r h;unfold bS_ at h;cases h
 |exit _=>intro T H u r h;unfold bS_ at h;cases h
 |label _=>intro T H u r h;unfold bS_ at h;cases h
 |scope _ _=>intro T H u r h;unfold bS_ at h;cases h
 |goto _=>intro T H u r h;unfold bS_ at h;cases h
 |rangeFunc _ _ _ _ _ _=>intro T H u r h;unfold bS_ at h;cases h
 |refuse _=>intro T H u r h;unfold bS_ at h;cases h
def vs_ (B:World) (pr:Nat->Prop) (E:Env) (H:AHeap) (u:Option AV) (e:Ending) (m:FrameMode) (w:World):Prop:=
 ∃E' v,E.le E'/\e=.returned v/\ModeIn E' u m/\Rel B pr E' H w
theorem sq_ {call:CallF} (hcall:aq_ P call) (hdraw:∀N,gq_ P N call) {n:Nat} {f:FuncId} {args:List AV} {H H':AHeap} {u u':Option AV} (h:tN_ P call n f args H u=some (H',u'))
  {E:Env} {w:World} {vs:List Value} {m:FrameMode} (hg:GlOk E) (hr:Rel B pr E H w) (hc:ConL E args vs) (hm:ModeIn E u m):CallsD P f ⟨vs⟩ m w (vs_ B pr E H' u'):=by
 unfold tN_ at h;split at h
 .rename_i fn hf;split at h
  .rename_i c hb;split at h
   .rename_i hle;obtain ⟨h1,h2⟩:=aa_ hle;have h1:args.length<=fn.ntmps:=(by rw [aj_]at h1;simpa [Nat.ble_eq]using h1);have h2:fn.ntmps<=512:=(by simpa [Nat.ble_eq]using h2);refine callsD_of_wpS hf hb λc₀ cs hmode=>?_;have st:St P B pr fn.ntmps E (aY_ args 0 tnil) H [] { tmps:=(⟨vs⟩:Array Value)++Array.replicate (fn.ntmps-(⟨vs⟩:Array Value).size) undef,defers:=[] } w:=
     ⟨e6_ hg hc h1 h2,hr,rfl⟩
    have hc₀:c₀={ c₀ with mode:=m }:=(by rw [←hmode]);have run:∀r,bS_ P call fn.ntmps n c (aY_ args 0 tnil) H u=some r->c.wpS P (SOut P B pr fn.ntmps E c₀ cs r) { tmps:=(⟨vs⟩:Array Value)++Array.replicate (fn.ntmps-(⟨vs⟩:Array Value).size) undef,defers:=[] } (c₀::cs) w:=λr hr=>(by have:=qG_ hcall (hdraw _) n B pr c₀ cs c _ _ _ _ hr E _ w m st hm;rw [←hc₀]at this;exact this);split at h;rename_i T' H₂ u₂ hcode;split at h;rename_i l hl;cases h;refine Code.wpS_mono (λe a cs' w' hq=>?_) (run _ hcode);obtain ⟨E',m',h3,rfl,rfl,h4,h5⟩:=hq;obtain ⟨v,h6,h7⟩:=gk_ h5.r h5.t hl;exact ⟨h5.d,m',rfl,v,h6,E',v,h3,rfl,h4,h5.r⟩;cases h;rename_i T' H₂ u₂ hcode;split at h;rename_i l hl;cases h;refine Code.wpS_mono (λe a cs' w' hq=>?_) (run _ hcode);obtain ⟨E',m',h3,rfl,rfl,h4,h5⟩:=hq;obtain ⟨v,h6,h7⟩:=gk_ h5.r h5.t hl;exact ⟨h5.d,m',rfl,v,h6,E',v,h3,rfl,h4,h5.r⟩;cases h;cases h
   cases h
  cases h
 cases h
omit [Gl]in
theorem FPost.le {E':Env} (h:E.le E') {r:FRes} {e:Ending} {w:World} (hq:FPost B pr E' r e w):FPost B pr E r e w:=by obtain ⟨E'',h1,h2⟩:=hq;exact ⟨E'',Env.le_trans h h1,h2⟩
omit [Gl]in
theorem Leaves.mono {fn:Func} {tmps:Array Value} {R R':Ending->World->Prop} (hq:∀e w,R e w->R' e w):∀(ds:List Deferred) (u:FrameMode) (w:World),Leaves P fn tmps R ds u w->Leaves P fn tmps R' ds u w
 |[],.returning,w,h=>by obtain ⟨v,h1,h2⟩:=h;exact ⟨v,h1,hq _ _ h2⟩
 |[],.panicking ch,w,h=>hq _ _ h
 |[],.run,w,h=>h
 |d::ds,u,w,h=>by
  unfold Leaves at h⊢;obtain ⟨h1,fv,cap,f,args,h2,h3,h4⟩:=h;refine ⟨h1,fv,cap,f,args,h2,h3,λc cs hm=>?_⟩;obtain ⟨e,u',w',fr,h5,h6⟩:=h4 c cs hm;refine ⟨e,u',w',fr,?_,h6⟩;cases e with
  |returned v=>exact Leaves.mono hq ds _ _ h5
  |panicked ch=>exact Leaves.mono hq ds _ _ h5
  |outgrown=>exact hq _ _ h5
omit [Gl]in
theorem CallsD.mono {f:FuncId} {args:Array Value} {u:FrameMode} {R R':Ending->FrameMode->World->Prop} {w:World} (hq:∀e u w,R e u w->R' e u w) (h:CallsD P f args u w R):CallsD P f args u w R':=by intro c cs hm;obtain ⟨e,u',w',fr,h5,h6⟩:=h c cs hm;exact ⟨e,u',w',fr,hq _ _ _ h5,h6⟩
theorem c0_ {call:CallF} (hcall:aq_ P call) (hdraw:∀N,gq_ P N call) {n:Nat} {fn:Func} {T:Tm} {tmps:Array Value}:∀(D:Dfs) (H:AHeap) (u:Option AV) (r:FRes),
  db_ P call n fn.results.toList T D H u=some r->∀(E:Env) (w:World) (ds:List Deferred) (m:FrameMode),TRel E N T tmps->Rel B pr E H w->DRel P E D ds->ModeAt E u m->
  Leaves P fn tmps (FPost B pr E r) ds m w
 |[],H,u,r,h,E,w,ds,m,ht,hr,hd,hm=>by have hd:ds=[]:=hd;subst hd;unfold db_ at h;split at h;have hm:m=.returning:=hm;subst hm;split at h;rename_i l hl;cases h;obtain ⟨v,h1,h2⟩:=gk_ hr ht hl;exact ⟨v,h1,E,Env.le_refl _,v,rfl,h2,hr⟩;cases h;rename_i v;cases h;obtain ⟨v',rfl,h1⟩:=hm;exact ⟨E,Env.le_refl _,v',rfl,h1,hr⟩
 |(f,args)::D,H,u,r,h,E,w,ds,m,ht,hr,hd,hm=>by obtain ⟨vs,ds',rfl,h2,h3,h4⟩:=hd;unfold db_ at h;split at h;rename_i H' u' hdf;unfold Leaves;refine ⟨hm.ne_run,.func f,#[],f,⟨vs⟩,rfl,?_,CallsD.mono (λe m' w' hq=>?_) (sq_ hcall hdraw hdf ht.gl hr h2 hm.in)⟩;simp [invoke,d1_ h3];obtain ⟨E',v,h5,rfl,h6,h7⟩:=hq;exact Leaves.mono (λe w hq=>FPost.le h5 hq) _ _ _ (c0_ hcall hdraw D H' u' r h E' w' ds' _ (ht.mono h5) h7 (h4.mono h5) h6.settle);cases h
theorem lR_ {call:CallF} (hcall:aq_ P call) (hdraw:∀N,gq_ P N call) (n:Nat):aq_ P (if_ P call n):=by
 intro f args H r h B pr E w vs hg hr hc;unfold if_ at h;split at h
 .rename_i N c rs hcf;unfold qH_ at hcf;split at hcf
  .rename_i fn hf;split at hcf
   .rename_i code hb;split at hcf
    .rename_i h5;cases hcf;split at h
     .rename_i hle;have h5:fn.ntmps<=512:=(by simpa [Nat.ble_eq]using h5);have hle:args.length<=fn.ntmps:=(by rw [aj_]at hle;simpa [Nat.ble_eq]using hle);obtain ⟨r',hd,hw⟩:=d2_ hcall (hdraw _) n code _ _ _ _ _ _ h;refine calls_of_wp_defers hf hb (Code.wp_mono (λe a w' hq=>?_) (hw B pr E _ w ⟨e6_ hg hc hle h5,hr,rfl⟩));obtain ⟨E',h1,h2⟩:=hq;cases r' with
      |norm T H' D=>obtain ⟨rfl,st⟩:=h2;exact Leaves.mono (λe w hq=>FPost.le h1 hq) _ _ _ (c0_ hcall hdraw D H' none r hd E' w' a.defers .returning st.t st.r st.d rfl)
      |ret T H' D=>obtain ⟨rfl,st⟩:=h2;exact Leaves.mono (λe w hq=>FPost.le h1 hq) _ _ _ (c0_ hcall hdraw D H' none r hd E' w' a.defers .returning st.t st.r st.d rfl)
      |pan v T H' D=>obtain ⟨u,rfl,h3,st⟩:=h2;exact Leaves.mono (λe w hq=>FPost.le h1 hq) _ _ _ (c0_ hcall hdraw D H' (some v) r hd E' w' a.defers _ st.t st.r st.d ⟨u,rfl,h3⟩)
      |exit id T H' D=>cases hd
     cases h
    cases hcf
   cases hcf
  cases hcf
 cases h
end
end Go.Sx
namespace Go.Sx
theorem AHeap.ofFun (f:Nat->Option ABlk) (nx hi:Nat):∃H:AHeap,H.next=nx/\H.hi=hi/\∀id k,H.get id=some k↔id<top/\f id=some k:=by
 have key:∀n,n<=top->∃H:AHeap,H.next=nx/\H.hi=hi/\∀id k,H.get id=some k↔id<n/\f id=some k:=by
  intro n
  induction n with
  |zero=>intro _;refine ⟨⟨hnil,nx,hi⟩,rfl,rfl,λid k=>⟨λh=>?_,λh=>absurd h.1 (Nat.not_lt_zero _)⟩⟩;by_cases hid:id<top;rw [AHeap.get_of_lt hid,cZ_]at h;cases h;rw [AHeap.get_of_ge hid]at h;cases h
  |succ n ih=>
   intro hn;obtain ⟨H,h1,h2,h3⟩:=ih (by omega);cases hf:f n with
   |none=>refine ⟨H,h1,h2,λid k=>(h3 id k).trans ⟨λh=>⟨by omega,h.2⟩,λh=>⟨?_,h.2⟩⟩⟩;have:id≠n:=(by intro e;subst e;rw [hf]at h;cases h.2);omega
   |some b=>refine ⟨H.set n b,h1,h2,λid k=>?_⟩;by_cases e:n=id;subst e;rw [AHeap.get_set_same H (by omega),hf];exact ⟨λh=>⟨by omega,h⟩,λh=>h.2⟩;rw [AHeap.get_set_ne H (by omega) e];exact (h3 id k).trans ⟨λh=>⟨by omega,h.2⟩,λh=>⟨by omega,h.2⟩⟩
 exact key top (Nat.le_refl _)
def Env.withRes (E:Env) (r:Nat->Prop):Env:={ E with res:=r }
def Env.re (E:Env) (r:Nat->Prop) (m:Nat->Nat->Option Value) (d:Nat->Prop):Env:={ E with res:=r,bim:=m,vd:=d }
theorem Env.sub_re (E:Env) (r:Nat->Prop) (m:Nat->Nat->Option Value) (d:Nat->Prop):E.sub (E.re r m d):=⟨λ_ _ h=>h,λ_ _ h=>h,λ_ _ _ h=>h,rfl,rfl⟩
theorem Env.sub_withRes (E:Env) (r:Nat->Prop):E.sub (E.withRes r):=⟨λ_ _ h=>h,λ_ _ h=>h,λ_ _ _ h=>h,rfl,rfl⟩
theorem Rel.frame {B:World} {pr:Nat->Prop} {E:Env} {H:AHeap} {w:World} (h:Rel B pr E H w) {K:AHeap} (hK:∀id k,K.get id=some k->H.get id=some k)
  (res':Nat->Prop) (hvd:∀id,E.vd id->res' id) (hres:∀id,res' id->E.φ id=none) (hrng:∀id,K.next<=id->id<K.hi->E.φ id=none/\¬res' id):
  ∃pr':Nat->Prop,Rel w pr' (E.re res' E.imm λid=>E.vd id/\K.get id≠none) K w/\∀(E':Env) (K':AHeap) (w':World),(E.re res' E.imm λid=>E.vd id/\K.get id≠none).le E'->Rel w pr' E' K' w'->
   (∀id,res' id->E'.φ id=none)/\(∀id,K'.next<=id->id<K'.hi->E'.φ id=none)/\E.sub E'/\
   (∀id k,H.get id=some k->K.get id=none->K'.get id=none)/\
   ∀(nx hi:Nat) (res'':Nat->Prop),(∀id,nx<=id->id<hi->E'.φ id=none/\¬res'' id)->(∀id,res'' id->E'.φ id=none)->(∀id,E.vd id->res'' id)->
   ∃H':AHeap,H'.next=nx/\H'.hi=hi/\Rel B pr (E'.re res'' E.bim E.vd) H' w'/\(∀id k,K'.get id=some k->H'.get id=some k)/\
    (∀id k,H.get id=some k->K.get id=none->H'.get id=some k):=by
 obtain ⟨own,g1,g2,g3,g4⟩:∃own:Nat->Option Nat,(∀id k,H.get id=some k->RowAt E w own id k)/\
   (∀b,pr b->own b=none)/\(∀b o v,E.imm b o=some v->own b=none)/\∀b,¬b<w.heap.size->own b=none:=by
  obtain ⟨own,g1,g2,g3⟩:=h.own;refine ⟨λb=>if b<w.heap.size then own b else none,λid k hk=>?_,λb hb=>?_,λb o v hi=>?_,λb hb=>if_neg hb⟩;exact (g1 id k hk).imp (λ_ h=>h) (λh=>h) λb o h1 h2 h3=>⟨(if_pos h3.lt).trans h2,h3⟩;show (if b<w.heap.size then own b else none)=none;split;exact g2 b hb;rfl;show (if b<w.heap.size then own b else none)=none;split;exact g3 b o v hi;rfl
 refine ⟨λb=>b<w.heap.size/\¬∃id k,own b=some id/\K.get id=some k,?_,?_⟩
 .refine { own:=?_,imm:=h.imm,ib:=λ_ _ _ _ h=>h,fresh:=λid h1 h2=>(hrng id h1 h2).1,resv:=λid hi=>⟨hres id hi,λhx=>(hrng id hx.1 hx.2).2 hi⟩,vds:=λid h=>hvd id h.1,szs:=h.szs,
           prot:=λb hb=>⟨hb.1,rfl⟩,size:=Nat.le_refl _,os:=rfl,output:=rfl }
  refine ⟨λb=>match own b with
   |some id=>match K.get id with
    |some _=>some id
    |none=>none
   |none=>none,λid k hk=>?_,λb hb=>?_,λb o v hi=>?_⟩
  obtain ⟨hv,hv2⟩|⟨b,o,h1,h2,h3⟩:=g1 id k (hK id k hk);exact .inl ⟨⟨hv,by rw [hk];exact λh=>by cases h⟩,hv2⟩;refine .inr ⟨b,o,h1,?_,h3.sub (Env.sub_re E res' E.imm _) rfl⟩;simp only [h2,hk]
  .cases ho:own b with
   |none=>simp only [ho]
   |some id=>
    cases hk:K.get id with
    |none=>simp only [ho,hk]
    |some k=>exact absurd ⟨id,k,ho,hk⟩ hb.2
  have:own b=none:=g3 b o v hi;simp only [this]
 .intro E' K' w' hle hr';obtain ⟨own',q1,q2,q3⟩:=hr'.own;have hsub:E.sub E':=⟨λi x hx=>hle.1.1 i x hx,λb n hx=>hle.1.2.1 b n hx,hle.1.2.2⟩;have hresE:E'.res=res':=hle.2.1;have hbimE:E'.bim=E.imm:=hle.2.2.1;have hvdE:∀id,E'.vd id->E.vd id/\K.get id≠none:=λid hx=>(by rw [hle.2.2.2]at hx;exact hx);have hr1:∀id,res' id->E'.φ id=none:=λid hi=>(hr'.resv id (by rw [hresE];exact hi)).1;have hstay:∀id k,H.get id=some k->K.get id=none->((E.vd id/\Void E k)\/∃b o,E.φ id=some (b,o)/\own b=some id/\BlkAt E w b o k/\own' b=none/\w'.heap[b]? =w.heap[b]?)/\K'.get id=none:=by
   intro id k hk hn;obtain hvoid|⟨b,o,h1,h2,h3⟩:=g1 id k hk
   .refine ⟨.inl hvoid,?_⟩;cases hk':K'.get id with
    |none=>rfl
    |some k'=>obtain ⟨hv',_⟩|⟨b',o',e1,_⟩:=q1 id k' hk';exact absurd hn (hvdE id hv').2;rw [hr1 id (hvd id hvoid.1)]at e1;cases e1
   have hpr:b<w.heap.size/\¬∃id k,own b=some id/\K.get id=some k:=(by refine ⟨h3.lt,λhx=>?_⟩;obtain ⟨id2,k2,e1,e2⟩:=hx;rw [h2]at e1;cases e1;rw [hn]at e2;cases e2);have ho':=q2 b hpr;refine ⟨.inr ⟨b,o,h1,h2,h3,ho',(hr'.prot b hpr).2⟩,?_⟩;cases hk':K'.get id with
   |none=>rfl
   |some k'=>obtain ⟨hv',_⟩|⟨b',o',e1,e2,_⟩:=q1 id k' hk';exact absurd hn (hvdE id hv').2;rw [hsub.1 _ _ h1]at e1;cases e1;rw [ho']at e2;cases e2
  refine ⟨hr1,hr'.fresh,hsub,λid k h1 h2=>(hstay id k h1 h2).2,?_⟩;intro nx hi res'' hrng' hres'' hvd'';obtain ⟨H',e1,e2,e3⟩:=AHeap.ofFun (λid=>match K'.get id with
   |some k=>some k
   |none=>match K.get id with
    |some _=>none
    |none=>H.get id) nx hi
  have ce_:∀id k,H'.get id=some k->K'.get id=some k\/(H.get id=some k/\K.get id=none):=by
   intro id k hk;have:=((e3 id k).1 hk).2;cases hk':K'.get id with
   |some k'=>simp only [hk']at this;exact .inl this
   |none=>
    simp only [hk']at this;cases hk2:K.get id with
    |some k2=>simp only [hk2]at this;cases this
    |none=>simp only [hk2]at this;exact .inr ⟨this,rfl⟩
  refine ⟨H',e1,e2,?_,λid k hk=>(e3 id k).2 ⟨AHeap.get_lt hk,by simp only [hk]⟩,λid k hk hn=>?_⟩
  .have hs2:=Env.sub_re E' res'' E.bim E.vd;have hprpr:∀b,pr b->b<w.heap.size/\¬∃id k,own b=some id/\K.get id=some k:=λb hb=>(by refine ⟨Nat.lt_of_lt_of_le (h.prot b hb).1 h.size,λhx=>?_⟩;obtain ⟨id2,k2,f1,f2⟩:=hx;rw [g2 b hb]at f1;cases f1);have himm:∀b o v,(b<w.heap.size/\¬∃id k,own b=some id/\K.get id=some k)->E'.imm b o=some v->E.imm b o=some v:=λb o v hb hv=>(by rw [←hbimE];exact hr'.ib b o v hb hv)
   refine { own:=?_,imm:=hr'.imm,ib:=λb o v hb hv=>h.ib b o v hb (himm b o v (hprpr b hb) hv),fresh:=λid h1 h2=>(hrng' id (e1▸h1) (e2▸h2)).1,
            resv:=λid hi=>⟨hres'' id hi,λhx=>(hrng' id (e1▸hx.1) (e2▸hx.2)).2 hi⟩,vds:=hvd'',szs:=hr'.szs,prot:=λb hb=>?_,size:=Nat.le_trans h.size hr'.size,os:=hr'.os.trans h.os,output:=hr'.output.trans h.output }
   .refine ⟨λb=>match own' b with
      |some id=>some id
      |none=>match own b with
       |some id=>match K.get id with
        |some _=>none
        |none=>some id
       |none=>none,λid k hk=>?_,λb hb=>?_,λb o v hi=>?_⟩
    rcases ce_ id k hk with hk|⟨hk,hn⟩;obtain ⟨hv',hv2⟩|⟨b,o,f1,f2,f3⟩:=q1 id k hk;exact .inl ⟨(hvdE id hv').1,hv2⟩;exact .inr ⟨b,o,f1,by simp only [f2],f3.sub hs2 rfl⟩;obtain ⟨hv1,hv2⟩|⟨b,o,f1,f2,f3,f4,f5⟩:=(hstay id k hk hn).1;exact .inl ⟨hv1,hv2.sub λi hi=>by show E'.sy i=_;rw [hsub.2.2.2.1];exact hi⟩;exact .inr ⟨b,o,hsub.1 _ _ f1,by simp only [f4,f2,hn],BlkAt.sub (Env.sub_trans hsub hs2) f5 f3⟩;have hpr:b<w.heap.size/\¬∃id k,own b=some id/\K.get id=some k:=(by refine ⟨Nat.lt_of_lt_of_le (h.prot b hb).1 h.size,λhx=>?_⟩;obtain ⟨id2,k2,f1,f2⟩:=hx;rw [g2 b hb]at f1;cases f1);simp only [q2 b hpr,g2 b hb]
    .have hi1:E'.imm b o=some v:=hi;have ho':=q3 b o v hi1;simp only [ho'];cases ho:own b with
     |none=>rfl
     |some id=>
      cases hk:K.get id with
      |some k=>simp only [hk]
      |none=>by_cases hlt:b<w.heap.size;have hpr:b<w.heap.size/\¬∃id k,own b=some id/\K.get id=some k:=⟨hlt,λhx=>by obtain ⟨id2,k2,f1,f2⟩:=hx;rw [ho]at f1;cases f1;rw [hk]at f2;cases f2⟩;have:=g3 b o v (himm b o v hpr hi1);rw [ho]at this;cases this;rw [g4 b hlt]at ho;cases ho
   have hpr:b<w.heap.size/\¬∃id k,own b=some id/\K.get id=some k:=(by refine ⟨Nat.lt_of_lt_of_le (h.prot b hb).1 h.size,λhx=>?_⟩;obtain ⟨id2,k2,f1,f2⟩:=hx;rw [g2 b hb]at f1;cases f1);exact ⟨(h.prot b hb).1,(hr'.prot b hpr).2.trans (h.prot b hb).2⟩
  have e:=(hstay id k hk hn).2;exact (e3 id k).2 ⟨AHeap.get_lt hk,by simp only [e,hn,hk]⟩
end Go.Sx
