/-
  The evaluator of code: results, deferred calls, calls.
-/
import Derived.Test.YtjconanknjgpnaaGreatSxL
import Derived.Recover
set_option linter.unusedVariables false
set_option linter.unusedSimpArgs false
namespace Go.Sx
variable [Gl]
omit [Gl]in
theorem bk_ {P:Program} {ops:Array Oper} {Q Q':Exit->Act->List Frame->World->Prop} (hq:∀e a cs w,Q e a cs w->Q' e a cs w):
  ∀(l:List Nat) (a:Act) (cs:List Frame) (w:World),wpOpsS P ops Q l a cs w->wpOpsS P ops Q' l a cs w
 |[],a,cs,w,h=>hq _ _ _ _ h
 |i::r,a,cs,w,h=>by
  unfold wpOpsS at h⊢
  cases ho:ops[i]? with
  |none=>simp only [ho]at h⊢;exact bk_ hq r _ _ _ h
  |some o=>
   simp only [ho]at h⊢
   split
   .rename_i hw
    rw [if_pos hw]at h
    generalize (execOp a.eval o).run P w=x at*
    cases x with
    |ok n w'=>
     cases n<;>simp only [Oper.upon]at h⊢<;>
      first
       |exact bk_ hq r _ _ _ h
       |exact Calls.mono h (λe w'' he=>by cases e<;>first|exact bk_ hq r _ _ _ he|exact hq _ _ _ _ he|exact he.imp λ_ hx=>hx.imp λ_ hy=>hq _ _ _ _ hy)
       |exact Rows.mono h (λ_ _ he=>bk_ hq r _ _ _ he)
       |skip
     split at h<;>exact bk_ hq r _ _ _ h
    |halt x w'=>cases x<;>simp only [Oper.upon]at h⊢<;>first|exact h|exact hq _ _ _ _ h
   .rename_i hw
    rw [if_neg hw]at h
    exact bk_ hq r _ _ _ h
section
variable {P:Program} {B:World} {pr:Nat->Prop} {N:Nat} {E:Env} {H:AHeap} {w:World}
omit [Gl]in
theorem nO_ (hr:Rel B pr E H w) {t:TypeId} {a:AV} {v:Value} (hc:Con E a v) {r:AV} (h:bl_ P H t a=some r):
  ∃u,(asAddr v >>= λx=>loadVar t x).run P w=.ok u w/\Con E r u:=by
 unfold bl_ at h
 split at h
 .cases h
 rename_i d hd
 split at h
 .rename_i hag
  split at h
  .cases h
  rename_i i hi
  split at h
  .rename_i l hl
   cases h
   obtain ⟨b,o,vs,rfl,hlen,hL,hcell⟩:=bv_ hr hc hl
   refine ⟨.agg ⟨vs⟩,?_,by simp only [Con];exact ⟨vs,rfl,hL⟩⟩
   have:=bF_ (P:=P) hcell
   rw [hlen]at this
   simp [asAddr,loadVar,bN_ hd,hag,aj_ hi,this]
  .cases h
 .rename_i hag
  split at h
  .rename_i c hl
   cases h
   obtain ⟨b,o,vs,rfl,hlen,hL,hcell⟩:=bv_ hr hc hl
   obtain ⟨u,hu,hcu⟩:=hL.at 0 r rfl
   refine ⟨u,?_,hcu⟩
   have:=hcell 0 u hu
   simp only [Nat.add_zero]at this
   simp [asAddr,loadVar,bN_ hd,hag,this]
  .cases h
def jh_ (tmps:Array Value) (x:ResultVar):Sem Value:=match x with
 | .tmp t=>pure (tmps.getD t undef)
 | .cell a t=>do loadVar t (←asAddr (tmps.getD a undef))
theorem fQ_ {T:Tm} {tmps:Array Value} (hr:Rel B pr E H w) (ht:TRel E N T tmps):∀(rs:List ResultVar) (l:List AV),ep_ P T H rs=some l->
  ∃vs,(rs.mapM (jh_ tmps)).run P w=.ok vs w/\ConL E l vs
 |[],l,h=>by
  unfold ep_ at h
  cases h
  exact ⟨[],by simp,ConL.nil E⟩
 | .tmp t::rs,l,h=>by
   unfold ep_ at h
   split at h
   .rename_i hb
    split at h
    .rename_i l' hl
     cases h
     obtain ⟨vs,h1,h2⟩:=fQ_ hr ht rs l' hl
     refine ⟨tmps.getD t undef::vs,?_,?_⟩
     .simp [List.mapM_cons,jh_,h1]
     .exact ConL.cons (ht.con t (by simpa [Nat.blt_eq]using hb)) h2
    .cases h
   .cases h
 | .cell a t::rs,l,h=>by
   unfold ep_ at h
   split at h
   .rename_i hb
    split at h
    .rename_i v hv
     split at h
     .rename_i l' hl
      cases h
      obtain ⟨vs,h1,h2⟩:=fQ_ hr ht rs l' hl
      obtain ⟨u,h3,h4⟩:=nO_ hr (ht.con a (by simpa [Nat.blt_eq]using hb)) hv
      refine ⟨u::vs,?_,ConL.cons h4 h2⟩
      have h3:(jh_ tmps (.cell a t)).run P w=.ok u w:=h3
      simp only [List.mapM_cons,Sem.run_bind,h3,Result.andThen_ok,h1]
      simp
     .cases h
    .cases h
   .cases h
theorem gp_ {fn:Func} {T:Tm} {tmps:Array Value} (hr:Rel B pr E H w) (ht:TRel E N T tmps) {l:List AV} (h:ep_ P T H fn.results.toList=some l):
  ∃v,(results fn tmps).run P w=.ok v w/\Con E (u3_ l) v:=by
 obtain ⟨vs,h1,h2⟩:=fQ_ (P:=P) hr ht _ _ h
 have h3:(fn.results.mapM (jh_ tmps)).run P w=.ok ⟨vs⟩ w:=by
  rw [Array.mapM_eq_mapM_toList]
  simp [h1]
 match l,vs,h2,h3 with
 |[],vs,h2,h3=>
  have:vs=[]:=by simpa [ConL]using h2
  subst this
  refine ⟨.tuple #[],?_,?_⟩
  .show (fn.results.mapM (jh_ tmps) >>= λvs=>pure (if h:vs.size=1 then vs[0]else Value.tuple vs)).run P w=_
   simp [h3]
  .show Con E (.tup []) _
   simp only [Con];exact ⟨[],rfl,ConL.nil E⟩
 |[a],vs,h2,h3=>
  obtain ⟨v,r,rfl,h4,h5⟩:=(by simpa only [ConL]using h2:∃v r,vs=v::r/\Con E a v/\r=[])
  subst h5
  refine ⟨v,?_,h4⟩
  show (fn.results.mapM (jh_ tmps) >>= λvs=>pure (if h:vs.size=1 then vs[0]else Value.tuple vs)).run P w=_
  simp [h3]
 |a::b::r,vs,h2,h3=>
  obtain ⟨v,s,rfl,h4,h5⟩:=(by simpa only [ConL]using h2:∃v s,vs=v::s/\Con E a v/\∃v' r',s=v'::r'/\Con E b v'/\ConL E r r')
  obtain ⟨v',r',rfl,h6,h7⟩:=h5
  refine ⟨.tuple ⟨v::v'::r'⟩,?_,?_⟩
  .show (fn.results.mapM (jh_ tmps) >>= λvs=>pure (if h:vs.size=1 then vs[0]else Value.tuple vs)).run P w=_
   simp [h3]
  .show Con E (.tup (a::b::r)) _
   simp only [Con];exact ⟨_,rfl,h2⟩
omit [Gl]in
theorem hN_:∀(args:List AV) (i:Nat) (T:Tm),i+args.length<=512->∀t,t<512->
  tget (aU_ args i T) t=if i<=t then (match args[t-i]? with|some a=>a|none=>tget T t)else tget T t
 |[],i,T,hl,t,ht=>by simp [aU_]
 |a::r,i,T,hl,t,ht=>by
  simp only [List.length_cons]at hl
  unfold aU_
  rw [hN_ r (Nat.succ i) (dq_ T i a) (by omega) t ht]
  by_cases h1:t=i
  .subst h1
   rw [if_neg (by omega),if_pos (Nat.le_refl _)]
   simp [an_ T ht a]
  .rw [ar_ T ht (by omega) (λe=>h1 e.symm)]
   by_cases h2:i<=t
   .rw [if_pos h2,if_pos (by omega)]
    have:t-i=(t-Nat.succ i)+1:=by omega
    rw [this,List.getElem?_cons_succ]
   .rw [if_neg h2,if_neg (by omega)]
theorem e8_ {args:List AV} {vs:List Value} (hg:GlOk E) (hc:ConL E args vs) (hN:args.length<=N) (h5:N<=512):
  TRel E N (aU_ args 0 tnil) ((⟨vs⟩:Array Value)++Array.replicate (N-(⟨vs⟩:Array Value).size) undef):=by
 have hlen:=hc.length
 refine ⟨by simp [hlen];omega,h5,λt ht=>?_,hg⟩
 rw [hN_ args 0 tnil (by omega) t ht]
 simp only [Nat.zero_le,if_true,Nat.sub_zero,qs_]
 rcases Nat.lt_or_ge t args.length with hlt|hge
 .obtain ⟨v,h1,h2⟩:=hc.at t args[t] (by simp [hlt])
  rw [List.getElem?_eq_getElem hlt]
  have:((⟨vs⟩:Array Value)++Array.replicate (N-(⟨vs⟩:Array Value).size) undef).getD t undef=v:=by
   rw [Array.getD_eq_getD_getElem?,Array.getElem?_append]
   have:t<vs.length:=by omega
   simp only [List.size_toArray,this,if_true]
   simp [h1]
  rw [this];exact h2
 .rw [List.getElem?_eq_none hge]
  have:((⟨vs⟩:Array Value)++Array.replicate (N-(⟨vs⟩:Array Value).size) undef).getD t undef=undef:=by
   rw [Array.getD_eq_getD_getElem?,Array.getElem?_append]
   have:¬t<vs.length:=by omega
   simp only [List.size_toArray,this,if_false]
   rw [Array.getElem?_replicate]
   split<;>rfl
  rw [this];exact bd_ E
def ModeIn (E:Env) (u:Option AV) (m:FrameMode):Prop:=match u with
 |none=>m=.returning\/∃v,m=.panicking [{ v:=v,recovered:=true }]
 |some a=>∃v,m=.panicking [{ v:=v,recovered:=false }]/\Con E a v
def ModeAt (E:Env) (u:Option AV) (m:FrameMode):Prop:=match u with
 |none=>m=.returning
 |some a=>∃v,m=.panicking [{ v:=v,recovered:=false }]/\Con E a v
omit [Gl]in
theorem ModeIn.mono {E E':Env} (h:E.le E') {u:Option AV} {m:FrameMode} (hm:ModeIn E u m):ModeIn E' u m:=by
 cases u with
 |none=>exact hm
 |some a=>obtain ⟨v,h1,h2⟩:=hm;exact ⟨v,h1,h2.mono h⟩
omit [Gl]in
theorem ModeAt.mono {E E':Env} (h:E.le E') {u:Option AV} {m:FrameMode} (hm:ModeAt E u m):ModeAt E' u m:=by
 cases u with
 |none=>exact hm
 |some a=>obtain ⟨v,h1,h2⟩:=hm;exact ⟨v,h1,h2.mono h⟩
omit [Gl]in
theorem ModeAt.in {E:Env} {u:Option AV} {m:FrameMode} (hm:ModeAt E u m):ModeIn E u m:=by
 cases u with
 |none=>exact .inl hm
 |some a=>exact hm
omit [Gl]in
theorem ModeAt.ne_run {E:Env} {u:Option AV} {m:FrameMode} (hm:ModeAt E u m):m≠ .run:=by
 cases u with
 |none=>rw [show m=.returning from hm];exact λe=>by cases e
 |some a=>obtain ⟨v,rfl,_⟩:=hm;exact λe=>by cases e
omit [Gl]in
theorem ModeIn.settle {E:Env} {u:Option AV} {m:FrameMode} (hm:ModeIn E u m):ModeAt E u (Go.settle m):=by
 cases u with
 |none=>
  rcases hm with rfl|⟨v,rfl⟩
  .rfl
  .rfl
 |some a=>obtain ⟨v,rfl,h⟩:=hm;exact ⟨v,rfl,h⟩
def SOut (P:Program) (B:World) (pr:Nat->Prop) (N:Nat) (E:Env) (c₀:Frame) (cs:List Frame) (r:SRes) (e:Exit) (a:Act) (cs':List Frame) (w:World):Prop:=
 ∃E' m,E.le E'/\cs'={ c₀ with mode:=m }::cs/\match r with
  | .norm T H u=>e=.normal/\ModeIn E' u m/\St P B pr N E' T H [] a w
  | .ret T H u=>e=.ret/\ModeIn E' u m/\St P B pr N E' T H [] a w
theorem SOut.le {E':Env} (h:E.le E') {c₀:Frame} {cs cs':List Frame} {r:SRes} {e:Exit} {a:Act} {w:World} (hq:SOut P B pr N E' c₀ cs r e a cs' w):SOut P B pr N E c₀ cs r e a cs' w:=by
 obtain ⟨E'',m,h1,h2⟩:=hq
 exact ⟨E'',m,Env.le_trans h h1,h2⟩
omit [Gl]in
theorem Act.put_defers' (a:Act) (d:Option Tmp) (v:Value):(a.put d v).defers=a.defers:=by unfold Act.put;split<;>rfl
theorem St.putV {T:Tm} {H H':AHeap} {D:Dfs} {a:Act} {w w':World} (st:St P B pr N E T H D a w) {E':Env} (hle:E.le E') (hr:Rel B pr E' H' w') {dst:Option Nat} {p:Tm->AV->Tm}
  (hp:b8_ N dst=.mk p) {x:AV} {v:Value} (hc:Con E' x v):St P B pr N E' (p T x) H' D (a.put dst v) w':=
 ⟨(st.t.mono hle).put hp hc,hr,by rw [Act.put_defers'];exact st.d.mono hle⟩
theorem lv_ {call:CallF} (hcall:as_ P call) (ops:Array Oper) (c₀:Frame) (cs:List Frame):∀(l:List Oper) (k:Nat),(∀j,l[j]? =ops[k+j]?)->∀(T:Tm) (H:AHeap) (u:Option AV) (r:SRes),
  jL_ P call N ops.toList l T H u=some r->∀(E:Env) (a:Act) (w:World) (m:FrameMode),St P B pr N E T H [] a w->ModeIn E u m->
  wpOpsS P ops (SOut P B pr N E c₀ cs r) (List.range' k l.length) a ({ c₀ with mode:=m }::cs) w
 |[],k,hl,T,H,u,r,h,E,a,w,m,st,hm=>by
  unfold jL_ at h
  cases h
  exact ⟨E,m,Env.le_refl _,rfl,rfl,hm,st⟩
 |o::l,k,hl,T,H,u,r,h,E,a,w,m,st,hm=>by
  have h0:ops[k]? =some o:=by simpa using (hl 0).symm
  have hl':∀j,l[j]? =ops[k+1+j]? :=λj=>by have:=hl (j+1);simpa [Nat.add_assoc,Nat.add_comm 1 j]using this
  have ih:=lv_ hcall ops c₀ cs l (k+1) hl'
  unfold jL_ at h
  split at h
  .cases h
  .rename_i p hp
   rw [List.length_cons,List.range'_succ]
   unfold wpOpsS
   simp only [h0]
   have key:∀(g:Option Bool),(match a2_ ops.toList o with| .always=>some true| .mk g=>g T)=g->∀t,g=some t->Region.wanted o (yielded ops a.tmps)=t:=λg hg t ht=>by
    subst ht
    split at hg
    .rename_i hga;cases hg;exact cW_ hga a.tmps
    .rename_i g' hga;exact eJ_ st.t hga hg
   split at h
   .cases h
   .rename_i hg
    rw [key _ hg false rfl]
    simp only [Bool.false_eq_true,if_false]
    exact ih _ _ _ _ h E _ w m (st.putV (Env.le_refl _) st.r hp (bd_ E)) hm
   .rename_i hg
    rw [key _ hg true rfl]
    simp only [if_true]
    split at h
    .cases h
    .rename_i x H' hrun
     obtain ⟨E',n,v,w',h1,h2,h3,h4,h5⟩:=ax_ hrun st.r st.t
     have fin:=bk_ (λe a cs' w hq=>SOut.le h3 hq) _ _ _ _ (ih _ _ _ _ h E' _ w' m (st.putV h3 h4 hp h5) (hm.mono h3))
     rw [h1]
     rcases h2 with rfl|⟨rfl,rfl⟩
     .exact fin
     .exact fin
    .rename_i f args hrun
     split at h
     .rename_i x H' hc
      obtain ⟨vs,h1,h2⟩:=ax_ hrun st.r st.t
      rw [h1]
      refine Calls.mono (hcall f args H _ hc B pr E w vs st.t.gl st.r h2) λe w' he=>?_
      obtain ⟨E',h3,v,rfl,h4,h5⟩:=he
      exact bk_ (λe a cs' w hq=>SOut.le h3 hq) _ _ _ _ (ih _ _ _ _ h E' _ w' m (st.putV h3 h5 hp h4) (hm.mono h3))
     .cases h
    .rename_i hrun
     have h1:=ax_ hrun st.r st.t
     have h1:(execOp a.eval o).run P w=.ok .recover w:=h1
     rw [h1]
     simp only
     split at h
     .rename_i v
      obtain ⟨v',rfl,hcv⟩:=hm
      simp only [recoverD]
      exact ih _ _ _ _ h E _ w _ (st.putV (Env.le_refl _) st.r hp hcv) (.inr ⟨v',rfl⟩)
     .have hrec:recoverD ({ c₀ with mode:=m }::cs)=none:=by
        rcases hm with rfl|⟨v,rfl⟩<;>simp [recoverD]
      rw [hrec]
      exact ih _ _ _ _ h E _ w m (st.putV (Env.le_refl _) st.r hp (by simp [Con])) hm
    .cases h
omit [Gl]in
theorem Code.wpS_mono {c:Code} {Q Q':Exit->Act->List Frame->World->Prop} (hq:∀e a cs w,Q e a cs w->Q' e a cs w) {a:Act} {cs:List Frame} {w:World} (h:c.wpS P Q a cs w):c.wpS P Q' a cs w:=
 λb k hb hr=>let ⟨e,a',cs',w',q,arr⟩:=h b k hb hr;⟨e,a',cs',w',hq _ _ _ _ q,arr⟩
omit [Gl]in
theorem er_ {id:Nat} {c:Code} {Q:Exit->Act->List Frame->World->Prop} {a:Act} {cs:List Frame} {w:World} (h:c.wpS P Q a cs w) (hQ:∀e a cs w,Q e a cs w->e=.normal\/e=.ret):(Code.block id c).wpS P Q a cs w:=by
 intro b k hb hr
 obtain ⟨e,a₁,cs₁,w₁,hq,harr⟩:=h b (.inBlock id::k) hb hr
 rcases hQ _ _ _ _ hq with rfl|rfl
 .exact ⟨.normal,a₁,cs₁,w₁,hq,.head step_block (Steps.trans harr (.one step_inBlock))⟩
 .exact ⟨_,a₁,cs₁,w₁,hq,.of_steps (.one step_block) harr⟩
theorem qQ_ {call:CallF} (hcall:as_ P call) (hdraw:gw_ P N call) (n:Nat) (B:World) (pr:Nat->Prop) (c₀:Frame) (cs:List Frame):∀(c:Code) (T:Tm) (H:AHeap) (u:Option AV) (r:SRes),
  bW_ P call N n c T H u=some r->∀(E:Env) (a:Act) (w:World) (m:FrameMode),St P B pr N E T H [] a w->ModeIn E u m->
  c.wpS P (SOut P B pr N E c₀ cs r) a ({ c₀ with mode:=m }::cs) w:=by
 intro c
 induction c with
 |skip=>
  intro T H u r h E a w m st hm
  unfold bW_ at h;cases h
  exact wpS_of_wp (wp_skip ⟨E,m,Env.le_refl _,rfl,rfl,hm,st⟩)
 |ret=>
  intro T H u r h E a w m st hm
  unfold bW_ at h;cases h
  exact wpS_of_wp (wp_ret ⟨E,m,Env.le_refl _,rfl,rfl,hm,st⟩)
 |region id ops draw=>
  intro T H u r h E a w m st hm
  unfold bW_ at h
  split at h
  .refine wpS_region ?_
   have:=lv_ hcall ops c₀ cs ops.toList 0 (by simp) T H u r h E a w m st hm
   rw [List.range_eq_range']
   simpa using this
  .split at h
   .rename_i T' H' hd
    cases h
    refine wpS_of_wp (Code.wp_mono (λe a w hq=>?_) (hdraw id ops T H [] _ hd B pr E a w st))
    obtain ⟨E',h1,rfl,h2⟩:=hq
    exact ⟨E',m,h1,rfl,rfl,hm.mono h1,h2⟩
   .cases h
 |seq x y ihx ihy=>
  intro T H u r h E a w m st hm
  unfold bW_ at h
  split at h
  .rename_i T' H' u' hx
   refine wpS_seq (Code.wpS_mono (λe a cs' w hq=>?_) (ihx T H u _ hx E a w m st hm))
   obtain ⟨E',m',h1,rfl,rfl,h3,h4⟩:=hq
   exact Code.wpS_mono (λe a cs w hq=>SOut.le h1 hq) (ihy T' H' u' r h E' a w m' h4 h3)
  .rename_i hne
   refine wpS_seq (Code.wpS_mono (λe a cs' w hq=>?_) (ihx T H u r h E a w m st hm))
   obtain ⟨E',m',h1,h2,h3⟩:=hq
   cases r with
   |norm T' H' u'=>exact absurd h (hne T' H' u')
   |ret T' H' u'=>
    obtain ⟨rfl,h4⟩:=h3
    exact ⟨E',m',h1,h2,rfl,h4⟩
 |cond c x y ihx ihy=>
  intro T H u r h E a w m st hm
  unfold bW_ at h
  have hl:=st.t.look c
  split at h
  .rename_i hv
   rw [hv]at hl
   exact wpS_cond (t:=true) (by simpa [Con]using hl) (ihx T H u r h E a w m st hm)
  .rename_i hv
   rw [hv]at hl
   exact wpS_cond (t:=false) (by simpa [Con]using hl) (ihy T H u r h E a w m st hm)
  .cases h
 |block id b ih=>
  intro T H u r h E a w m st hm
  unfold bW_ at h
  refine er_ (ih T H u r h E a w m st hm) λe a cs' w hq=>?_
  obtain ⟨E',m',_,_,h3⟩:=hq
  cases r with
  |norm T' H' u'=>exact .inl h3.1
  |ret T' H' u'=>exact .inr h3.1
 |loop _ _=>intro T H u r h;unfold bW_ at h;cases h
 |exit _=>intro T H u r h;unfold bW_ at h;cases h
 |label _=>intro T H u r h;unfold bW_ at h;cases h
 |scope _ _=>intro T H u r h;unfold bW_ at h;cases h
 |goto _=>intro T H u r h;unfold bW_ at h;cases h
 |rangeFunc _ _ _ _ _ _=>intro T H u r h;unfold bW_ at h;cases h
 |refuse _=>intro T H u r h;unfold bW_ at h;cases h
def vu_ (B:World) (pr:Nat->Prop) (E:Env) (H:AHeap) (u:Option AV) (e:Ending) (m:FrameMode) (w:World):Prop:=
 ∃E' v,E.le E'/\e=.returned v/\ModeIn E' u m/\Rel B pr E' H w
theorem sv_ {call:CallF} (hcall:as_ P call) (hdraw:∀N,gw_ P N call) {n:Nat} {f:FuncId} {args:List AV} {H H':AHeap} {u u':Option AV} (h:tR_ P call n f args H u=some (H',u'))
  {E:Env} {w:World} {vs:List Value} {m:FrameMode} (hg:GlOk E) (hr:Rel B pr E H w) (hc:ConL E args vs) (hm:ModeIn E u m):CallsD P f ⟨vs⟩ m w (vu_ B pr E H' u'):=by
 unfold tR_ at h
 split at h
 .rename_i fn hf
  split at h
  .rename_i c hb
   split at h
   .rename_i hle
    obtain ⟨h1,h2⟩:=aa_ hle
    have h1:args.length<=fn.ntmps:=by rw [ah_]at h1;simpa [Nat.ble_eq]using h1
    have h2:fn.ntmps<=512:=by simpa [Nat.ble_eq]using h2
    refine callsD_of_wpS hf hb λc₀ cs hmode=>?_
    have st:St P B pr fn.ntmps E (aU_ args 0 tnil) H [] { tmps:=(⟨vs⟩:Array Value)++Array.replicate (fn.ntmps-(⟨vs⟩:Array Value).size) undef,defers:=[] } w:=
     ⟨e8_ hg hc h1 h2,hr,rfl⟩
    have hc₀:c₀={ c₀ with mode:=m }:=by rw [←hmode]
    have run:∀r,bW_ P call fn.ntmps n c (aU_ args 0 tnil) H u=some r->c.wpS P (SOut P B pr fn.ntmps E c₀ cs r) { tmps:=(⟨vs⟩:Array Value)++Array.replicate (fn.ntmps-(⟨vs⟩:Array Value).size) undef,defers:=[] } (c₀::cs) w:=λr hr=>by
     have:=qQ_ hcall (hdraw _) n B pr c₀ cs c _ _ _ _ hr E _ w m st hm
     rw [←hc₀]at this
     exact this
    split at h
    .rename_i T' H₂ u₂ hcode
     split at h
     .rename_i l hl
      cases h
      refine Code.wpS_mono (λe a cs' w' hq=>?_) (run _ hcode)
      obtain ⟨E',m',h3,rfl,rfl,h4,h5⟩:=hq
      obtain ⟨v,h6,h7⟩:=gp_ h5.r h5.t hl
      exact ⟨h5.d,m',rfl,v,h6,E',v,h3,rfl,h4,h5.r⟩
     .cases h
    .rename_i T' H₂ u₂ hcode
     split at h
     .rename_i l hl
      cases h
      refine Code.wpS_mono (λe a cs' w' hq=>?_) (run _ hcode)
      obtain ⟨E',m',h3,rfl,rfl,h4,h5⟩:=hq
      obtain ⟨v,h6,h7⟩:=gp_ h5.r h5.t hl
      exact ⟨h5.d,m',rfl,v,h6,E',v,h3,rfl,h4,h5.r⟩
     .cases h
    .cases h
   .cases h
  .cases h
 .cases h
omit [Gl]in
theorem FPost.le {E':Env} (h:E.le E') {r:FRes} {e:Ending} {w:World} (hq:FPost B pr E' r e w):FPost B pr E r e w:=by
 obtain ⟨E'',h1,h2⟩:=hq
 exact ⟨E'',Env.le_trans h h1,h2⟩
omit [Gl]in
theorem Leaves.mono {fn:Func} {tmps:Array Value} {R R':Ending->World->Prop} (hq:∀e w,R e w->R' e w):∀(ds:List Deferred) (u:FrameMode) (w:World),Leaves P fn tmps R ds u w->Leaves P fn tmps R' ds u w
 |[],.returning,w,h=>by obtain ⟨v,h1,h2⟩:=h;exact ⟨v,h1,hq _ _ h2⟩
 |[],.panicking ch,w,h=>hq _ _ h
 |[],.run,w,h=>h
 |d::ds,u,w,h=>by
  unfold Leaves at h⊢
  obtain ⟨h1,fv,cap,f,args,h2,h3,h4⟩:=h
  refine ⟨h1,fv,cap,f,args,h2,h3,λc cs hm=>?_⟩
  obtain ⟨e,u',w',fr,h5,h6⟩:=h4 c cs hm
  refine ⟨e,u',w',fr,?_,h6⟩
  cases e with
  |returned v=>exact Leaves.mono hq ds _ _ h5
  |panicked ch=>exact Leaves.mono hq ds _ _ h5
  |outgrown=>exact hq _ _ h5
omit [Gl]in
theorem CallsD.mono {f:FuncId} {args:Array Value} {u:FrameMode} {R R':Ending->FrameMode->World->Prop} {w:World} (hq:∀e u w,R e u w->R' e u w) (h:CallsD P f args u w R):CallsD P f args u w R':=by
 intro c cs hm
 obtain ⟨e,u',w',fr,h5,h6⟩:=h c cs hm
 exact ⟨e,u',w',fr,hq _ _ _ h5,h6⟩
theorem c6_ {call:CallF} (hcall:as_ P call) (hdraw:∀N,gw_ P N call) {n:Nat} {fn:Func} {T:Tm} {tmps:Array Value}:∀(D:Dfs) (H:AHeap) (u:Option AV) (r:FRes),
  dh_ P call n fn.results.toList T D H u=some r->∀(E:Env) (w:World) (ds:List Deferred) (m:FrameMode),TRel E N T tmps->Rel B pr E H w->DRel P E D ds->ModeAt E u m->
  Leaves P fn tmps (FPost B pr E r) ds m w
 |[],H,u,r,h,E,w,ds,m,ht,hr,hd,hm=>by
  have hd:ds=[]:=hd
  subst hd
  unfold dh_ at h
  split at h
  .have hm:m=.returning:=hm
   subst hm
   split at h
   .rename_i l hl
    cases h
    obtain ⟨v,h1,h2⟩:=gp_ hr ht hl
    exact ⟨v,h1,E,Env.le_refl _,v,rfl,h2,hr⟩
   .cases h
  .rename_i v
   cases h
   obtain ⟨v',rfl,h1⟩:=hm
   exact ⟨E,Env.le_refl _,v',rfl,h1,hr⟩
 |(f,args)::D,H,u,r,h,E,w,ds,m,ht,hr,hd,hm=>by
  obtain ⟨vs,ds',rfl,h2,h3,h4⟩:=hd
  unfold dh_ at h
  split at h
  .rename_i H' u' hdf
   unfold Leaves
   refine ⟨hm.ne_run,.func f,#[],f,⟨vs⟩,rfl,?_,CallsD.mono (λe m' w' hq=>?_) (sv_ hcall hdraw hdf ht.gl hr h2 hm.in)⟩
   .simp [invoke,d2_ h3]
   .obtain ⟨E',v,h5,rfl,h6,h7⟩:=hq
    exact Leaves.mono (λe w hq=>FPost.le h5 hq) _ _ _ (c6_ hcall hdraw D H' u' r h E' w' ds' _ (ht.mono h5) h7 (h4.mono h5) h6.settle)
  .cases h
theorem l1_ {call:CallF} (hcall:as_ P call) (hdraw:∀N,gw_ P N call) (n:Nat):as_ P (iq_ P call n):=by
 intro f args H r h B pr E w vs hg hr hc
 unfold iq_ at h
 split at h
 .rename_i N c rs hcf
  unfold qR_ at hcf
  split at hcf
  .rename_i fn hf
   split at hcf
   .rename_i code hb
    split at hcf
    .rename_i h5
     cases hcf
     split at h
     .rename_i hle
      have h5:fn.ntmps<=512:=by simpa [Nat.ble_eq]using h5
      have hle:args.length<=fn.ntmps:=by rw [ah_]at hle;simpa [Nat.ble_eq]using hle
      obtain ⟨r',hd,hw⟩:=d3_ hcall (hdraw _) n code _ _ _ _ _ _ h
      refine calls_of_wp_defers hf hb (Code.wp_mono (λe a w' hq=>?_) (hw B pr E _ w ⟨e8_ hg hc hle h5,hr,rfl⟩))
      obtain ⟨E',h1,h2⟩:=hq
      cases r' with
      |norm T H' D=>
       obtain ⟨rfl,st⟩:=h2
       exact Leaves.mono (λe w hq=>FPost.le h1 hq) _ _ _ (c6_ hcall hdraw D H' none r hd E' w' a.defers .returning st.t st.r st.d rfl)
      |ret T H' D=>
       obtain ⟨rfl,st⟩:=h2
       exact Leaves.mono (λe w hq=>FPost.le h1 hq) _ _ _ (c6_ hcall hdraw D H' none r hd E' w' a.defers .returning st.t st.r st.d rfl)
      |pan v T H' D=>
       obtain ⟨u,rfl,h3,st⟩:=h2
       exact Leaves.mono (λe w hq=>FPost.le h1 hq) _ _ _ (c6_ hcall hdraw D H' (some v) r hd E' w' a.defers _ st.t st.r st.d ⟨u,rfl,h3⟩)
      |exit id T H' D=>cases hd
     .cases h
    .cases hcf
   .cases hcf
  .cases hcf
 .cases h
end
end Go.Sx
