/-
  The evaluator of code: results, deferred calls, calls.
-/
import Derived.Test.YtelnbodnjmldeaaGreatSxH
import Derived.Recover
import Derived.Test.YtelnbodnjmldeaaGreatSyF
import Derived.Orders
set_option linter.all false
open List renaming mem_cons_of_mem→za',mem_cons_self→zc'
open Nat renaming lt_trichotomy→zb',not_lt_zero→zd',lt_or_ge→ze',ble_eq→zf',le_refl→zg',eq_of_beq_eq_true→zh'
namespace Go.Sx
variable [Gl]
omit [Gl]in
def J9 {P:Program} {Af:Array Oper} {Q Q':Exit->Act->List Frame->World->Prop} (hq:∀e a cs w,Q e a cs w->Q' e a cs w):
  ∀(l:List Nat) (a:Act) (cs:List Frame) (w:World),wpOpsS P Af Q l a cs w->wpOpsS P Af Q' l a cs w
 |[],a,cs,w,h=>hq _ _ _ _ h
 |i::r,a,cs,w,h=>by
  unfold wpOpsS at h⊢;cases ho:Af[i]? with
  |none=>simp only [ho]at h⊢;exact J9 hq r _ _ _ h
  |some o=>
   simp only [ho]at h⊢;split
   .rename_i hw;rw [Ad hw]at h;generalize (execOp a.eval o).run P w=x at*;cases x with
    |ok n w'=>
     cases n<;>simp only [Oper.upon]at h⊢<;>
      first|exact J9 hq r _ _ _ h|exact Calls.mono h (λe w'' he=>by cases e<;>first|exact J9 hq r _ _ _ he|exact hq _ _ _ _ he|exact he.imp λ_ hx=>hx.imp λ_ hy=>hq _ _ _ _ hy)|exact Rows.mono h (λ_ _ he=>J9 hq r _ _ _ he)|skip
     split at h<;>exact J9 hq r _ _ _ h
    |halt x w'=>cases x<;>simp only [Oper.upon]at h⊢<;>first|exact h|exact hq _ _ _ _ h
   rename_i hw;rw [Ab hw]at h;exact J9 hq r _ _ _ h
section
variable {P:Program} {B:World} {pr:Nat->Prop} {N:Nat} {E:Ag} {H:AHeap} {w:World}
omit [Gl]in
def nK_ (hr:As B pr E H w) {t:TypeId} {a:AV} {v:Value} (hc:Ac E a v) {r:AV} (h:Ds P H t a=some r):
  ∃u,(asAddr v >>= λx=>loadVar t x).run P w=.ok u w/\Ac E r u:=by
 unfold Ds at h;split at h;cases h;rename_i d hd;split at h
 .rename_i hag;split at h;cases h;rename_i i hi;split at h;rename_i l hl;cases h;obtain ⟨b,o,vs,rfl,hlen,hL,hcell⟩:=KQ hr hc hl;refine ⟨.agg ⟨vs⟩,?_,by simp only [Ac];grind⟩;have:=OJ (P:=P) hcell;simp_all [asAddr,loadVar,Kt,DK]
  cases h
 .rename_i hag;split at h;rename_i c hl;cases h;obtain ⟨b,o,vs,rfl,hlen,hL,hcell⟩:=KQ hr hc hl;obtain ⟨u,hu,hcu⟩:=hL.at 0 r rfl;have:=hcell 0 u hu;simp_all [asAddr,loadVar,Kt]
  cases h
def M2 (tmps:Array Value) (x:ResultVar):Sem Value:=match x with
 | .tmp t=>pure (tmps.getD t undef)
 | .cell a t=>do loadVar t (←asAddr (tmps.getD a undef))
def ZD {T:Tm} {tmps:Array Value} (hr:As B pr E H w) (ht:Bf E N T tmps):∀(rs:List ResultVar) (l:List AV),Hv P T H rs=some l->
  ∃vs,(rs.mapM (M2 tmps)).run P w=.ok vs w/\Ah E l vs
 |[],l,h=>by simp_all [Hv,Ah.nil]
 | .tmp t::rs,l,h=>by unfold Hv at h;split at h;rename_i hb;split at h;rename_i l' hl;cases h;obtain ⟨vs,h1,h2⟩:=ZD hr ht rs l' hl;refine ⟨tmps.getD t undef::vs,?_,?_⟩;simp [List.mapM_cons,M2,h1];exact Ah.cons (ht.con t (by simpa [Nat.blt_eq]using hb)) h2;cases h;cases h
 | .cell a t::rs,l,h=>by
   unfold Hv at h;split at h
   .rename_i hb;split at h
    .rename_i v hv;split at h;rename_i l' hl;cases h;obtain ⟨vs,h1,h2⟩:=ZD hr ht rs l' hl;obtain ⟨u,h3,h4⟩:=nK_ hr (ht.con a (by simp_all)) hv;refine ⟨u::vs,?_,Ah.cons h4 h2⟩;have h3:(M2 tmps (.cell a t)).run P w=.ok u w:=h3;simp_all
     cases h
    cases h
   cases h
def VL {fn:Func} {T:Tm} {tmps:Array Value} (hr:As B pr E H w) (ht:Bf E N T tmps) {l:List AV} (h:Hv P T H fn.results.toList=some l):
  ∃v,(results fn tmps).run P w=.ok v w/\Ac E (kJ l) v:=by
 obtain ⟨vs,h1,h2⟩:=ZD (P:=P) hr ht _ _ h;have h3:(fn.results.mapM (M2 tmps)).run P w=.ok ⟨vs⟩ w:=by rw [Array.mapM_eq_mapM_toList];simp [h1]
 match l,vs,h2,h3 with
 |[],vs,h2,h3=>
  have:vs=[]:=(by grind [Ah]);subst this;refine ⟨.tuple #[],?_,?_⟩;show (fn.results.mapM (M2 tmps) >>= λvs=>pure (if h:vs.size=1 then vs[0]else Value.tuple vs)).run P w=_;simp [h3]
  .show Ac E (.tup []) _;simp only [Ac];grind
 |[a],vs,h2,h3=>obtain ⟨v,r,rfl,h4,h5⟩:=(by grind [Ah]:∃v r,vs=v::r/\Ac E a v/\r=[]);subst h5;refine ⟨v,?_,h4⟩;show (fn.results.mapM (M2 tmps) >>= λvs=>pure (if h:vs.size=1 then vs[0]else Value.tuple vs)).run P w=_;simp [h3]
 |a::b::r,vs,h2,h3=>
  obtain ⟨v,s,rfl,h4,h5⟩:=(by grind [Ah]:∃v s,vs=v::s/\Ac E a v/\∃v' r',s=v'::r'/\Ac E b v'/\Ah E r r');obtain ⟨v',r',rfl,h6,h7⟩:=h5;refine ⟨.tuple ⟨v::v'::r'⟩,?_,?_⟩;show (fn.results.mapM (M2 tmps) >>= λvs=>pure (if h:vs.size=1 then vs[0]else Value.tuple vs)).run P w=_;simp [h3]
  .show Ac E (.tup (a::b::r)) _;simp only [Ac];grind
omit [Gl]in
def mc:∀(ag:List AV) (i:Nat) (T:Tm),i+ag.length<=512->∀t,t<512->
  Ao (C6 ag i T) t=if i<=t then (match ag[t-i]? with|some a=>a|none=>Ao T t)else Ao T t
 |[],i,T,hl,t,ht=>by simp [C6]
 |a::r,i,T,hl,t,ht=>by
  simp only [List.length_cons]at hl;unfold C6;rw [mc r (Nat.succ i) (D9 T i a) (by omega) t ht];by_cases h1:t=i;simp_all [Ab,GD]
  .rw [Fm T ht (by omega) (λe=>h1 e.symm)]
   grind
def UY {ag:List AV} {vs:List Value} (hg:BQ E) (hc:Ah E ag vs) (hN:ag.length<=N) (h5:N<=512):
  Bf E N (C6 ag 0 B6) ((⟨vs⟩:Array Value)++Array.replicate (N-(⟨vs⟩:Array Value).size) undef):=by
 have hlen:=hc.length;refine ⟨by grind,h5,λt ht=>?_,hg⟩;rw [mc ag 0 B6 (by omega) t ht];simp only [Nat.zero_le,if_true,Nat.sub_zero,yv];rcases ze' t ag.length with hlt|hge
 .obtain ⟨v,h1,h2⟩:=hc.at t ag[t] (by simp [hlt]);have:((⟨vs⟩:Array Value)++Array.replicate (N-(⟨vs⟩:Array Value).size) undef).getD t undef=v:=by simp_all [Array.getElem?_append]
  grind
 .have:((⟨vs⟩:Array Value)++Array.replicate (N-(⟨vs⟩:Array Value).size) undef).getD t undef=undef:=by
    rw [Array.getD_eq_getD_getElem?,Array.getElem?_append]
    grind
  grind [GG]
def Bd (E:Ag) (u:Option AV) (m:FrameMode):Prop:=match u with
 |none=>m=.returning\/∃v,m=.panicking [{ v:=v,recovered:=true }]
 |some a=>∃v,m=.panicking [{ v:=v,recovered:=false }]/\Ac E a v
def BP (E:Ag) (u:Option AV) (m:FrameMode):Prop:=match u with
 |none=>m=.returning
 |some a=>∃v,m=.panicking [{ v:=v,recovered:=false }]/\Ac E a v
section
omit [Gl]
theorem Bd.mono {E E':Ag} (h:E.le E') {u:Option AV} {m:FrameMode} (hm:Bd E u m):Bd E' u m:=by
 cases u with
 |none=>exact hm
 |some a=>obtain ⟨v,h1,h2⟩:=hm;exact ⟨v,h1,h2.mono h⟩
theorem BP.mono {E E':Ag} (h:E.le E') {u:Option AV} {m:FrameMode} (hm:BP E u m):BP E' u m:=by
 cases u with
 |none=>exact hm
 |some a=>obtain ⟨v,h1,h2⟩:=hm;exact ⟨v,h1,h2.mono h⟩
def BP.in {E:Ag} {u:Option AV} {m:FrameMode} (hm:BP E u m):Bd E u m:=by
 cases u with
 |none=>exact .inl hm
 |some a=>exact hm
def BP.ne_run {E:Ag} {u:Option AV} {m:FrameMode} (hm:BP E u m):m≠ .run:=by
 cases u with
 |none=>rw [show m=.returning from hm];grind
 |some a=>obtain ⟨v,rfl,_⟩:=hm;grind
def Bd.settle {E:Ag} {u:Option AV} {m:FrameMode} (hm:Bd E u m):BP E u (Go.settle m):=by
 cases u with
 |none=>rcases hm with rfl|⟨v,rfl⟩;rfl;rfl
 |some a=>obtain ⟨v,rfl,h⟩:=hm;exact ⟨v,rfl,h⟩
end
def D8 (P:Program) (B:World) (pr:Nat->Prop) (N:Nat) (E:Ag) (c₀:Frame) (cs:List Frame) (r:GA) (e:Exit) (a:Act) (cs':List Frame) (w:World):Prop:=
 ∃E' m,E.le E'/\cs'={ c₀ with mode:=m }::cs/\match r with
  | .norm T H u=>e=.normal/\Bd E' u m/\St P B pr N E' T H [] a w
  | .ret T H u=>e=.ret/\Bd E' u m/\St P B pr N E' T H [] a w
theorem D8.le {E':Ag} (h:E.le E') {c₀:Frame} {cs cs':List Frame} {r:GA} {e:Exit} {a:Act} {w:World} (hq:D8 P B pr N E' c₀ cs r e a cs' w):D8 P B pr N E c₀ cs r e a cs' w:=by obtain ⟨E'',m,h1,h2⟩:=hq;exact ⟨E'',m,Ag.le_trans h h1,h2⟩
omit [Gl]in
theorem Act.put_defers' (a:Act) (d:Option Tmp) (v:Value):(a.put d v).defers=a.defers:=by unfold Act.put;split<;>rfl
def St.putV {T:Tm} {H H':AHeap} {D:Bj} {a:Act} {w w':World} (st:St P B pr N E T H D a w) {E':Ag} (hle:E.le E') (hr:As B pr E' H' w') {dst:Option Nat} {p:Tm->AV->Tm}
  (hp:CN N dst=.mk p) {x:AV} {v:Value} (hc:Ac E' x v):St P B pr N E' (p T x) H' D (a.put dst v) w':=
 ⟨(st.t.mono hle).put hp hc,hr,by rw [Act.put_defers'];exact st.d.mono hle⟩
def YG {call:AL} (hcall:Cj P call) (Af:Array Oper) (c₀:Frame) (cs:List Frame):∀(l:List Oper) (k:Nat),(∀j,l[j]? =Af[k+j]?)->∀(T:Tm) (H:AHeap) (u:Option AV) (r:GA),
  JR P call N Af.toList l T H u=some r->∀(E:Ag) (a:Act) (w:World) (m:FrameMode),St P B pr N E T H [] a w->Bd E u m->
  wpOpsS P Af (D8 P B pr N E c₀ cs r) (List.range' k l.length) a ({ c₀ with mode:=m }::cs) w
 |[],k,hl,T,H,u,r,h,E,a,w,m,st,hm=>by cases h;exact ⟨E,m,Ag.le_refl _,rfl,rfl,hm,st⟩
 |o::l,k,hl,T,H,u,r,h,E,a,w,m,st,hm=>by
  have h0:Af[k]? =some o:=(by simpa using (hl 0).symm);have hl':∀j,l[j]? =Af[k+1+j]? :=λj=>(by have:=hl (j+1);grind);have ih:=YG hcall Af c₀ cs l (k+1) hl';unfold JR at h;split at h;cases h
  .rename_i p hp;rw [List.length_cons,List.range'_succ];unfold wpOpsS;simp only [h0];have key:∀(g:Option Bool),(match Du Af.toList o with| .always=>some true| .mk g=>g T)=g->∀t,g=some t->Region.wanted o (yielded Af a.tmps)=t:=λg hg t ht=>by
    subst ht;split at hg
    .grind [Su]
    rename_i g' hga;exact QR st.t hga hg
   split at h;cases h;rename_i hg;rw [key _ hg false rfl];exact ih _ _ _ _ h E _ w m (st.putV (Ag.le_refl _) st.r hp (GG E)) hm;rename_i hg;rw [key _ hg true rfl];split at h;cases h;rename_i x H' hrun;obtain ⟨E',n,v,w',h1,h2,h3,h4,h5⟩:=Ej hrun st.r st.t;have fin:=J9 (λe a cs' w hq=>D8.le h3 hq) _ _ _ _ (ih _ _ _ _ h E' _ w' m (st.putV h3 h4 hp h5) (hm.mono h3));rw [h1];rcases h2 with rfl|⟨rfl,rfl⟩;exact fin;exact fin;rename_i f ag hrun;split at h;rename_i x H' hc;obtain ⟨vs,h1,h2⟩:=Ej hrun st.r st.t;rw [h1];refine Calls.mono (hcall f ag H _ hc B pr E w vs st.t.gl st.r h2) λe w' he=>?_;obtain ⟨E',h3,v,rfl,h4,h5⟩:=he;exact J9 (λe a cs' w hq=>D8.le h3 hq) _ _ _ _ (ih _ _ _ _ h E' _ w' m (st.putV h3 h5 hp h4) (hm.mono h3));cases h;rename_i hrun;have h1:=Ej hrun st.r st.t;rw [h1];split at h;obtain ⟨v',rfl,hcv⟩:=hm;exact ih _ _ _ _ h E _ w _ (st.putV (Ag.le_refl _) st.r hp hcv) (.inr ⟨v',rfl⟩);have hrec:recoverD ({ c₀ with mode:=m }::cs)=none:=(by rcases hm with rfl|⟨v,rfl⟩<;>simp [recoverD]);rw [hrec];exact ih _ _ _ _ h E _ w m (st.putV (Ag.le_refl _) st.r hp (by simp [Ac])) hm;cases h
omit [Gl]in
def Code.wpS_mono {c:Code} {Q Q':Exit->Act->List Frame->World->Prop} (hq:∀e a cs w,Q e a cs w->Q' e a cs w) {a:Act} {cs:List Frame} {w:World} (h:c.wpS P Q a cs w):c.wpS P Q' a cs w:=
 λb k hb hr=>let ⟨e,a',cs',w',q,arr⟩:=h b k hb hr;⟨e,a',cs',w',hq _ _ _ _ q,arr⟩
omit [Gl]in
def jt {id:Nat} {c:Code} {Q:Exit->Act->List Frame->World->Prop} {a:Act} {cs:List Frame} {w:World} (h:c.wpS P Q a cs w) (hQ:∀e a cs w,Q e a cs w->e=.normal\/e=.ret):(Code.block id c).wpS P Q a cs w:=by intro b k hb hr;obtain ⟨e,a₁,cs₁,w₁,hq,harr⟩:=h b (.inBlock id::k) hb hr;rcases hQ _ _ _ _ hq with rfl|rfl;exact ⟨.normal,a₁,cs₁,w₁,hq,.head step_block (Steps.trans harr (.one step_inBlock))⟩;exact ⟨_,a₁,cs₁,w₁,hq,.of_steps (.one step_block) harr⟩
theorem qQ_ {call:AL} (hcall:Cj P call) (hdraw:Oh P N call) (n:Nat) (B:World) (pr:Nat->Prop) (c₀:Frame) (cs:List Frame):∀(c:Code) (T:Tm) (H:AHeap) (u:Option AV) (r:GA),
  EQ P call N n c T H u=some r->∀(E:Ag) (a:Act) (w:World) (m:FrameMode),St P B pr N E T H [] a w->Bd E u m->
  c.wpS P (D8 P B pr N E c₀ cs r) a ({ c₀ with mode:=m }::cs) w:=by
 intro c
 induction c with
 |skip=>intro T H u r h E a w m st hm;cases h;exact wpS_of_wp (wp_skip ⟨E,m,Ag.le_refl _,rfl,rfl,hm,st⟩)
 |ret=>intro T H u r h E a w m st hm;cases h;exact wpS_of_wp (wp_ret ⟨E,m,Ag.le_refl _,rfl,rfl,hm,st⟩)
 |region id Af draw=>
  intro T H u r h E a w m st hm;unfold EQ at h;split at h
  .refine wpS_region ?_;have:=YG hcall Af c₀ cs Af.toList 0 (by simp) T H u r h E a w m st hm
   grind [List.range_eq_range']
  split at h;rename_i T' H' hd;cases h;refine wpS_of_wp (Code.wp_mono (λe a w hq=>?_) (hdraw id Af T H [] _ hd B pr E a w st));obtain ⟨E',h1,rfl,h2⟩:=hq;exact ⟨E',m,h1,rfl,rfl,hm.mono h1,h2⟩;cases h
 |seq x y ihx ihy=>
  intro T H u r h E a w m st hm;unfold EQ at h;split at h;rename_i T' H' u' hx;refine wpS_seq (Code.wpS_mono (λe a cs' w hq=>?_) (ihx T H u _ hx E a w m st hm));obtain ⟨E',m',h1,rfl,rfl,h3,h4⟩:=hq;exact Code.wpS_mono (λe a cs w hq=>D8.le h1 hq) (ihy T' H' u' r h E' a w m' h4 h3)
  .rename_i hne;refine wpS_seq (Code.wpS_mono (λe a cs' w hq=>?_) (ihx T H u r h E a w m st hm));obtain ⟨E',m',h1,h2,h3⟩:=hq;cases r with
   |norm T' H' u'=>grind
   |ret T' H' u'=>obtain ⟨rfl,h4⟩:=h3;exact ⟨E',m',h1,h2,rfl,h4⟩
 |cond c x y ihx ihy=>
  intro T H u r h E a w m st hm;unfold EQ at h;have hl:=st.t.look c
  grind [wpS_cond,Ac]
 |block id b ih=>
  intro T H u r h E a w m st hm;refine jt (ih T H u r h E a w m st hm) λe a cs' w hq=>?_;obtain ⟨E',m',_,_,h3⟩:=hq
  grind
 |loop _ _=>grind [EQ]
 |exit _=>grind [EQ]
 |label _=>grind [EQ]
 |scope _ _=>grind [EQ]
 |goto _=>grind [EQ]
 |rangeFunc _ _ _ _ _ _=>grind [EQ]
 |refuse _=>grind [EQ]
def sj (B:World) (pr:Nat->Prop) (E:Ag) (H:AHeap) (u:Option AV) (e:Ending) (m:FrameMode) (w:World):Prop:=
 ∃E' v,E.le E'/\e=.returned v/\Bd E' u m/\As B pr E' H w
def sB_ {call:AL} (hcall:Cj P call) (hdraw:∀N,Oh P N call) {n:Nat} {f:FuncId} {ag:List AV} {H H':AHeap} {u u':Option AV} (h:bC P call n f ag H u=some (H',u'))
  {E:Ag} {w:World} {vs:List Value} {m:FrameMode} (hg:BQ E) (hr:As B pr E H w) (hc:Ah E ag vs) (hm:Bd E u m):CallsD P f ⟨vs⟩ m w (sj B pr E H' u'):=by
 unfold bC at h;split at h
 .rename_i fn hf;split at h
  .rename_i c hb;split at h
   .rename_i hle;obtain ⟨h1,h2⟩:=Au hle;have h1:ag.length<=fn.ntmps:=(by grind [BW,zf']);have h2:fn.ntmps<=512:=(by simp_all);refine callsD_of_wpS hf hb λc₀ cs hmode=>?_;have st:St P B pr fn.ntmps E (C6 ag 0 B6) H [] { tmps:=(⟨vs⟩:Array Value)++Array.replicate (fn.ntmps-(⟨vs⟩:Array Value).size) undef,defers:=[] } w:=
     ⟨UY hg hc h1 h2,hr,rfl⟩
    have hc₀:c₀={ c₀ with mode:=m }:=(by rw [←hmode]);have run:∀r,EQ P call fn.ntmps n c (C6 ag 0 B6) H u=some r->c.wpS P (D8 P B pr fn.ntmps E c₀ cs r) { tmps:=(⟨vs⟩:Array Value)++Array.replicate (fn.ntmps-(⟨vs⟩:Array Value).size) undef,defers:=[] } (c₀::cs) w:=λr hr=>by
     grind [qQ_]
    split at h;rename_i T' H₂ u₂ hcode;split at h;rename_i l hl;cases h;refine Code.wpS_mono (λe a cs' w' hq=>?_) (run _ hcode);obtain ⟨E',m',h3,rfl,rfl,h4,h5⟩:=hq;obtain ⟨v,h6,h7⟩:=VL h5.r h5.t hl;exact ⟨h5.d,m',rfl,v,h6,E',v,h3,rfl,h4,h5.r⟩;cases h;rename_i T' H₂ u₂ hcode;split at h;rename_i l hl;cases h;refine Code.wpS_mono (λe a cs' w' hq=>?_) (run _ hcode);obtain ⟨E',m',h3,rfl,rfl,h4,h5⟩:=hq;obtain ⟨v,h6,h7⟩:=VL h5.r h5.t hl;exact ⟨h5.d,m',rfl,v,h6,E',v,h3,rfl,h4,h5.r⟩;cases h;cases h
   cases h
  cases h
 cases h
section
omit [Gl]
theorem B4.le {E':Ag} (h:E.le E') {r:A5} {e:Ending} {w:World} (hq:B4 B pr E' r e w):B4 B pr E r e w:=by obtain ⟨E'',h1,h2⟩:=hq;exact ⟨E'',Ag.le_trans h h1,h2⟩
theorem Leaves.mono {fn:Func} {tmps:Array Value} {R R':Ending->World->Prop} (hq:∀e w,R e w->R' e w):∀(ds:List Deferred) (u:FrameMode) (w:World),Leaves P fn tmps R ds u w->Leaves P fn tmps R' ds u w
 |[],.returning,w,h=>by obtain ⟨v,h1,h2⟩:=h;exact ⟨v,h1,hq _ _ h2⟩
 |[],.panicking ch,w,h=>hq _ _ h
 |[],.run,w,h=>h
 |d::ds,u,w,h=>by
  unfold Leaves at h⊢;obtain ⟨h1,fv,cap,f,ag,h2,h3,h4⟩:=h;refine ⟨h1,fv,cap,f,ag,h2,h3,λc cs hm=>?_⟩;obtain ⟨e,u',w',fr,h5,h6⟩:=h4 c cs hm;refine ⟨e,u',w',fr,?_,h6⟩;cases e with
  |returned v=>exact Leaves.mono hq ds _ _ h5
  |panicked ch=>exact Leaves.mono hq ds _ _ h5
  |outgrown=>exact hq _ _ h5
theorem CallsD.mono {f:FuncId} {ag:Array Value} {u:FrameMode} {R R':Ending->FrameMode->World->Prop} {w:World} (hq:∀e u w,R e u w->R' e u w) (h:CallsD P f ag u w R):CallsD P f ag u w R':=by
 intro c cs hm;obtain ⟨e,u',w',fr,h5,h6⟩:=h c cs hm
 grind
end
def N8 {call:AL} (hcall:Cj P call) (hdraw:∀N,Oh P N call) {n:Nat} {fn:Func} {T:Tm} {tmps:Array Value}:∀(D:Bj) (H:AHeap) (u:Option AV) (r:A5),
  Io P call n fn.results.toList T D H u=some r->∀(E:Ag) (w:World) (ds:List Deferred) (m:FrameMode),Bf E N T tmps->As B pr E H w->Ca P E D ds->BP E u m->
  Leaves P fn tmps (B4 B pr E r) ds m w
 |[],H,u,r,h,E,w,ds,m,ht,hr,hd,hm=>by subst hd;unfold Io at h;split at h;subst hm;split at h;rename_i l hl;cases h;obtain ⟨v,h1,h2⟩:=VL hr ht hl;exact ⟨v,h1,E,Ag.le_refl _,v,rfl,h2,hr⟩;cases h;cases h;obtain ⟨v',rfl,h1⟩:=hm;exact ⟨E,Ag.le_refl _,v',rfl,h1,hr⟩
 |(f,ag)::D,H,u,r,h,E,w,ds,m,ht,hr,hd,hm=>by obtain ⟨vs,ds',rfl,h2,h3,h4⟩:=hd;unfold Io at h;split at h;rename_i H' u' hdf;refine ⟨hm.ne_run,.func f,#[],f,⟨vs⟩,rfl,?_,CallsD.mono (λe m' w' hq=>?_) (sB_ hcall hdraw hdf ht.gl hr h2 hm.in)⟩;simp [invoke,Xj h3];obtain ⟨E',v,h5,rfl,h6,h7⟩:=hq;exact Leaves.mono (λe w hq=>B4.le h5 hq) _ _ _ (N8 hcall hdraw D H' u' r h E' w' ds' _ (ht.mono h5) h7 (h4.mono h5) h6.settle);cases h
def rr {call:AL} (hcall:Cj P call) (hdraw:∀N,Oh P N call) (n:Nat):Cj P (bh P call n):=by
 intro f ag H r h B pr E w vs hg hr hc;unfold bh at h;split at h
 .rename_i N c rs hcf;unfold oJ at hcf;split at hcf
  .rename_i fn hf;split at hcf
   .rename_i code hb;split at hcf
    .rename_i h5;cases hcf;split at h
     .rename_i hle;have h5:fn.ntmps<=512:=(by simp_all);have hle:ag.length<=fn.ntmps:=(by grind [BW,zf']);obtain ⟨r',hd,hw⟩:=LJ hcall (hdraw _) n code _ _ _ _ _ _ h;refine calls_of_wp_defers hf hb (Code.wp_mono (λe a w' hq=>?_) (hw B pr E _ w ⟨UY hg hc hle h5,hr,rfl⟩));obtain ⟨E',h1,h2⟩:=hq;cases r' with
      |norm T H' D=>obtain ⟨rfl,st⟩:=h2;exact Leaves.mono (λe w hq=>B4.le h1 hq) _ _ _ (N8 hcall hdraw D H' none r hd E' w' a.defers .returning st.t st.r st.d rfl)
      |ret T H' D=>obtain ⟨rfl,st⟩:=h2;exact Leaves.mono (λe w hq=>B4.le h1 hq) _ _ _ (N8 hcall hdraw D H' none r hd E' w' a.defers .returning st.t st.r st.d rfl)
      |pan v T H' D=>obtain ⟨u,rfl,h3,st⟩:=h2;exact Leaves.mono (λe w hq=>B4.le h1 hq) _ _ _ (N8 hcall hdraw D H' (some v) r hd E' w' a.defers _ st.t st.r st.d ⟨u,rfl,h3⟩)
      |exit id T H' D=>cases hd
     cases h
    cases hcf
   cases hcf
  cases hcf
 cases h
end
end Go.Sx
namespace Go.Sx
def AHeap.ofFun (f:Nat->Option A2) (nx hi:Nat):∃H:AHeap,H.next=nx/\H.hi=hi/\∀id k,H.get id=some k↔id<Bb/\f id=some k:=by
 have key:∀n,n<=Bb->∃H:AHeap,H.next=nx/\H.hi=hi/\∀id k,H.get id=some k↔id<n/\f id=some k:=by
  intro n
  induction n with
  |zero=>
   intro _;refine ⟨⟨AE,nx,hi⟩,rfl,rfl,λid k=>⟨λh=>?_,λh=>absurd h.1 (zd' _)⟩⟩
   grind [AHeap.get_of_lt,OZ,AHeap.get_of_ge]
  |succ n ih=>
   intro hn;obtain ⟨H,h1,h2,h3⟩:=ih (by omega);cases hf:f n with
   |none=>
    grind
   |some b=>
    refine ⟨H.set n b,h1,h2,λid k=>?_⟩
    grind [AHeap.get_set_same,AHeap.get_set_ne]
 simp_all
def Ag.withRes (E:Ag) (r:Nat->Prop):Ag:={ E with res:=r }
def Ag.re (E:Ag) (r:Nat->Prop) (m:Nat->Nat->Option Value) (d:Nat->Prop):Ag:={ E with res:=r,bim:=m,vd:=d }
def Ag.sub_re (E:Ag) (r:Nat->Prop) (m:Nat->Nat->Option Value) (d:Nat->Prop):E.sub (E.re r m d):=⟨λ_ _ h=>h,λ_ _ h=>h,λ_ _ _ h=>h,rfl,rfl⟩
def Ag.sub_withRes (E:Ag) (r:Nat->Prop):E.sub (E.withRes r):=⟨λ_ _ h=>h,λ_ _ h=>h,λ_ _ _ h=>h,rfl,rfl⟩
def As.frame {B:World} {pr:Nat->Prop} {E:Ag} {H:AHeap} {w:World} (h:As B pr E H w) {K:AHeap} (hK:∀id k,K.get id=some k->H.get id=some k)
  (res':Nat->Prop) (hvd:∀id,E.vd id->res' id) (hres:∀id,res' id->E.φ id=none) (hrng:∀id,K.next<=id->id<K.hi->E.φ id=none/\¬res' id):
  ∃pr':Nat->Prop,As w pr' (E.re res' E.imm λid=>E.vd id/\K.get id≠none) K w/\∀(E':Ag) (K':AHeap) (w':World),(E.re res' E.imm λid=>E.vd id/\K.get id≠none).le E'->As w pr' E' K' w'->
   (∀id,res' id->E'.φ id=none)/\(∀id,K'.next<=id->id<K'.hi->E'.φ id=none)/\E.sub E'/\
   (∀id k,H.get id=some k->K.get id=none->K'.get id=none)/\
   ∀(nx hi:Nat) (res'':Nat->Prop),(∀id,nx<=id->id<hi->E'.φ id=none/\¬res'' id)->(∀id,res'' id->E'.φ id=none)->(∀id,E.vd id->res'' id)->
   ∃H':AHeap,H'.next=nx/\H'.hi=hi/\As B pr (E'.re res'' E.bim E.vd) H' w'/\(∀id k,K'.get id=some k->H'.get id=some k)/\
    (∀id k,H.get id=some k->K.get id=none->H'.get id=some k):=by
 obtain ⟨own,g1,g2,g3,g4⟩:∃own:Nat->Option Nat,(∀id k,H.get id=some k->BF E w own id k)/\
   (∀b,pr b->own b=none)/\(∀b o v,E.imm b o=some v->own b=none)/\∀b,¬b<w.heap.size->own b=none:=by
  obtain ⟨own,g1,g2,g3⟩:=h.own;refine ⟨λb=>if b<w.heap.size then own b else none,λid k hk=>?_,λb hb=>?_,λb o v hi=>?_,λb hb=>Ab hb⟩;exact (g1 id k hk).imp (λ_ h=>h) (λh=>h) λb o h1 h2 h3=>⟨(Ad h3.lt).trans h2,h3⟩;all_goals grind
 refine ⟨λb=>b<w.heap.size/\¬∃id k,own b=some id/\K.get id=some k,?_,?_⟩
 .refine { own:=?_,imm:=h.imm,ib:=λ_ _ _ _ h=>h,fresh:=λid h1 h2=>(hrng id h1 h2).1,resv:=λid hi=>⟨hres id hi,λhx=>(hrng id hx.1 hx.2).2 hi⟩,vds:=λid h=>hvd id h.1,szs:=h.szs,
           prot:=λb hb=>⟨hb.1,rfl⟩,size:=zg' _,os:=rfl,output:=rfl }
  refine ⟨λb=>match own b with
   |some id=>match K.get id with
    |some _=>some id
    |none=>none
   |none=>none,λid k hk=>?_,λb hb=>?_,λb o v hi=>?_⟩
  .obtain ⟨hv,hv2⟩|⟨b,o,h1,h2,h3⟩:=g1 id k (hK id k hk);exact .inl ⟨⟨hv,by grind⟩,hv2⟩
   .refine .inr ⟨b,o,h1,?_,h3.sub (Ag.sub_re E res' E.imm _) rfl⟩
    grind
  .grind
  .have:own b=none:=g3 b o v hi
   grind
 .intro E' K' w' hle hr';obtain ⟨own',q1,q2,q3⟩:=hr'.own;have hsub:E.sub E':=⟨λi x hx=>hle.1.1 i x hx,λb n hx=>hle.1.2.1 b n hx,hle.1.2.2⟩;have hresE:E'.res=res':=hle.2.1;have hbimE:E'.bim=E.imm:=hle.2.2.1;have hvdE:∀id,E'.vd id->E.vd id/\K.get id≠none:=λid hx=>(by rw [hle.2.2.2]at hx;exact hx);have hr1:∀id,res' id->E'.φ id=none:=λid hi=>(hr'.resv id (by grind)).1;have hstay:∀id k,H.get id=some k->K.get id=none->((E.vd id/\CW E k)\/∃b o,E.φ id=some (b,o)/\own b=some id/\BlkAt E w b o k/\own' b=none/\w'.heap[b]? =w.heap[b]?)/\K'.get id=none:=by
   intro id k hk hn;obtain hvoid|⟨b,o,h1,h2,h3⟩:=g1 id k hk
   .refine ⟨.inl hvoid,?_⟩;cases hk':K'.get id with
    |none=>rfl
    |some k'=>obtain ⟨hv',_⟩|⟨b',o',e1,_⟩:=q1 id k' hk'<;>grind
   have hpr:b<w.heap.size/\¬∃id k,own b=some id/\K.get id=some k:=by
    grind
   have ho':=q2 b hpr;refine ⟨.inr ⟨b,o,h1,h2,h3,ho',(hr'.prot b hpr).2⟩,?_⟩;cases hk':K'.get id with
   |none=>rfl
   |some k'=>
    obtain ⟨hv',_⟩|⟨b',o',e1,e2,_⟩:=q1 id k' hk'
    .grind
    .rw [hsub.1 _ _ h1]at e1;grind
  refine ⟨hr1,hr'.fresh,hsub,λid k h1 h2=>(hstay id k h1 h2).2,?_⟩;intro nx hi res'' hrng' hres'' hvd'';obtain ⟨H',e1,e2,e3⟩:=AHeap.ofFun (λid=>match K'.get id with
   |some k=>some k
   |none=>match K.get id with
    |some _=>none
    |none=>H.get id) nx hi
  have BU:∀id k,H'.get id=some k->K'.get id=some k\/(H.get id=some k/\K.get id=none):=by
   grind
  refine ⟨H',e1,e2,?_,λid k hk=>(e3 id k).2 ⟨AHeap.get_lt hk,by grind⟩,λid k hk hn=>?_⟩
  .have hs2:=Ag.sub_re E' res'' E.bim E.vd;have hprpr:∀b,pr b->b<w.heap.size/\¬∃id k,own b=some id/\K.get id=some k:=λb hb=>by
    refine ⟨Nat.lt_of_lt_of_le (h.prot b hb).1 h.size,λhx=>?_⟩
    grind
   have himm:∀b o v,(b<w.heap.size/\¬∃id k,own b=some id/\K.get id=some k)->E'.imm b o=some v->E.imm b o=some v:=λb o v hb hv=>(by rw [←hbimE];exact hr'.ib b o v hb hv)
   refine { own:=?_,imm:=hr'.imm,ib:=λb o v hb hv=>h.ib b o v hb (himm b o v (hprpr b hb) hv),fresh:=λid h1 h2=>(hrng' id (e1▸h1) (e2▸h2)).1,
            resv:=λid hi=>⟨hres'' id hi,λhx=>(hrng' id (e1▸hx.1) (e2▸hx.2)).2 hi⟩,vds:=hvd'',szs:=hr'.szs,prot:=λb hb=>?_,size:=Nat.le_trans h.size hr'.size,os:=hr'.os.trans h.os,output:=hr'.output.trans h.output }
   .refine ⟨λb=>match own' b with
      |some id=>some id
      |none=>match own b with
       |some id=>match K.get id with
        |some _=>none
        |none=>some id
       |none=>none,λid k hk=>?_,λb hb=>?_,λb o v hi=>?_⟩
    rcases BU id k hk with hk|⟨hk,hn⟩;obtain ⟨hv',hv2⟩|⟨b,o,f1,f2,f3⟩:=q1 id k hk;exact .inl ⟨(hvdE id hv').1,hv2⟩;exact .inr ⟨b,o,f1,by grind,f3.sub hs2 rfl⟩;obtain ⟨hv1,hv2⟩|⟨b,o,f1,f2,f3,f4,f5⟩:=(hstay id k hk hn).1;exact .inl ⟨hv1,hv2.sub λi hi=>by show E'.sy i=_;rw [hsub.2.2.2.1];exact hi⟩;exact .inr ⟨b,o,hsub.1 _ _ f1,by grind,BlkAt.sub (Ag.sub_trans hsub hs2) f5 f3⟩
    .grind
    .have hi1:E'.imm b o=some v:=hi;have ho':=q3 b o v hi1;simp only [ho'];cases ho:own b with
     |none=>rfl
     |some id=>
      cases hk:K.get id with
      |some k=>grind
      |none=>
       grind
   .have hpr:b<w.heap.size/\¬∃id k,own b=some id/\K.get id=some k:=by
      grind
    exact ⟨(h.prot b hb).1,(hr'.prot b hpr).2.trans (h.prot b hb).2⟩
  grind [AHeap.get_lt]
theorem Yx (m i:Nat):AW m i=m.testBit i:=by
 unfold AW;have e:Nat.land (Nat.shiftRight m i) 1=(m>>>i)&&&1:=rfl
 grind [Nat.testBit]
theorem aP (a b i:Nat):AW (Nat.lor a b) i=(AW a i||AW b i):=by simp_all [Yx]
theorem cE (a i:Nat):AW (Nat.pow 2 a) i=decide (a=i):=by rw [Yx];exact Nat.testBit_two_pow
theorem ic (i:Nat):AW 0 i=false:=by grind [Yx]
theorem Yt (e:Edge):JV e=Region.binds .any e:=by
 cases e with
 |mk on g=>cases g<;>rfl
theorem ZU:∀(l:List Nat) (n:Nat),Nu l n=l.getD n 0
 |[],n=>by simp [Nu]
 |a::r,0=>rfl
 |a::r,n+1=>by simp [Nu,ZU r n]
theorem kC (bs:List Nat):∀(l:List Edge) (j:Nat),AW (Hr bs l) j=true↔∃e∈l,JV e=true/\(e.on=j\/AW (Nu bs e.on) j=true)
 |[],j=>by simp [Hr,ic]
 |e::r,j=>by
  unfold Hr;have ih:=kC bs r j;split
  .rw [aP,aP,cE]
   grind
  grind
def eY:∀(l:List Oper) (bs:List Nat),∃cs,Rp l bs=bs++cs/\cs.length=l.length/\
  ∀k o,l[k]? =some o->∃b,(bs++cs)[bs.length+k]? =some b/\b=Hr ((bs++cs).take (bs.length+k)) o.after.toList
 |[],bs=>⟨[],by simp [Rp],rfl,λk o h=>by simp at h⟩
 |o::l,bs=>by
  obtain ⟨cs,h1,h2,h3⟩:=eY l (bs++[Hr bs o.after.toList]);refine ⟨Hr bs o.after.toList::cs,?_,by simp [h2],λk x hk=>?_⟩
  .grind [Rp]
  .have e:bs++Hr bs o.after.toList::cs=(bs++[Hr bs o.after.toList])++cs:=(by simp);cases k with
   |zero=>
    grind
   |succ k=>
    obtain ⟨b,g1,g2⟩:=h3 k x (by grind);have el:(bs++[Hr bs o.after.toList]).length+k=bs.length+(k+1):=(by simp;omega);rw [el]at g1 g2
    grind
def Vg:∀(l:List Edge) (i:Nat),Om l i=true->∀e∈l,JV e=true->e.on<i
 |[],i,h,e,he,hb=>by simp at he
 |e'::r,i,h,e,he,hb=>by
  unfold Om at h;rcases List.mem_cons.1 he with rfl|he;simp_all
  split at h;exact Vg r i (Au h).2 e he hb;exact Vg r i h e he hb
def YW:∀(l:List Oper) (k:Nat),aM l k=true->∀i o,l[i]? =some o->Om o.after.toList (k+i)=true
 |[],k,h,i,o,hi=>by simp at hi
 |a::r,k,h,i,o,hi=>by
  obtain ⟨h1,h2⟩:=Au h;cases i with
  |zero=>grind
  |succ i=>
   have:=YW r (Nat.succ k) h2 i o (by grind)
   grind
def ja (Af:List Oper) (bs:List Nat):∀(l:List Oper) (c:List Nat) (k:Nat),l.length=c.length->(JP Af bs l c k).length=l.length/\
  ∀i o b,l[i]? =some o->c[i]? =some b->(JP Af bs l c k)[i]? =some (SI.mk o b (EZ o.op) (KV b Af 0) (Lc (k+i) Af bs) (JB Af o) (Xe Af bs b (k+i) o))
 |[],c,k,h=>⟨rfl,λi o b hi=>by simp at hi⟩
 |a::r,[],k,h=>by simp at h
 |a::r,b::c,k,h=>by
  obtain ⟨h1,h2⟩:=ja Af bs r c (Nat.succ k) (by simpa using h);refine ⟨by simp [JP,h1],λi o b' hi hb=>?_⟩;cases i with
  |zero=>simp at hi hb;subst hi;subst hb;simp [JP]
  |succ i=>have:=h2 i o b' (by simpa using hi) (by simpa using hb);have e:Nat.succ k+i=k+(i+1):=(by omega);rw [e]at this;simpa [JP]using this
theorem oH (x:SI) (i:Nat):∀l:List SI,WM x i l=true->∀(j:Nat) (y:SI),l[j]? =some y->Sj x i y=true
 |[],h,j,y,hj=>by simp at hj
 |a::r,h,j,y,hj=>by
  obtain ⟨h1,h2⟩:=Au h;cases j with
  |zero=>simp at hj;subst hj;exact h1
  |succ j=>exact oH x i r h2 j y (by simpa using hj)
def jA:∀(l:List SI) (k:Nat),XL l k=true->∀(i j:Nat) (x y:SI),i<j->l[i]? =some x->l[j]? =some y->Sj x (k+i) y=true
 |[],k,h,i,j,x,y,hij,hi,hj=>by simp at hi
 |a::r,k,h,i,j,x,y,hij,hi,hj=>by
  obtain ⟨h1,h2⟩:=Au h;cases j with
  |zero=>omega
  |succ j=>
   cases i with
   |zero=>
    grind [oH]
   |succ i=>
    have:=jA r (Nat.succ k) h2 i j x y (by omega) (by grind) (by grind)
    grind
structure AG (Af:List Oper) (l:List SI):Prop where
 len:l.length=Af.length
 op:∀(i:Nat) (x:SI),l[i]? =some x->Af[i]? =some x.o
 kd:∀(i:Nat) (x:SI),l[i]? =some x->x.kd=EZ x.o.op
 rd:∀(i:Nat) (x:SI),l[i]? =some x->x.rd=JB Af x.o
 lo:∀(i:Nat) (x:SI),l[i]? =some x->x.lo=KV x.bef Af 0
 hi:∀(i:Nat) (x:SI),l[i]? =some x->x.hi=Lc i Af (l.map SI.bef)
 lt:∀(i:Nat) (x:SI) (e:Edge),l[i]? =some x->e∈x.o.after->Region.binds .any e=true->e.on<i
 bef:∀(i:Nat) (x:SI) (j:Nat),l[i]? =some x->(AW x.bef j=true↔∃e∈x.o.after,Region.binds .any e=true/\(e.on=j\/∃y:SI,l[e.on]? =some y/\AW y.bef j=true))
 pair:∀(i j:Nat) (x y:SI),i<j->l[i]? =some x->l[j]? =some y->Kv x y=true\/(BX x.kd=true/\BX y.kd=true)->AW y.bef i=true
def bo {Af:List Oper} {l:List SI} {n:Nat} (h:M0 Af=.mk l n):AG Af l/\n=Fj l:=by
 unfold M0 at h;split at h
 .rename_i hE;dsimp only at h;split at h
  .rename_i hA;cases h;obtain ⟨cs,h1,h2,h3⟩:=eY Af [];rw [List.nil_append]at h1;rw [h1]at hA⊢;simp only [B2,AK,Cu]at h3;obtain ⟨s1,s2⟩:=ja Af cs Af cs 0 h2.symm;have hx:∀(i:Nat) (x:SI),(JP Af cs Af cs 0)[i]? =some x->∃o b,Af[i]? =some o/\cs[i]? =some b/\x=SI.mk o b (EZ o.op) (KV b Af 0) (Lc i Af cs) (JB Af o) (Xe Af cs b i o):=by simp_all [List.getElem?_eq_some_iff]
   have hmap:(JP Af cs Af cs 0).map SI.bef=cs:=by
    apply List.ext_getElem?
    grind
   refine ⟨{ len:=s1,op:=?_,kd:=?_,rd:=?_,lo:=?_,hi:=?_,lt:=?_,bef:=?_,pair:=?_ },rfl⟩
   .grind
   .grind
   .grind
   .grind
   .grind
   intro i x e hi he hb;obtain ⟨o,b,g1,g2,rfl⟩:=hx i x hi;have:=YW Af 0 hE i o g1;rw [Nat.zero_add]at this;exact Vg _ _ this e (by grind) (by exact hb)
   .intro i x j hi;obtain ⟨o,b,g1,g2,rfl⟩:=hx i x hi;obtain ⟨b',g3,g4⟩:=h3 i o g1;rw [g2]at g3;cases g3;have hlt:∀e∈o.after,JV e=true->e.on<i:=λe he hb=>by have:=YW Af 0 hE i o g1;rw [Nat.zero_add]at this;exact Vg _ _ this e (by grind) hb
    have hil:i<Af.length:=(List.getElem?_eq_some_iff.1 g1).1;rw [g4,kC];constructor
    .grind [Yt,ZU]
    .rintro ⟨e,he,hb,hj⟩;have hb':JV e=true:=by exact hb
     grind [ZU]
   .intro i j x y hij hi hj hc;have:=jA _ 0 hA i j x y hij hi hj
    grind [Sj]
  cases h
 cases h
def CQ (p:Nat->Bool):List Oper->Nat->Nat
 |[],_=>0
 |o::r,k=>match BX (EZ o.op)&&p k with
  |true=>Nat.succ (CQ p r (Nat.succ k))
  |false=>CQ p r (Nat.succ k)
theorem gb (b:Nat):∀(l:List Oper) (k:Nat),KV b l k=CQ (AW b) l k
 |[],k=>rfl
 |o::r,k=>by unfold KV CQ;rw [gb b r (Nat.succ k)];rfl
def mh {p q:Nat->Bool} (h:∀k,p k=true->q k=true):∀(l:List Oper) (k:Nat),CQ p l k<=CQ q l k
 |[],k=>zg' _
 |o::r,k=>by
  unfold CQ;have ih:=mh h r (Nat.succ k)
  grind
def RW {p q:Nat->Bool}:∀(l:List Oper) (k:Nat),(∀i o,l[i]? =some o->BX (EZ o.op)=true->p (k+i)=q (k+i))->CQ p l k=CQ q l k
 |[],k,h=>rfl
 |o::r,k,h=>by
  unfold CQ;rw [RW (p:=p) (q:=q) r (Nat.succ k) λi o' hi hw=>by
   have:=h (i+1) o' (by grind) hw
   grind]
  cases hw:BX (EZ o.op)with
  |false=>rfl
  |true=>
   have:=h 0 o rfl hw
   grind
theorem UZ {p:Nat->Bool}:∀(l:List Oper) (k:Nat),(∀i o,l[i]? =some o->BX (EZ o.op)=true->p (k+i)=false)->CQ p l k=0
 |[],k,h=>rfl
 |o::r,k,h=>by
  unfold CQ;rw [UZ r (Nat.succ k) λi o' hi hw=>by
   have:=h (i+1) o' (by grind) hw
   grind]
  cases hw:BX (EZ o.op)with
  |false=>rfl
  |true=>
   have:=h 0 o rfl hw
   grind
def plus (S:Nat->Bool) (i:Nat):Nat->Bool:=λj=>if j=i then true else S j
def Ye {S:Nat->Bool}:∀(l:List Oper) (k i:Nat) (o:Oper),l[i]? =some o->BX (EZ o.op)=true->S (k+i)=false->CQ (plus S (k+i)) l k=Nat.succ (CQ S l k)
 |[],k,i,o,h,hw,hs=>by simp at h
 |a::r,k,0,o,h,hw,hs=>by simp at h;subst h;rw [Nat.add_zero]at hs⊢;unfold CQ;have e1:plus S k k=true:=(by simp [plus]);rw [hw,hs,e1];simp only [Bool.and_true,Bool.and_false];rw [RW (p:=plus S k) (q:=S) r (Nat.succ k) λj o' hj hw'=>by have:Nat.succ k+j≠k:=(by omega);simp_all [plus]]
 |a::r,k,i+1,o,h,hw,hs=>by
  have e:k+(i+1)=Nat.succ k+i:=(by omega);have ih:=Ye (S:=S) r (Nat.succ k) i o (by simpa using h) hw (by grind)
  grind [CQ,plus]
def fG {S:Nat->Bool} {i:Nat}:∀(l:List Oper) (bs:List Nat) (k:Nat),l.length=bs.length->
  (∀j b o,bs[j]? =some b->l[j]? =some o->BX (EZ o.op)=true->S (k+j)=true->AW b i=false)->
  (∀j j' o o',j<j'->l[j]? =some o->l[j']? =some o'->BX (EZ o.op)=true->BX (EZ o'.op)=true->S (k+j')=true->S (k+j)=true)->CQ S l k<=Lc i l bs
 |[],bs,k,hl,h1,h2=>Nat.zero_le _
 |o::r,[],k,hl,h1,h2=>by simp at hl
 |o::r,b::bs,k,hl,h1,h2=>by
  have ih:=fG (S:=S) (i:=i) r bs (Nat.succ k) (by grind)
   (λj b' o' hb ho hw hs=>by have e:Nat.succ k+j=k+(j+1):=(by omega);exact h1 (j+1) b' o' (by grind) (by grind) hw (by grind))
   (λj j' o1 o2 hjj h3 h4 h5 h6 h7=>by have e:Nat.succ k+j=k+(j+1):=(by omega);have e':Nat.succ k+j'=k+(j'+1):=(by omega);rw [e];exact h2 (j+1) (j'+1) o1 o2 (by omega) (by grind) (by grind) h5 h6 (by grind))
  unfold CQ Lc;cases hw:BX (EZ o.op)with
  |false=>grind
  |true=>
   cases hs:S k with
   |true=>
    have:=h1 0 b o rfl rfl hw (by grind)
    grind
   |false=>
    have:CQ S r (Nat.succ k)=0:=UZ r _ λj o' hj hw'=>by
     cases hsj:S (Nat.succ k+j)with
     |false=>rfl
     |true=>
      have e:Nat.succ k+j=k+(j+1):=(by omega);have:=h2 0 (j+1) o o' (by omega) rfl (by grind) hw hw' (by grind)
      grind
    grind
inductive Cr where
 |gone
 |off
 |val (a:AV)
 |row (a:AV) (id:Nat) (b:A2)
 |step (a:AV)
 |die
def Cr.put:Cr->Option AV
 | .off=>some (.tup [])
 | .val a=>some a
 | .row a _ _=>some a
 | .step a=>some a
 |_=>none
def Sl (l:List SI) (ev:Nat->Cr) (T0:Tm) (S:Nat->Bool) (t:Nat) (a:AV):Prop:=
 (a=Ao T0 t/\∀j x,l[j]? =some x->S j=true->x.o.dst=some t->(ev j).put=none)\/
 ∃j x,l[j]? =some x/\S j=true/\x.o.dst=some t/\(ev j).put=some a/\∀j' x',l[j']? =some x'->S j'=true->x'.o.dst=some t->(ev j').put≠none->j'<=j
section
variable {l:List SI} {ev:Nat->Cr} {T0:Tm} {S S':Nat->Bool} {t:Nat} {a a':AV}
def Sl.congr (h:Sl l ev T0 S t a) (hc:∀j x,l[j]? =some x->x.o.dst=some t->S j=S' j):Sl l ev T0 S' t a:=by rcases h with ⟨h1,h2⟩|⟨j,x,h1,h2,h3,h4,h5⟩;exact .inl ⟨h1,λj x hj hs hd=>h2 j x hj (by grind) hd⟩;exact .inr ⟨j,x,h1,by grind,h3,h4,λj' x' hj hs hd=>h5 j' x' hj (by grind) hd⟩
def Sl.unique (h:Sl l ev T0 S t a) (h':Sl l ev T0 S t a'):a=a':=by rcases h with ⟨h1,h2⟩|⟨j,x,h1,h2,h3,h4,h5⟩<;>rcases h' with ⟨g1,g2⟩|⟨j',x',g1,g2,g3,g4,g5⟩<;>grind
theorem Sl.put {i:Nat} {x:SI} (hx:l[i]? =some x) (hd:x.o.dst=some t) (he:(ev i).put=some a) (hlast:∀j y,l[j]? =some y->S j=true->y.o.dst=some t->j<=i):Sl l ev T0 (plus S i) t a:=by
 refine .inr ⟨i,x,hx,by simp [plus],hd,he,λj' x' hj hs hd' _=>?_⟩
 grind [plus]
def Sl.keep {i:Nat} (h:Sl l ev T0 S t a) (hk:∀x,l[i]? =some x->x.o.dst=some t->(ev i).put=none):Sl l ev T0 (plus S i) t a:=by
 rcases h with ⟨h1,h2⟩|⟨j,x,h1,h2,h3,h4,h5⟩
 .refine .inl ⟨h1,λj x hj hs hd=>?_⟩
  grind [plus]
 .refine .inr ⟨j,x,h1,?_,h3,h4,λj' x' hj hs hd hp=>?_⟩<;>grind [plus]
end
variable [Gl]
def JW {Af:Array Oper} {E:Ag} {N:Nat} {R:Tm} {a:Act} {x:SI} {t:Bool} (ht:Bf E N R a.tmps) (h:CR Af.toList x R=some t):Region.wanted x.o (yielded Af a.tmps)=t:=by
 grind [CR,Su,QR]
section
omit [Gl]
def eG {c:OC} {T:Tm} {H:AHeap} {a:AV} (h:Ev c T H=some a):c.run T H=some (.val a H):=by
 unfold Ev at h
 grind [OC.run]
def As.reres {B:World} {pr:Nat->Prop} {E:Ag} {H:AHeap} {w:World} (h:As B pr E H w) {r:Nat->Prop} (hr:∀id,r id->E.φ id=none/\¬(H.next<=id/\id<H.hi)) (hvd:∀id,E.vd id->r id):As B pr (E.withRes r) H w where
 own:=by obtain ⟨own,h1,h2⟩:=h.own;refine ⟨own,λid k hk=>?_,h2⟩;exact (h1 id k hk).imp (λ_ h=>h) (λh=>h) λb o hφ ho hb=>⟨ho,hb.sub (Ag.sub_withRes E r) rfl⟩
 imm:=h.imm
 ib:=h.ib
 fresh:=h.fresh
 resv:=hr
 vds:=hvd
 szs:=h.szs
 prot:=h.prot
 size:=h.size
 os:=h.os
 output:=h.output
def Ca.sub {P:Program} {E E':Ag} (h:E.sub E'):∀{D:Bj} {ds:List Deferred},Ca P E D ds->Ca P E' D ds
 |[],ds,hd=>hd
 |(f,ag)::D,ds,hd=>by obtain ⟨vs,r,h1,h2,h3,h4⟩:=hd;exact ⟨vs,r,h1,h2.sub h,h3,Ca.sub h h4⟩
end
def Dr (Af:List Oper) (i:Nat):Nat:=CQ (λj=>decide (j<i)) Af 0
structure Di (l:List SI) (ev:Nat->Cr) (i:Nat) (x:SI) (G G1:AHeap):Prop where
 next:G1.next=G.next
 hi:G1.hi=G.hi
 row:∀id k,G1.get id=some k->G.get id=some k\/∃j y a,l[j]? =some y/\ev j=.row a id k/\AW x.bef j=true/\
  ∀k' y' a',l[k']? =some y'->k'<i->ev k'=.step a'->AW y'.bef j=false
inductive KI (P:Program) (call:AL) (Af:List Oper) (l:List SI) (ev:Nat->Cr) (idOf:Nat->Nat) (Gs:List AHeap) (dd:Option (Nat×AV×AHeap)) (i:Nat) (x:SI) (R:Tm):Cr->Prop
 |off (hg:CR Af x R=some false) (hw:BX x.kd=true->∃G,Gs[Dr Af i]? =some G/\Gs[Dr Af i+1]? =some G):KI P call Af l ev idOf Gs dd i x R .off
 |pure {a:AV} (hg:CR Af x R=some true) (hk:x.kd=.pure) (h:Ev (A3 P x.o) R ⟨AE,0,0⟩=some a):KI P call Af l ev idOf Gs dd i x R (.val a)
 |read {a:AV} (hg:CR Af x R=some true) (hk:x.kd=.read) (h:∀m G,x.lo<=m->m<=x.hi->Gs[m]? =some G->Ev (A3 P x.o) R G=some a):KI P call Af l ev idOf Gs dd i x R (.val a)
 |fl {a:AV} {j id:Nat} {y:SI} {c:AV} {b:A2} (hg:CR Af x R=some true) (hk:x.kd=.read) (hy:l[j]? =some y) (hj:ev j=.row c id b) (hbit:AW x.bef j=true)
   (hno:∀(k:Nat) (y':SI) (a':AV),l[k]? =some y'->k<i->ev k=.step a'->AW y'.bef j=false) (hlater:∀(k:Nat) (y':SI),l[k]? =some y'->i<k->BX y'.kd=true->AW y'.bef j=true->AW y'.bef i=true)
   (ht:id<Bb) (h:Ev (A3 P x.o) R ((⟨AE,0,0⟩:AHeap).set id b)=some a):KI P call Af l ev idOf Gs dd i x R (.val a)
 |mem {a:AV} {b:A2} {H':AHeap} (hg:CR Af x R=some true) (hk:x.kd=.mem) (h:(A3 P x.o).run R ⟨AE,idOf i,Nat.succ (idOf i)⟩=some (.val a H')) (hb:H'.get (idOf i)=some b):
   KI P call Af l ev idOf Gs dd i x R (.row a (idOf i) b)
 |wr {a:AV} {G G1 H':AHeap} (hg:CR Af x R=some true) (hk:x.kd=.wr) (h1:Gs[Dr Af i]? =some G) (h2:Gs[Dr Af i+1]? =some H') (ht:Di l ev i x G G1)
   (h:(A3 P x.o).run R G1=some (.val a H')\/∃f ag,(A3 P x.o).run R G1=some (.call f ag)/\call f ag G1=some (.ret a H')):KI P call Af l ev idOf Gs dd i x R (.step a)
 |die {v:AV} {G G1 H':AHeap} (hg:CR Af x R=some true) (hk:x.kd=.wr) (h1:Gs[Dr Af i]? =some G) (ht:Di l ev i x G G1) (hd:dd=some (i,v,H'))
   (h:((A3 P x.o).run R G1=some (.pan v)/\H'=G1)\/∃f ag,(A3 P x.o).run R G1=some (.call f ag)/\call f ag G1=some (.pan v H')):KI P call Af l ev idOf Gs dd i x R .die
structure Fc (P:Program) (call:AL) (N:Nat) (Af:List Oper) (l:List SI) (ev:Nat->Cr) (T0:Tm) (idOf:Nat->Nat) (Gs:List AHeap) (dd:Option (Nat×AV×AHeap)):Prop where
 each:∀(i:Nat) (x:SI),l[i]? =some x->(ev i=.gone/\∃d v H,dd=some (d,v,H)/\AW x.bef d=true)\/
  ∃u R,CN N x.o.dst=.mk u/\(∀t,t<512->Ao R t=.opq\/(t∈x.rd/\Sl l ev T0 (λj=>decide (j<i)) t (Ao R t)))/\KI P call Af l ev idOf Gs dd i x R (ev i)
 dead:∀d v H,dd=some (d,v,H)->ev d=.die
 row:∀j y a id b,l[j]? =some y->ev j=.row a id b->id=idOf j/\y.kd=.mem
 inj:∀i j x y,l[i]? =some x->l[j]? =some y->x.kd=.mem->y.kd=.mem->idOf i=idOf j->i=j
structure Cl (l:List SI) (ev:Nat->Cr) (S:Nat->Bool):Prop where
 lt:∀i,S i=true->i<l.length
 ev:∀i,S i=true->ev i≠ .gone/\ev i≠ .die
 bef:∀i x j,l[i]? =some x->S i=true->AW x.bef j=true->S j=true
def Et (E0:Ag) (l:List SI) (idOf:Nat->Nat) (S:Nat->Bool) (id:Nat):Prop:=E0.res id\/∃j x,l[j]? =some x/\S j=false/\x.kd=.mem/\id=idOf j
structure Cm (P:Program) (B:World) (pr:Nat->Prop) (N:Nat) (E0:Ag) (D:Bj) (Af:List Oper) (l:List SI) (ev:Nat->Cr) (T0:Tm) (idOf:Nat->Nat) (Gs:List AHeap)
  (S:Nat->Bool) (a:Act) (w:World) (E:Ag) (G H:AHeap):Prop where
 sub:E0.sub E
 res:E.res=Et E0 l idOf S
 bim:E.bim=E0.bim
 vd:E.vd=E0.vd
 vd0:∀id,E0.vd id->E0.res id
 gl:BQ E0
 size:a.tmps.size=N
 dfs:Ca P E0 D a.defers
 slot:∀t,t<512->∃q,Sl l ev T0 S t q/\Ac E q (a.tmps.getD t undef)
 g:Gs[CQ S Af 0]? =some G
 r:As B pr E H w
 nx:H.next=G.next
 hi:H.hi=G.hi
 old:∀id k,G.get id=some k->H.get id=some k
 row:∀j y q id b,l[j]? =some y->ev j=.row q id b->S j=true->(∀k y' q',l[k]? =some y'->S k=true->ev k=.step q'->AW y'.bef j=false)->H.get id=some b/\G.get id=none
section
omit [Gl]
def lp {N:Nat} {d:Nat} {u:Tm->AV->Tm} (h:CN N (some d)=.mk u):d<N/\d<512:=by unfold CN at h;simp only at h;split at h<;>simp_all
def jc {a:Act} {d:Nat} {v:Value} (h:d<a.tmps.size):(a.put (some d) v).tmps.getD d undef=v:=by simp_all [Act.put]
def kq {a:Act} {dst:Option Nat} {t:Nat} {v:Value} (h:dst≠some t):(a.put dst v).tmps.getD t undef=a.tmps.getD t undef:=by
 cases dst with
 |none=>rfl
 |some d=>simp_all [Act.put]
theorem ku {a:Act} {dst:Option Nat} {v:Value}:(a.put dst v).tmps.size=a.tmps.size:=by cases dst<;>simp [Act.put]
def lk {x y:SI} {d:Nat} (h1:x.o.dst=some d) (h2:y.o.dst=some d):Kv x y=true:=by simp_all [Kv]
theorem SL {t:Nat}:∀{l:List Nat},t∈l->BB t l=true
 |[],h=>by simp at h
 |a::r,h=>by unfold BB;rcases List.mem_cons.1 h with rfl|h;simp [Nat.beq_refl];split;rfl;exact SL h
def db {x y:SI} {d:Nat} (h1:x.o.dst=some d) (h2:d∈y.rd):Kv x y=true:=by
 grind [Kv,SL]
def gB {x y:SI} {d:Nat} (h1:y.o.dst=some d) (h2:d∈x.rd):Kv x y=true:=by
 grind [Kv,SL]
end
end Go.Sx
namespace Go.Sx
variable [Gl]
section
variable {P:Program} {call:AL} {N:Nat} {B:World} {pr:Nat->Prop} {E0:Ag} {D:Bj} {Af:List Oper} {l:List SI} {ev:Nat->Cr} {T0:Tm} {idOf:Nat->Nat} {Gs:List AHeap}
 {dd:Option (Nat×AV×AHeap)} {S:Nat->Bool} {a:Act} {w:World} {E:Ag} {G H:AHeap} {i:Nat} {x:SI}
def Cm.trel (inv:Cm P B pr N E0 D Af l ev T0 idOf Gs S a w E G H) (hP:AG Af l) (hN:N<=512) (hcl:Cl l ev S) (hx:l[i]? =some x) (hS:S i=false) (hb:∀j,AW x.bef j=true->S j=true)
  {R:Tm} (hR:∀t,t<512->Ao R t=.opq\/(t∈x.rd/\Sl l ev T0 (λj=>decide (j<i)) t (Ao R t))):Bf E N R a.tmps:=by
 refine ⟨inv.size,hN,λt ht=>?_,inv.gl.sub inv.sub⟩;rcases hR t ht with h|⟨h1,h2⟩;rw [h];simp [Ac]
 .obtain ⟨q,h3,h4⟩:=inv.slot t ht;have:Sl l ev T0 S t (Ao R t):=h2.congr λj y hj hd=>by
   rcases zb' j i with hlt|rfl|hgt
   .have:=hb j (hP.pair j i y x hlt hj hx (.inl (db hd h1)))
    grind
   rw [hS];simp
   .have hbit:=hP.pair i j x y hgt hx hj (.inl (gB hd h1));cases hs:S j with
    |false=>simp;omega
    |true=>have:=hcl.bef j y i hj hs hbit;grind
  rw [this.unique h3];exact h4
def Cm.slot_put (inv:Cm P B pr N E0 D Af l ev T0 idOf Gs S a w E G H) (hP:AG Af l) (hcl:Cl l ev S) (hx:l[i]? =some x) (hS:S i=false) {u:Tm->AV->Tm} (hu:CN N x.o.dst=.mk u)
  {q:AV} (hq:(ev i).put=some q) {E':Ag} (hs:E.sub E') {v:Value} (hc:Ac E' q v):
  ∀t,t<512->∃q',Sl l ev T0 (plus S i) t q'/\Ac E' q' ((a.put x.o.dst v).tmps.getD t undef):=by
 intro t ht;by_cases hd:x.o.dst=some t
 .refine ⟨q,Sl.put hx hd hq λj y hj hsj hdj=>?_,?_⟩
  .rcases ze' i j with hgt|hle
   .have hbit:=hP.pair i j x y hgt hx hj (.inl (lk hd hdj));have:=hcl.bef j y i hj hsj hbit
    grind
   exact hle
  rw [hd]at hu⊢;rw [jc (by rw [inv.size];exact (lp hu).1)];exact hc
 .obtain ⟨q',h1,h2⟩:=inv.slot t ht;refine ⟨q',h1.keep λy hy hdy=>?_,?_⟩
  .grind
  rw [kq hd];exact h2.sub hs
section
omit [Gl]
theorem Cl.plus (hcl:Cl l ev S) (hx:l[i]? =some x) (hb:∀j,AW x.bef j=true->S j=true) (he:ev i≠ .gone/\ev i≠ .die):Cl l ev (plus S i) where
 lt:=λj hj=>by
  by_cases e:j=i
  .grind
  exact hcl.lt j (by grind [Sx.plus])
 ev:=λj hj=>by
  by_cases e:j=i
  .grind
  exact hcl.ev j (by grind [Sx.plus])
 bef:=λj y k hy hj hk=>by
  by_cases e:j=i
  .grind [Sx.plus]
  .have:=hcl.bef j y k hy (by grind [Sx.plus]) hk
   grind [Sx.plus]
theorem Si (hP:AG Af l) {j:Nat} {o:Oper} (ho:Af[j]? =some o):∃y,l[j]? =some y/\y.o=o/\y.kd=EZ o.op:=by
 have:j<l.length:=by rw [hP.len];grind
 refine ⟨l[j],by simp [this],?_,?_⟩
 .have:=hP.op j l[j] (by simp [this]);grind
 have h1:=hP.op j l[j] (by simp [this]);rw [ho]at h1;cases h1;exact hP.kd j l[j] (by simp [this])
def To (hP:AG Af l) (hcl:Cl l ev S) (hx:l[i]? =some x) (hS:S i=false) (hb:∀j,AW x.bef j=true->S j=true) (hw:BX x.kd=true):
  Dr Af i=CQ S Af 0/\CQ (plus S i) Af 0=CQ S Af 0+1:=by
 constructor
 .refine RW Af 0 λj o ho hwo=>?_;rw [Nat.zero_add];obtain ⟨y,hy,_,hk⟩:=Si hP ho;have hwy:BX y.kd=true:=(by grind);rcases zb' j i with hlt|rfl|hgt;simp [hlt,hb j (hP.pair j i y x hlt hy hx (.inr ⟨hwy,hw⟩))];rw [hS];simp
  .have hbit:=hP.pair i j x y hgt hx hy (.inr ⟨hw,hwy⟩);cases hs:S j with
   |false=>simp;omega
   |true=>have:=hcl.bef j y i hy hs hbit;grind
 .have:=Ye (S:=S) Af 0 i x.o (hP.op i x hx) (by rw [←hP.kd i x hx];exact hw) (by grind)
  grind
def Ts (hP:AG Af l) (hx:l[i]? =some x) (hw:BX x.kd=false):CQ (plus S i) Af 0=CQ S Af 0:=by
 refine RW Af 0 λj o ho hwo=>?_;have:j≠i:=by intro e;subst e;have:=hP.op j x hx;rw [ho]at this;cases this;rw [←hP.kd j x hx,hw]at hwo;cases hwo
 simp [plus,this]
def xP (hP:AG Af l) (hcl:Cl l ev S) (hx:l[i]? =some x) (hS:S i=false) (hb:∀j,AW x.bef j=true->S j=true):x.lo<=CQ S Af 0/\CQ S Af 0<=x.hi:=by
 constructor;rw [hP.lo i x hx,gb];exact mh hb Af 0
 .rw [hP.hi i x hx];refine fG Af _ 0 (by simp [hP.len]) (λj b o hbj ho hwo hs=>?_) λj j' o o' hjj ho ho' hwo hwo' hs=>?_
  .rw [Cu]at hs;rw [List.getElem?_map]at hbj;cases hy:l[j]? with
   |none=>grind
   |some y=>
    rw [hy]at hbj;cases hbj;cases hbit:AW y.bef i with
    |false=>rfl
    |true=>have:=hcl.bef j y i hy hs hbit;grind
  rw [Nat.zero_add]at hs⊢;obtain ⟨y,hy,_,hk⟩:=Si hP ho;obtain ⟨y',hy',_,hk'⟩:=Si hP ho';exact hcl.bef j' y' j hy' hs (hP.pair j j' y y' hjj hy hy' (.inr ⟨by grind,by grind⟩))
end
end
end Go.Sx
namespace Go.Sx
variable [Gl]
section
variable {P:Program} {call:AL} {N:Nat} {B:World} {pr:Nat->Prop} {E0:Ag} {D:Bj} {Af:Array Oper} {l:List SI} {ev:Nat->Cr} {T0:Tm} {idOf:Nat->Nat} {Gs:List AHeap}
 {dd:Option (Nat×AV×AHeap)} {S:Nat->Bool} {a:Act} {w:World} {E:Ag} {G H:AHeap} {i:Nat} {x:SI}
omit [Gl]in
def TR (id:Nat) (h:Et E0 l idOf (plus S i) id):Et E0 l idOf S id:=by
 grind [plus,Et]
def bB (Af:List Oper) (l:List SI) (ev:Nat->Cr) (S:Nat->Bool) (G H:AHeap):Prop:=
 ∀j y q id b,l[j]? =some y->ev j=.row q id b->S j=true->(∀k y' q',l[k]? =some y'->S k=true->ev k=.step q'->AW y'.bef j=false)->H.get id=some b/\G.get id=none
omit [Gl]in
def Cm.vdR [Gl] {S':Nat->Bool} (inv:Cm P B pr N E0 D Af.toList l ev T0 idOf Gs S a w E G H) (id:Nat) (h:E.vd id):Et E0 l idOf S' id:=.inl (inv.vd0 id (by rw [←inv.vd];exact h))
theorem Cm.next (inv:Cm P B pr N E0 D Af.toList l ev T0 idOf Gs S a w E G H) (hP:AG Af.toList l) (hcl:Cl l ev S) (hx:l[i]? =some x) (hS:S i=false) {u:Tm->AV->Tm} (hu:CN N x.o.dst=.mk u)
  {q:AV} (hq:(ev i).put=some q) {E':Ag} (hs:E.sub E') {v:Value} (hc:Ac E' q v) {w':World} {G' H':AHeap}
  (hr:As B pr (E'.re (Et E0 l idOf (plus S i)) E.bim E.vd) H' w') (hg:Gs[CQ (plus S i) Af.toList 0]? =some G') (hnx:H'.next=G'.next) (hhi:H'.hi=G'.hi)
  (hold:∀id k,G'.get id=some k->H'.get id=some k) (hrow:bB Af.toList l ev (plus S i) G' H'):
  Cm P B pr N E0 D Af.toList l ev T0 idOf Gs (plus S i) (a.put x.o.dst v) w' (E'.re (Et E0 l idOf (plus S i)) E.bim E.vd) G' H' where
 sub:=Ag.sub_trans inv.sub (Ag.sub_trans hs (Ag.sub_re _ _ _ _))
 res:=rfl
 bim:=inv.bim
 vd:=inv.vd
 vd0:=inv.vd0
 gl:=inv.gl
 size:=by rw [ku];exact inv.size
 dfs:=by rw [Act.put_defers'];exact inv.dfs
 slot:=λt ht=>by obtain ⟨q',h1,h2⟩:=inv.slot_put hP hcl hx hS hu hq hs hc t ht;exact ⟨q',h1,h2.sub (Ag.sub_re _ _ _ _)⟩
 g:=hg
 r:=hr
 nx:=hnx
 hi:=hhi
 old:=hold
 row:=hrow
omit [Gl]in
def da (hx:l[i]? =some x) (h:bB Af.toList l ev S G H) (hne:∀q id b,ev i≠ .row q id b) {H':AHeap} (hold:∀id k,H.get id=some k->H'.get id=some k):bB Af.toList l ev (plus S i) G H':=by
 intro j y q id b hy he hj hk;have hji:j≠i:=by grind
 obtain ⟨h1,h2⟩:=h j y q id b hy he (by grind [plus]) λk y' q' h3 h4 h5=>hk k y' q' h3 (by grind [plus]) h5
 grind
def I8 (P:Program) (B:World) (pr:Nat->Prop) (N:Nat) (E0:Ag) (D:Bj) (Af:List Oper) (l:List SI) (ev:Nat->Cr) (T0:Tm) (idOf:Nat->Nat) (Gs:List AHeap) (S:Nat->Bool) (a:Act) (w:World):Prop:=
 ∃E G H,Cm P B pr N E0 D Af l ev T0 idOf Gs S a w E G H
section
omit [Gl]
def jp {Q:Exit->Act->World->Prop} {K:Act->World->Prop} {o:Oper} (ho:Af[i]? =some o) (hw:Region.wanted o (yielded Af a.tmps)=false) (h:K (a.put o.dst undef) w):wpOp P Af Q i K a w:=by simp_all [wpOp]
def LG {Q:Exit->Act->World->Prop} {K:Act->World->Prop} {o:Oper} (ho:Af[i]? =some o) (hw:Region.wanted o (yielded Af a.tmps)=true) (h:o.wp P a w K Q):wpOp P Af Q i K a w:=by simp_all [wpOp]
theorem FU (hP:AG Af.toList l) (hx:l[i]? =some x):Af[i]? =some x.o:=by
 have:=hP.op i x hx
 grind
end
def bj {R:Tm} {Q:Exit->Act->World->Prop} (inv:Cm P B pr N E0 D Af.toList l ev T0 idOf Gs S a w E G H) (hP:AG Af.toList l) (hN:N<=512) (hcl:Cl l ev S) (hx:l[i]? =some x) (hS:S i=false)
  (hb:∀j,AW x.bef j=true->S j=true) {u:Tm->AV->Tm} (hu:CN N x.o.dst=.mk u) (hR:∀t,t<512->Ao R t=.opq\/(t∈x.rd/\Sl l ev T0 (λj=>decide (j<i)) t (Ao R t)))
  (he:ev i=.off) (hg:CR Af.toList x R=some false) (hw:BX x.kd=true->∃G,Gs[Dr Af.toList i]? =some G/\Gs[Dr Af.toList i+1]? =some G):
  wpOp P Af Q i (I8 P B pr N E0 D Af.toList l ev T0 idOf Gs (plus S i)) a w:=by
 have ht:=inv.trel hP hN hcl hx hS hb hR;refine jp (FU hP hx) (JW ht hg) ⟨_,G,H,inv.next hP hcl hx hS hu (q:=.tup []) (by rw [he];rfl) (Ag.sub_refl E) (GG E) ?_ ?_ inv.nx inv.hi inv.old ?_⟩;refine inv.r.reres (λid hid=>?_) inv.vdR;have:=TR id hid;rw [←inv.res]at this;exact inv.r.resv id this
 .cases hk:BX x.kd with
  |false=>rw [Ts hP hx hk];exact inv.g
  |true=>obtain ⟨h1,h2⟩:=To hP hcl hx hS hb hk;obtain ⟨G',g1,g2⟩:=hw hk;rw [h1,inv.g]at g1;grind
 exact da hx inv.row (by grind) λ_ _ h=>h
def Vm {K K':AHeap} {R:Tm} {q:AV} {o:Oper} {Q:Exit->Act->World->Prop} {C:Act->World->Prop} {res':Nat->Prop} (hr:As B pr E H w) (ht:Bf E N R a.tmps) (hK:∀id k,K.get id=some k->H.get id=some k)
  (hvd:∀id,E.vd id->res' id) (hres:∀id,res' id->E.φ id=none) (hrng:∀id,K.next<=id->id<K.hi->E.φ id=none/\¬res' id)
  (hrun:(A3 P o).run R K=some (.val q K'))
  (hfin:∀(E':Ag) (v:Value) (w':World),Ac E' q v->E.sub E'->(∀id,res' id->E'.φ id=none/\¬(K'.next<=id/\id<K'.hi))->(∀id,K'.next<=id->id<K'.hi->E'.φ id=none)->
    (∀id k,H.get id=some k->K.get id=none->K'.get id=none)->
    (∀(nx hi:Nat) (res'':Nat->Prop),(∀id,nx<=id->id<hi->E'.φ id=none/\¬res'' id)->(∀id,res'' id->E'.φ id=none)->(∀id,E.vd id->res'' id)->
      ∃H':AHeap,H'.next=nx/\H'.hi=hi/\As B pr (E'.re res'' E.bim E.vd) H' w'/\(∀id k,K'.get id=some k->H'.get id=some k)/\(∀id k,H.get id=some k->K.get id=none->H'.get id=some k))->
    C (a.put o.dst v) w'):o.wp P a w C Q:=by
 obtain ⟨pr',hf1,hf2⟩:=hr.frame hK res' hvd hres hrng;have ht':Bf (E.re res' E.imm λid=>E.vd id/\K.get id≠none) N R a.tmps:=⟨ht.size,ht.le,λt h=>(ht.con t h).sub (Ag.sub_re _ _ _ _),ht.gl.sub (Ag.sub_re _ _ _ _)⟩;obtain ⟨E',n,v,w',h1,h2,h3,h4,h5⟩:=Ej hrun hf1 ht';obtain ⟨f1,f2,f3,f4,f5⟩:=hf2 E' K' w' h3 h4;have hfin':=hfin E' v w' h5 f3 (λid hid=>⟨f1 id hid,(h4.resv id (by rw [h3.2.1];exact hid)).2⟩) f2 f4 f5;unfold Oper.wp;rw [h1];rcases h2 with rfl|⟨rfl,rfl⟩;exact hfin';exact hfin'
def YJ {R:Tm} {Q:Exit->Act->World->Prop} (inv:Cm P B pr N E0 D Af.toList l ev T0 idOf Gs S a w E G H) (hP:AG Af.toList l) (hN:N<=512) (hcl:Cl l ev S) (hx:l[i]? =some x) (hS:S i=false)
  (hb:∀j,AW x.bef j=true->S j=true) {u:Tm->AV->Tm} (hu:CN N x.o.dst=.mk u) (hR:∀t,t<512->Ao R t=.opq\/(t∈x.rd/\Sl l ev T0 (λj=>decide (j<i)) t (Ao R t)))
  {q:AV} (he:ev i=.val q) (hg:CR Af.toList x R=some true) (hw:BX x.kd=false) {K:AHeap} (hK:∀id k,K.get id=some k->H.get id=some k)
  (hrng:∀id,K.next<=id->id<K.hi->H.next<=id/\id<H.hi) (hrun:Ev (A3 P x.o) R K=some q):
  wpOp P Af Q i (I8 P B pr N E0 D Af.toList l ev T0 idOf Gs (plus S i)) a w:=by
 have ht:=inv.trel hP hN hcl hx hS hb hR;refine LG (FU hP hx) (JW ht hg) ?_;have hsub:∀id,Et E0 l idOf (plus S i) id->E.res id:=λid h=>by rw [inv.res];exact TR id h
 refine Vm (res':=λid=>Et E0 l idOf (plus S i) id\/(H.next<=id/\id<H.hi/\¬(K.next<=id/\id<K.hi))) inv.r ht hK (λid h=>.inl (inv.vdR id h)) (λid h=>?_) (λid h1 h2=>?_) (eG hrun) λE' v w' hc hs h1 h2 h3 h4=>?_;rcases h with h|⟨g1,g2,_⟩;exact (inv.r.resv id (hsub id h)).1;exact inv.r.fresh id g1 g2
 .obtain ⟨g1,g2⟩:=hrng id h1 h2;refine ⟨inv.r.fresh id g1 g2,λh=>?_⟩;rcases h with h|⟨_,_,h⟩;exact (inv.r.resv id (hsub id h)).2 ⟨g1,g2⟩
  grind
 .have hun:∀id,H.next<=id->id<H.hi->E'.φ id=none:=λid e1 e2=>by
    grind
  obtain ⟨H',g1,g2,g3,g4,g5⟩:=h4 H.next H.hi (Et E0 l idOf (plus S i)) (λid e1 e2=>⟨hun id e1 e2,λh=>(inv.r.resv id (hsub id h)).2 ⟨e1,e2⟩⟩) (λid h=>(h1 id (.inl h)).1) inv.vdR
  .have hall:∀id k,H.get id=some k->H'.get id=some k:=λid k hk=>(by cases hk':K.get id<;>grind)
   exact ⟨_,G,H',inv.next hP hcl hx hS hu (by rw [he];rfl) hs hc g3 (by rw [Ts hP hx hw];exact inv.g) (g1.trans inv.nx) (g2.trans inv.hi) (λid k hk=>hall id k (inv.old id k hk))
    (da hx inv.row (by grind) hall)⟩
def rz {R:Tm} {Q:Exit->Act->World->Prop} (inv:Cm P B pr N E0 D Af.toList l ev T0 idOf Gs S a w E G H) (hP:AG Af.toList l) (hN:N<=512) (hcl:Cl l ev S) (hx:l[i]? =some x) (hS:S i=false)
  (hb:∀j,AW x.bef j=true->S j=true) {u:Tm->AV->Tm} (hu:CN N x.o.dst=.mk u) (hR:∀t,t<512->Ao R t=.opq\/(t∈x.rd/\Sl l ev T0 (λj=>decide (j<i)) t (Ao R t)))
  {q:AV} {b:A2} {H₁:AHeap} (he:ev i=.row q (idOf i) b) (hg:CR Af.toList x R=some true) (hk:x.kd=.mem) (hrun:(A3 P x.o).run R ⟨AE,idOf i,Nat.succ (idOf i)⟩=some (.val q H₁)) (hrow:H₁.get (idOf i)=some b)
  (hF:∀j y a id b,l[j]? =some y->ev j=.row a id b->id=idOf j/\y.kd=.mem) (hinj:∀i j x y,l[i]? =some x->l[j]? =some y->x.kd=.mem->y.kd=.mem->idOf i=idOf j->i=j) (h0:¬E0.res (idOf i)):
  wpOp P Af Q i (I8 P B pr N E0 D Af.toList l ev T0 idOf Gs (plus S i)) a w:=by
 have ht:=inv.trel hP hN hcl hx hS hb hR;have hw:BX x.kd=false:=by rw [hk];rfl
 refine LG (FU hP hx) (JW ht hg) ?_;have hsub:∀id,Et E0 l idOf (plus S i) id->E.res id:=λid h=>by rw [inv.res];exact TR id h
 have hi0:E.res (idOf i):=by rw [inv.res];exact .inr ⟨i,x,hx,hS,hk,rfl⟩
 obtain ⟨hi1,hi2⟩:=inv.r.resv _ hi0;have hnot:¬Et E0 l idOf (plus S i) (idOf i):=λh=>by rcases h with h|⟨j,y,g1,g2,g3,g4⟩<;>grind [plus]
 have hnone:∀id k,(⟨AE,idOf i,Nat.succ (idOf i)⟩:AHeap).get id=some k->False:=λid k h=>by
  grind [AHeap.get_of_lt,OZ,AHeap.get_of_ge]
 have hnone':∀id,(⟨AE,idOf i,Nat.succ (idOf i)⟩:AHeap).get id=none:=λid=>by cases h:(⟨AE,idOf i,Nat.succ (idOf i)⟩:AHeap).get id<;>grind
 refine Vm (res':=λid=>Et E0 l idOf (plus S i) id\/(H.next<=id/\id<H.hi)) inv.r ht (λid k h=>(hnone id k h).elim) (λid h=>.inl (inv.vdR id h)) (λid h=>?_) (λid h1 h2=>?_) hrun λE' v w' hc hs h1 h2 h3 h4=>?_;rcases h with h|⟨g1,g2⟩;exact (inv.r.resv id (hsub id h)).1;exact inv.r.fresh id g1 g2
 .grind
 .obtain ⟨H',g1,g2,g3,g4,g5⟩:=h4 H.next H.hi (Et E0 l idOf (plus S i)) (λid e1 e2=>⟨(h1 id (.inr ⟨e1,e2⟩)).1,λh=>(inv.r.resv id (hsub id h)).2 ⟨e1,e2⟩⟩) (λid h=>(h1 id (.inl h)).1) inv.vdR;have hall:∀id k,H.get id=some k->H'.get id=some k:=λid k hk=>g5 id k hk (hnone' id);refine ⟨_,G,H',inv.next hP hcl hx hS hu (by rw [he];rfl) hs hc g3 (by rw [Ts hP hx hw];exact inv.g) (g1.trans inv.nx) (g2.trans inv.hi) (λid k hk=>hall id k (inv.old id k hk)) ?_⟩;intro j y q' id b' hy hej hj hkk;by_cases hji:j=i
  .subst hji;rw [he]at hej;cases hej;refine ⟨g4 _ _ hrow,?_⟩;cases hG:G.get (idOf j)with
   |none=>rfl
   |some k=>
    obtain ⟨own,o1,_⟩:=inv.r.own;obtain ⟨hv,_⟩|⟨b2,o2,hφ,_⟩:=o1 _ _ (inv.old _ _ hG);exact absurd (inv.vd0 _ (by rw [←inv.vd];exact hv)) h0
    grind
  .obtain ⟨r1,r2⟩:=inv.row j y q' id b' hy hej (by grind [plus]) λk y' q' h3 h4 h5=>hkk k y' q' h3 (by grind [plus]) h5
   grind
def iq (inv:Cm P B pr N E0 D Af.toList l ev T0 idOf Gs S a w E G H) (hP:AG Af.toList l) (hcl:Cl l ev S) (hx:l[i]? =some x) (hS:S i=false) (hb:∀j,AW x.bef j=true->S j=true)
  (hF:∀j y q,l[j]? =some y->ev j=.step q->BX y.kd=true) (hw:BX x.kd=true) {G1:AHeap} (ht:Di l ev i x G G1):∀id k,G1.get id=some k->H.get id=some k:=by
 intro id k hk;rcases ht.row id k hk with h|⟨j,y,q,h1,h2,h3,h4⟩;exact inv.old id k h
 .refine (inv.row j y q id k h1 h2 (hb j h3) λk' y' q' g1 g2 g3=>h4 k' y' q' g1 ?_ g3).1;rcases zb' k' i with hlt|rfl|hgt;exact hlt
  .grind
  .have hbit:=hP.pair i k' x y' hgt hx g1 (.inr ⟨hw,hF k' y' q' g1 g3⟩);have:=hcl.bef k' y' i g1 g2 hbit
   grind
def lN (inv:Cm P B pr N E0 D Af.toList l ev T0 idOf Gs S a w E G H) (hP:AG Af.toList l) (hcl:Cl l ev S) (hx:l[i]? =some x) (hS:S i=false) (hb:∀j,AW x.bef j=true->S j=true)
  {u:Tm->AV->Tm} (hu:CN N x.o.dst=.mk u) {q:AV} (he:ev i=.step q) (hw:BX x.kd=true) {G1 K':AHeap} (ht:Di l ev i x G G1) (h2:Gs[Dr Af.toList i+1]? =some K')
  (hrow:∀j y a id b,l[j]? =some y->ev j=.row a id b->id=idOf j/\y.kd=.mem) (hinj:∀i j x y,l[i]? =some x->l[j]? =some y->x.kd=.mem->y.kd=.mem->idOf i=idOf j->i=j)
  {E':Ag} {v:Value} {w':World} (hc:Ac E' q v) (hs:E.sub E') (r1:∀id,Et E0 l idOf (plus S i) id->E'.φ id=none/\¬(K'.next<=id/\id<K'.hi)) (r2:∀id,K'.next<=id->id<K'.hi->E'.φ id=none)
  (r3:∀id k,H.get id=some k->G1.get id=none->K'.get id=none)
  (r4:∀(nx hi:Nat) (res'':Nat->Prop),(∀id,nx<=id->id<hi->E'.φ id=none/\¬res'' id)->(∀id,res'' id->E'.φ id=none)->(∀id,E.vd id->res'' id)->
    ∃H':AHeap,H'.next=nx/\H'.hi=hi/\As B pr (E'.re res'' E.bim E.vd) H' w'/\(∀id k,K'.get id=some k->H'.get id=some k)/\(∀id k,H.get id=some k->G1.get id=none->H'.get id=some k)):
  I8 P B pr N E0 D Af.toList l ev T0 idOf Gs (plus S i) (a.put x.o.dst v) w':=by
 obtain ⟨H',g1,g2,g3,g4,g5⟩:=r4 K'.next K'.hi (Et E0 l idOf (plus S i)) (λid e1 e2=>⟨r2 id e1 e2,λh=>(r1 id h).2 ⟨e1,e2⟩⟩) (λid h=>(r1 id h).1) inv.vdR;obtain ⟨c1,c2⟩:=To hP hcl hx hS hb hw;refine ⟨_,K',H',inv.next hP hcl hx hS hu (by rw [he];rfl) hs hc g3 (by grind) g1 g2 g4 ?_⟩;intro j y q' id b hy hej hj hkk;have hji:j≠i:=by grind
 have hbi:AW x.bef j=false:=hkk i x q hx (by simp [plus]) he;obtain ⟨e1,e2⟩:=inv.row j y q' id b hy hej (by grind [plus]) λk y' q' h3 h4 h5=>hkk k y' q' h3 (by grind [plus]) h5;have hG1:G1.get id=none:=by
  cases hk:G1.get id with
  |none=>rfl
  |some k=>rcases ht.row id k hk with h|⟨j',y',q2,f1,f2,f3,f4⟩<;>grind
 grind
def lh (hcall:Cj P call) {K:AHeap} {R:Tm} {f:FuncId} {ag:List AV} {fr:A5} {o:Oper} {Q:Exit->Act->World->Prop} {C:Act->World->Prop} {res':Nat->Prop} (hr:As B pr E H w) (ht:Bf E N R a.tmps)
  (hK:∀id k,K.get id=some k->H.get id=some k) (hvd:∀id,E.vd id->res' id) (hres:∀id,res' id->E.φ id=none) (hrng:∀id,K.next<=id->id<K.hi->E.φ id=none/\¬res' id)
  (hrun:(A3 P o).run R K=some (.call f ag)) (hc:call f ag K=some fr)
  (hfin:∀(E':Ag) (q:AV) (K':AHeap) (v:Value) (w':World),(fr=.ret q K'\/fr=.pan q K')->Ac E' q v->E.sub E'->(∀id,res' id->E'.φ id=none/\¬(K'.next<=id/\id<K'.hi))->(∀id,K'.next<=id->id<K'.hi->E'.φ id=none)->
    (∀id k,H.get id=some k->K.get id=none->K'.get id=none)->
    (∀(nx hi:Nat) (res'':Nat->Prop),(∀id,nx<=id->id<hi->E'.φ id=none/\¬res'' id)->(∀id,res'' id->E'.φ id=none)->(∀id,E.vd id->res'' id)->
      ∃H':AHeap,H'.next=nx/\H'.hi=hi/\As B pr (E'.re res'' E.bim E.vd) H' w'/\(∀id k,K'.get id=some k->H'.get id=some k)/\(∀id k,H.get id=some k->K.get id=none->H'.get id=some k))->
    match fr with
    | .ret _ _=>C (a.put o.dst v) w'
    | .pan _ _=>Q (.panic [{ v:=v,recovered:=false }]) a w'):o.wp P a w C Q:=by
 obtain ⟨pr',hf1,hf2⟩:=hr.frame hK res' hvd hres hrng;have ht':Bf (E.re res' E.imm λid=>E.vd id/\K.get id≠none) N R a.tmps:=⟨ht.size,ht.le,λt h=>(ht.con t h).sub (Ag.sub_re _ _ _ _),ht.gl.sub (Ag.sub_re _ _ _ _)⟩;obtain ⟨vs,h1,h2⟩:=Ej hrun hf1 ht';unfold Oper.wp;rw [h1];refine Calls.mono (hcall f ag K fr hc w pr' _ w vs ht'.gl hf1 h2) λe w' he=>?_;obtain ⟨E',h3,h4⟩:=he;cases fr with
 |ret q K'=>obtain ⟨v,rfl,h5,h6⟩:=h4;obtain ⟨f1,f2,f3,f4,f5⟩:=hf2 E' K' w' h3 h6;exact hfin E' q K' v w' (.inl rfl) h5 f3 (λid hid=>⟨f1 id hid,(h6.resv id (by rw [h3.2.1];exact hid)).2⟩) f2 f4 f5
 |pan q K'=>obtain ⟨v,rfl,h5,h6⟩:=h4;obtain ⟨f1,f2,f3,f4,f5⟩:=hf2 E' K' w' h3 h6;exact hfin E' q K' v w' (.inr rfl) h5 f3 (λid hid=>⟨f1 id hid,(h6.resv id (by rw [h3.2.1];exact hid)).2⟩) f2 f4 f5
def zu (hcall:Cj P call) {R:Tm} {Q:Exit->Act->World->Prop} (inv:Cm P B pr N E0 D Af.toList l ev T0 idOf Gs S a w E G H) (hP:AG Af.toList l) (hN:N<=512) (hcl:Cl l ev S) (hx:l[i]? =some x) (hS:S i=false)
  (hb:∀j,AW x.bef j=true->S j=true) {u:Tm->AV->Tm} (hu:CN N x.o.dst=.mk u) (hR:∀t,t<512->Ao R t=.opq\/(t∈x.rd/\Sl l ev T0 (λj=>decide (j<i)) t (Ao R t)))
  {q:AV} (he:ev i=.step q) (hg:CR Af.toList x R=some true) (hw:BX x.kd=true) {G' G1 K':AHeap} (hgs:Gs[Dr Af.toList i]? =some G') (htk:Di l ev i x G' G1) (h2:Gs[Dr Af.toList i+1]? =some K')
  (hrow:∀j y a id b,l[j]? =some y->ev j=.row a id b->id=idOf j/\y.kd=.mem) (hinj:∀i j x y,l[i]? =some x->l[j]? =some y->x.kd=.mem->y.kd=.mem->idOf i=idOf j->i=j)
  (hF:∀j y q,l[j]? =some y->ev j=.step q->BX y.kd=true)
  (hrun:(A3 P x.o).run R G1=some (.val q K')\/∃f ag,(A3 P x.o).run R G1=some (.call f ag)/\call f ag G1=some (.ret q K')):
  wpOp P Af Q i (I8 P B pr N E0 D Af.toList l ev T0 idOf Gs (plus S i)) a w:=by
 have ht:=inv.trel hP hN hcl hx hS hb hR;obtain ⟨c1,c2⟩:=To hP hcl hx hS hb hw;rw [c1,inv.g]at hgs;cases hgs;have hK:=iq inv hP hcl hx hS hb hF hw htk;have hsub:∀id,Et E0 l idOf (plus S i) id->E.res id:=λid h=>by rw [inv.res];exact TR id h
 have hres:∀id,Et E0 l idOf (plus S i) id->E.φ id=none:=λid h=>(inv.r.resv id (hsub id h)).1;have hrng:∀id,G1.next<=id->id<G1.hi->E.φ id=none/\¬Et E0 l idOf (plus S i) id:=λid e1 e2=>by rw [htk.next,←inv.nx]at e1;rw [htk.hi,←inv.hi]at e2;exact ⟨inv.r.fresh id e1 e2,λh=>(inv.r.resv id (hsub id h)).2 ⟨e1,e2⟩⟩
 refine LG (FU hP hx) (JW ht hg) ?_;rcases hrun with hrun|⟨f,ag,hrun,hc⟩;exact Vm inv.r ht hK inv.vdR hres hrng hrun λE' v w' hc hs r1 r2 r3 r4=>lN inv hP hcl hx hS hb hu he hw htk h2 hrow hinj hc hs r1 r2 r3 r4;refine lh hcall inv.r ht hK inv.vdR hres hrng hrun hc λE' q' K'' v w' hfr hcon hs r1 r2 r3 r4=>?_;rcases hfr with hfr|hfr;cases hfr;exact lN inv hP hcl hx hS hb hu he hw htk h2 hrow hinj hcon hs r1 r2 r3 r4;cases hfr
def zi (inv:Cm P B pr N E0 D Af.toList l ev T0 idOf Gs S a w E G H) (hN:N<=512) {T':Tm} (hT:∀t,t<512->Ao T' t=.opq\/(Ao T' t=Ao T0 t/\∀(j:Nat) (y:SI),l[j]? =some y->y.o.dst≠some t)):Bf E N T' a.tmps:=by
 refine ⟨inv.size,hN,λt ht=>?_,inv.gl.sub inv.sub⟩;rcases hT t ht with h|⟨h1,h2⟩;rw [h];simp [Ac]
 .obtain ⟨q,h3,h4⟩:=inv.slot t ht;rcases h3 with ⟨h5,_⟩|⟨j,y,h5,_,h6,_⟩<;>grind
def ri (hcall:Cj P call) {R:Tm} (inv:Cm P B pr N E0 D Af.toList l ev T0 idOf Gs S a w E G H) (hP:AG Af.toList l) (hN:N<=512) (hcl:Cl l ev S) (hx:l[i]? =some x) (hS:S i=false)
  (hb:∀j,AW x.bef j=true->S j=true) (hR:∀t,t<512->Ao R t=.opq\/(t∈x.rd/\Sl l ev T0 (λj=>decide (j<i)) t (Ao R t)))
  (hg:CR Af.toList x R=some true) (hw:BX x.kd=true) {G' G1 K':AHeap} (hgs:Gs[Dr Af.toList i]? =some G') (htk:Di l ev i x G' G1)
  (hF:∀j y q,l[j]? =some y->ev j=.step q->BX y.kd=true) {T':Tm} (hT:∀t,t<512->Ao T' t=.opq\/(Ao T' t=Ao T0 t/\∀(j:Nat) (y:SI),l[j]? =some y->y.o.dst≠some t)) {v:AV}
  (hrun:((A3 P x.o).run R G1=some (.pan v)/\K'=G1)\/∃f ag,(A3 P x.o).run R G1=some (.call f ag)/\call f ag G1=some (.pan v K')) (C:Act->World->Prop):
  wpOp P Af (BJ P B pr N E0 (.pan v T' K' D)) i C a w:=by
 have ht:=inv.trel hP hN hcl hx hS hb hR;obtain ⟨c1,c2⟩:=To hP hcl hx hS hb hw;rw [c1,inv.g]at hgs;cases hgs;have hK:=iq inv hP hcl hx hS hb hF hw htk;have h0:∀id,E0.res id->E.res id:=λid h=>by rw [inv.res];exact .inl h
 have hbl:=zi inv hN hT;refine LG (FU hP hx) (JW ht hg) ?_;rcases hrun with ⟨hrun,rfl⟩|⟨f,ag,hrun,hc⟩;obtain ⟨u,h1,h2⟩:=Ej hrun (inv.r.forget (H':=K') hK (by rw [htk.next,inv.nx];grind) (by rw [htk.hi,inv.hi];grind)) ht;unfold Oper.wp;rw [h1];have hs:=Ag.sub_withRes E E0.res;refine ⟨E.withRes E0.res,⟨Ag.sub_trans inv.sub hs,rfl,inv.bim,inv.vd⟩,u,rfl,h2.sub hs,⟨hbl.size,hbl.le,λt h=>(hbl.con t h).sub hs,hbl.gl.sub hs⟩,?_,inv.dfs.sub (Ag.sub_trans inv.sub hs)⟩;refine (inv.r.reres (λid h=>inv.r.resv id (h0 id h)) (λid h=>inv.vd0 id (by rw [←inv.vd];exact h))).forget hK (by rw [htk.next,inv.nx];grind) (by rw [htk.hi,inv.hi];grind)
 .have hres:∀id,E0.res id->E.φ id=none:=λid h=>(inv.r.resv id (h0 id h)).1;have hrng:∀id,G1.next<=id->id<G1.hi->E.φ id=none/\¬E0.res id:=λid e1 e2=>(by rw [htk.next,←inv.nx]at e1;rw [htk.hi,←inv.hi]at e2;exact ⟨inv.r.fresh id e1 e2,λh=>(inv.r.resv id (h0 id h)).2 ⟨e1,e2⟩⟩);refine lh hcall inv.r ht hK (λid h=>inv.vd0 id (by rw [←inv.vd];exact h)) hres hrng hrun hc λE' q' K'' u w' hfr hcon hs r1 r2 r3 r4=>?_;rcases hfr with hfr|hfr;cases hfr
  .cases hfr;obtain ⟨H',g1,g2,g3,g4,g5⟩:=r4 K'.next K'.hi E0.res (λid e1 e2=>⟨r2 id e1 e2,λh=>(r1 id h).2 ⟨e1,e2⟩⟩) (λid h=>(r1 id h).1) (λid h=>inv.vd0 id (by rw [←inv.vd];exact h));have hs':=Ag.sub_trans hs (Ag.sub_re E' E0.res E.bim E.vd);exact ⟨E'.re E0.res E.bim E.vd,⟨Ag.sub_trans inv.sub hs',rfl,inv.bim,inv.vd⟩,u,rfl,hcon.sub (Ag.sub_re _ _ _ _),⟨hbl.size,hbl.le,λt h=>(hbl.con t h).sub hs',hbl.gl.sub hs'⟩,
    g3.forget g4 (by grind) (by grind),inv.dfs.sub (Ag.sub_trans inv.sub hs')⟩
end
end Go.Sx
namespace Go.Sx
variable [Gl]
section
variable {P:Program} {call:AL} {N:Nat} {B:World} {pr:Nat->Prop} {E0:Ag} {D:Bj} {Af:Array Oper} {l:List SI} {ev:Nat->Cr} {T0:Tm} {idOf:Nat->Nat} {Gs:List AHeap}
 {dd:Option (Nat×AV×AHeap)} {S:Nat->Bool} {a:Act} {w:World} {i:Nat} {x:SI}
def Fc.stepWr (F:Fc P call N Af.toList l ev T0 idOf Gs dd) (j:Nat) (y:SI) (q:AV) (hy:l[j]? =some y) (he:ev j=.step q):BX y.kd=true:=by
 rcases F.each j y hy with ⟨h,_⟩|⟨u,R,_,_,h⟩
 .grind
 .rw [he]at h;cases h with
  |wr hg hk=>rw [hk];rfl
def rE (hcall:Cj P call) (hP:AG Af.toList l) (hN:N<=512) (F:Fc P call N Af.toList l ev T0 idOf Gs dd) (hcl:Cl l ev S) (inv:I8 P B pr N E0 D Af.toList l ev T0 idOf Gs S a w)
  (hx:l[i]? =some x) (hS:S i=false) (hb:∀j,AW x.bef j=true->S j=true) (h0:x.kd=.mem->¬E0.res (idOf i)) {T':Tm}
  (hT:∀t,t<512->Ao T' t=.opq\/(Ao T' t=Ao T0 t/\∀(j:Nat) (y:SI),l[j]? =some y->y.o.dst≠some t)) {r:A7} (hr:∀d v H',dd=some (d,v,H')->r=.pan v T' H' D):
  wpOp P Af (BJ P B pr N E0 r) i (λa w=>I8 P B pr N E0 D Af.toList l ev T0 idOf Gs (plus S i) a w/\Cl l ev (plus S i)) a w:=by
 obtain ⟨E,G,H,inv⟩:=inv;rcases F.each i x hx with ⟨_,d,v,H',hd,hbit⟩|⟨u,R,hu,hR,hdid⟩;exact absurd (F.dead d v H' hd) (hcl.ev d (hb d hbit)).2
 .have hplus:ev i≠ .gone->ev i≠ .die->Cl l ev (plus S i):=λh1 h2=>hcl.plus hx hb ⟨h1,h2⟩;generalize he:ev i=e at hdid;cases hdid with
  |off hg hw=>exact wpOp_mono (λa w h=>⟨h,hplus (by rw [he];simp) (by rw [he];simp)⟩) (bj inv hP hN hcl hx hS hb hu hR he hg hw)
  |pure hg hk h=>
   refine wpOp_mono (λa w h=>⟨h,hplus (by rw [he];simp) (by rw [he];simp)⟩) (YJ inv hP hN hcl hx hS hb hu hR he hg (by rw [hk];rfl) (K:=⟨AE,0,0⟩) (λid k hk=>?_) (λid _ h2=>absurd h2 (zd' _)) h)
   grind [AHeap.get_of_lt,OZ,AHeap.get_of_ge]
  |read hg hk h=>
   obtain ⟨c1,c2⟩:=xP hP hcl hx hS hb;exact wpOp_mono (λa w h=>⟨h,hplus (by rw [he];simp) (by rw [he];simp)⟩)
    (YJ inv hP hN hcl hx hS hb hu hR he hg (by rw [hk];rfl) (K:=G) inv.old (λid h1 h2=>⟨by rw [inv.nx];exact h1,by rw [inv.hi];exact h2⟩) (h _ G c1 c2 inv.g))
  |fl hg hk hy hj hbit hno hlater ht h=>
   rename_i q j id y c b;refine wpOp_mono (λa w h=>⟨h,hplus (by rw [he];simp) (by rw [he];simp)⟩) (YJ inv hP hN hcl hx hS hb hu hR he hg (by rw [hk];rfl) (K:=(⟨AE,0,0⟩:AHeap).set id b) (λid' k hk'=>?_) (λid' _ h2=>absurd h2 (zd' _)) h);by_cases e:id=id'
   .subst e;rw [AHeap.get_set_same _ ht]at hk';cases hk';refine (inv.row j y c id b hy hj (hb j hbit) λk y' q' g1 g2 g3=>?_).1;rcases zb' k i with hlt|rfl|hgt
    .grind
    .grind
    .cases hbk:AW y'.bef j with
     |false=>rfl
     |true=>
      have h1:=hlater k y' g1 hgt (F.stepWr k y' q' g1 g3) hbk;have:=hcl.bef k y' i g1 g2 h1
      grind
   grind [AHeap.get_set_ne,AHeap.get_of_lt,OZ,AHeap.get_of_ge]
  |mem hg hk h hrow=>exact wpOp_mono (λa w h=>⟨h,hplus (by rw [he];simp) (by rw [he];simp)⟩) (rz inv hP hN hcl hx hS hb hu hR he hg hk h hrow F.row F.inj (h0 hk))
  |wr hg hk h1 h2 ht h=>exact wpOp_mono (λa w h=>⟨h,hplus (by rw [he];simp) (by rw [he];simp)⟩) (zu hcall inv hP hN hcl hx hS hb hu hR he hg (by rw [hk];rfl) h1 ht h2 F.row F.inj F.stepWr h)
  |die hg hk h1 ht hd h=>rw [hr _ _ _ hd];exact ri hcall inv hP hN hcl hx hS hb hR hg (by rw [hk];rfl) h1 ht F.stepWr hT h _
omit [Gl]in
theorem Pb {listed:Array Bool} {i:Nat} (h:i<listed.size):(λj=>(listed.setIfInBounds i true).getD j false)=plus (λj=>listed.getD j false) i:=by
 funext j
 unfold plus;by_cases e:j=i<;>simp_all [Ne.symm]
omit [Gl]in
theorem VP {listed:Array Bool} {i:Nat} (h:i<listed.size) (hi:listed[i]=false):(listed.setIfInBounds i true).toList.countP (· ==false)+1=listed.toList.countP (· ==false):=by
 grind
def fQ (hcall:Cj P call) (hP:AG Af.toList l) (hN:N<=512) (F:Fc P call N Af.toList l ev T0 idOf Gs dd) (h0:∀(i:Nat) (x:SI),l[i]? =some x->x.kd=.mem->¬E0.res (idOf i)) {T':Tm}
  (hT:∀t,t<512->Ao T' t=.opq\/(Ao T' t=Ao T0 t/\∀(j:Nat) (y:SI),l[j]? =some y->y.o.dst≠some t)) {r:A7} (hr:∀d v H',dd=some (d,v,H')->r=.pan v T' H' D)
  (hend:∀(S:Nat->Bool) (a:Act) (w:World),I8 P B pr N E0 D Af.toList l ev T0 idOf Gs S a w->Cl l ev S->(∀j,j<l.length->S j=true)->BJ P B pr N E0 r .normal a w):
  ∀(fuel:Nat) (listed:Array Bool) (a:Act) (w:World),listed.size=Af.size->listed.toList.countP (· ==false)<=fuel->Cl l ev (λj=>listed.getD j false)->
   I8 P B pr N E0 D Af.toList l ev T0 idOf Gs (λj=>listed.getD j false) a w->wpAny P .any Af (BJ P B pr N E0 r) fuel listed a w:=by
 have hlen:l.length=Af.size:=by rw [hP.len];simp
 have hall:∀(listed:Array Bool),listed.size=Af.size->Region.ready .any Af listed=[]->∀j,j<l.length->listed.getD j false=true:=by
  intro listed hs hrd j
  induction j using Nat.strongRecOn with
  |_ j ih=>
   intro hj;cases hg:listed.getD j false with
   |true=>rfl
   |false=>
    have hx:l[j]? =some l[j]:=(by simp [hj]);have:j∈Region.ready .any Af listed:=by
     rw [mem_ready];refine ⟨?_,l[j].o,FU hP hx,λe he hb=>?_⟩
     .grind
     .have:=hP.lt j l[j] e hx he hb
      grind
    grind
 intro fuel
 induction fuel with
 |zero=>
  intro listed a w hs hc hcl inv;have hrd:Region.ready .any Af listed=[]:=by
   rw [List.eq_nil_iff_forall_not_mem];intro j hj;obtain ⟨h1,o,h2,_⟩:=mem_ready.1 hj;have hlt:j<listed.size:=(by grind);have hg:listed[j]=false:=by simpa [hlt]using h1
   grind [VP]
  exact ⟨hrd,hend _ a w inv hcl (hall listed hs hrd)⟩
 |succ fuel ih=>
  intro listed a w hs hc hcl inv;refine ⟨λhrd=>hend _ a w inv hcl (hall listed hs hrd),λi hi=>?_⟩;obtain ⟨h1,o,h2,h3⟩:=mem_ready.1 hi;have hlt:i<listed.size:=(by grind);have hg:listed[i]=false:=(by simpa [hlt]using h1);have hx:l[i]? =some l[i]:=(by grind);have ho:l[i].o=o:=(by grind [FU]);refine wpOp_mono (λa w h=>?_) (rE hcall hP hN F hcl inv hx (by grind) (λj hj=>?_) (h0 i _ hx) hT hr)
  .grind [Pb]
  obtain ⟨e,he,hb,hj⟩:=(hP.bef i _ j hx).1 hj;have hon:=h3 e (by grind) hb;rcases hj with rfl|⟨y,hy,hj⟩;exact hon;exact hcl.bef e.on y j hy hon hj
end
end Go.Sx
namespace Go.Sx
theorem fV:∀(l:List AHeap) (n:Nat),UP l n=l[n]?
 |[],n=>by cases n<;>rfl
 |a::r,0=>rfl
 |a::r,n+1=>by simp [UP,fV r n]
theorem Hw (x:AHeap):∀l:List AHeap,OL l x=l++[x]
 |[]=>rfl
 |a::r=>by simp [OL,Hw x r]
theorem Wa:∀l:List AHeap,LX l=l[l.length-1]?
 |[]=>rfl
 |[a]=>rfl
 |a::b::r=>by have ih:=Wa (b::r);unfold LX;simp only;rw [ih];simp
theorem iG:∀(n:Nat) (l:List AHeap),Uf n l=l.drop n
 |0,l=>rfl
 |n+1,[]=>rfl
 |n+1,a::r=>by simp [Uf,iG n r]
mutual
theorem Dz:∀{a b:AV},CG a b=true->a=b
 | .bool a,.bool b,h=>by grind [CG]
 | .int k a,.int k' b,h=>by obtain ⟨h1,h2⟩:=Au h;rw [Lf]at h2;rw [jz h1,AU (p:=a=b) (by grind)]
 | .flt k a,.flt k' b,h=>by simp_all [CG]
 | .nan k,.nan k',h=>by simp_all [CG]
 | .str a,.str b,h=>by simp_all [CG,JZ]
 | .nptr,.nptr,h=>rfl
 | .vptr a,.vptr b,h=>by simp only [CG]at h;rw [Fv h]
 | .vsl a b c,.vsl a' b' c',h=>by simp only [CG]at h;obtain ⟨h,h3⟩:=Au h;obtain ⟨h1,h2⟩:=Au h;rw [AF h1,AF h2,Fv h3]
 | .ptr a b,.ptr c d,h=>by simp_all [CG]
 | .nsl,.nsl,h=>rfl
 | .sl a b c d e,.sl a' b' c' d' e',h=>by simp only [CG]at h;simp_all
 | .nmap,.nmap,h=>rfl
 | .map a,.map b,h=>by grind [CG,zh']
 | .nfn,.nfn,h=>rfl
 | .fn f a,.fn g b,h=>by obtain ⟨h1,h2⟩:=Au h;rw [AF h1,Fv h2]
 | .nif,.nif,h=>rfl
 | .iface t a,.iface u b,h=>by obtain ⟨h1,h2⟩:=Au h;rw [AF h1,Dz h2]
 | .agg a,.agg b,h=>by simp only [CG]at h;rw [Fv h]
 | .tup a,.tup b,h=>by simp only [CG]at h;rw [Fv h]
 | .sym a,.sym b,h=>by grind [CG,zh']
 | .slx a b c,.slx a' b' c',h=>by simp_all [CG]
 | .ptx a b c d,.ptx a' b' c' d',h=>by simp only [CG]at h;simp_all
theorem Fv:∀{a b:List AV},Ek a b=true->a=b
 |[],[],h=>rfl
 |a::r,b::s,h=>by obtain ⟨h1,h2⟩:=Au h;rw [Dz h1,Fv h2]
 |[],_::_,h=>by simp [Ek]at h
 |_::_,[],h=>by simp [Ek]at h
end
theorem K2 (t:Nat):Ao AP t=.opq:=by
 grind [Ou,AP,Q8.at_all]
theorem YI (T:Tm):∀(rd:List Nat) (R:Tm),(∀t,t<512->Ao R t=.opq\/(t∈rd/\Ao R t=Ao T t)\/Ao R t=Ao T t)->∀t,t<512->
  Ao (BR T rd R) t=.opq\/Ao (BR T rd R) t=Ao T t
 |[],R,h,t,ht=>by rcases h t ht with h|⟨_,h⟩|h;exact .inl h;exact .inr h;exact .inr h
 |d::r,R,h,t,ht=>by
  unfold BR;split
  .rename_i hb;have hd:d<512:=(by simp_all);refine YI T r _ (λt ht=>?_) t ht;by_cases e:d=t
   .subst e;rw [GD R hd];grind
   grind [Fm]
  refine YI T r _ (λt ht=>?_) t ht;rcases h t ht with h|⟨_,h⟩|h;exact .inl h;exact .inr (.inr h);exact .inr (.inr h)
theorem aF (T:Tm):∀(rd:List Nat) (R:Tm) (t:Nat),t<512->t∉rd->Ao (BR T rd R) t=Ao R t
 |[],R,t,ht,hn=>rfl
 |d::r,R,t,ht,hn=>by unfold BR;have hne:d≠t:=λe=>hn (by rw [e];exact zc' ..);have hr:t∉r:=λh=>hn (za' _ h);split;rename_i hb;have hd:d<512:=(by simpa [Nat.blt_eq]using hb);rw [aF T r _ t ht hr,Fm R ht hd hne];exact aF T r _ t ht hr
def ww (T:Tm) (rd:List Nat) (t:Nat) (ht:t<512):Ao (BR T rd AP) t=.opq\/(t∈rd/\Ao (BR T rd AP) t=Ao T t):=by
 grind [YI,K2,aF]
def O7 {N:Nat} {dst:Option Nat} {u:Tm->AV->Tm} (hu:CN N dst=.mk u) (T:Tm) (a:AV) {t:Nat} (ht:t<512):
  (dst=some t->Ao (u T a) t=a)/\(dst≠some t->Ao (u T a) t=Ao T t):=by
 unfold CN at hu;split at hu
 .grind
 rename_i d;split at hu;rename_i hb;cases hu;have hd:d<512:=(by simp_all);refine ⟨λh=>?_,λh=>?_⟩;cases h;exact GD T hd a;exact Fm T ht hd (λe=>h (by rw [e])) a;cases hu
def n9 {N:Nat}:∀(l:List SI) (T T':Tm),ST N l T=some T'->∀t,t<512->Ao T' t=.opq\/(Ao T' t=Ao T t/\∀(j:Nat) (y:SI),l[j]? =some y->y.o.dst≠some t)
 |[],T,T',h,t,ht=>by cases h;grind
 |x::r,T,T',h,t,ht=>by
  unfold ST at h;split at h
  .rename_i u hu;have ih:=n9 r _ _ h t ht;obtain ⟨p1,p2⟩:=O7 hu T .opq ht
   grind
  cases h
def Y5 (bef:Nat):∀(fl:List Fl) (G:AHeap),(∀f∈fl,f.id<Bb)->(IH bef fl G).next=G.next/\(IH bef fl G).hi=G.hi/\
  ∀id k,(IH bef fl G).get id=some k->G.get id=some k\/∃f∈fl,AW bef f.op=true/\f.id=id/\f.b=k
 |[],G,_=>⟨rfl,rfl,λid k h=>.inl h⟩
 |f::r,G,ht=>by
  unfold IH;split
  .rename_i hb;obtain ⟨h1,h2,h3⟩:=Y5 bef r (G.set f.id f.b) λg hg=>ht g (za' _ hg);refine ⟨h1,h2,λid k hk=>?_⟩;rcases h3 id k hk with h|⟨g,hg,h⟩
   .by_cases e:f.id=id
    .subst e;rw [AHeap.get_set_same G (ht f (List.mem_cons_self ..))]at h
     grind
    grind [AHeap.get_set_ne]
   grind
  obtain ⟨h1,h2,h3⟩:=Y5 bef r G λg hg=>ht g (za' _ hg);refine ⟨h1,h2,λid k hk=>?_⟩;rcases h3 id k hk with h|⟨g,hg,h⟩;exact .inl h;exact .inr ⟨g,za' _ hg,h⟩
def NW (bef:Nat):∀(fl:List Fl) (f:Fl),f∈LZ bef fl->f∈fl/\AW bef f.op=false
 |[],f,h=>by simp [LZ]at h
 |g::r,f,h=>by unfold LZ at h;split at h;obtain ⟨h1,h2⟩:=NW bef r f h;exact ⟨za' _ h1,h2⟩;rename_i hb;rcases List.mem_cons.1 h with rfl|h;exact ⟨zc' ..,by simpa using hb⟩;obtain ⟨h1,h2⟩:=NW bef r f h;exact ⟨za' _ h1,h2⟩
def jL:∀(fl:List Fl) (G:AHeap),(∀f∈fl,f.id<Bb)->(MM fl G).next=G.next/\(MM fl G).hi=G.hi/\
  ∀id k,(MM fl G).get id=some k->G.get id=some k\/∃f∈fl,f.id=id/\f.b=k
 |[],G,_=>⟨rfl,rfl,λid k h=>.inl h⟩
 |f::r,G,ht=>by
  obtain ⟨h1,h2,h3⟩:=jL r (G.set f.id f.b) λg hg=>ht g (za' _ hg);refine ⟨h1,h2,λid k hk=>?_⟩;rcases h3 id k hk with h|⟨g,hg,h⟩
  .by_cases e:f.id=id
   .subst e;rw [AHeap.get_set_same G (ht f (List.mem_cons_self ..))]at h
    grind
   grind [AHeap.get_set_ne]
  grind
def il {c:OC} {T:Tm} {a:AV}:∀(n:Nat) (l:List AHeap),Tb c T a n l=true->∀m G,m<n->l[m]? =some G->Ev c T G=some a
 |0,l,h,m,G,hm,hg=>by omega
 |n+1,[],h,m,G,hm,hg=>by simp at hg
 |n+1,H::r,h,m,G,hm,hg=>by
  unfold Tb at h;split at h
  .rename_i a' ha;obtain ⟨h1,h2⟩:=Au h;cases m with
   |zero=>simp at hg;subst hg;rw [ha,Dz h1]
   |succ m=>exact il n r h2 m G (by omega) (by simpa using hg)
  cases h
def oY [Gl] {P:Program} {Gs:List AHeap}:∀(rd:List Rd),T6 P Gs rd=true->∀x∈rd,∀m G,x.lo<m->m<=x.hi->Gs[m]? =some G->Ev (A3 P x.o) x.T G=some x.a
 |[],h,x,hx=>by simp at hx
 |y::r,h,x,hx=>by
  obtain ⟨h1,h2⟩:=Au h;rcases List.mem_cons.1 hx with rfl|hx
  .intro m G g1 g2 g3;refine il _ _ h1 (m-(x.lo+1)) G ?_ ?_<;>grind [iG]
  exact oY r h2 x hx
theorem Ro:∀(l:List SI) (i:Nat) (x:SI),l[i]? =some x->Fj (l.take (i+1))=Fj (l.take i)+(match x.kd with| .mem=>1|_=>0)
 |[],i,x,h=>by simp at h
 |y::r,0,x,h=>by
  grind [Fj]
 |y::r,i+1,x,h=>by have ih:=Ro r i x (by simpa using h);simp only [List.take_succ_cons,Fj];rw [ih];cases y.kd<;>simp only [Nat.succ_eq_add_one]<;>omega
theorem au:∀(l:List SI) (i:Nat),Fj (l.take i)<=Fj l
 |[],i=>by simp
 |y::r,0=>by simp [Fj]
 |y::r,i+1=>by have ih:=au r i;simp only [List.take_succ_cons,Fj];cases y.kd<;>simp only [Nat.succ_eq_add_one]<;>omega
def cj (l:List SI) {i j:Nat} (h:i<=j):Fj (l.take i)<=Fj (l.take j):=by
 have:=au (l.take j) i
 grind
def DW (l:List SI) (base j:Nat):Nat:=base+Fj (l.take j)
def nP_ {l:List SI} {base i j:Nat} {x y:SI} (hx:l[i]? =some x) (hy:l[j]? =some y) (kx:x.kd=.mem) (ky:y.kd=.mem) (h:DW l base i=DW l base j):i=j:=by unfold DW at h;have h1:=Ro l i x hx;have h2:=Ro l j y hy;rw [kx]at h1;rw [ky]at h2;simp only at h1 h2;rcases zb' i j with hlt|he|hgt;have:=cj l (show i+1<=j by omega);omega;exact he;have:=cj l (show j+1<=i by omega);omega
def AG.bef_lt {Af:List Oper} {l:List SI} (hP:AG Af l):∀(i:Nat) (x:SI) (j:Nat),l[i]? =some x->AW x.bef j=true->j<i:=by
 intro i
 induction i using Nat.strongRecOn with
 |_ i ih=>
  intro x j hx hb;obtain ⟨e,he,hbe,hj⟩:=(hP.bef i x j hx).1 hb;have hlt:=hP.lt i x e hx he hbe
  grind
def sn_ {Af:List Oper} {l:List SI} (hP:AG Af l) {i:Nat} {x:SI} (hx:l[i]? =some x):Dr Af (i+1)=Dr Af i+(match BX x.kd with|true=>1|false=>0):=by
 have hpl:(λj=>decide (j<i+1))=plus (λj=>decide (j<i)) i:=by
  unfold plus
  grind
 unfold Dr;rw [hpl];cases hw:BX x.kd with
 |true=>
  have:=Ye (S:=λj=>decide (j<i)) Af 0 i x.o (hP.op i x hx) (by rw [←hP.kd i x hx];exact hw) (by simp)
  grind
 |false=>exact Ts hP hx hw
variable [Gl]
inductive Dg (P:Program) (call:AL) (Af:List Oper) (l:List SI) (ev:Nat->Cr) (idOf:Nat->Nat) (Gs:List AHeap) (rd:List Rd) (dd:Option (Nat×AV×AHeap)) (i:Nat) (x:SI) (R:Tm):Cr->Prop
 |off (hg:CR Af x R=some false) (hw:BX x.kd=true->∃G,Gs[Dr Af i]? =some G/\Gs[Dr Af i+1]? =some G):Dg P call Af l ev idOf Gs rd dd i x R .off
 |pure {a:AV} (hg:CR Af x R=some true) (hk:x.kd=.pure) (h:Ev (A3 P x.o) R ⟨AE,0,0⟩=some a):Dg P call Af l ev idOf Gs rd dd i x R (.val a)
 |read {a:AV} {G:AHeap} (hg:CR Af x R=some true) (hk:x.kd=.read) (h1:Gs[x.lo]? =some G) (h:Ev (A3 P x.o) R G=some a) (hr:Rd.mk R x.o a x.lo x.hi∈rd):Dg P call Af l ev idOf Gs rd dd i x R (.val a)
 |fl {a:AV} {j id:Nat} {y:SI} {c:AV} {b:A2} (hg:CR Af x R=some true) (hk:x.kd=.read) (hy:l[j]? =some y) (hj:ev j=.row c id b) (hbit:AW x.bef j=true)
   (hno:∀(k:Nat) (y':SI) (a':AV),l[k]? =some y'->k<i->ev k=.step a'->AW y'.bef j=false) (hlater:∀(k:Nat) (y':SI),l[k]? =some y'->i<k->BX y'.kd=true->AW y'.bef j=true->AW y'.bef i=true)
   (ht:id<Bb) (h:Ev (A3 P x.o) R ((⟨AE,0,0⟩:AHeap).set id b)=some a):Dg P call Af l ev idOf Gs rd dd i x R (.val a)
 |mem {a:AV} {b:A2} {H':AHeap} (hg:CR Af x R=some true) (hk:x.kd=.mem) (h:(A3 P x.o).run R ⟨AE,idOf i,Nat.succ (idOf i)⟩=some (.val a H')) (hb:H'.get (idOf i)=some b):
   Dg P call Af l ev idOf Gs rd dd i x R (.row a (idOf i) b)
 |wr {a:AV} {G G1 H':AHeap} (hg:CR Af x R=some true) (hk:x.kd=.wr) (h1:Gs[Dr Af i]? =some G) (h2:Gs[Dr Af i+1]? =some H') (ht:Di l ev i x G G1)
   (h:(A3 P x.o).run R G1=some (.val a H')\/∃f ag,(A3 P x.o).run R G1=some (.call f ag)/\call f ag G1=some (.ret a H')):Dg P call Af l ev idOf Gs rd dd i x R (.step a)
 |die {v:AV} {G G1 H':AHeap} (hg:CR Af x R=some true) (hk:x.kd=.wr) (h1:Gs[Dr Af i]? =some G) (ht:Di l ev i x G G1) (hd:dd=some (i,v,H'))
   (h:((A3 P x.o).run R G1=some (.pan v)/\H'=G1)\/∃f ag,(A3 P x.o).run R G1=some (.call f ag)/\call f ag G1=some (.pan v H')):Dg P call Af l ev idOf Gs rd dd i x R .die
omit [Gl]in
theorem getElem?_app {α:Type} {l:List α} {m:Nat} {a:α} (h:l[m]? =some a) (r:List α):(l++r)[m]? =some a:=by
 grind
section
variable {P:Program} {call:AL} {N:Nat} {Af:List Oper} {l:List SI} {T0:Tm} {base:Nat}
omit [Gl]in
def Di.congr {ev ev':Nat->Cr} {i:Nat} {x:SI} {G G1:AHeap} (h:Di l ev i x G G1) (hb:∀j,AW x.bef j=true->j<i) (he:∀j,j<i->ev' j=ev j):Di l ev' i x G G1 where
 next:=h.next
 hi:=h.hi
 row:=λid k hk=>by rcases h.row id k hk with h|⟨j,y,a,h1,h2,h3,h4⟩<;>grind
theorem Dg.mono {ev ev':Nat->Cr} {idOf:Nat->Nat} {Gs gs:List AHeap} {rd rd':List Rd} {dd dd':Option (Nat×AV×AHeap)} {i:Nat} {x:SI} {R:Tm} {e:Cr} (h:Dg P call Af l ev idOf Gs rd dd i x R e)
  (hb:∀j,AW x.bef j=true->j<i) (he:∀j,j<i->ev' j=ev j) (hr:∀r∈rd,r∈rd') (hd:∀d,dd=some d->dd'=some d):Dg P call Af l ev' idOf (Gs++gs) rd' dd' i x R e:=by
 cases h with
 |off hg hw=>exact .off hg λh=>by grind
 |pure hg hk h=>exact .pure hg hk h
 |read hg hk h1 h hr'=>exact .read hg hk (getElem?_app h1 _) h (hr _ hr')
 |fl hg hk hy hj hbit hno hlater ht h=>exact .fl hg hk hy (by rw [he _ (hb _ hbit)];exact hj) hbit (λk y' a' g1 g2 g3=>hno k y' a' g1 g2 (by grind)) hlater ht h
 |mem hg hk h hb=>exact .mem hg hk h hb
 |wr hg hk h1 h2 ht h=>exact .wr hg hk (getElem?_app h1 _) (getElem?_app h2 _) (ht.congr hb he) h
 |die hg hk h1 ht hd' h=>exact .die hg hk (getElem?_app h1 _) (ht.congr hb he) (hd _ hd') h
structure Cz (P:Program) (call:AL) (N:Nat) (Af:List Oper) (l:List SI) (T0:Tm) (base i:Nat) (ev:Nat->Cr) (s:DS):Prop where
 slot:∀t,t<512->Sl l ev T0 (λj=>decide (j<i)) t (Ao s.T t)
 gs:s.dead=none->s.Gs.length=Dr Af i+1
 gsd:∀d v H,s.dead=some (d,v,H)->ev d=.die/\d<i/\∃y,l[d]? =some y/\BX y.kd=true
 fl:∀f∈s.fl,∃y a,l[f.op]? =some y/\f.op<i/\ev f.op=.row a f.id f.b/\∀k y' a',l[k]? =some y'->k<i->ev k=.step a'->AW y'.bef f.op=false
 each:∀(j:Nat) (x:SI),l[j]? =some x->j<i->(ev j=.gone/\∃d v H,s.dead=some (d,v,H)/\AW x.bef d=true)\/
  ∃u R,CN N x.o.dst=.mk u/\(∀t,t<512->Ao R t=.opq\/(t∈x.rd/\Sl l ev T0 (λk=>decide (k<j)) t (Ao R t)))/\Dg P call Af l ev (DW l base) s.Gs s.rd s.dead j x R (ev j)
 row:∀j y a id b,l[j]? =some y->j<i->ev j=.row a id b->id=DW l base j/\y.kd=.mem
 ft:∀f∈s.fl,f.id<Bb
omit [Gl]in
def Sl.ev_congr {ev ev':Nat->Cr} {S:Nat->Bool} {t:Nat} {a:AV} (h:Sl l ev T0 S t a) (he:∀j,S j=true->ev' j=ev j):Sl l ev' T0 S t a:=by rcases h with ⟨h1,h2⟩|⟨j,x,h1,h2,h3,h4,h5⟩;exact .inl ⟨h1,λj x hj hs hd=>by grind⟩;exact .inr ⟨j,x,h1,h2,h3,by grind,λj' x' hj hs hd hp=>h5 j' x' hj hs hd (by grind)⟩
def Cz.congr (hP:AG Af l) {i:Nat} {ev ev':Nat->Cr} {s:DS} (h:Cz P call N Af l T0 base i ev s) (he:∀j,j<i->ev' j=ev j):Cz P call N Af l T0 base i ev' s where
 slot:=λt ht=>(h.slot t ht).ev_congr λj hj=>he j (by grind)
 gs:=h.gs
 gsd:=λd v H hd=>by
  obtain ⟨h1,h2,h3⟩:=h.gsd d v H hd
  grind
 fl:=λf hf=>by
  obtain ⟨y,a,h1,h2,h3,h4⟩:=h.fl f hf
  grind
 each:=λj x hx hj=>by
  rcases h.each j x hx hj with ⟨h1,h2⟩|⟨u,R,h1,h2,h3⟩
  .grind
  .refine .inr ⟨u,R,h1,λt ht=>(h2 t ht).imp id λh=>⟨h.1,h.2.ev_congr λk hk=>he k (Nat.lt_trans (by grind) hj)⟩,?_⟩
   .have:=h3.mono (gs:=[]) (ev':=ev') (λk hk=>hP.bef_lt j x k hx hk) (λk hk=>he k (by omega)) (λr hr=>hr) (λd hd=>hd)
    grind
 row:=λj y a id b hy hj hr=>h.row j y a id b hy hj (by grind)
 ft:=h.ft
omit [Gl]in
theorem lf (i:Nat):(λj=>decide (j<i+1))=plus (λj=>decide (j<i)) i:=by
 unfold plus
 grind
def Cz.step (hP:AG Af l) {i:Nat} {ev:Nat->Cr} {s s':DS} {x:SI} (inv:Cz P call N Af l T0 base i ev s) (hx:l[i]? =some x) {gs:List AHeap}
  (hT:s'.T=s.T/\(ev i).put=none\/∃u a,CN N x.o.dst=.mk u/\(ev i).put=some a/\s'.T=u s.T a)
  (hGs:s'.Gs=s.Gs++gs) (hlen:s'.dead=none->gs.length=match BX x.kd with|true=>1|false=>0)
  (hdd:s'.dead=s.dead\/s.dead=none/\ev i=.die/\BX x.kd=true/\∃v H,s'.dead=some (i,v,H))
  (hrd:∀r∈s.rd,r∈s'.rd)
  (hfl:∀f∈s'.fl,(f∈s.fl/\∀a,ev i=.step a->AW x.bef f.op=false)\/(f.op=i/\x.kd=.mem/\∃a,ev i=.row a f.id f.b))
  (heach:(ev i=.gone/\∃d v H,s'.dead=some (d,v,H)/\AW x.bef d=true)\/
    ∃u R,CN N x.o.dst=.mk u/\(∀t,t<512->Ao R t=.opq\/(t∈x.rd/\Ao R t=Ao s.T t))/\Dg P call Af l ev (DW l base) s'.Gs s'.rd s'.dead i x R (ev i))
  (hrow:∀a id b,ev i=.row a id b->id=DW l base i/\x.kd=.mem) (hft:∀f∈s'.fl,f.id<Bb):
  Cz P call N Af l T0 base (i+1) ev s' where
 slot:=λt ht=>by
  have h:=inv.slot t ht;rw [lf];rcases hT with ⟨h1,h2⟩|⟨u,a,h1,h2,h3⟩;rw [h1];exact h.keep λy hy _=>h2
  .obtain ⟨p1,p2⟩:=O7 h1 s.T a ht;rw [h3];by_cases e:x.o.dst=some t
   .grind [Sl.put]
   .rw [p2 e];refine h.keep λy hy hd=>?_
    grind
 gs:=λhd=>by
  have hd0:s.dead=none:=by
   grind
  rw [hGs,List.length_append,inv.gs hd0,hlen hd,sn_ hP hx]
  grind
 gsd:=λd v H hd=>by
  rcases hdd with h|⟨h,h1,h2,v',H',h3⟩
  .rw [h]at hd;obtain ⟨g1,g2,g3⟩:=inv.gsd d v H hd
   grind
  grind
 fl:=λf hf=>by
  rcases hfl f hf with ⟨h1,h2⟩|⟨h1,hk,a,h2⟩
  .obtain ⟨y,a,g1,g2,g3,g4⟩:=inv.fl f h1
   grind
  .refine ⟨x,a,by grind,by omega,by grind,λk y' a' q1 q2 q3=>?_⟩;cases hb:AW y'.bef f.op with
   |false=>rfl
   |true=>
    have:=hP.bef_lt k y' _ q1 hb
    grind
 each:=λj y hy hj=>by
  by_cases e:j=i;subst e;rw [hx]at hy;cases hy;rcases heach with h|⟨u,R,h1,h2,h3⟩;exact .inl h;exact .inr ⟨u,R,h1,λt ht=>(h2 t ht).imp id λh=>⟨h.1,by rw [h.2];exact inv.slot t ht⟩,h3⟩
  .have hmono:∀d,s.dead=some d->s'.dead=some d:=λd hd=>by
     grind
   rcases inv.each j y hy (by omega)with ⟨h1,d,v,H,h2,h3⟩|⟨u,R,h1,h2,h3⟩
   .grind
   rw [hGs];exact .inr ⟨u,R,h1,h2,h3.mono (λk hk=>hP.bef_lt j y k hy hk) (λ_ _=>rfl) hrd hmono⟩
 row:=λj y a id b hy hj hr=>by
  by_cases e:j=i
  .grind
  exact inv.row j y a id b hy (by omega) hr
 ft:=hft
end
end Go.Sx
namespace Go.Sx
variable [Gl]
section
variable {P:Program} {call:AL} {N:Nat} {Af:List Oper} {l:List SI} {T0:Tm} {base:Nat} {i:Nat} {ev:Nat->Cr} {s:DS}
def Cz.last (inv:Cz P call N Af l T0 base i ev s) (hd:s.dead=none) {G:AHeap} (h:LX s.Gs=some G):s.Gs[Dr Af i]? =some G/\∀G',(s.Gs++[G'])[Dr Af i+1]? =some G':=by
 have hl:=inv.gs hd
 grind [Wa]
def Cz.took (inv:Cz P call N Af l T0 base i ev s) {x:SI} (hx:l[i]? =some x) {G:AHeap}:Di l ev i x G (IH x.bef s.fl G):=by
 obtain ⟨h1,h2,h3⟩:=Y5 x.bef s.fl G inv.ft;refine ⟨h1,h2,λid k hk=>?_⟩;rcases h3 id k hk with h|⟨f,hf,hb,rfl,rfl⟩;exact .inl h
 .obtain ⟨y,a,g1,g2,g3,g4⟩:=inv.fl f hf
  grind
omit [Gl]in
def bq {i j:Nat}:∀(rest:List SI),Nb rest i j=true->∀(k:Nat) (y:SI),rest[k]? =some y->BX y.kd=true->AW y.bef j=true->AW y.bef i=true
 |[],h,k,y,hy,_,_=>by simp at hy
 |z::r,h,k,y,hy,h1,h2=>by
  unfold Nb at h;split at h
  .split at h
   .rename_i hz;cases k with
    |zero=>simp at hy;subst hy;exact hz
    |succ k=>exact bq r h k y (by simpa using hy) h1 h2
   cases h
  .rename_i hz;cases k with
   |zero=>simp at hy;subst hy;rw [h1,h2]at hz;cases hz
   |succ k=>exact bq r h k y (by simpa using hy) h1 h2
omit [Gl]in
def YQ {c:OC} {R:Tm} {bef:Nat} {rest:List SI} {i:Nat} {a:AV}:∀(fl:List Fl),QH c R bef rest i fl=some a->
  ∃f∈fl,AW bef f.op=true/\Nb rest i f.op=true/\Ev c R ((⟨AE,0,0⟩:AHeap).set f.id f.b)=some a
 |[],h=>by cases h
 |f::r,h=>by unfold QH at h;split at h;rename_i hb;obtain ⟨h1,h2⟩:=Au hb;split at h;rename_i a' ha;cases h;exact ⟨f,zc' ..,h1,h2,ha⟩;obtain ⟨g,q1,q2⟩:=YQ r h;exact ⟨g,za' _ q1,q2⟩;obtain ⟨g,q1,q2⟩:=YQ r h;exact ⟨g,za' _ q1,q2⟩
def vT (hP:AG Af l) {i id:Nat} {ev0:Nat->Cr} {s s':DS} {x:SI} (inv0:Cz P call N Af l T0 base i ev0 s) (hx:l[i]? =some x) (hid:id=DW l base i) {rest:List SI} (hrest:∀k,rest[k]? =l[i+1+k]?)
  (h:Pg P call N Af x rest i id s=some s'):∃e,∀ev:Nat->Cr,(∀j,j<i->ev j=ev0 j)->ev i=e->Cz P call N Af l T0 base (i+1) ev s':=by
 unfold Pg at h;split at h
 ·
  rename_i hdead;cases h;cases hd:s.dead with
  |none=>rw [hd]at hdead;cases hdead
  |some p=>
   obtain ⟨d,v,H⟩:=p;rw [hd]at hdead;refine ⟨.gone,λev hev he=>?_⟩;have inv:=inv0.congr hP hev;exact inv.step hP hx (gs:=[]) (.inl ⟨rfl,by rw [he];rfl⟩) (by simp) (λh=>by grind) (.inl rfl) (λr hr=>hr) (λf hf=>.inl ⟨hf,λa ha=>by grind⟩)
    (.inl ⟨he,d,v,H,hd,hdead⟩) (λa id b hr=>by grind) inv.ft
 .split at h;cases h
  .rename_i u hu;split at h;cases h
   .rename_i t hg;have hR:=ww s.T x.rd;split at h
    ·
     unfold YS at h;split at h
     .rename_i hk;split at h
      .rename_i a ha;cases h;refine ⟨.val a,λev hev he=>?_⟩;have inv:=inv0.congr hP hev;exact inv.step hP hx (gs:=[]) (.inr ⟨u,a,hu,by rw [he];rfl,rfl⟩) (by simp) (λ_=>by rw [hk];rfl) (.inl rfl) (λr hr=>hr) (λf hf=>.inl ⟨hf,λa ha=>by grind⟩)
        (.inr ⟨u,_,hu,hR,by rw [he];exact .pure hg hk ha⟩) (λa id b hr=>by grind) inv.ft
      cases h
     .rename_i hk;split at h;cases h
      .rename_i G hG;split at h
       .rename_i a ha;cases h;refine ⟨.val a,λev hev he=>?_⟩;have inv:=inv0.congr hP hev;exact inv.step hP hx (gs:=[]) (.inr ⟨u,a,hu,by rw [he];rfl,rfl⟩) (by simp) (λ_=>by rw [hk];rfl) (.inl rfl) (λr hr=>za' _ hr) (λf hf=>.inl ⟨hf,λa ha=>by grind⟩)
         (.inr ⟨u,_,hu,hR,by rw [he];exact .read hg hk (by grind [fV]) ha (zc' ..)⟩) (λa id b hr=>by grind) inv.ft
       .split at h
        .rename_i a ha;cases h;obtain ⟨f,hf,hbit,hlat,hrd⟩:=YQ _ ha;refine ⟨.val a,λev hev he=>?_⟩;have inv:=inv0.congr hP hev;obtain ⟨y,c,g1,g2,g3,g4⟩:=inv.fl f hf;refine inv.step hP hx (gs:=[]) (.inr ⟨u,a,hu,by rw [he];rfl,rfl⟩) (by simp) (λ_=>by rw [hk];rfl) (.inl rfl) (λr hr=>hr) (λf hf=>.inl ⟨hf,λa ha=>by grind⟩)
          (.inr ⟨u,_,hu,hR,by rw [he];exact .fl hg hk g1 g3 hbit g4 (λk y' q1 q2 q3 q4=>bq rest hlat (k-(i+1)) y' (by grind) q3 q4) (inv.ft f hf) hrd⟩) (λa id b hr=>by grind) inv.ft
        cases h
     .rename_i hk;split at h
      .rename_i a H' hrun;split at h
       .rename_i b hb;cases h;refine ⟨.row a id b,λev hev he=>?_⟩;have inv:=inv0.congr hP hev;refine inv.step hP hx (gs:=[]) (.inr ⟨u,a,hu,by rw [he];rfl,rfl⟩) (by simp) (λ_=>by rw [hk];rfl) (.inl rfl) (λr hr=>hr) (λf hf=>?_)
         (.inr ⟨u,_,hu,hR,by rw [he];subst hid;exact .mem hg hk hrun hb⟩) (λa id b hr=>by grind) (λf hf=>?_)
        .grind
        rcases List.mem_cons.1 hf with rfl|hf;exact AHeap.get_lt hb;exact inv.ft f hf
       cases h
      cases h
     .rename_i hk;split at h;cases h
      .rename_i hd;split at h;cases h
       .rename_i G hG;have hw:BX x.kd=true:=(by rw [hk];rfl);split at h
        .rename_i a H' hrun;cases h;refine ⟨.step a,λev hev he=>?_⟩;have inv:=inv0.congr hP hev;obtain ⟨q1,q2⟩:=inv.last hd hG;refine inv.step hP hx (gs:=[H']) (.inr ⟨u,a,hu,by rw [he];rfl,rfl⟩) (Hw _ _) (λ_=>by rw [hw];rfl) (.inl rfl) (λr hr=>hr) (λf hf=>?_)
          (.inr ⟨u,_,hu,hR,by rw [he];exact .wr hg hk (by grind [Hw]) (by grind [Hw]) (inv.took hx) (.inl hrun)⟩) (λa id b hr=>by grind) (λf hf=>?_)
         .obtain ⟨f1,f2⟩:=NW _ _ _ hf
          grind
         exact inv.ft f (NW _ _ _ hf).1
        .rename_i f ag hrun;split at h
         .rename_i a H' hc;cases h;refine ⟨.step a,λev hev he=>?_⟩;have inv:=inv0.congr hP hev;obtain ⟨q1,q2⟩:=inv.last hd hG;refine inv.step hP hx (gs:=[H']) (.inr ⟨u,a,hu,by rw [he];rfl,rfl⟩) (Hw _ _) (λ_=>by rw [hw];rfl) (.inl rfl) (λr hr=>hr) (λf hf=>?_)
           (.inr ⟨u,_,hu,hR,by rw [he];exact .wr hg hk (by grind [Hw]) (by grind [Hw]) (inv.took hx) (.inr ⟨f,ag,hrun,hc⟩)⟩) (λa id b hr=>by grind) (λf hf=>?_)
          .obtain ⟨f1,f2⟩:=NW _ _ _ hf
           grind
          exact inv.ft f (NW _ _ _ hf).1
         .rename_i v H' hc;cases h;refine ⟨.die,λev hev he=>?_⟩;have inv:=inv0.congr hP hev;obtain ⟨q1,q2⟩:=inv.last hd hG;exact inv.step hP hx (gs:=[]) (.inl ⟨rfl,by rw [he];rfl⟩) (by simp) (λh=>by cases h) (.inr ⟨hd,he,hw,v,H',rfl⟩) (λr hr=>hr) (λf hf=>.inl ⟨hf,λa ha=>by grind⟩)
           (.inr ⟨u,_,hu,hR,by rw [he];exact .die hg hk q1 (inv.took hx) rfl (.inr ⟨f,ag,hrun,hc⟩)⟩) (λa id b hr=>by grind) inv.ft
         cases h
        .rename_i v hrun;cases h;refine ⟨.die,λev hev he=>?_⟩;have inv:=inv0.congr hP hev;obtain ⟨q1,q2⟩:=inv.last hd hG;exact inv.step hP hx (gs:=[]) (.inl ⟨rfl,by rw [he];rfl⟩) (by simp) (λh=>by cases h) (.inr ⟨hd,he,hw,v,_,rfl⟩) (λr hr=>hr) (λf hf=>.inl ⟨hf,λa ha=>by grind⟩)
          (.inr ⟨u,_,hu,hR,by rw [he];exact .die hg hk q1 (inv.took hx) rfl (.inl ⟨hrun,rfl⟩)⟩) (λa id b hr=>by grind) inv.ft
        cases h
    ·
     unfold Xr at h;split at h
     .rename_i hk;split at h;cases h
      .rename_i hd;split at h;cases h
       .rename_i G hG;cases h;have hw:BX x.kd=true:=(by rw [hk];rfl);refine ⟨.off,λev hev he=>?_⟩;have inv:=inv0.congr hP hev;obtain ⟨q1,q2⟩:=inv.last hd hG;exact inv.step hP hx (gs:=[G]) (.inr ⟨u,.tup [],hu,by rw [he];rfl,rfl⟩) (Hw _ _) (λ_=>by rw [hw];rfl) (.inl rfl) (λr hr=>hr) (λf hf=>.inl ⟨hf,λa ha=>by grind⟩)
         (.inr ⟨u,_,hu,hR,by rw [he];exact .off hg λ_=>⟨G,by grind [Hw],by grind [Hw]⟩⟩) (λa id b hr=>by grind) inv.ft
     .rename_i hk;cases h;have hw:BX x.kd=false:=by cases hkd:x.kd<;>first|rfl|exact absurd hkd (by simpa using hk)
      refine ⟨.off,λev hev he=>?_⟩;have inv:=inv0.congr hP hev;exact inv.step hP hx (gs:=[]) (.inr ⟨u,.tup [],hu,by rw [he];rfl,rfl⟩) (by simp) (λ_=>by rw [hw];rfl) (.inl rfl) (λr hr=>hr) (λf hf=>.inl ⟨hf,λa ha=>by grind⟩)
       (.inr ⟨u,_,hu,hR,by rw [he];exact .off hg λh=>by grind⟩) (λa id b hr=>by grind) inv.ft
end
end Go.Sx
