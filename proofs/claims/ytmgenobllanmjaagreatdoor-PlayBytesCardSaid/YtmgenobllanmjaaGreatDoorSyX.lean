/-
  Rows of symbolic length that a function has by itself, read and written at an index that is a symbol; their heads.
-/
import Derived.Test.YtmgenobllanmjaaGreatDoorSyN
import Derived.Test.YtmgenobllanmjaaGreatDoorSyM
set_option linter.unusedVariables false
set_option linter.unusedSimpArgs false
namespace Go.Sx
theorem ng_ (cs:List AV):(sg_ cs).get 0=some (.cells cs):=by rfl
theorem lh_ {H:AHeap} {id p n:Nat} {cs:List AV} (hk:H.get id=some (.cells cs)):aV_ H (.ptr id p) n=aV_ (sg_ cs) (.ptr 0 p) n:=by
 grind [aV_,ng_]
theorem mC_ {P:Program} {H:AHeap} {id p:Nat} {t:TypeId} {cs:List AV} (hk:H.get id=some (.cells cs)):bn_ P H t (.ptr id p)=bn_ P (sg_ cs) t (.ptr 0 p):=by
 grind [bn_,lh_]
section
variable {P:Program} {B:World} {pr:Nat->Prop} {E:Env} {H:AHeap} {w:World}
theorem lw_ (hr:Rel B pr E H w) {t:TypeId} {a:AV} {v:Value} (hc:Con E a v) {r:AV} (h:bn_ P H t a=some r):∃u,(Instr.loadAt t v).run P w=.ok u w/\Con E r u:=by
 unfold bn_ at h;split at h;cases h;rename_i d hd;split at h
 .rename_i hag;split at h;cases h;rename_i i hi;split at h;rename_i l hl;cases h;obtain ⟨b,o,vs,rfl,hlen,hL,hcell⟩:=bv_ hr hc hl;refine ⟨.agg ⟨vs⟩,?_,by simp only [Con];grind⟩;have:=bG_ (P:=P) hcell;simp_all [Instr.loadAt,Instr.sureAddr,loadVar,bO_,af_]
  cases h
 .rename_i hag;split at h;rename_i c hl;cases h;obtain ⟨b,o,vs,rfl,hlen,hL,hcell⟩:=bv_ hr hc hl;obtain ⟨u,hu,hcu⟩:=hL.at 0 r rfl;have:=hcell 0 u hu;simp_all [Instr.loadAt,Instr.sureAddr,loadVar,bO_]
  cases h
end
theorem d9_ {E:Env} {id j sz off n:Nat} {k:IntKind} {v:Value} (hj:E.sy j=some (.int k (.ofNat n))):Con E (.ptx id j sz off) v↔Con E (.ptr id (n*sz+off)) v:=by
 grind [Con]
theorem pF_ {E:Env} {id j sz off:Nat} {v:Value} (h:Con E (.ptx id j sz off) v):∃k n,E.sy j=some (.int k (.ofNat n)):=by
 grind [Con]
theorem oz_ {E:Env} {id sz i len z:Nat} {cs:List AV} {v:Value} (hi:E.sy i=some (.vsl len z cs)) (h:Con E (.slx id sz i) v):z=sz/\Con E (.sl id 0 len sz none) v:=by
 simp only [Con]at h⊢
 grind
theorem u2_ {E:Env} {id sz i len:Nat} {cs:List AV} {cap:Option Nat} {v:Value} (hi:E.sy i=some (.vsl len sz cs)) (h:Con E (.sl id 0 len sz cap) v):Con E (.slx id sz i) v:=by
 simp only [Con]at h⊢
 grind
section
variable {P:Program} {B:World} {pr:Nat->Prop} {E:Env} {H:AHeap} {w:World}
theorem qh_ {s:TypeId} {id id' off off' f m:Nat} (h:bY_ P s (.ptr id off) f=some (.ptr id' off')):id'=id/\bY_ P s (.ptr id (m+off)) f=some (.ptr id (m+off')):=by
 unfold bY_ at h⊢;split at h
 case h_2=>cases h
 split at h
 case h_2=>cases h
 split at h<;>grind
theorem in_ {k:Nat} {len z:Nat} {cs:List AV} (hd:den E.sy (.sym k)=.vsl len z cs):E.sy k=some (.vsl len z cs):=by
 grind [den]
theorem lO_ {id j sz off:Nat} {v:Value} {kk:IntKind} {q:Nat} (h:Con E (.ptx id j sz off) v) (hd:den E.sy (.sym j)=.int kk (.ofNat q)):Con E (.ptr id (q*sz+off)) v:=by
 grind [den,d9_]
end
theorem gp_ {P:Program} {H:AHeap} {id c:Nat} {t:TypeId} {es:List (AV×AV×Nat)} {k:AV} {ok:Bool} (hk:H.get id=some (.map es c)):bt_ P H t (.map id) k ok=bt_ P ((⟨hnil,0,0⟩:AHeap).set 0 (.map es 0)) t (.map 0) k ok:=by have h0:((⟨hnil,0,0⟩:AHeap).set 0 (.map es 0)).get 0=some (.map es 0):=AHeap.get_set_same _ (by unfold top;omega) _;simp_all [bt_,dR_]
theorem lX_ {cs:List AV} {n:Nat} {xs r:List AV} (h:dk_ n xs cs=some r):r.length=cs.length:=by
 obtain ⟨h1,rfl⟩:=dl_ cs h
 grind
variable [Gl]
def r8_ (P:Program) (T:Tm) (o:Oper):Option AV:=match o.op with
 | .fieldAddr s x f=>match look T x with
   | .ptx id j sz off=>match bY_ P s (.ptr id off) f with
     |some (.ptr _ off')=>some (.ptx id j sz off')
     |_=>none
   |_=>none
 | .nilCheck x=>match look T x with
   | .ptx id j sz off=>some (.ptx id j sz off)
   |_=>none
 |_=>none
def qr_ (P:Program) (T:Tm) (o:Oper):Option (XOp×List AV×Nat×Nat):=match o.op with
 | .indexAddr t x ix=>match look T x with
   | .slx id sz i=>match P.underlying t with
     |some (.slice e)=>match P.info? e with
      |some ti=>match Nat.beq ti.size sz&&ae_ (look T ix)with
       |true=>some (.inb,[.sym i,look T ix],id,sz)
       |false=>none
      |none=>none
     |_=>none
   | .ptx id j sz off=>match P.underlying t with
     |some (.array len e)=>match P.info? e with
      |some ti=>match ae_ (look T ix)with
       |true=>some (.flat sz off ti.size len,[.sym j,look T ix],id,1)
       |false=>none
      |none=>none
     |_=>none
   |_=>none
 |_=>none
def ldX (T:Tm) (H:AHeap) (o:Oper):Option (XOp×List AV):=match o.op with
 | .load t a=>match look T a with
   | .ptx id j sz off=>match H.get id with
     |some (.syl k)=>some (.ldx t sz off,[.sym k,.sym j])
     |_=>none
   |_=>none
 |_=>none
def stX (T:Tm) (H:AHeap) (o:Oper):Option (XOp×List AV×Nat):=match o.op with
 | .store t a x=>match look T a with
   | .ptx id j sz off=>match H.get id with
     |some (.syl k)=>match ae_ (look T x)with
      |true=>some (.stx t sz off,[.sym k,.sym j,look T x],id)
      |false=>none
     |_=>none
   |_=>none
 |_=>none
def tkX (P:Program) (T:Tm) (H:AHeap) (o:Oper):Option (XOp×List AV×Nat×Nat):=match o.op with
 | .slice t x lo hi mx=>match lo,hi,mx with
   |none,some h,none=>match look T x with
    | .slx id sz i=>match H.get id with
      |some (.syl k)=>match P.underlying t with
       |some (.slice e)=>match P.info? e with
        |some ti=>match Nat.beq ti.size sz&&ae_ (look T h)with
         |true=>some (.tkx,[.sym i,.sym k,look T h],id,sz)
         |false=>none
        |none=>none
       |_=>none
      |_=>none
    |_=>none
   |_,_,_=>none
 |_=>none
def uS_ (P:Program) (T:Tm) (H:AHeap) (o:Oper):Option (Nat×Nat×XOp×List AV):=match o.op with
 | .makeSlice t l c=>match look T l with
   | .sym i=>match look T c with
     | .sym j=>match Nat.beq i j&&H.room with
       |true=>match P.underlying t with
        |some (.slice e)=>match P.info? e with
         |some info=>match info.zero with
          |some z=>match Nat.beq (aL_ (at_ z)) info.size with
             |true=>some (H.next,info.size,.mkx info.size info.bytes (at_ z),[.sym i])
             |false=>none
          |none=>none
         |none=>none
        |_=>none
       |false=>none
     |_=>none
   |_=>none
 | .call c=>match c.callee with
   | .builtin b=>match b with
     | .append=>match c.args.toList,c.argTypes.toList with
       |[s,x],[t,tx]=>match look T s with
        | .nsl=>match look T x with
          | .sym i=>match P.underlying tx with
            |some (.int _)=>match H.room with
             |true=>match P.underlying t with
              |some (.slice e)=>match P.info? e with
                |some info=>match info.zero with
                 |some z=>match Nat.beq (aL_ (at_ z)) info.size with
                    |true=>some (H.next,info.size,.mkz info.size info.bytes (at_ z),[.sym i])
                    |false=>none
                 |none=>none
                |none=>none
              |_=>none
             |false=>none
            |_=>none
          |_=>none
        |_=>none
       |_,_=>none
     |_=>none
   |_=>none
 | .slice t x lo hi mx=>match lo,hi,mx with
   |some a,none,none=>match look T x with
    | .slx id sz i=>match H.get id with
      |some (.syl k)=>match Nat.beq k i&&H.room with
       |true=>match P.underlying t with
        |some (.slice e)=>match P.info? e with
         |some ti=>match Nat.beq ti.size sz&&ae_ (look T a)with
          |true=>some (id,sz,.skx,[.sym i,look T a])
          |false=>none
         |none=>none
        |_=>none
       |false=>none
      |_=>none
    |_=>none
   |_,_,_=>none
 |_=>none
def mgX (T:Tm) (H:AHeap) (o:Oper):Option (XOp×List AV):=match o.op with
 | .lookup t x ix ok=>match ok with
   |true=>none
   |false=>match look T x with
    | .map id=>match H.get id with
      |some (.map es _)=>match okL (aN_ es)&&ae_ (look T ix)with
       |true=>some (.mget t es,[look T ix])
       |false=>none
      |some (.mpl i)=>match ae_ (look T ix)with
       |true=>some (.mlk t,[.sym i,look T ix])
       |false=>none
      |_=>none
    |_=>none
 |_=>none
section
variable {P:Program} {N:Nat} {o:Oper} {T:Tm} {H:AHeap} {B:World} {pr:Nat->Prop} {E:Env} {a:Act} {w:World} {D:Dfs} {Y:Sy}
theorem nb_ {σ:Operand->Value} (hr:Rel B pr E H w) (hσ:∀x,Con E (look T x) (σ x)) {q:AV} (h:r8_ P T o=some q):∃v,(execOp σ o).run P w=.ok (.value v) w/\Con E q v:=by
 unfold r8_ at h;split at h
 .rename_i s x f ho;split at h
  case h_2=>cases h
  rename_i id j sz off hx;split at h
  case h_2=>cases h
  rename_i id' off' hf;cases h;have hc:=hσ x;rw [hx]at hc;obtain ⟨k,n,hj⟩:=pF_ hc;obtain ⟨rfl,hf'⟩:=qh_ (m:=n*sz) hf;obtain ⟨E',v,w',h1,h2,h3,h4⟩:=hF_ (H:=H) hr ((d9_ hj).1 hc) hf';have hc2:=(d9_ hj).1 hc;simp only [Con]at hc2;obtain ⟨b,o',hφ,hv⟩:=hc2;unfold bY_ at hf;split at hf
  case h_2=>cases hf
  split at hf
  case h_2=>cases hf
  rename_i fl hfl;split at hf
  case h_2=>cases hf
  split at hf;cases hf;obtain ⟨_,rfl⟩:=hf;refine ⟨.pointer (some ⟨b,o'+(n*sz+(off+fl.offset)),none⟩),?_,(d9_ hj).2 (by simp only [Con];grind)⟩;simp_all [execOp,Instr.fieldAt,run_underlying,Instr.sureAddr,fieldPlace,af_,Addr.add_lit,Nat.add_assoc]
 .rename_i x ho;split at h
  case h_2=>cases h
  rename_i id j sz off hx;have hc:=hσ x;rw [hx]at hc;obtain ⟨k,n,hj⟩:=pF_ hc;have hc2:=(d9_ hj).1 hc;obtain ⟨b,o',hφ,hv⟩:=hc2;simp_all [execOp]
 cases h
theorem pf_ {σ:Operand->Value} (hr0:Rel B pr E H w) (hσ:∀x,Con E (look T x) (σ x)) {id sz:Nat} {op:XOp} {args:List AV} (ha:qr_ P T o=some (op,args,id,sz)) {r:AV} (hr:op.run P (ab_ E.sy args)=some r):
  ∃q E' v w',r=.int .i64 (.ofNat q)/\(execOp σ o).run P w=.ok (.value v) w'/\E.le E'/\Rel B pr E' H w'/\Con E' (.ptr id (q*sz)) v:=by
 unfold qr_ at ha;split at ha
 case h_2=>cases ha
 rename_i t x ix ho;split at ha
 case h_3=>cases ha
 case h_2=>
  rename_i id' j sz' off hx;split at ha
  case h_2=>cases ha
  rename_i len e hd;split at ha
  case h_2=>cases ha
  rename_i ti hti;split at ha
  case h_2=>cases ha
  rename_i hso;cases ha;have hcx:=hσ x;rw [hx]at hcx;have hdi:Con E (den E.sy (look T ix)) (σ ix):=(ao_ hso (hσ ix)).con;simp only [ab_,XOp.run]at hr;split at hr
  case h_2=>cases hr
  rename_i kj n hjv;split at hr
  case h_2=>cases hr
  rename_i kk i hiv;split at hr
  case h_2=>cases hr
  rename_i m hm;cases hr;rw [hiv]at hdi;have hp:=lO_ hcx hjv;have hev:aS_ P t (.ptr id (n*sz'+off)) (.int kk i)=some (.ptr id (n*sz'+off+m*ti.size)):=by
   grind [aS_]
  obtain ⟨E1,v,w',g1,g2,g3,g4⟩:=cR_ (H:=H) hr0 hp hdi hev;refine ⟨n*sz'+off+m*ti.size,E1,v,w',rfl,?_,g2,g3,by grind⟩;unfold execOp;simp_all
 rename_i id' sz' i hx;split at ha
 case h_2=>cases ha
 rename_i e hd;split at ha
 case h_2=>cases ha
 rename_i ti hti;split at ha
 case h_2=>cases ha
 rename_i hb;cases ha;obtain ⟨hsz,hso⟩:=aa_ hb;have hsz:=Nat.eq_of_beq_eq_true hsz;have hcx:=hσ x;rw [hx]at hcx;have hdi:Con E (den E.sy (look T ix)) (σ ix):=(ao_ hso (hσ ix)).con;simp only [ab_,XOp.run]at hr;split at hr
 case h_2=>cases hr
 rename_i len z cs hxv;split at hr
 case h_2=>cases hr
 rename_i kk m hiv;split at hr
 case h_2=>cases hr
 rename_i q hq;cases hr;rw [hiv]at hdi;have hsi:E.sy i=some (.vsl len z cs):=by
  grind [den]
 obtain ⟨rfl,hsl⟩:=oz_ hsi hcx;have hev:aS_ P t (.sl id 0 len z none) (.int kk m)=some (.ptr id (q*z)):=by
  unfold aS_
  grind
 obtain ⟨E1,v,w',g1,g2,g3,g4⟩:=cR_ (H:=H) hr0 hsl hdi hev;refine ⟨q,E1,v,w',rfl,?_,g2,g3,g4⟩;unfold execOp;simp_all
theorem tf_ {k n id sz:Nat} {op:XOp} {args:List AV} (ha:qr_ P T o=some (op,args,id,sz)) (hf:Fresh Y n) {r:AV} (hr:op.run P (ab_ Y.v args)=some r) (hok:okC r=true) (hy:E.At Y) (st:St P B pr N E T H D a w):
  ∃E' nx v w',(execOp a.eval o).run P w=.ok nx w'/\(nx=.value v\/(nx=.skip/\v=undef))/\E.leF k E'/\E'.At (Y.put n r)/\St P B pr N E' T H D a w'/\Con E' (.ptx id n sz 0) v:=by
 obtain ⟨q,E1,v,w',rfl,g1,g2,g3,g4⟩:=pf_ st.r (λx=>st.t.look x) ha (by rw [hy.v];exact hr);have hy1:=hy.le g2;have st1:St P B pr N E1 T H D a w':=⟨st.t.mono g2,g3,st.d.mono g2⟩;have hv:∀i x,E1.sy i=some x->(Y.put n (.int .i64 (.ofNat q))).v i=some x:=λi x hx=>hf.sub_put _ i x (by rw [←hy1.v];exact hx);have hll:∀i l,E1.syl i=some l->(Y.put n (.int .i64 (.ofNat q))).l i=some l:=λi l hx=>by rw [hy1.l]at hx;exact hx
 have hlo:∀i,i<64->(Y.put n (.int .i64 (.ofNat q))).v i=E1.sy i:=λi hi=>by rw [hy1.v];exact hf.low _ i hi
 refine ⟨E1.with (Y.put n (.int .i64 (.ofNat q))),.value v,v,w',g1,.inl rfl,(g2.leF k).trans (Env.with_leF k hlo),⟨rfl,rfl,hy1.res⟩,st1.with hv hll hlo,?_⟩;have:(E1.with (Y.put n (.int .i64 (.ofNat q)))).sy n=some (.int .i64 (.ofNat q)):=Sy.put_same _ _ _;refine (d9_ this).2 ?_;have:=g4.with hv hll;omega
theorem od_ {σ:Operand->Value} (hr0:Rel B pr E H w) (hσ:∀x,Con E (look T x) (σ x)) {op:XOp} {args:List AV} (ha:ldX T H o=some (op,args)) {r:AV} (hr:op.run P (ab_ E.sy args)=some r):∃v,(execOp σ o).run P w=.ok (.value v) w/\Con E r v:=by
 unfold ldX at ha;split at ha
 case h_2=>cases ha
 rename_i t x ho;split at ha
 case h_2=>cases ha
 rename_i id j sz off hx;split at ha
 case h_2=>cases ha
 rename_i k hk;cases ha;have hc:=hσ x;rw [hx]at hc;simp only [ab_,XOp.run]at hr;split at hr
 case h_2=>cases hr
 rename_i len z cs hrow;split at hr
 case h_2=>cases hr
 rename_i kk q hj;have hp:=lO_ hc hj;obtain ⟨hr1,_⟩:=hr0.expand hk (in_ hrow);have hg:(H.set id (.cells cs)).get id=some (.cells cs):=AHeap.get_set_same H (AHeap.get_lt hk) _;rw [←mC_ (P:=P) (t:=t) hg]at hr;obtain ⟨u,h1,h2⟩:=lw_ (P:=P) hr1 hp hr;simp_all [execOp]
omit [Gl]in
theorem iP_ {d:TypeDesc} {k:AV}:∀{es:List (AV×AV×Nat)} {i:Nat},dT_ d k (nX_ (aN_ es)) i=dT_ d k es i
 |[],i=>rfl
 |(q,v,b)::es,i=>by simp only [aN_,nX_,dT_,iP_,ip_]
omit [Gl]in
theorem iQ_ {P:Program} {kt:TypeId} {k:AV}:∀{es:List (AV×AV×Nat)} {i:Nat},dV_ P kt k (nX_ (aN_ es)) i=dV_ P kt k es i
 |[],i=>rfl
 |(q,v,b)::es,i=>by simp only [aN_,nX_,dV_,iQ_,ip_]
omit [Gl]in
theorem j5_ {P:Program} {t:TypeId} {es:List (AV×AV×Nat)} {k:AV} {ok:Bool}:bt_ P ((⟨hnil,0,0⟩:AHeap).set 0 (.map (nX_ (aN_ es)) 0)) t (.map 0) k ok=bt_ P ((⟨hnil,0,0⟩:AHeap).set 0 (.map es 0)) t (.map 0) k ok:=by
 have h1:∀es',((⟨hnil,0,0⟩:AHeap).set 0 (.map es' 0)).get 0=some (.map es' 0):=λes'=>by rfl
 unfold bt_;split<;>try rfl
 split<;>try rfl
 split;unfold dR_;simp only [h1,iQ_];simp only [h1,iP_]
theorem uN_ {op:XOp} {args:List AV} (ha:mgX T H o=some (op,args)) {r:AV} (hr:op.run P (ab_ Y.v args)=some r) (hy:E.At Y) (st:St P B pr N E T H D a w):
  ∃E' n v w',(execOp a.eval o).run P w=.ok n w'/\(n=.value v\/(n=.skip/\v=undef))/\E.le E'/\St P B pr N E' T H D a w'/\Con E' r v:=by
 unfold mgX at ha;split at ha
 case h_2=>cases ha
 rename_i t x ix ok ho;split at ha;cases ha;split at ha
 case h_2=>cases ha
 rename_i id hx;split at ha
 case h_3=>cases ha
 case h_2=>
  rename_i i hk;split at ha
  case h_2=>cases ha
  rename_i hso;cases ha;have hdi:Con E (den E.sy (look T ix)) (a.eval ix):=(ao_ hso (st.t.look ix)).con;have hcx:=st.t.look x;rw [hx]at hcx;simp only [ab_,XOp.run]at hr;split at hr
  case h_2=>cases hr
  rename_i nn z cs hiv;split at hr
  case h_2=>cases hr
  rename_i hz;have hz:=Nat.eq_of_beq_eq_true hz;subst hz;have hyi:Y.v i=some (.vsl nn 2 cs):=by
   grind [den]
  obtain ⟨es,clock,hrX,hfl,hlen⟩:=st.r.expandM hk (by rw [hy.v];exact hyi);have hgX:(H.set id (.map es clock)).get id=some (.map es clock):=AHeap.get_set_same H (AHeap.get_lt hk) _;rw [←hfl,j5_,←gp_ (P:=P) (t:=t) (k:=den Y.v (look T ix)) (ok:=false) hgX,←hy.v]at hr;obtain ⟨v,h1,h2⟩:=eI_ hrX hcx hdi hr;refine ⟨E,.value v,v,w,?_,.inl rfl,Env.le_refl E,st,h2⟩;simp_all [execOp]
 rename_i es c hk;split at ha
 case h_2=>cases ha
 rename_i hb;cases ha;obtain ⟨_,hso⟩:=aa_ hb;have hdi:Con E (den E.sy (look T ix)) (a.eval ix):=(ao_ hso (st.t.look ix)).con;have hcx:=st.t.look x;rw [hx]at hcx;simp only [ab_,XOp.run]at hr;rw [←gp_ (P:=P) (t:=t) (k:=den Y.v (look T ix)) (ok:=false) hk,←hy.v]at hr;obtain ⟨E',v,w',h1,h2,h3,h4⟩:=gq_ st.r hcx hdi hr;refine ⟨E',.value v,v,w',?_,.inl rfl,h2,⟨st.t.mono h2,h3,st.d.mono h2⟩,h4⟩;simp_all [execOp]
theorem pL_ {σ:Operand->Value} (hr0:Rel B pr E H w) (hσ:∀x,Con E (look T x) (σ x)) {n id:Nat} {op:XOp} {args:List AV} (ha:stX T H o=some (op,args,id)) {r:AV} (hr:op.run P (ab_ E.sy args)=some r) (hok:okC r=true) (hn:E.sy n=some r):
  ∃w',(execOp σ o).run P w=.ok .skip w'/\Rel B pr E (H.set id (.syl n)) w':=by
 unfold stX at ha;split at ha
 case h_2=>cases ha
 rename_i t x y ho;split at ha
 case h_2=>cases ha
 rename_i id' j sz off hx;split at ha
 case h_2=>cases ha
 rename_i kr hk;split at ha
 case h_2=>cases ha
 rename_i hso;cases ha;have hc:=hσ x;rw [hx]at hc;have hcy:Con E (den E.sy (look T y)) (σ y):=(ao_ hso (hσ y)).con;simp only [ab_,XOp.run]at hr;split at hr
 case h_2=>cases hr
 rename_i len z cs hrow;split at hr
 case h_2=>cases hr
 rename_i kk q hj;split at hr
 case h_2=>cases hr
 rename_i p hp;split at hr
 case h_2=>cases hr
 rename_i cs' hcs';cases hr;have hpt:=lO_ hc hj;obtain ⟨hr1,hlen⟩:=hr0.expand hk (in_ hrow);have hlt:=AHeap.get_lt hk;have hg:(H.set id (.cells cs)).get id=some (.cells cs):=AHeap.get_set_same H hlt _;have hev:ci_ P (H.set id (.cells cs)) t (.ptr id (q*sz+off)) (den E.sy (look T y))=some (.tup [],(H.set id (.cells cs)).set id (.cells cs'))/\cs'.length=cs.length:=by
  unfold ci_ at hp⊢;split at hp
  case h_2=>cases hp
  simp only at hp⊢;split at hp;cases hp;split at hp
  case h_2=>cases hp
  split at hp
  case h_2=>cases hp
  simp only [ng_]at hp;split at hp<;>grind [AHeap.get_set_same,lX_]
 obtain ⟨hev,hlen2⟩:=hev;obtain ⟨w',h1,h2⟩:=hH_ hr1 hpt hcy hev;have hokL:okL cs'=true:=by grind [okC]
 have hg2:((H.set id (.cells cs)).set id (.cells cs')).get id=some (.cells cs'):=AHeap.get_set_same _ hlt _;have h4:=h2.collapse (n:=n) (len:=len) (sz:=z) hg2 (au_ hokL) (by grind [a3_]) (by grind [a3_]) (by omega);refine ⟨w',?_,h4.sub_rows (λid' kb hk'=>?_) rfl rfl⟩;simp_all [execOp]
 grind [AHeap.get_set_same,AHeap.get_set_ne]
theorem tO_ {id:Nat} {op:XOp} {args:List AV} (ha:stX T H o=some (op,args,id)):∃x y k j,args=[.sym k,.sym j,look T y]/\(∃sz off,look T x=.ptx id j sz off)/\H.get id=some (.syl k):=by
 unfold stX at ha
 grind
theorem u4_ {k n id:Nat} {op:XOp} {args:List AV} (ha:stX T H o=some (op,args,id)) (hf:Fresh Y n) {r:AV} (hr:op.run P (ab_ Y.v args)=some r) (hok:okC r=true) (hy:E.At Y) (st:St P B pr N E T H D a w):
  ∃E' nx v w',(execOp a.eval o).run P w=.ok nx w'/\(nx=.value v\/(nx=.skip/\v=undef))/\E.leF k E'/\E'.At (Y.put n r)/\St P B pr N E' T (H.set id (.syl n)) D a w'/\Con E' (.tup []) v:=by
 have hv:∀i x,E.sy i=some x->(Y.put n r).v i=some x:=λi x hx=>hf.sub_put _ i x (by rw [←hy.v];exact hx);have hll:∀i l,E.syl i=some l->(Y.put n r).l i=some l:=λi l hx=>by rw [hy.l]at hx;exact hx
 have hlo:∀i,i<64->(Y.put n r).v i=E.sy i:=λi hi=>by rw [hy.v];exact hf.low _ i hi
 have st1:=st.with hv hll hlo;obtain ⟨x,y,kr,j,rfl,⟨sz,off,hx⟩,hk⟩:=tO_ ha;have hargs:ab_ (E.with (Y.put n r)).sy [.sym kr,.sym j,look T y]=ab_ Y.v [.sym kr,.sym j,look T y]:=by
  show ab_ (Y.put n r).v _=_;have hcx:=st.t.look x;rw [hx]at hcx;have hj:∃q,E.sy j=some q:=by
   grind [Con]
  have hkr:∃q,E.sy kr=some q:=by
   obtain ⟨own,g1,_⟩:=st.r.own;rcases g1 id _ hk with ⟨_,h⟩|⟨_,_,_,_,_,_,_,h,_⟩;exact ⟨_,h⟩
   grind
  obtain ⟨q1,hq1⟩:=hj;obtain ⟨q2,hq2⟩:=hkr;have e1:=hv _ _ hq1;have e2:=hv _ _ hq2;rw [hy.v]at hq1 hq2;simp only [ab_,den,e1,e2,hq1,hq2];rw [h9_ hv (st.t.look y),hy.v]
 obtain ⟨w',h1,h2⟩:=pL_ (n:=n) st1.r (λx=>st1.t.look x) ha (by rw [hargs];exact hr) hok (Sy.put_same _ _ _);exact ⟨E.with (Y.put n r),.skip,undef,w',h1,.inr ⟨rfl,rfl⟩,Env.with_leF k hlo,⟨rfl,rfl,hy.res⟩,⟨st1.t,h2,st1.d⟩,a6_ _⟩
theorem u6_ {k n id sz:Nat} {op:XOp} {args:List AV} (ha:tkX P T H o=some (op,args,id,sz)) (hf:Fresh Y n) {r:AV} (hr:op.run P (ab_ Y.v args)=some r) (hok:okC r=true) (hy:E.At Y) (st:St P B pr N E T H D a w):
  ∃E' nx v w',(execOp a.eval o).run P w=.ok nx w'/\(nx=.value v\/(nx=.skip/\v=undef))/\E.leF k E'/\E'.At (Y.put n r)/\St P B pr N E' T (H.set id (.syl n)) D a w'/\Con E' (.slx id sz n) v:=by
 unfold tkX at ha;split at ha
 case h_2=>cases ha
 rename_i t x lo hi mx ho;split at ha
 case h_2=>cases ha
 rename_i h;split at ha
 case h_2=>cases ha
 rename_i id' sz' i hx;split at ha
 case h_2=>cases ha
 rename_i kr hk;split at ha
 case h_2=>cases ha
 rename_i e hd;split at ha
 case h_2=>cases ha
 rename_i ti hti;split at ha
 case h_2=>cases ha
 rename_i hb;cases ha;obtain ⟨hsz,hso⟩:=aa_ hb;have hsz:=Nat.eq_of_beq_eq_true hsz;have hcx:=st.t.look x;rw [hx]at hcx;have hdi:Con E (den E.sy (look T h)) (a.eval h):=(ao_ hso (st.t.look h)).con;have hv:∀i x,E.sy i=some x->(Y.put n r).v i=some x:=λi x hx=>hf.sub_put _ i x (by rw [←hy.v];exact hx);have hll:∀i l,E.syl i=some l->(Y.put n r).l i=some l:=λi l hx=>by rw [hy.l]at hx;exact hx
 have hlo:∀i,i<64->(Y.put n r).v i=E.sy i:=λi hi=>by rw [hy.v];exact hf.low _ i hi
 have fin:∀av,Con E av (a.eval x)->∀(m:Nat) (kk:IntKind),den E.sy (look T h)=.int kk (.ofNat m)->∀q,aP_ P H t av none (some (.int kk (.ofNat m)))=some q->(∀E1:Env,E.le E1->∀v,Con E1 q v->Con (E1.with (Y.put n r)) (.slx id sz n) v)->
   (∀(E1:Env) (w1:World) own,E.le E1->RowAt E1 w1 own id (.syl kr)->RowAt (E1.with (Y.put n r)) w1 own id (.syl n))->
   ∃E' nx v w',(execOp a.eval o).run P w=.ok nx w'/\(nx=.value v\/(nx=.skip/\v=undef))/\E.leF k E'/\E'.At (Y.put n r)/\St P B pr N E' T (H.set id (.syl n)) D a w'/\Con E' (.slx id sz n) v:=by
  intro av hav m kk hm q hq hcon hrow;rw [hm]at hdi;obtain ⟨E1,v,w',g1,g2,g3,g4⟩:=eK_ (P:=P) (H:=H) st.r hav (lo:=none) (hi:=some (.int kk (.ofNat m))) (vlo:=none) (vhi:=some (a.eval h)) rfl ⟨_,rfl,hdi⟩ hq;have hy1:=hy.le g2;have hv1:∀i x,E1.sy i=some x->(Y.put n r).v i=some x:=λi x hx=>hv i x (by rw [←g2.1.2.2.2.1];exact hx);have hll1:∀i l,E1.syl i=some l->(Y.put n r).l i=some l:=λi l hx=>hll i l (by rw [←g2.1.2.2.2.2];exact hx);have hlo1:∀i,i<64->(Y.put n r).v i=E1.sy i:=λi hi=>(by rw [hlo i hi,g2.1.2.2.2.1]);have st1:St P B pr N (E1.with (Y.put n r)) T H D a w':=(⟨st.t.mono g2,g3,st.d.mono g2⟩:St P B pr N E1 T H D a w').with hv1 hll1 hlo1
  refine ⟨E1.with (Y.put n r),.value v,v,w',?_,.inl rfl,(g2.leF k).trans (Env.with_leF k hlo1),⟨rfl,rfl,hy1.res⟩,⟨st1.t,?_,st1.d⟩,hcon E1 g2 v g4⟩;unfold execOp;simp_all
  ·
   have hlt:=AHeap.get_lt hk;obtain ⟨own,o1,o2⟩:=g3.own;refine { own:=⟨own,λid' k' hk'=>?_,o2⟩,imm:=st1.r.imm,ib:=st1.r.ib,fresh:=st1.r.fresh,resv:=st1.r.resv,vds:=st1.r.vds,szs:=st1.r.szs,prot:=st1.r.prot,size:=st1.r.size,os:=st1.r.os,output:=st1.r.output };by_cases e:id=id'
   .grind [AHeap.get_set_same]
   rw [AHeap.get_set_ne H hlt e]at hk';exact (o1 id' k' hk').withS hv1 hll1
 simp only [ab_,XOp.run]at hr;split at hr
 case h_2=>cases hr
 rename_i kk m hm;rw [←hy.v]at hm;split at hr
 .rename_i len z0 cs0 hxv;split at hr
  case h_2=>cases hr
  rename_i n' z cs hrow;split at hr
  case h_2=>cases hr
  rename_i hb2;split at hr
  case h_2=>cases hr
  rename_i cs' htk;cases hr;obtain ⟨hz2,hb2⟩:=aa_ hb2;have hz2:=Nat.eq_of_beq_eq_true hz2;obtain ⟨b1,b2⟩:=aa_ hb2;have b1:=Nat.le_of_ble_eq_true b1;rw [←hy.v]at hxv hrow;have hsi:E.sy i=some (.vsl len z0 cs0):=by
   grind [den]
  obtain ⟨rfl,hsl⟩:=oz_ hsi hcx;have hsk:E.sy kr=some (.vsl n' z cs):=in_ hrow;obtain ⟨e1,e2⟩:=bH_ htk;have hY:∀E1:Env,(E1.with (Y.put n (.vsl m z cs'))).sy n=some (.vsl m z cs'):=λ_=>Sy.put_same _ _ _;refine fin _ hsl m kk hm (.sl id (0+0*z0) (m-0) z0 none) ?_ (λE1 hle v hcv=>?_) (λE1 w1 own hle hrw=>?_)
  .unfold aP_;have hb1:bnd none 0=some 0:=rfl;have hb3:bnd (some (AV.int kk (Int.ofNat m))) len=some m:=rfl
   grind [Nat.ble_eq]
  .have e:z=z0:=hz2;subst e;refine u2_ (len:=m) (cs:=cs') (cap:=none) (hY E1) ?_;have:=hcv.with (Y:=Y.put n (.vsl m z cs')) (λi x hx=>hv i x (by rw [←hle.1.2.2.2.1];exact hx)) (λi l hx=>hll i l (by rw [←hle.1.2.2.2.2];exact hx))
   grind
  .obtain ⟨_,hv2⟩|⟨b,oo,h1,h2,len2,z2,cs2,h3,hlen,arr,tt,h4,h5,h6,h7⟩:=hrw;have hv2:E1.sy kr=some .nsl:=hv2;rw [hle.1.2.2.2.1,hsk]at hv2;cases hv2
   .rw [hle.1.2.2.2.1,hsk]at h3;cases h3;refine .inr ⟨b,oo,h1,h2,m,z,cs',hY E1,by rw [e2];rfl,arr,tt,h4,h5,?_,λi2 a2 ha2=>?_⟩
    .grind
    rw [e1,List.getElem?_take]at ha2;split at ha2;obtain ⟨u,k1,k2,k3⟩:=h7 i2 a2 ha2;exact ⟨u,k1,k2,k3.with⟩;cases ha2
 .rename_i hxv;split at hr
  case h_2=>cases hr
  rename_i hrow;split at hr
  case h_2=>cases hr
  cases hr;rw [←hy.v]at hxv hrow;have hsi:E.sy i=some .nsl:=by
   grind [den]
  have hsk:E.sy kr=some .nsl:=by
   grind [den]
  have hY:∀E1:Env,(E1.with (Y.put n .nsl)).sy n=some .nsl:=λ_=>Sy.put_same _ _ _;have hxn:Con E .nsl (a.eval x):=by
   grind [Con]
  refine fin _ hxn 0 kk hm .nsl ?_ (λE1 hle v hcv=>?_) (λE1 w1 own hle hrw=>?_)
  .unfold aP_;have hb1:bnd none 0=some 0:=rfl;have hb3:bnd (some (AV.int kk (Int.ofNat 0))) 0=some 0:=rfl
   grind
  .simp only [Con]at hcv⊢
   grind
  obtain ⟨h1,_⟩|⟨b,oo,h1,h2,len2,z2,cs2,h3,_⟩:=hrw;exact .inl ⟨h1,hY E1⟩;rw [hle.1.2.2.2.1,hsk]at h3;cases h3
 cases hr
theorem to_ {k n id sz:Nat} {op:XOp} {args:List AV} (ha:uS_ P T H o=some (id,sz,op,args)) (hf:Fresh Y n) {r:AV} (hr:op.run P (ab_ Y.v args)=some r) (hok:okC r=true) (hy:E.At Y) (st:St P B pr N E T H D a w):
  ∃E' nx v w',(execOp a.eval o).run P w=.ok nx w'/\(nx=.value v\/(nx=.skip/\v=undef))/\E.leF k E'/\E'.At (Y.put n r)/\St P B pr N E' T ((H.erase id).push (.syl n)) D a w'/\Con E' (.slx H.next sz n) v:=by
 have hv:∀i x,E.sy i=some x->(Y.put n r).v i=some x:=λi x hx=>hf.sub_put r i x (by rw [←hy.v];exact hx);have hll:∀i l,E.syl i=some l->(Y.put n r).l i=some l:=λi l hx=>by rw [hy.l]at hx;exact hx
 have hlo:∀i,i<64->(Y.put n r).v i=E.sy i:=λi hi=>by rw [hy.v];exact hf.low r i hi
 have st1:=st.with hv hll hlo;have hn:(E.with (Y.put n r)).sy n=some r:=Sy.put_same _ _ _;have hy1:(E.with (Y.put n r)).At (Y.put n r):=⟨rfl,rfl,hy.res⟩;unfold uS_ at ha;split at ha
 .rename_i t l c ho;split at ha
  case h_2=>cases ha
  rename_i i hi0;split at ha
  case h_2=>cases ha
  rename_i j hj0;split at ha
  case h_2=>cases ha
  rename_i hb;split at ha
  case h_2=>cases ha
  rename_i e hd;split at ha
  case h_2=>cases ha
  rename_i info hinf;split at ha
  case h_2=>cases ha
  rename_i z hz;split at ha
  case h_2=>cases ha
  rename_i hzl;cases ha;obtain ⟨hij,hroom⟩:=aa_ hb;have hij:=Nat.eq_of_beq_eq_true hij;subst hij;simp only [ab_,XOp.run]at hr;split at hr
  case h_2=>cases hr
  rename_i kk m hm;split at hr
  case h_2=>cases hr
  rename_i hb2;cases hr;obtain ⟨b1,b2⟩:=aa_ hb2;rw [←hy.v]at hm;have sy:∀x,look T x=.sym i->Con (E.with (Y.put n (.vsl m info.size (ax_ (at_ z) m)))) (.int kk (.ofNat m)) (a.eval x):=λx hx=>by have hc:=st.t.look x;rw [hx]at hc;have:=(ao_ (a:=.sym i) rfl hc).con;rw [hm]at this;exact this.with hv hll
  obtain ⟨r1,r2,r3⟩:=Rel.room hroom;have hev:b5_ P H t (.int kk (.ofNat m)) (.int kk (.ofNat m))=some (.sl H.next 0 m info.size (some m),H.push (.cells (ax_ (at_ z) m))):=(by simp_all [b5_,Nat.ble_eq_true_of_le]);obtain ⟨E',v,w',g1,g2,g3,g4⟩:=eq_ st1.r (sy l hi0) (sy c hj0) hev;have hden:ab_ (E.with (Y.put n (.vsl m info.size (ax_ (at_ z) m)))).sy (ax_ (at_ z) m)=ax_ (at_ z) m:=a3_ _ hok;have hc0:Con E' (.sl H.next 0 m info.size none) v:=by
   grind [Con]
  obtain ⟨k1,k2⟩:=cW_ (H0:=H) g2.1 g3 hc0 r2 (au_ hok) (by rw [hden];exact hn) (by rw [hden];exact hok) (by
   grind [Nat.eq_of_beq_eq_true,ai_,aQ_])
  have hsame:∀j k,((H.erase H.next).push (.syl n)).get j=some k->(H.push (.syl n)).get j=some k:=λj k hj=>by
   by_cases e:H.next=j
   .have e1:((H.erase H.next).push (.syl n)).get H.next=some (.syl n):=AHeap.get_push_same (H.erase H.next) r2 _
    grind [AHeap.get_push_same]
   .have e1:((H.erase H.next).push (.syl n)).get j=(H.erase H.next).get j:=AHeap.get_push_ne (H.erase H.next) r2 e _
    grind [AHeap.get_erase_ne,AHeap.get_push_ne]
  refine ⟨E',.value v,v,w',?_,.inl rfl,(Env.with_leF k hlo).trans (g2.leF k),hy1.le g2,⟨st1.t.mono g2,k1.same hsame rfl rfl,st1.d.mono g2⟩,k2⟩;unfold execOp;simp_all
 .rename_i c ho;split at ha
  case h_2=>cases ha
  rename_i b hc;split at ha
  case h_2=>cases ha
  split at ha
  case h_2=>cases ha
  rename_i s x t tx h1 h2;split at ha
  case h_2=>cases ha
  rename_i hs0;split at ha
  case h_2=>cases ha
  rename_i i hi0;split at ha
  case h_2=>cases ha
  rename_i ik htx;split at ha
  case h_2=>cases ha
  rename_i hroom;split at ha
  case h_2=>cases ha
  rename_i e hd;split at ha
  case h_2=>cases ha
  rename_i info hinf;split at ha
  case h_2=>cases ha
  rename_i z hz;split at ha
  case h_2=>cases ha
  rename_i hzl;cases ha;simp only [ab_,XOp.run]at hr;split at hr
  case h_2=>cases hr
  rename_i kk m hm;split at hr
  case h_2=>cases hr
  rename_i hb2;cases hr;obtain ⟨b1,hb2⟩:=aa_ hb2;obtain ⟨b2,hb2⟩:=aa_ hb2;obtain ⟨b3,hb2⟩:=aa_ hb2;obtain ⟨b4,b5⟩:=aa_ hb2;rw [←hy.v]at hm;have sy:Con (E.with (Y.put n (.vsl m info.size (ax_ (at_ z) m)))) (.int kk (.ofNat m)) (a.eval x):=by have hc:=st.t.look x;rw [hi0]at hc;have:=(ao_ (a:=.sym i) rfl hc).con;rw [hm]at this;exact this.with hv hll
  have sn:Con (E.with (Y.put n (.vsl m info.size (ax_ (at_ z) m)))) .nsl (a.eval s):=(by have hc:=st1.t.look s;rw [hs0]at hc;exact hc);obtain ⟨r1,r2,r3⟩:=Rel.room hroom;have hev:dQ_ P H t tx .nsl (.int kk (.ofNat m))=some (.sl H.next 0 m info.size none,H.push (.cells (ax_ (at_ z) m))):=(by unfold dQ_ cf_;simp only [hd,hinf,hz,htx,hzl,b1,b2,b3,b4,b5,hroom,Bool.and_self]);obtain ⟨E',v,w',g1,g2,g3,g4⟩:=fJ_ (ty:=o.type) st1.r sn sy hev;have hden:ab_ (E.with (Y.put n (.vsl m info.size (ax_ (at_ z) m)))).sy (ax_ (at_ z) m)=ax_ (at_ z) m:=a3_ _ hok
  obtain ⟨k1,k2⟩:=cW_ (H0:=H) g2.1 g3 g4 r2 (au_ hok) (by rw [hden];exact hn) (by rw [hden];exact hok) (by
   grind [Nat.eq_of_beq_eq_true,ai_,aQ_])
  have hsame:∀j k,((H.erase H.next).push (.syl n)).get j=some k->(H.push (.syl n)).get j=some k:=λj k hj=>by
   by_cases e:H.next=j
   .have e1:((H.erase H.next).push (.syl n)).get H.next=some (.syl n):=AHeap.get_push_same (H.erase H.next) r2 _
    grind [AHeap.get_push_same]
   .have e1:((H.erase H.next).push (.syl n)).get j=(H.erase H.next).get j:=AHeap.get_push_ne (H.erase H.next) r2 e _
    grind [AHeap.get_erase_ne,AHeap.get_push_ne]
  obtain ⟨callee,cargs,ctypes⟩:=c;have h1:=al_ h1;have h2:=al_ h2;subst hc h1 h2;refine ⟨E',.value v,v,w',?_,.inl rfl,(Env.with_leF k hlo).trans (g2.leF k),hy1.le g2,⟨st1.t.mono g2,k1.same hsame rfl rfl,st1.d.mono g2⟩,k2⟩;unfold execOp
  grind [resolve,Sem.run_bind,Sem.run_pure,Result.andThen_ok,invoke,builtin]
 .rename_i t x lo hi mx ho;split at ha
  case h_2=>cases ha
  rename_i al;split at ha
  case h_2=>cases ha
  rename_i id' sz' i hx;split at ha
  case h_2=>cases ha
  rename_i kr hk;split at ha
  case h_2=>cases ha
  rename_i hb;split at ha
  case h_2=>cases ha
  rename_i e hd;split at ha
  case h_2=>cases ha
  rename_i ti hti;split at ha
  case h_2=>cases ha
  rename_i hb2;cases ha;obtain ⟨hij,hroom⟩:=aa_ hb;have hij:=Nat.eq_of_beq_eq_true hij;subst hij;obtain ⟨hsz,hso⟩:=aa_ hb2;have hsz:=Nat.eq_of_beq_eq_true hsz;simp only [ab_,XOp.run]at hr;split at hr
  case h_2=>cases hr
  rename_i len z cs hxv;split at hr
  case h_2=>cases hr
  rename_i kk m hm;split at hr
  case h_2=>cases hr
  rename_i hml;cases hr;have hml:=Nat.le_of_ble_eq_true hml;rw [←hy.v]at hxv hm;have hsi:=in_ hxv;have hcx:=st.t.look x;rw [hx]at hcx;obtain ⟨rfl,hsl⟩:=oz_ hsi hcx;have hda:Con (E.with (Y.put n (.vsl (Nat.sub len m) z (aj_ (Nat.mul m z) cs)))) (.int kk (.ofNat m)) (a.eval al):=by have:=(ao_ hso (st.t.look al)).con;rw [hm]at this;exact this.with hv hll
  have hsl1:Con (E.with (Y.put n (.vsl (Nat.sub len m) z (aj_ (Nat.mul m z) cs)))) (.sl id 0 len z none) (a.eval x):=hsl.with hv hll;have hsi1:(E.with (Y.put n (.vsl (Nat.sub len m) z (aj_ (Nat.mul m z) cs)))).sy kr=some (.vsl len z cs):=hv _ _ hsi;obtain ⟨hrX,hcl⟩:=st1.r.expand hk hsi1;obtain ⟨r1,r2,r3⟩:=Rel.room hroom;have hid:=AHeap.get_lt hk;have hgetX:(H.set id (.cells cs)).get id=some (.cells cs):=AHeap.get_set_same H hid _;have hev:aP_ P (H.set id (.cells cs)) t (.sl id 0 len z none) (some (.int kk (.ofNat m))) none=some (.sl id (0+m*z) (len-m) z none):=(by unfold aP_;have hb1:bnd (some (AV.int kk (Int.ofNat m))) 0=some m:=rfl;have hb3:bnd none len=some len:=rfl;simp_all [Nat.ble_eq_true_of_le]);obtain ⟨E',v,w',g1,g2,g3,g4⟩:=eK_ (P:=P) hrX hsl1 (lo:=some (.int kk (.ofNat m))) (hi:=none) (vlo:=some (a.eval al)) (vhi:=none) ⟨_,rfl,hda⟩ rfl hev;simp only [okC]at hok;have hdl:(aj_ (Nat.mul m z) cs).length=(len-m)*z:=by
   grind [aA_,Nat.sub_mul]
  simp only [Con]at g4;obtain ⟨b,oo,nn,c,off',q1,q2,q3,q4,q5,q6,_⟩:=g4;obtain ⟨arr,t',f1,f2,f3,f4⟩:=g3.blk hgetX q1;have key:∃o' off2,o'+(aj_ (Nat.mul m z) cs).length<=arr.size/\(∀(i:Nat) (x:AV),(aj_ (Nat.mul m z) cs)[i]? =some x->∃u,arr[o'+i]? =some u/\Con E' x u)/\v=.slice (some ⟨b,o'+off2,none⟩) (len-m) c/\(c≠0->off2=0)/\o'+0+c*z<=nn:=by
   by_cases hc:c=0
   .grind
   .refine ⟨oo+m*z,0,?_,λi x hx=>?_,?_,λ_=>rfl,by omega⟩<;>grind [aA_]
  obtain ⟨o',off2,e1,e2,e3,e4,e5⟩:=key;have hroomX:(H.set id (.cells cs)).room=true:=hroom;obtain ⟨p1,p2⟩:=g3.renew hroomX hgetX q1 f1 e1 e2;have hle:(E.with (Y.put n (.vsl (Nat.sub len m) z (aj_ (Nat.mul m z) cs)))).le (E'.bind H.next b o'):=Env.le_trans g2 p1;have hcon2:Con (E'.bind H.next b o') (.sl H.next 0 (len-m) z none) v:=(by exact ⟨b,o',nn,c,off2,by simp [Env.bind],p1.1.2.1 _ _ q2,e3,e4,q5,e5,λk hk=>by cases hk⟩);have hden:ab_ (E.with (Y.put n (.vsl (Nat.sub len m) z (aj_ (Nat.mul m z) cs)))).sy (aj_ (Nat.mul m z) cs)=aj_ (Nat.mul m z) cs:=a3_ _ hok;obtain ⟨k1,k2⟩:=cW_ (H0:=(H.set id (.cells cs)).erase id) hle.1 p2 hcon2 r2 (au_ hok) (by rw [hden];exact hn) (by grind) hdl;have hsame:∀j k,((H.erase id).push (.syl n)).get j=some k->(((H.set id (.cells cs)).erase id).push (.syl n)).get j=some k:=λj k hj=>by
   by_cases e:H.next=j
   .have e1:((H.erase id).push (.syl n)).get H.next=some (.syl n):=AHeap.get_push_same (H.erase id) r2 _;have e2:(((H.set id (.cells cs)).erase id).push (.syl n)).get H.next=some (.syl n):=AHeap.get_push_same ((H.set id (.cells cs)).erase id) r2 _
    grind
   .have e1:((H.erase id).push (.syl n)).get j=(H.erase id).get j:=AHeap.get_push_ne (H.erase id) r2 e _;have e2:(((H.set id (.cells cs)).erase id).push (.syl n)).get j=((H.set id (.cells cs)).erase id).get j:=AHeap.get_push_ne ((H.set id (.cells cs)).erase id) r2 e _
    grind [AHeap.get_erase_same,AHeap.get_erase_ne,AHeap.get_set_ne]
  refine ⟨E'.bind H.next b o',.value v,v,w',?_,.inl rfl,(Env.with_leF k hlo).trans (hle.leF k),hy1.le hle,⟨st1.t.mono hle,k1.same hsame rfl rfl,st1.d.mono hle⟩,k2⟩;unfold execOp;simp_all
 cases ha
end
end Go.Sx
