/-
  The evaluator with loops by templates is right.
-/
import Derived.Test.YtmgenobllanmjaaGreatDoorSyY
set_option linter.unusedVariables false
set_option linter.unusedSimpArgs false
namespace Go.Sx
theorem gr_:∀{sh:List (Option Nat)} {l vs:List AV},flat sh l=some vs->vs.length=dD_ sh
 |[],[],vs,h=>by cases h;rfl
 |none::s,a::r,vs,h=>by unfold flat at h;split at h;rename_i l' hl;cases h;simp only [List.length_cons,dD_,gr_ hl];cases h
 |some m::s,.agg cs::r,vs,h=>by simp only [flat]at h;split at h;rename_i hd;have hd:cs.length=m:=of_decide_eq_true hd;split at h;rename_i l' hl;cases h;simp only [List.length_append,dD_,gr_ hl,hd];rfl;cases h;cases h
 |[],_::_,vs,h=>by cases h
 |none::_,[],vs,h=>by cases h
 |some _::_,[],vs,h=>by cases h
 |some m::s,.opq::r,vs,h=>by cases h
 |some m::s,.bool _::r,vs,h=>by cases h
 |some m::s,.int _ _::r,vs,h=>by cases h
 |some m::s,.flt _ _::r,vs,h=>by cases h
 |some m::s,.nan _::r,vs,h=>by cases h
 |some m::s,.str _::r,vs,h=>by cases h
 |some m::s,.nptr::r,vs,h=>by cases h
 |some m::s,.ptr _ _::r,vs,h=>by cases h
 |some m::s,.vptr _::r,vs,h=>by cases h
 |some m::s,.nsl::r,vs,h=>by cases h
 |some m::s,.sl .. ::r,vs,h=>by cases h
 |some m::s,.vsl .. ::r,vs,h=>by cases h
 |some m::s,.nmap::r,vs,h=>by cases h
 |some m::s,.map _::r,vs,h=>by cases h
 |some m::s,.nfn::r,vs,h=>by cases h
 |some m::s,.fn .. ::r,vs,h=>by cases h
 |some m::s,.nif::r,vs,h=>by cases h
 |some m::s,.iface .. ::r,vs,h=>by cases h
 |some m::s,.tup _::r,vs,h=>by cases h
 |some m::s,.sym _::r,vs,h=>by cases h
 |some m::s,.slx .. ::r,vs,h=>by cases h
 |some m::s,.ptx .. ::r,vs,h=>by cases h
theorem g2_ {sh:List (Option Nat)} {v:AV} {vs:List AV} (h:hJ_ sh v=some vs):vs.length=dD_ sh:=by
 unfold hJ_ at h
 grind [gr_]
theorem f0_:∀{a b:List AV},okL (a++b)=true->okL a=true/\okL b=true
 |[],b,h=>⟨rfl,h⟩
 |x::r,b,h=>by rw [List.cons_append,a0_]at h;obtain ⟨h1,h2⟩:=aa_ h;obtain ⟨h3,h4⟩:=f0_ h2;exact ⟨by rw [a0_,h1,h3];rfl,h4⟩
theorem eM_ {E E':Env} (him:∀b o v,E.imm b o=some v->E'.imm b o=some v):∀(sh:List (Option Nat)) (n:Nat) (l vs:List AV) (us:List Value),flat sh l=some vs->okL vs=true->ConL E l us->
  (∀i a,vs[i]? =some a->E'.sy (n+i)=some a)->ConL E' (b4_ n sh) us
 |[],n,l,vs,us,h,hok,hc,hs=>by
  cases l with
  |nil=>grind [b4_,ConL]
  |cons a r=>cases h
 |none::s,n,l,vs,us,h,hok,hc,hs=>by
  cases l with
  |nil=>cases h
  |cons a r=>
   unfold flat at h;split at h
   .rename_i l' hl;cases h;rw [a0_]at hok;obtain ⟨k1,k2⟩:=aa_ hok;obtain ⟨u,q,rfl,c1,c2⟩:=hc;refine ⟨u,q,rfl,?_,eM_ him s (n+1) r l' q hl k2 c2 λi b hb=>?_⟩;exact ⟨a,by simpa using hs 0 a rfl,ba_ k1,ce_ him (bD_ k1 c1)⟩
    .have:=hs (i+1) b (by grind)
     grind
   cases h
 |some m::s,n,l,vs,us,h,hok,hc,hs=>by
  cases l with
  |nil=>cases h
  |cons a r=>
   have ha:∃cs,a=.agg cs:=(by cases a<;>first|exact ⟨_,rfl⟩|(cases h));obtain ⟨cs,rfl⟩:=ha;simp only [flat]at h;split at h
   .rename_i hd;have hd:cs.length=m:=of_decide_eq_true hd;subst hd;split at h
    .rename_i l' hl;cases h;obtain ⟨k1,k2⟩:=f0_ hok;obtain ⟨u,q,rfl,c1,c2⟩:=hc;refine ⟨u,q,rfl,?_,eM_ him s (n+cs.length) r l' q hl k2 c2 λi b hb=>?_⟩
     .obtain ⟨ws,rfl,c3⟩:=c1;refine ⟨ws,rfl,bC_ n cs ws k1 (λi b hb=>hs i b ?_) (bs_ him (bl_ k1 c3))⟩
      grind
     .have:=hs (cs.length+i) b (by grind)
      grind
    cases h
   cases h
theorem kA_ {E E':Env} (him:∀b o v,E.imm b o=some v->E'.imm b o=some v) {sh:List (Option Nat)} {n:Nat} {v:AV} {vs:List AV} {u:Value} (h:hJ_ sh v=some vs) (hok:okL vs=true) (hc:Con E v u)
  (hs:∀i a,vs[i]? =some a->E'.sy (n+i)=some a):Con E' (dm_ n sh) u:=by
 have tup:∀(sh:List (Option Nat)) (l:List AV),v=.tup l->flat sh l=some vs->Con E' (.tup (b4_ n sh)) u:=λsh l e hfl=>by subst e;obtain ⟨us,rfl,c⟩:=hc;have:=eM_ him sh n l vs us hfl hok c hs;simp only [Con];grind
 have isT:∀sh:List (Option Nat),(∀s,sh≠[s])->hJ_ sh v=some vs->∃l,v=.tup l/\flat sh l=some vs:=λsh hne h=>by
  unfold hJ_ at h
  grind
 match sh,h with
 |[],h=>obtain ⟨l,e,h⟩:=isT [] (λs e=>by cases e) h;exact tup [] l e h
 |[none],h=>have:=eM_ him [none] n [v] vs [u] h hok (ConL.cons hc (ConL.nil E)) hs;obtain ⟨w,r,e,c,rfl⟩:=this;cases e;exact c
 |[some m],h=>have:=eM_ him [some m] n [v] vs [u] h hok (ConL.cons hc (ConL.nil E)) hs;obtain ⟨w,r,e,c,rfl⟩:=this;cases e;exact c
 |a::b::r,h=>obtain ⟨l,e,h⟩:=isT (a::b::r) (λs e=>by cases e) h;exact tup (a::b::r) l e h
mutual
theorem lP_ {E:Env} {Y:Sy} (hy:E.sy=Y.v) {id i k:Nat} (hs:(Chk.same i k).ok Y):∀{a:AV} {v:Value},Con E a v->Con E (reA id i k a) v
 | .slx a z j,v,hc=>by
   unfold reA;split
   .rename_i hb;have e:=Nat.eq_of_beq_eq_true (aa_ hb).2;simp only [Con]at hc⊢;rcases hs with ⟨e1,e2⟩|⟨n,z',cs,ds,e1,e2⟩<;>grind
   exact hc
 | .vptr cs,v,hc=>by simp only [reA,Con]at hc⊢;obtain ⟨b,o,vs,h1,h2,h3⟩:=hc;exact ⟨b,o,vs,h1,fx_ hy hs h2,h3⟩
 | .vsl n z cs,v,hc=>by obtain ⟨b,o,vs,c,h1,h2,h3,h4⟩:=hc;exact ⟨b,o,vs,c,h1,h2,fx_ hy hs h3,h4⟩
 | .fn f cs,v,hc=>by simp only [reA,Con]at hc⊢;obtain ⟨vs,h1,h2⟩:=hc;exact ⟨vs,h1,fx_ hy hs h2⟩
 | .iface t a,v,hc=>by simp only [reA,Con]at hc⊢;obtain ⟨u,h1,h2⟩:=hc;exact ⟨u,h1,lP_ hy hs h2⟩
 | .agg cs,v,hc=>by simp only [reA,Con]at hc⊢;obtain ⟨vs,h1,h2⟩:=hc;exact ⟨vs,h1,fx_ hy hs h2⟩
 | .tup cs,v,hc=>by simp only [reA,Con]at hc⊢;obtain ⟨vs,h1,h2⟩:=hc;exact ⟨vs,h1,fx_ hy hs h2⟩
 | .opq,_,hc=>hc
 | .bool _,_,hc=>hc
 | .int _ _,_,hc=>hc
 | .flt _ _,_,hc=>hc
 | .nan _,_,hc=>hc
 | .str _,_,hc=>hc
 | .nptr,_,hc=>hc
 | .ptr _ _,_,hc=>hc
 | .nsl,_,hc=>hc
 | .sl ..,_,hc=>hc
 | .nmap,_,hc=>hc
 | .map _,_,hc=>hc
 | .nfn,_,hc=>hc
 | .nif,_,hc=>hc
 | .sym _,_,hc=>hc
 | .ptx ..,_,hc=>hc
theorem fx_ {E:Env} {Y:Sy} (hy:E.sy=Y.v) {id i k:Nat} (hs:(Chk.same i k).ok Y):∀{as:List AV} {vs:List Value},ConL E as vs->ConL E (reL id i k as) vs
 |[],_,hc=>hc
 |a::as,vs,hc=>by simp only [reL,ConL]at hc⊢;obtain ⟨v,t,h1,h2,h3⟩:=hc;exact ⟨v,t,h1,lP_ hy hs h2,fx_ hy hs h3⟩
end
variable [Gl]
section
variable {P:Program} {N:Nat} {Q:AV->Prop} {fuel:Nat} {I:Inl P fuel} {c:VC}
abbrev LVs:=List (Nat->List AV->Prop)
def Good (P:Program) (c:VC) (n:Nat) (Y:Sy):Prop:=Fresh Y n/\KnownF P c.fc Y
def kV (P:Program) (Q:AV->Prop) (c:VC) (L0:LVs) (n0:Nat) (Y0:Sy) (K:VS->VT):KP:=λY T H D=>∃(n lv:Nat) (L:LVs),L0 <+: L/\L.length=lv/\n0<=n/\Ext n0 Y0 Y/\Good P c n Y/\VOK P Q L Y (K ⟨T,H,n,lv,D⟩)
def xV (P:Program) (Q:AV->Prop) (c:VC) (L0:LVs) (n0:Nat) (Y0:Sy) (X:VX->VT):XP:=λY r=>match r with
 | .exit id T H D=>∃(n lv:Nat) (L:LVs),L0 <+: L/\L.length=lv/\n0<=n/\Ext n0 Y0 Y/\Good P c n Y/\VOK P Q L Y (X (.exit id ⟨T,H,n,lv,D⟩))
 | .ret T H D=>∃(n lv:Nat) (L:LVs),L0 <+: L/\L.length=lv/\n0<=n/\Ext n0 Y0 Y/\Good P c n Y/\VOK P Q L Y (X (.ret ⟨T,H,n,lv,D⟩))
 | .pan v T H D=>∃(n lv:Nat) (L:LVs),L0 <+: L/\L.length=lv/\n0<=n/\Ext n0 Y0 Y/\Good P c n Y/\VOK P Q L Y (X (.pan v ⟨T,H,n,lv,D⟩))
 |_=>False
theorem ig_ {L0 L1:LVs} {n0 n1:Nat} {Y0 Y1:Sy} {K:VS->VT} (hL:L0 <+: L1) (hn:n0<=n1) (hx:Ext n0 Y0 Y1) {Y:Sy} {T:Tm} {H:AHeap} {D:Dfs} (h:kV P Q c L1 n1 Y1 K Y T H D):kV P Q c L0 n0 Y0 K Y T H D:=by obtain ⟨n,lv,L,h1,h2,h3,h4,h5,h6⟩:=h;exact ⟨n,lv,L,hL.trans h1,h2,by omega,hx.trans h4 hn,h5,h6⟩
theorem c4_ {L0 L1:LVs} {n0 n1:Nat} {Y0 Y1:Sy} {X:VX->VT} (hL:L0 <+: L1) (hn:n0<=n1) (hx:Ext n0 Y0 Y1) {Y:Sy} {r:CRes} (h:xV P Q c L1 n1 Y1 X Y r):xV P Q c L0 n0 Y0 X Y r:=by
 cases r with
 |exit id T H D=>obtain ⟨n,lv,L,h1,h2,h3,h4,h5,h6⟩:=h;exact ⟨n,lv,L,hL.trans h1,h2,by omega,hx.trans h4 hn,h5,h6⟩
 |ret T H D=>obtain ⟨n,lv,L,h1,h2,h3,h4,h5,h6⟩:=h;exact ⟨n,lv,L,hL.trans h1,h2,by omega,hx.trans h4 hn,h5,h6⟩
 |norm T H D=>exact h.elim
 |pan v T H D=>obtain ⟨n,lv,L,h1,h2,h3,h4,h5,h6⟩:=h;exact ⟨n,lv,L,hL.trans h1,h2,by omega,hx.trans h4 hn,h5,h6⟩
theorem Good.put {n:Nat} {Y:Sy} (h:Good P c n Y) (a:AV):Good P c (n+1) (Y.put n a):=⟨h.1.put a,h.2.sub (h.1.sub_put a) (h.1.low a)⟩
theorem Good.puts {n:Nat} {Y:Sy} (h:Good P c n Y) (l:List AV):Good P c (n+l.length) (Y.puts n l):=by obtain ⟨h1,h2,h3,h4⟩:=h.1.puts l;exact ⟨h1,h.2.sub h2 h4⟩
def Nx (P:Program) (Q:AV->Prop) (c:VC) (L:LVs) (S:VS) (Y:Sy) (kt:VS->VT) (next:KP):Prop:=
 ∀Y' (S':VS),S'.lv=S.lv->S.n<=S'.n->Ext S.n Y Y'->Good P c S'.n Y'->VOK P Q L Y' (kt S')->next Y' S'.T S'.H S'.D
def NxX (P:Program) (Q:AV->Prop) (c:VC) (L:LVs) (S:VS) (Y:Sy) (Xv:VX->VT) (X:XP):Prop:=
 ∀Y' (S':VS) v,S'.lv=S.lv->S.n<=S'.n->Ext S.n Y Y'->Good P c S'.n Y'->VOK P Q L Y' (Xv (.pan v S'))->X Y' (.pan v S'.T S'.H S'.D)
theorem pj_ {o:Oper} {op:XOp} {args:List AV} {S:VS} {Y:Sy} {L:LVs} (hf:Good P c S.n Y) (hl:cK_ S.T o=some (op,args)) (hs:ad_ args=true) {u:Tm->AV->Tm} {next:KP} {m:Option Nat} {t:VT}
  (ht:VOK P Q L Y (.lt op args S.n m t)) (hn:∀Y' x n',S.n<=n'->Ext S.n Y Y'->Good P c n' Y'->VOK P Q L Y' t->(m=none->x=.sym S.n/\n'=Nat.succ S.n)->(∀j,m=some j->x=.agg (ag_ S.n j)/\n'=Nat.add S.n j)->next Y' (u S.T x) S.H S.D):
  e6_ P N c.k o u Y S.T S.H S.D next:=by
 cases m with
 |none=>obtain ⟨r,hr,hok,htree⟩:=ht;refine ⟨Y.put S.n r,.sym S.n,S.H,hn _ _ _ (Nat.le_succ _) (Ext.put r (Nat.le_refl _)) (hf.put r) htree (λ_=>⟨rfl,rfl⟩) (λj e=>by cases e),λB pr E a w hy st=>?_⟩;obtain ⟨E',n,v,w',h1,h2,h3,st',h5⟩:=gy_ hl hs hr hy st;have hy':=hy.le h3;have hv:∀i x,E'.sy i=some x->(Y.put S.n r).v i=some x:=λi x hx=>hf.1.sub_put r i x (by rw [←hy'.v];exact hx);have hll:∀i l,E'.syl i=some l->(Y.put S.n r).l i=some l:=λi l hx=>(by rw [hy'.l]at hx;exact hx);have hlo:∀i,i<64->(Y.put S.n r).v i=E'.sy i:=λi hi=>(by rw [hy'.v];exact hf.1.low r i hi);refine ⟨E'.with (Y.put S.n r),n,v,w',h1,h2,(h3.leF c.k).trans (Env.with_leF c.k hlo),⟨rfl,rfl,hy'.res⟩,st'.with hv hll hlo,?_⟩;exact ⟨r,Sy.put_same _ _ _,ba_ hok,(bD_ hok h5).with⟩
 |some j=>obtain ⟨cs,hr,hlen,hok,htree⟩:=ht;obtain ⟨f1,f2,f3,f4⟩:=hf.1.puts cs;refine ⟨Y.puts S.n cs,.agg (ag_ S.n j),S.H,hn _ _ (Nat.add S.n j) (Nat.le_add_right _ _) (Ext.puts cs _ (Nat.le_refl _)) (by rw [←hlen];exact hf.puts cs) htree (λe=>by cases e) (λj' e=>by grind),λB pr E a w hy st=>?_⟩;obtain ⟨E',n,v,w',h1,h2,h3,st',h5⟩:=gy_ hl hs hr hy st;have hy':=hy.le h3;have hv:∀i x,E'.sy i=some x->(Y.puts S.n cs).v i=some x:=λi x hx=>f2 i x (by rw [←hy'.v];exact hx);have hll:∀i l,E'.syl i=some l->(Y.puts S.n cs).l i=some l:=λi l hx=>(by rw [f3];rw [hy'.l]at hx;exact hx);have hlo:∀i,i<64->(Y.puts S.n cs).v i=E'.sy i:=λi hi=>(by rw [hy'.v];exact f4 i hi);refine ⟨E'.with (Y.puts S.n cs),n,v,w',h1,h2,(h3.leF c.k).trans (Env.with_leF c.k hlo),⟨rfl,rfl,hy'.res⟩,st'.with hv hll hlo,?_⟩;obtain ⟨vs,rfl,hL⟩:=h5;refine ⟨vs,rfl,?_⟩;rw [←hlen];exact bC_ S.n cs vs hok (λi a ha=>bB_ cs hf.1 i a ha) (bs_ (E:=E') (E':=E'.with (Y.puts S.n cs)) (λ_ _ _ h=>h) (bl_ hok hL))
def Reads (P:Program) (N k:Nat) (Y:Sy) (S S':VS):Prop:=Weak P N k Y S.T S.H S.D Y S'.T S'.H S'.D/\∀(all:List Oper) (o:Oper) (g:Tm->Option Bool) (t:Bool),aZ_ all o=.mk g->g S.T=some t->g S'.T=some t
theorem Reads.refl (P:Program) (N k:Nat) (Y:Sy) (S:VS):Reads P N k Y S S:=⟨Weak.refl _ _ _ _ _ _ _,λ_ _ _ _ _ h=>h⟩
theorem Reads.know {P:Program} {N k:Nat} {Y:Sy} {i:Nat} {b:Bool} (hb:Y.v i=some (.bool b)) (S:VS):Reads P N k Y S (S.know i b):=⟨b6_ hb S.x S.D,λ_ _ _ _ hg h=>fX_ hg (S:=S.x) h i b⟩
omit [Gl]in
theorem qn_ {all:List Oper} {o:Oper} {g:Tm->Option Bool} (hg:aZ_ all o=.mk g) {T:Tm} {t:Bool} (h:g T=some t) (F:AHeap):g (bc_ (frz F) T)=some t:=by
 unfold aZ_ at hg;split at hg;cases hg
 .rename_i j want hgu;split at hg
  .split at hg
   .rename_i d hd;split at hg
    .cases hg;have e:(acs d).f (bc_ (frz F) T)=frz F ((acs d).f T):=aC_ _ _ _;show br_ ((acs d).f (bc_ (frz F) T)) want=some t;have h:br_ ((acs d).f T) want=some t:=h;rw [e];generalize (acs d).f T=x at h⊢;cases x with
     |tup cs=>cases cs<;>first|exact h|(simp [br_]at h)
     |_=>first|exact h|(simp [br_]at h)
    grind
   grind
  grind
theorem Reads.frz {P:Program} {N k:Nat} {Y:Sy} (S:VS) (args:List AV):Reads P N k Y S (dt_ S args):=⟨ck_ _,λ_ _ _ _ hg h=>qn_ hg h _⟩
theorem oQ_ {o:Oper} {u:Tm->AV->Tm} {S S1:VS} {Y:Sy} {L:LVs} {kt:VS->VT} {next:KP} (hnext:Nx P Q c L S Y kt next) (hn1:S1.n=S.n) (hl1:S1.lv=S.lv) (hd1:S1.D=S.D) (hf:Good P c S.n Y) {g:FuncId} {args:List AV} {sh:List (Option Nat)}
  (hso:ad_ args=true) (hst:(ac_ P o).run S1.T S1.H=some (.call g args)) (h:VOK P Q L Y (.call g args S.n sh (kt ⟨u S1.T (dm_ S.n sh),S1.H,Nat.add S.n (dD_ sh),S.lv,S.D⟩))):wCL P N c.k o u Y S1.T S1.H S1.D next:=by
 rw [←hd1]at h;obtain ⟨v,vs,hp,hfl,hok,ht⟩:=h;obtain ⟨f1,f2,f3,f4⟩:=hf.1.puts vs;have hlen:=g2_ hfl;refine ⟨g,args,Y.puts S.n vs,dm_ S.n sh,hst,?_,λB pr E a w us hy st hcon=>?_⟩;refine hnext (Y.puts S.n vs) ⟨u S1.T (dm_ S.n sh),S1.H,Nat.add S.n (dD_ sh),S.lv,S1.D⟩ rfl (Nat.le_add_right _ _) (Ext.puts vs _ (Nat.le_refl _)) ?_ ht;rw [←hlen];exact hf.puts vs;have hcon':ConL E (ab_ Y.v args) us:=(by have:=bQ_ hso hcon;rw [hy.v]at this;exact this.con);refine Calls.mono (hp S1.H B pr E w us st.t.gl st.r hcon') λe w' he=>?_;obtain ⟨E',hle,u',rfl,h1,h2⟩:=he;have hy':=hy.le hle;have st':St P B pr N E' S1.T S1.H S1.D a w':=⟨st.t.mono hle,h2,st.d.mono hle⟩;have hv:∀i x,E'.sy i=some x->(Y.puts S.n vs).v i=some x:=λi x hx=>f2 i x (by rw [←hy'.v];exact hx);have hll:∀i l,E'.syl i=some l->(Y.puts S.n vs).l i=some l:=λi l hx=>(by rw [f3];rw [hy'.l]at hx;exact hx);have hlo:∀i,i<64->(Y.puts S.n vs).v i=E'.sy i:=λi hi=>(by rw [hy'.v];exact f4 i hi);refine ⟨E'.with (Y.puts S.n vs),u',rfl,(hle.leF c.k).trans (Env.with_leF c.k hlo),⟨rfl,rfl,hy'.res⟩,st'.with hv hll hlo,?_⟩;exact kA_ (E:=E') (E':=E'.with (Y.puts S.n vs)) (λ_ _ _ h=>h) hfl hok h1 λi a ha=>bB_ vs hf.1 i a ha
omit [Gl]in
theorem fz_ {H:AHeap} {x a':AV} {i k:Nat} (h:oC_ H x=some (i,k,a')) {E:Env} {Y:Sy} (hy:E.sy=Y.v) (hs:(Chk.same i k).ok Y) {v:Value} (hc:Con E x v):Con E a' v:=by
 unfold oC_ at h;split at h
 case h_2=>cases h
 split at h
 case h_2=>cases h
 split at h;cases h;cases h;simp only [Con]at hc⊢;rcases hs with ⟨e1,e2⟩|⟨n,z',cs,ds,e1,e2⟩<;>grind
omit [Gl]in
theorem nl_ (x:AV):∀(o:Nat) (cs:List AV) (i:Nat) (b:AV),(f5_ o x cs)[i]? =some b->cs[i]? =some b\/(i=o/\b=x/\∃y,cs[i]? =some y)
 |_,[],i,b,h=>by simp [f5_]at h
 |0,y::r,0,b,h=>by simp [f5_]at h;grind
 |0,y::r,i+1,b,h=>by grind [f5_]
 |o+1,y::r,0,b,h=>by grind [f5_]
 |o+1,y::r,i+1,b,h=>by simp only [f5_,List.getElem?_cons_succ]at h⊢;exact (nl_ x o r i b h).imp id λ⟨h1,h2⟩=>⟨by omega,h2⟩
omit [Gl]in
theorem nm_ (x:AV):∀(o:Nat) (cs:List AV),(f5_ o x cs).length=cs.length
 |0,[]=>rfl
 |o+1,[]=>rfl
 |0,y::r=>rfl
 |o+1,y::r=>by simp [f5_,nm_ x o r]
omit [Gl]in
theorem gC_:∀(o:Nat) (cs:List AV),m4_ o cs=cs[o]?
 |o,[]=>by cases o<;>rfl
 |0,y::r=>rfl
 |o+1,y::r=>by simp [m4_,gC_ o r]
structure FrOk (Y:Sy) (S S':VS):Prop where
 n:S'.n=S.n
 lv:S'.lv=S.lv
 D:S'.D=S.D
 next:S'.H.next=S.H.next/\S'.H.hi=S.H.hi
 t:∀(E:Env) (tmps:Nat->Value),E.sy=Y.v->(∀t,t<512->Con E (tget S.T t) (tmps t))->∀t,t<512->Con E (tget S'.T t) (tmps t)
 r:∀(B:World) (pr:Nat->Prop) (E:Env) (w:World),E.sy=Y.v->Rel B pr E S.H w->Rel B pr E S'.H w
omit [Gl]in
theorem FrOk.refl (Y:Sy) (S:VS):FrOk Y S S:=⟨rfl,rfl,rfl,⟨rfl,rfl⟩,λ_ _ _ h=>h,λ_ _ _ _ _ h=>h⟩
omit [Gl]in
theorem FrOk.trans {Y:Sy} {S S' S'':VS} (h:FrOk Y S S') (h':FrOk Y S' S''):FrOk Y S S'':=
 ⟨h'.n.trans h.n,h'.lv.trans h.lv,h'.D.trans h.D,⟨h'.next.1.trans h.next.1,h'.next.2.trans h.next.2⟩,λE tm e hc=>h'.t E tm e (h.t E tm e hc),λB pr E w e hr=>h'.r B pr E w e (h.r B pr E w e hr)⟩
omit [Gl]in
theorem jG_ {E:Env} {a a':AV} (h:∀v,Con E a v->Con E a' v):∀(o:Nat) (cs:List AV) (vs:List Value),cs[o]? =some a->ConL E cs vs->ConL E (f5_ o a' cs) vs
 |o,[],vs,h1,_=>by simp at h1
 |0,b::r,vs,h1,hc=>by
  grind [f5_,ConL]
 |o+1,b::r,vs,h1,hc=>by simp only [List.getElem?_cons_succ]at h1;simp only [f5_,ConL]at hc⊢;obtain ⟨v,q,h2,h3,h4⟩:=hc;exact ⟨v,q,h2,h3,jG_ h o r q h1 h4⟩
omit [Gl]in
theorem qj_ {rn:List (Nat×Nat)} {t:TA} {S:VS} {Y:Sy} (h:∀i k,(i,k)∈(lz_ rn t S).l->(Chk.same i k).ok Y):FrOk Y S (lz_ rn t S).S:=by
 unfold lz_ at h⊢;split at h;exact FrOk.refl Y S;rename_i a ha;split at h;exact FrOk.refl Y S;rename_i i k a' hst;split at h
 .rename_i hoff;split at h
  .rename_i hb;have hlt:t.loc<512:=(by simp_all);have hloc:tget S.T t.loc=a:=by
    grind [kN_]
   refine ⟨rfl,rfl,rfl,⟨rfl,rfl⟩,λE tm e hc q hq=>?_,λ_ _ _ _ _ h=>h⟩
   grind [ar_,fz_,ap_]
  exact FrOk.refl Y S
 .rename_i o hoff;split at h
  .rename_i r hr;split at h
   .rename_i cs hk;have hs:=h i k (List.mem_cons_self ..);have hcell:cs[o]? =some a:=by
     grind [kN_,gC_]
    refine ⟨rfl,rfl,rfl,⟨rfl,rfl⟩,λ_ _ _ h=>h,λB pr E w e hrel=>?_⟩;refine hrel.setTo hk λown hrow=>?_;rcases hrow with ⟨_,hv⟩|⟨b,oo,q1,q2,arr,tt,q3,q4,q5,q6⟩;exact hv.elim
    .refine .inr ⟨b,oo,q1,q2,arr,tt,q3,q4,by rw [nm_];exact q5,λq x hx=>?_⟩;rcases nl_ a' o cs q x hx with hx|⟨rfl,rfl,_⟩<;>grind [fz_]
   exact FrOk.refl Y S
  .rename_i hr;unfold kN_ at ha;rw [hoff]at ha;simp only [hr]at ha;generalize Nat.sub t.loc 600=m at*;split at h
   .rename_i cs hk;split at h
    .rename_i hb;have hlt:m<512:=(by simp_all);have hcell:cs[o]? =some a:=by
      grind [gC_]
     refine ⟨rfl,rfl,rfl,⟨rfl,rfl⟩,λE tm e hc q hq=>?_,λ_ _ _ _ _ h=>h⟩
     grind [Con,ar_,jG_,fz_,ap_]
    exact FrOk.refl Y S
   .rename_i cs hk;split at h
    .rename_i hb;have hlt:m<512:=(by simp_all);have hcell:cs[o]? =some a:=by
      grind [gC_]
     refine ⟨rfl,rfl,rfl,⟨rfl,rfl⟩,λE tm e hc q hq=>?_,λ_ _ _ _ _ h=>h⟩
     grind [Con,ar_,jG_,fz_,ap_]
    exact FrOk.refl Y S
   exact FrOk.refl Y S
omit [Gl]in
theorem eA_ {x:Nat×Nat}:∀{a b:List (Nat×Nat)},x∈ed_.appP a b↔x∈a\/x∈b
 |[],b=>by simp [ed_.appP]
 |y::r,b=>by simp [ed_.appP,eA_ (a:=r),or_assoc]
omit [Gl]in
theorem g4_ {rn:List (Nat×Nat)} {Y:Sy}:∀{ts:List TA} {S:VS},(∀i k,(i,k)∈(ed_ rn ts S).l->(Chk.same i k).ok Y)->FrOk Y S (ed_ rn ts S).S
 |[],S,_=>FrOk.refl Y S
 |t::r,S,h=>by unfold ed_ at h⊢;simp only at h⊢;exact (qj_ λi k hik=>h i k (eA_.2 (.inl hik))).trans (g4_ λi k hik=>h i k (eA_.2 (.inr hik)))
theorem FrOk.weak {Y:Sy} {S S':VS} (h:FrOk Y S S') (k:Nat):Weak P N k Y S.T S.H S.D Y S'.T S'.H S'.D:=λB pr E a w hy st=>
 ⟨E,Env.leF_refl k E,hy,⟨st.t.size,st.t.le,h.t E _ hy.v st.t.con,st.t.gl⟩,h.r B pr E w hy.v st.r,by rw [h.D];exact st.d⟩
theorem nd_ {k:Nat} {Y:Sy}:∀{q:List SR} {S:VS},(∀i j,(i,j)∈or_ q->(Chk.same i j).ok Y)->Weak P N k Y S.T S.H S.D Y (reS q S).T (reS q S).H (reS q S).D/\(reS q S).n=S.n/\(reS q S).lv=S.lv/\(reS q S).D=S.D
 |[],S,_=>⟨Weak.refl _ _ _ _ _ _ _,rfl,rfl,rfl⟩
 |q::r,S,h=>by obtain ⟨h1,h2,h3,h4⟩:=nd_ (k:=k) (q:=r) (S:=⟨bc_ (reA q.id q.i q.k) S.T,S.H,S.n,S.lv,S.D⟩) λi j hm=>h i j (List.mem_cons_of_mem _ hm);refine ⟨Weak.trans (λB pr E a w hy st=>⟨E,Env.leF_refl k E,hy,⟨⟨st.t.size,st.t.le,λt ht=>?_,st.t.gl⟩,st.r,st.d⟩⟩) h1,h2,h3,h4⟩;rw [aC_];exact lP_ hy.v (h q.i q.k (List.mem_cons_self ..)) (st.t.con t ht)
omit [Gl]in
theorem rC_ {all:List Oper} {o:Oper} {g:Tm->Option Bool} (hg:aZ_ all o=.mk g) {T:Tm} {t:Bool} (h:g T=some t) (id i k:Nat):g (bc_ (reA id i k) T)=some t:=by
 unfold aZ_ at hg;split at hg;cases hg
 .rename_i j want hgu;split at hg
  .split at hg
   .rename_i d hd;split at hg
    .cases hg;have e:(acs d).f (bc_ (reA id i k) T)=reA id i k ((acs d).f T):=aC_ _ _ _;show br_ ((acs d).f (bc_ (reA id i k) T)) want=some t;have h:br_ ((acs d).f T) want=some t:=h;rw [e];generalize (acs d).f T=x at h⊢;cases x with
     |tup cs=>cases cs<;>first|exact h|(simp [br_]at h)
     |_=>first|exact h|(simp [br_]at h)
    grind
   grind
  grind
omit [Gl]in
theorem kE_ {all:List Oper} {o:Oper} {g:Tm->Option Bool} (hg:aZ_ all o=.mk g) {t:Bool}:∀{q:List SR} {S:VS},g S.T=some t->g (reS q S).T=some t
 |[],S,h=>h
 |q::r,S,h=>kE_ (q:=r) hg (S:=⟨bc_ (reA q.id q.i q.k) S.T,S.H,S.n,S.lv,S.D⟩) (rC_ hg h q.id q.i q.k)
theorem nE_ {k:Nat} {Y:Sy} {S:VS} {l:List AV} (h:∀i j,(i,j)∈(hX_ S l).l->(Chk.same i j).ok Y):Reads P N k Y S (hX_ S l).S/\(hX_ S l).S.n=S.n/\(hX_ S l).S.lv=S.lv/\(hX_ S l).S.D=S.D:=by
 unfold hX_ at h⊢;generalize hq:hq_ S.H l=q at h⊢;cases q with
 |nil=>exact ⟨Reads.frz S l,rfl,rfl,rfl⟩
 |cons a r=>obtain ⟨h1,h2,h3,h4⟩:=nd_ (P:=P) (N:=N) (k:=k) (S:=S) h;have h5:=Reads.frz (P:=P) (N:=N) (k:=k) (Y:=Y) (reS (a::r) S) (uX_ (a::r) l);exact ⟨⟨h1.trans h5.1,λall o g t hg ht=>h5.2 all o g t hg (kE_ hg ht)⟩,h2,h3,h4⟩
theorem d3_ {L:LVs} {Y:Sy} {t:VT}:∀{l:List (Nat×Nat)},VOK P Q L Y (jD_ l t)->(∀i k,(i,k)∈l->(Chk.same i k).ok Y)/\VOK P Q L Y t
 |[],h=>⟨(λ_ _ h=>by cases h),h⟩
 |(i,k)::r,h=>by obtain ⟨h1,h2⟩:=h;obtain ⟨h3,h4⟩:=d3_ (l:=r) h2;refine ⟨λi' k' hm=>?_,h4⟩;rcases List.mem_cons.1 hm with e|hm;cases e;exact h1;exact h3 i' k' hm
theorem h7_ {L:LVs} {Y:Sy} {t:VT}:∀{l:List Nat},VOK P Q L Y (rc_ l t)->(∀i,i∈l->(Chk.nn i).ok Y)/\VOK P Q L Y t
 |[],h=>⟨(λ_ h=>by cases h),h⟩
 |i::r,h=>by obtain ⟨h1,h2⟩:=h;obtain ⟨h3,h4⟩:=h7_ (l:=r) h2;refine ⟨λi' hm=>?_,h4⟩;rcases List.mem_cons.1 hm with e|hm;cases e;exact h1;exact h3 i' hm
omit [Gl]in
theorem iK_ {E:Env} {f:Nat->Value}:∀(args:List AV) (i:Nat) (T:Tm),i+args.length<=512->(∀t,t<512->Con E (tget T t) (f t))->(∀j a,args[j]? =some a->Con E a (f (i+j)))->∀t,t<512->Con E (tget (aT_ args i T) t) (f t)
 |[],i,T,_,h,_=>h
 |a::r,i,T,hl,h,ha=>by
  simp only [List.length_cons]at hl;refine iK_ r (i+1) _ (by omega) (λt ht=>?_) λj b hb=>?_
  .by_cases e:i=t;subst e;rw [ar_ _ ht];exact ha 0 a rfl
   grind [ap_]
  .have:=ha (j+1) b (by grind)
   grind
omit [Gl]in
theorem jI_:∀{l:List (Nat×AV)} {i:Nat},i<=512->jH_ i l=true->i+(cv_ l).length<=512
 |[],i,hi,_=>hi
 |(j,a)::r,i,hi,h=>by
  obtain ⟨_,h⟩:=aa_ h;obtain ⟨h1,h2⟩:=aa_ h;have h1:i<512:=(by simp_all);have:=jI_ (l:=r) (i:=i+1) h1 h2
  grind [cv_]
theorem jQ_ {ft:FT} {m:MR} {low:List Nat} {u:Tm->AV->Tm} {S:VS} {Xv:VX->VT} {kt:VS->VT} {R:Nat->List AV->Prop} {L:LVs} {Y:Sy} {n:Nat} {b:Bool} {tp:Tpl}:∀(l:List (Bool×Tpl)) (j0:Nat),sX_ P Q R L Y n j0 (sF_ ft m low u S Xv kt l)->∀j,l[j]? =some (b,tp)->∀ws,R (j0+j) ws->
  VOK P Q L (Y.puts n ws) (match b with
   |false=>kt ⟨u S.T (exV ft m low S tp),exH ft m low S tp,exN ft S tp,S.lv,S.D⟩
   |true=>Xv (.pan (exV ft m low S tp) ⟨S.T,exH ft m low S tp,exN ft S tp,S.lv,S.D⟩))
 |[],j0,_,j,hj,_,_=>by simp at hj
 |(b',tp')::r,j0,h,j,hj,ws,hw=>by
  obtain ⟨h1,h2⟩:=h;cases j with
  |zero=>
   grind
  |succ j=>exact jQ_ r (j0+1) h2 j (by simpa using hj) ws (by rw [show j0+1+j=j0+(j+1) by omega];exact hw)
theorem la_ {o:Oper} {u:Tm->AV->Tm} {S S1:VS} {Y:Sy} {L:LVs} {kt:VS->VT} {next:KP} {Xv:VX->VT} {X:XP} (hnext:Nx P Q c L S Y kt next) (hX:NxX P Q c L S Y Xv X) (hn1:S1.n=S.n) (hl1:S1.lv=S.lv) (hf:Good P c S.n Y) {g:FuncId} {ft:FT} {args:List AV}
  (hst:(ac_ P o).run S1.T S1.H=some (.call g args)) (h:VOK P Q L Y (l0_ g ft u S1 args Xv kt)):wCF P N c.k o u Y S1.T S1.H S1.D next X:=by
 unfold l0_ at h;simp only at h;generalize hfr:lA_ ft.ent ⟨aT_ args 0 topq,S1.H,S1.n,S1.lv,[]⟩=f at h;split at h;exact h.elim;rename_i m hm;split at h;exact h.elim;rename_i low hlow;split at h
 case h_2=>exact h.elim
 rename_i hb;obtain ⟨b1,hb⟩:=aa_ hb;obtain ⟨b2,hb⟩:=aa_ hb;obtain ⟨b3,hb⟩:=aa_ hb;obtain ⟨b4,b5⟩:=aa_ hb;have b2:=Nat.le_of_ble_eq_true b2;have b3:=Nat.eq_of_beq_eq_true b3;rw [ai_,ai_]at b3;obtain ⟨hs1,h⟩:=d3_ h;have hfo:FrOk Y ⟨aT_ args 0 topq,S1.H,S1.n,S1.lv,[]⟩ f.S:=by rw [←hfr];exact g4_ (by rw [←hfr]at hs1;exact hs1)
 obtain ⟨R,hF,hok,hbr⟩:=h
 let S2:VS:=⟨S1.T,f.S.H,S1.n,S1.lv,S1.D⟩
 have hf1:Fresh Y S1.n:=by rw [hn1];exact hf.1
 have hvlen:(ab_ Y.v m.hv).length=ft.ent.nv:=hF.1;refine ⟨g,args,λY' b r H'=>∃j ws tp,ft.exs[j]? =some (b,tp)/\R j ws/\okL ws=true/\ws.length=tp.nv/\Y'=(Y.puts S1.n (ab_ Y.v m.hv)).puts (S1.n+ft.ent.nv) ws/\r=exV ft m low S2 tp/\H'=exH ft m low S2 tp,hst,?_,?_,λB pr E a w us hy st hcon=>?_⟩;rintro Y' r H' ⟨j,ws,tp,h1,h2,h3,h4,rfl,rfl,rfl⟩;have hv:=jQ_ ft.exs 0 hbr j h1 ws (by grind);refine hnext _ ⟨u S1.T (exV ft m low S2 tp),exH ft m low S2 tp,exN ft S2 tp,S1.lv,S1.D⟩ hl1 ?_ ?_ ?_ hv;show S.n<=S1.n+ft.ent.nv+tp.nv;omega;rw [←hn1];exact (Ext.puts _ _ (Nat.le_refl _)).trans (Ext.puts ws _ (Nat.le_refl _)) (Nat.le_add_right _ _);have hg1:Good P c (S1.n+ft.ent.nv) (Y.puts S1.n (ab_ Y.v m.hv)):=(by rw [←hvlen,hn1];exact hf.puts _);show Good P c (S1.n+ft.ent.nv+tp.nv) _;rw [←h4];exact hg1.puts ws;rintro Y' v H' ⟨j,ws,tp,h1,h2,h3,h4,rfl,rfl,rfl⟩;have hv:=jQ_ ft.exs 0 hbr j h1 ws (by grind);refine hX _ ⟨S1.T,exH ft m low S2 tp,exN ft S2 tp,S1.lv,S1.D⟩ (exV ft m low S2 tp) hl1 ?_ ?_ ?_ hv;show S.n<=S1.n+ft.ent.nv+tp.nv;omega;rw [←hn1];exact (Ext.puts _ _ (Nat.le_refl _)).trans (Ext.puts ws _ (Nat.le_refl _)) (Nat.le_add_right _ _);have hg1:Good P c (S1.n+ft.ent.nv) (Y.puts S1.n (ab_ Y.v m.hv)):=(by rw [←hvlen,hn1];exact hf.puts _);show Good P c (S1.n+ft.ent.nv+tp.nv) _;rw [←h4];exact hg1.puts ws;have hlen:us.length=args.length:=hcon.length;have hl512:args.length<=512:=(by have:=jI_ (Nat.zero_le _) b4;omega);have hcT:∀t,t<512->Con E (tget (aT_ args 0 topq) t) ((⟨us⟩:Array Value).getD t undef):=iK_ args 0 topq (by omega) (λt _=>by rw [ca_];simp [Con]) λj x hx=>(by obtain ⟨v,h1,h2⟩:=hcon.at j x hx;simp_all);have hcT2:=hfo.t E _ hy.v hcT;have hr2:Rel B pr E f.S.H w:=hfo.r B pr E w hy.v st.r;refine Calls.mono (uA_ (S:=S2) (nargs:=(cv_ ft.ent.slots).length) hm hlow b1 b2 rfl b4 b5 hF hok hf1 hy st.t.gl hr2 (by omega) hcT2 c.k) λe w' he=>?_;obtain ⟨j,ws,b,tp,E2,v,h1,h2,h3,h4,hv,hsub,hle,hat,hrel,hcv,rfl⟩:=he;have hll:∀i l,E.syl i=some l->((Y.puts S1.n (ab_ Y.v m.hv)).puts (S1.n+ft.ent.nv) ws).l i=some l:=λi l hx=>(by obtain ⟨k1,k2,k3,k4⟩:=hf1.puts (ab_ Y.v m.hv);rw [hvlen]at k1;rw [(k1.puts ws).2.2.1,k3,←hy.l];exact hx);have hlo:∀i,i<64->((Y.puts S1.n (ab_ Y.v m.hv)).puts (S1.n+ft.ent.nv) ws).v i=E.sy i:=λi hi=>(by obtain ⟨k1,k2,k3,k4⟩:=hf1.puts (ab_ Y.v m.hv);rw [hvlen]at k1;rw [(k1.puts ws).2.2.2 i hi,k4 i hi,hy.v]);have st1:=st.with hv hll hlo;exact ⟨E2,_,b,_,_,v,⟨j,ws,tp,h1,h2,h3,h4,rfl,rfl,rfl⟩,hle,hat,⟨⟨st1.t.size,st1.t.le,λt ht=>(st1.t.con t ht).sub hsub,st1.t.gl.sub hsub⟩,hrel,st1.d.sub hsub⟩,hcv,rfl⟩
theorem qR_ {o:Oper} {u:Tm->AV->Tm} {S:VS} {Y:Sy} {L:LVs} {kt:VS->VT} {next:KP} {Xv:VX->VT} {X:XP} (hnext:Nx P Q c L S Y kt next) (hX:NxX P Q c L S Y Xv X) (hf:Good P c S.n Y) {g:FuncId} {ft:FT} {args:List AV}
  (hst:(ac_ P o).run S.T S.H=some (.call g args)) (h:VOK P Q L Y (oG_ P g ft o u S args Xv kt)):∃S',Reads P N c.k Y S S'/\wCF P N c.k o u Y S'.T S'.H S'.D next X:=by
 unfold oG_ at h;split at h;exact ⟨S,Reads.refl _ _ _ _ _,la_ hnext hX rfl rfl hf hst h⟩
 .simp only at h;split at h
  .rename_i r hst2;split at h
   .split at h
    .grind [Nat.eq_of_beq_eq_true,d3_,nE_,la_]
    exact h.elim
   exact h.elim
  exact h.elim
omit [Gl]in
theorem n6_ {all:List Oper} {o:Oper} {g:Tm->Option Bool} (hg:aZ_ all o=.mk g) {T:Tm} {t:Bool} (h:g T=some t) (k n:Nat):g (bc_ (bU_ k n) T)=some t:=by
 unfold aZ_ at hg;split at hg;cases hg
 .rename_i j want hgu;split at hg
  .split at hg
   .rename_i d hd;split at hg
    .cases hg;have e:(acs d).f (bc_ (bU_ k n) T)=bU_ k n ((acs d).f T):=aC_ _ _ _;show br_ ((acs d).f (bc_ (bU_ k n) T)) want=some t;have h:br_ ((acs d).f T) want=some t:=h;rw [e];generalize (acs d).f T=x at h⊢;cases x with
     |tup cs=>cases cs<;>first|exact h|(simp [br_]at h)
     |_=>first|exact h|(simp [br_]at h)
    grind
   grind
  grind
theorem Reads.keep {P:Program} {N k:Nat} {Y:Sy} (S:VS) (j n:Nat):Reads P N k Y S ⟨bc_ (bU_ j n) S.T,S.H,S.n,S.lv,S.D⟩:=
 ⟨λB pr E a w hy st=>⟨E,Env.leF_refl k E,hy,⟨⟨st.t.size,st.t.le,λt ht=>by rw [aC_];exact kK_ (st.t.con t ht),st.t.gl⟩,st.r,st.d⟩⟩,λ_ _ _ _ hg h=>n6_ hg h j n⟩
theorem lb_ (hm:P.follows .mixedOrders=true) (hc:an_ P (aM_ P fuel)) {o:Oper} {u:Tm->AV->Tm} {S:VS} {Y:Sy} {L:LVs} (hL:L.length=S.lv) {kt:VS->VT} {next:KP} {Xv:VX->VT} {X:XP} (hnext:Nx P Q c L S Y kt next) (hX:NxX P Q c L S Y Xv X) (hf:Good P c S.n Y)
  (h:VOK P Q L Y (l1_ P I c o u S Xv kt)):∃S',Reads P N c.k Y S S'/\wCF P N c.k o u Y S'.T S'.H S'.D next X:=by
 unfold l1_ at h;split at h;exact (show False from h).elim
 .rename_i hb;obtain ⟨hD,hk⟩:=aa_ hb;have hk:c.k<=S.H.next:=Nat.le_of_ble_eq_true hk;simp only at h;split at h
  .rename_i r hst;split at h
   .rename_i g args;refine ⟨⟨bc_ (bU_ S.H.next S.n) S.T,S.H,S.n,S.lv,S.D⟩,Reads.keep S _ _,?_⟩;have hs:=I.ok hm hc hL hf h;refine ⟨g,args,λY' b r H'=>∃n',S.n<=n'/\Ext S.n Y Y'/\Good P c n' Y'/\(match b with
     |false=>VOK P Q L Y' (kt ⟨u (bc_ (bU_ S.H.next S.n) S.T) r,H',n',S.lv,S.D⟩)
     |true=>VOK P Q L Y' (Xv (.pan r ⟨bc_ (bU_ S.H.next S.n) S.T,H',n',S.lv,S.D⟩))),hst,λY' r H' hR=>?_,λY' v H' hR=>?_,λB pr E a w vs hy st hcon=>?_⟩
    obtain ⟨n',h1,h2,h3,h4⟩:=hR;exact hnext Y' ⟨u (bc_ (bU_ S.H.next S.n) S.T) r,H',n',S.lv,S.D⟩ rfl h1 h2 h3 h4;obtain ⟨n',h1,h2,h3,h4⟩:=hR;exact hX Y' ⟨bc_ (bU_ S.H.next S.n) S.T,H',n',S.lv,S.D⟩ v rfl h1 h2 h3 h4
    .refine Calls.mono (hs B pr E w vs hy st.t.gl st.r hcon) λe w' he=>?_;obtain ⟨Y',r,⟨n',lv',L',q1,q2,q3,q4,q5,q6⟩,E',hle,hy',hres⟩:=he;have hkeep:Keeps S.H.next S.n E E':=⟨hle.phi,hle.sz,hle.imm,λi hi=>by rw [hy'.v,hy.v];exact q4 i hi⟩;have hst':∀H',Rel B pr E' H' w'->St P B pr N E' (bc_ (bU_ S.H.next S.n) S.T) H' S.D a w':=λH' hr=>⟨⟨st.t.size,st.t.le,λt ht=>by
      have:=st.t.con t ht
      grind [aC_,ku_],st.t.gl.leF hle⟩,hr,dO_ hkeep hD st.d⟩
     have hlek:E.leF c.k E':=⟨λi x hi=>hle.phi i x (Nat.lt_of_lt_of_le hi hk),hle.sz,hle.imm,hle.bim,hle.sy⟩
     have hlv:∀{A B:VT},VOK P Q L' Y' (match Nat.beq lv' S.lv with
       |true=>A
       |false=>.bad)->lv'=S.lv/\VOK P Q L Y' A:=λhv=>by
      split at hv
      .rename_i hb;have e:=Nat.eq_of_beq_eq_true hb;have:L'=L:=(q1.eq_of_length (by omega)).symm
       grind
      grind [VOK]
     cases r with
     |ret v H'=>obtain ⟨x,rfl,h1,h2⟩:=hres;obtain ⟨e,hv⟩:=hlv (B:=.bad) q6;exact ⟨E',Y',false,v,H',x,⟨n',q3,q4,q5,by grind⟩,hlek,hy',hst' H' h2,h1,rfl⟩
     |pan v H'=>obtain ⟨x,rfl,h1,h2⟩:=hres;obtain ⟨e,hv⟩:=hlv (B:=.bad) q6;exact ⟨E',Y',true,v,H',x,⟨n',q3,q4,q5,by grind⟩,hlek,hy',hst' H' h2,h1,rfl⟩
   exact h.elim
  exact h.elim
theorem sz_ (hm:P.follows .mixedOrders=true) (hc:an_ P (aM_ P fuel)) {o:Oper} {u:Tm->AV->Tm} {S:VS} {Y:Sy} {L:LVs} {kt:VS->VT} {next:KP} {Xv:VX->VT} {X:XP} (hnext:Nx P Q c L S Y kt next) (hX:NxX P Q c L S Y Xv X) (hL:L.length=S.lv) (hf:Good P c S.n Y) {g:FuncId} {args:List AV}
  (hst:(ac_ P o).run S.T S.H=some (.call g args)) (h:VOK P Q L Y (sy_ P fuel I c o u S g args Xv kt)):
  ∃S',Reads P N c.k Y S S'/\(dr_ P o u Y S'.T S'.H S'.D next X\/e6_ P N c.k o u Y S'.T S'.H S'.D next\/wCL P N c.k o u Y S'.T S'.H S'.D next\/wCF P N c.k o u Y S'.T S'.H S'.D next X):=by
 unfold sy_ at h;split at h;obtain ⟨S',h1,h2⟩:=qR_ hnext hX hf hst h;exact ⟨S',h1,.inr (.inr (.inr h2))⟩;split at h;rename_i sh hsh;split at h;rename_i hso;exact ⟨S,Reads.refl _ _ _ _ _,.inr (.inr (.inl (oQ_ hnext rfl rfl rfl hf hso hst h)))⟩;split at h;rename_i r hst2;split at h;rename_i g' args';split at h;rename_i hb;obtain ⟨e1,hso⟩:=aa_ hb;have e1:=Nat.eq_of_beq_eq_true e1;subst e1;exact ⟨dt_ S args,Reads.frz S args,.inr (.inr (.inl (oQ_ (S1:=dt_ S args) hnext rfl rfl rfl hf hso hst2 h)))⟩;exact h.elim;exact h.elim;exact h.elim;split at h;rename_i r hcall;split at h;rename_i a H';refine ⟨S,Reads.refl _ _ _ _ _,.inl ?_⟩;unfold dr_;rw [hst];refine λB pr E w vs hy hg hr hcon=>Calls.mono (hc g args S.H _ hcall B pr E w vs hg hr hcon) λe w' he=>⟨_,?_,he⟩;exact hnext Y ⟨u S.T a,H',S.n,S.lv,S.D⟩ rfl (Nat.le_refl _) (Ext.refl _ _) hf h;obtain ⟨S',h1,h2⟩:=lb_ hm hc hL hnext hX hf h;exact ⟨S',h1,.inr (.inr (.inr h2))⟩;obtain ⟨S',h1,h2⟩:=lb_ hm hc hL hnext hX hf h;exact ⟨S',h1,.inr (.inr (.inr h2))⟩
theorem he_ {o:Oper} {k:Nat} {T:Tm} {H H':AHeap} {D:Dfs} {x:AV} {Y':Sy} {B:World} {pr:Nat->Prop} {E:Env} {a:Act} {w:World} (hk:fN_ top 0 D=true) (st:St P B pr N E T H D a w)
  (h:∀(a0:Act),St P B pr N E T H [] a0 w->∃E' nx v w',(execOp a0.eval o).run P w=.ok nx w'/\(nx=.value v\/(nx=.skip/\v=undef))/\E.leF (Nat.max k top) E'/\E'.At Y'/\St P B pr N E' T H' [] a0 w'/\Con E' x v):
  ∃E' nx v w',(execOp a.eval o).run P w=.ok nx w'/\(nx=.value v\/(nx=.skip/\v=undef))/\E.leF k E'/\E'.At Y'/\St P B pr N E' T H' D a w'/\Con E' x v:=by
 obtain ⟨E',nx,v,w',h1,h2,h3,h4,st',h6⟩:=h { a with defers:=[] } ⟨⟨st.t.size,st.t.le,st.t.con,st.t.gl⟩,st.r,rfl⟩;refine ⟨E',nx,v,w',h1,h2,⟨λi x hi hx=>h3.phi i x (Nat.lt_of_lt_of_le hi (Nat.le_max_left _ _)) hx,h3.sz,h3.imm,h3.bim,h3.sy⟩,h4,⟨⟨st'.t.size,st'.t.le,st'.t.con,st'.t.gl⟩,st'.r,?_⟩,h6⟩;exact dO_ (k:=top) (n:=0) ⟨λid x hi hx=>h3.phi id x (Nat.lt_of_lt_of_le hi (Nat.le_max_right _ _)) hx,h3.sz,h3.imm,λi hi=>absurd hi (Nat.not_lt_zero _)⟩ hk st.d
theorem s0_ {o:Oper} {op:XOp} {args:List AV} {S:VS} {Y:Sy} {L:LVs} {kt:VS->VT} {next:KP} (hnext:Nx P Q c L S Y kt next) (hf:Good P c S.n Y) {id sz:Nat} (ha:q3_ P S o=some (id,sz,op,args)) {u:Tm->AV->Tm}
  (h:VOK P Q L Y (.lt op args S.n none (kt ⟨u S.T (.slx S.H.next sz S.n),(S.H.erase id).push (.syl S.n),Nat.succ S.n,S.lv,S.D⟩))):e6_ P N c.k o u Y S.T S.H S.D next:=by
 obtain ⟨r,hr,hok,htree⟩:=h;refine ⟨Y.put S.n r,.slx S.H.next sz S.n,(S.H.erase id).push (.syl S.n),hnext _ ⟨u S.T (.slx S.H.next sz S.n),(S.H.erase id).push (.syl S.n),Nat.succ S.n,S.lv,S.D⟩ rfl (Nat.le_succ _) (Ext.put r (Nat.le_refl _)) (hf.put r) htree,λB pr E a w hy st=>?_⟩;unfold q3_ at ha;split at ha;rename_i hD;exact he_ hD st λa0 st0=>sZ_ ha hf.1 hr hok hy st0;cases ha
theorem q2_ {o:Oper} {op:XOp} {args:List AV} {S:VS} {Y:Sy} {L:LVs} {kt:VS->VT} {next:KP} (hnext:Nx P Q c L S Y kt next) (hf:Good P c S.n Y) {id sz:Nat} (ha:nP_ P S o=some (id,sz,op,args)) {u:Tm->AV->Tm}
  (h:VOK P Q L Y (.lt op args S.n none (kt ⟨u S.T (.slx S.H.next sz S.n),(S.H.erase id).push (.syl S.n),Nat.succ S.n,S.lv,S.D⟩))):e6_ P N c.k o u Y S.T S.H S.D next:=by
 obtain ⟨r,hr,hok,htree⟩:=h;refine ⟨Y.put S.n r,.slx S.H.next sz S.n,(S.H.erase id).push (.syl S.n),hnext _ ⟨u S.T (.slx S.H.next sz S.n),(S.H.erase id).push (.syl S.n),Nat.succ S.n,S.lv,S.D⟩ rfl (Nat.le_succ _) (Ext.put r (Nat.le_refl _)) (hf.put r) htree,λB pr E a w hy st=>?_⟩;unfold nP_ at ha;split at ha;rename_i hD;split at ha;rename_i q hq;cases ha;exact he_ hD st λa0 st0=>q6_ hq hf.1 hr hok hy st0;exact to_ ha hf.1 hr hok hy st;cases ha
theorem tm_ {o:Oper} {op:XOp} {args:List AV} {S:VS} {Y:Sy} {L:LVs} {kt:VS->VT} {next:KP} (hnext:Nx P Q c L S Y kt next) (hf:Good P c S.n Y) {id:Nat} (ha:rU_ P S o=some (id,op,args)) {u:Tm->AV->Tm}
  (h:VOK P Q L Y (.lt op args S.n none (kt ⟨u S.T (.tup []),S.H.set id (.mpl S.n),Nat.succ S.n,S.lv,S.D⟩))):e6_ P N c.k o u Y S.T S.H S.D next:=by
 obtain ⟨r,hr,hok,htree⟩:=h;refine ⟨Y.put S.n r,.tup [],S.H.set id (.mpl S.n),hnext _ ⟨u S.T (.tup []),S.H.set id (.mpl S.n),Nat.succ S.n,S.lv,S.D⟩ rfl (Nat.le_succ _) (Ext.put r (Nat.le_refl _)) (hf.put r) htree,λB pr E a w hy st=>?_⟩;unfold rU_ at ha;split at ha;rename_i hD;exact he_ hD st λa0 st0=>tl_ ha hf.1 hr hok hy st0;cases ha
theorem gF_ {o:Oper} {op:XOp} {args:List AV} {S:VS} {Y:Sy} {L:LVs} {kt:VS->VT} {next:KP} (hnext:Nx P Q c L S Y kt next) (hf:Good P c S.n Y) {u:Tm->AV->Tm}
  (hlet:∀(r:AV),op.run P (ab_ Y.v args)=some r->∀(B:World) (pr:Nat->Prop) (E:Env) (a:Act) (w:World),E.At Y->St P B pr N E S.T S.H S.D a w->
    ∃E' n v w',(execOp a.eval o).run P w=.ok n w'/\(n=.value v\/(n=.skip/\v=undef))/\E.le E'/\St P B pr N E' S.T S.H S.D a w'/\Con E' r v)
  (h:VOK P Q L Y (.lt op args S.n none (kt ⟨u S.T (.sym S.n),S.H,Nat.succ S.n,S.lv,S.D⟩))):e6_ P N c.k o u Y S.T S.H S.D next:=by
 obtain ⟨r,hr,hok,htree⟩:=h;refine ⟨Y.put S.n r,.sym S.n,S.H,hnext _ ⟨u S.T (.sym S.n),S.H,Nat.succ S.n,S.lv,S.D⟩ rfl (Nat.le_succ _) (Ext.put r (Nat.le_refl _)) (hf.put r) htree,λB pr E a w hy st=>?_⟩;obtain ⟨E',n,v,w',h1,h2,h3,st',h5⟩:=hlet r hr B pr E a w hy st;have hy':=hy.le h3;have hv:∀i x,E'.sy i=some x->(Y.put S.n r).v i=some x:=λi x hx=>hf.1.sub_put r i x (by rw [←hy'.v];exact hx);have hll:∀i l,E'.syl i=some l->(Y.put S.n r).l i=some l:=λi l hx=>by rw [hy'.l]at hx;exact hx
 have hlo:∀i,i<64->(Y.put S.n r).v i=E'.sy i:=λi hi=>by rw [hy'.v];exact hf.1.low r i hi
 refine ⟨E'.with (Y.put S.n r),n,v,w',h1,h2,(h3.leF c.k).trans (Env.with_leF c.k hlo),⟨rfl,rfl,hy'.res⟩,st'.with hv hll hlo,?_⟩;exact ⟨r,Sy.put_same _ _ _,ba_ hok,(bD_ hok h5).with⟩
theorem rJ_ {o:Oper} {op:XOp} {args:List AV} {S:VS} {Y:Sy} {L:LVs} {kt:VS->VT} {next:KP} (hnext:Nx P Q c L S Y kt next) (hf:Good P c S.n Y) (ha:oe_ S.T o=some (op,args)) {u:Tm->AV->Tm}
  (h:VOK P Q L Y (.lt op args S.n none (kt ⟨u S.T (.sym S.n),S.H,Nat.succ S.n,S.lv,S.D⟩))):e6_ P N c.k o u Y S.T S.H S.D next:=by
 obtain ⟨r,hr,hok,htree⟩:=h;refine ⟨Y.put S.n r,.sym S.n,S.H,hnext _ ⟨u S.T (.sym S.n),S.H,Nat.succ S.n,S.lv,S.D⟩ rfl (Nat.le_succ _) (Ext.put r (Nat.le_refl _)) (hf.put r) htree,λB pr E a w hy st=>?_⟩;obtain ⟨E',n,v,w',h1,h2,h3,st',h5⟩:=rI_ ha hr hy st;have hy':=hy.le h3;have hv:∀i x,E'.sy i=some x->(Y.put S.n r).v i=some x:=λi x hx=>hf.1.sub_put r i x (by rw [←hy'.v];exact hx);have hll:∀i l,E'.syl i=some l->(Y.put S.n r).l i=some l:=λi l hx=>by rw [hy'.l]at hx;exact hx
 have hlo:∀i,i<64->(Y.put S.n r).v i=E'.sy i:=λi hi=>by rw [hy'.v];exact hf.1.low r i hi
 refine ⟨E'.with (Y.put S.n r),n,v,w',h1,h2,(h3.leF c.k).trans (Env.with_leF c.k hlo),⟨rfl,rfl,hy'.res⟩,st'.with hv hll hlo,?_⟩;exact ⟨r,Sy.put_same _ _ _,ba_ hok,(bD_ hok h5).with⟩
theorem nF_ {o:Oper} {u:Tm->AV->Tm} {S:VS} {Y:Sy} {L:LVs} {kt:VS->VT} {next:KP} (hnext:Nx P Q c L S Y kt next) (hf:Good P c S.n Y) {op:XOp} {args:List AV} (hl:cK_ S.T o=some (op,args)) (hs:ad_ args=true)
  (h:VOK P Q L Y (tY_ P c u S kt op args)):e6_ P N c.k o u Y S.T S.H S.D next:=by
 unfold tY_ at h;split at h;split at h;rename_i v hv;exact pb_ (S:=S.x) hf.2 hl hs hv (hnext Y ⟨u S.T v,S.H,S.n,S.lv,S.D⟩ rfl (Nat.le_refl _) (Ext.refl _ _) hf h);refine pj_ hf hl hs h λY' x n' f0 f1 f2 f3 f4 f5=>?_;obtain ⟨rfl,rfl⟩:=f4 rfl;exact hnext Y' ⟨_,S.H,_,S.lv,S.D⟩ rfl f0 f1 f2 f3;rename_i m hm;refine pj_ hf hl hs h λY' x n' f0 f1 f2 f3 f4 f5=>?_;obtain ⟨rfl,rfl⟩:=f5 m rfl;exact hnext Y' ⟨_,S.H,_,S.lv,S.D⟩ rfl f0 f1 f2 f3
theorem ty_ {o:Oper} {u:Tm->AV->Tm} {S:VS} {Y:Sy} {L:LVs} {kt:VS->VT} {next:KP} (hnext:Nx P Q c L S Y kt next) (hf:Good P c S.n Y) {t:VT} (ht:vf_ P c o u S kt=some t) (h:VOK P Q L Y t):e6_ P N c.k o u Y S.T S.H S.D next:=by
 unfold vf_ at ht;split at ht;cases ht;split at ht;rename_i a ha;cases ht;refine ⟨Y,a,S.H,hnext Y ⟨u S.T a,S.H,S.n,S.lv,S.D⟩ rfl (Nat.le_refl _) (Ext.refl _ _) hf h,λB pr E ac w hy st=>?_⟩;obtain ⟨v,h1,h2⟩:=nb_ st.r (λx=>st.t.look x) ha;exact ⟨E,.value v,v,w,h1,.inl rfl,Env.leF_refl _ _,hy,st,h2⟩;split at ht;rename_i op args id sz ha;cases ht;obtain ⟨r,hr,hok,htree⟩:=h;exact ⟨Y.put S.n r,.ptx id S.n sz 0,S.H,hnext _ ⟨u S.T (.ptx id S.n sz 0),S.H,Nat.succ S.n,S.lv,S.D⟩ rfl (Nat.le_succ _) (Ext.put r (Nat.le_refl _)) (hf.put r) htree,λB pr E ac w hy st=>tf_ ha hf.1 hr hok hy st⟩;split at ht
 .rename_i op args ha;have key:∀(r:AV) (Y':Sy) (x:AV),op.run P (ab_ Y.v args)=some r->Fresh Y S.n->(∀i y,Y.v i=some y->Y'.v i=some y)->Y'.l=Y.l->(∀i,i<64->Y'.v i=Y.v i)->(∀(E:Env) v,E.sy=Y.v->Con E r v->Con (E.with Y') x v)->
    ∀(B:World) (pr:Nat->Prop) (E:Env) (ac:Act) (w:World),E.At Y->St P B pr N E S.T S.H S.D ac w->
    ∃E' n v w',(execOp ac.eval o).run P w=.ok n w'/\(n=.value v\/(n=.skip/\v=undef))/\E.leF c.k E'/\E'.At Y'/\St P B pr N E' S.T S.H S.D ac w'/\Con E' x v:=by
   intro r Y' x hr _ hv hl hlo hcx B pr E ac w hy st;obtain ⟨v,h1,h2⟩:=od_ st.r (λx=>st.t.look x) ha (by rw [hy.v];exact hr);have hv':∀i y,E.sy i=some y->Y'.v i=some y:=λi y hy'=>hv i y (by rw [←hy.v];exact hy');have hl':∀i l,E.syl i=some l->Y'.l i=some l:=λi l hx=>(by rw [hl,←hy.l];exact hx);have hlo':∀i,i<64->Y'.v i=E.sy i:=λi hi=>(by rw [hlo i hi,hy.v]);exact ⟨E.with Y',.value v,v,w,h1,.inl rfl,Env.with_leF _ hlo',⟨rfl,rfl,hy.res⟩,st.with hv' hl' hlo',hcx E v hy.v h2⟩
  split at ht;cases ht;obtain ⟨r,hr,hok,htree⟩:=h;refine ⟨Y.put S.n r,.sym S.n,S.H,hnext _ ⟨u S.T (.sym S.n),S.H,Nat.succ S.n,S.lv,S.D⟩ rfl (Nat.le_succ _) (Ext.put r (Nat.le_refl _)) (hf.put r) htree,key r _ _ hr hf.1 (λi y hy=>hf.1.sub_put r i y hy) rfl (λi hi=>hf.1.low r i hi) λE v he hc=>?_⟩;exact ⟨r,Sy.put_same _ _ _,ba_ hok,(bD_ hok hc).with⟩;rename_i mm hmm;cases ht;obtain ⟨cs,hr,hlen,hok,htree⟩:=h;obtain ⟨f1,f2,f3,f4⟩:=hf.1.puts cs;refine ⟨Y.puts S.n cs,.agg (ag_ S.n mm),S.H,hnext _ ⟨u S.T (.agg (ag_ S.n mm)),S.H,Nat.add S.n mm,S.lv,S.D⟩ rfl (Nat.le_add_right _ _) (Ext.puts cs _ (Nat.le_refl _)) (by rw [←hlen];exact hf.puts cs) htree,key _ _ _ hr hf.1 f2 f3 f4 λE v he hc=>?_⟩;obtain ⟨vs,rfl,hL⟩:=hc;refine ⟨vs,rfl,?_⟩;rw [←hlen];exact bC_ S.n cs vs hok (λi a ha=>bB_ cs hf.1 i a ha) (bs_ (E:=E) (E':=E.with (Y.puts S.n cs)) (λ_ _ _ h=>h) (bl_ hok hL))
 split at ht;rename_i op args id ha;cases ht;obtain ⟨r,hr,hok,htree⟩:=h;exact ⟨Y.put S.n r,.tup [],S.H.set id (.syl S.n),hnext _ ⟨u S.T (.tup []),S.H.set id (.syl S.n),Nat.succ S.n,S.lv,S.D⟩ rfl (Nat.le_succ _) (Ext.put r (Nat.le_refl _)) (hf.put r) htree,λB pr E ac w hy st=>u4_ ha hf.1 hr hok hy st⟩;split at ht;rename_i op args id sz ha;cases ht;obtain ⟨r,hr,hok,htree⟩:=h;exact ⟨Y.put S.n r,.slx id sz S.n,S.H.set id (.syl S.n),hnext _ ⟨u S.T (.slx id sz S.n),S.H.set id (.syl S.n),Nat.succ S.n,S.lv,S.D⟩ rfl (Nat.le_succ _) (Ext.put r (Nat.le_refl _)) (hf.put r) htree,λB pr E ac w hy st=>u6_ ha hf.1 hr hok hy st⟩;cases ht
theorem sO_ (hm:P.follows .mixedOrders=true) (hc:an_ P (aM_ P fuel)) {o:Oper} {u:Tm->AV->Tm} {S:VS} {Y:Sy} {L:LVs} {kt:VS->VT} {next:KP} {Xv:VX->VT} {X:XP} (hnext:Nx P Q c L S Y kt next) (hX:NxX P Q c L S Y Xv X) (hL:L.length=S.lv) (hf:Good P c S.n Y)
  (h:VOK P Q L Y (sN_ P fuel I c o u S Xv kt)):
  ∃S':VS,Reads P N c.k Y S S'/\(dr_ P o u Y S'.T S'.H S'.D next X\/e6_ P N c.k o u Y S'.T S'.H S'.D next\/wCL P N c.k o u Y S'.T S'.H S'.D next\/wCF P N c.k o u Y S'.T S'.H S'.D next X):=by
 unfold sN_ at h;split at h;rename_i r hrun;split at h;rename_i a H';refine ⟨S,Reads.refl _ _ _ _ _,.inl ?_⟩;unfold dr_;rw [hrun];exact hnext Y ⟨u S.T a,H',S.n,S.lv,S.D⟩ rfl (Nat.le_refl _) (Ext.refl _ _) hf h;exact sz_ hm hc hnext hX hL hf hrun h;rename_i g args;refine ⟨S,Reads.refl _ _ _ _ _,.inl ?_⟩;unfold dr_;rw [hrun];exact hnext Y ⟨u S.T (.tup []),S.H,S.n,S.lv,(g,args)::S.D⟩ rfl (Nat.le_refl _) (Ext.refl _ _) hf h;rename_i v;refine ⟨S,Reads.refl _ _ _ _ _,.inl ?_⟩;unfold dr_;rw [hrun];exact hX Y S v rfl (Nat.le_refl _) (Ext.refl _ _) hf h;exact h.elim
 .split at h
  .rename_i i a b hp;obtain ⟨t,ht,h1,h2⟩:=h;unfold gD_ at hp;split at hp
   .rename_i cd a' b' ho;split at hp
    .rename_i i' hl;cases hp;refine ⟨S.know i t,Reads.know ht S,.inl ?_⟩;have hlook:look (S.know i t).T cd=.bool t:=cM_ hl S.x rfl t;have hst:(ac_ P o).run (S.know i t).T (S.know i t).H=some (.val (match t with|true=>look (S.know i t).T a|false=>look (S.know i t).T b) S.H):=by unfold ac_;rw [ho];show OC.run (.po λT=>m9_ (look T cd) (look T a) (look T b)) _ _=_;unfold OC.run;simp only;rw [hlook];cases t<;>rfl
     unfold dr_;rw [hst];cases t with
     |true=>exact hnext Y ⟨u (S.know i true).T (look (S.know i true).T a),S.H,S.n,S.lv,S.D⟩ rfl (Nat.le_refl _) (Ext.refl _ _) hf (h1 rfl)
     |false=>exact hnext Y ⟨u (S.know i false).T (look (S.know i false).T b),S.H,S.n,S.lv,S.D⟩ rfl (Nat.le_refl _) (Ext.refl _ _) hf (h2 rfl)
    cases hp
   cases hp
  .rename_i hp;split at h;rename_i v hv;exact ⟨S,Reads.refl _ _ _ _ _,.inr (.inl (mh_ (S:=S.x) hf.2 hv (hnext Y ⟨u S.T v,S.H,S.n,S.lv,S.D⟩ rfl (Nat.le_refl _) (Ext.refl _ _) hf h)))⟩;split at h
   .grind [Reads.refl,ty_]
   split at h
   .grind [Reads.refl,s0_]
   split at h
   .grind [Reads.refl,q2_]
   split at h
   .grind [Reads.refl,rJ_]
   split at h
   .grind [Reads.refl,tm_]
   split at h
   .rename_i op args ha;split at h
    .grind [Reads.refl,gF_,qw_]
    exact h.elim
   split at h
   .grind [Reads.refl,gF_,p5_]
   split at h
   .grind [Reads.refl,gF_,uN_]
   split at h
   .grind [Reads.refl,gF_,rv_]
   split at h
   .rename_i op args hl;split at h
    .grind [Reads.refl,nF_]
    split at h;rename_i op' args' hl';split at h;rename_i hs;exact ⟨dt_ S args,Reads.frz S args,.inr (.inl (nF_ (S:=dt_ S args) hnext hf hl' hs h))⟩;exact h.elim;exact h.elim
   exact h.elim
theorem vd_ (hm:P.follows .mixedOrders=true) (hc:an_ P (aM_ P fuel)) {all:List Oper} {o:Oper} {u:Tm->AV->Tm} {S:VS} {Y:Sy} {L:LVs} {kt:VS->VT} {next:KP} {Xv:VX->VT} {X:XP} (hnext:Nx P Q c L S Y kt next) (hX:NxX P Q c L S Y Xv X) (hL:L.length=S.lv) (hf:Good P c S.n Y)
  (h:VOK P Q L Y (vOp P fuel I c all o u Xv kt S)):
  ∃S':VS,Reads P N c.k Y S S'/\∃t,(match aZ_ all o with
    | .always=>some true
    | .mk g=>g S'.T)=some t/\(t=true->dr_ P o u Y S'.T S'.H S'.D next X\/e6_ P N c.k o u Y S'.T S'.H S'.D next\/wCL P N c.k o u Y S'.T S'.H S'.D next\/wCF P N c.k o u Y S'.T S'.H S'.D next X)/\(t=false->next Y (u S'.T (.tup [])) S'.H S'.D):=by
 unfold vOp sJ_ at h;split at h
 .rename_i t ht;split at h;exact ⟨S,Reads.refl _ _ _ _ _,false,ht,(λe=>by cases e),λ_=>hnext Y ⟨u S.T (.tup []),S.H,S.n,S.lv,S.D⟩ rfl (Nat.le_refl _) (Ext.refl _ _) hf h⟩
  .obtain ⟨S',h1,h2⟩:=sO_ (N:=N) (X:=X) hm hc hnext hX hL hf h;refine ⟨S',h1,true,?_,λ_=>h2,λe=>by cases e⟩;split at ht
   .grind
   rename_i g hg;rw [hg];exact h1.2 _ _ _ _ hg ht
 exact h.elim
theorem ql_ (b:Bool) (o:Oper) (S:VS) (Y:Sy):Weak P N c.k Y S.T S.H S.D Y (n5_ b o S).T (n5_ b o S).H (n5_ b o S).D/\(n5_ b o S).n=S.n/\(n5_ b o S).lv=S.lv:=by
 have key:∀l:List AV,Weak P N c.k Y S.T S.H S.D Y (dt_ S l).T (dt_ S l).H (dt_ S l).D/\(dt_ S l).n=S.n/\(dt_ S l).lv=S.lv:=λl=>⟨ck_ _,rfl,rfl⟩;have key0:Weak P N c.k Y S.T S.H S.D Y S.T S.H S.D/\S.n=S.n/\S.lv=S.lv:=⟨Weak.refl _ _ _ _ _ _ _,rfl,rfl⟩;unfold n5_;repeat' split
 all_goals first|exact key0|exact key _|exact ⟨fK_ _ _,rfl,rfl⟩
theorem is_ (hm:P.follows .mixedOrders=true) (hc:an_ P (aM_ P fuel)) {all:List Oper} {X:VX->VT} {K:VS->VT} {L:LVs}:∀(l:List Oper) (S:VS) (Y:Sy),L.length=S.lv->Good P c S.n Y->VOK P Q L Y (l2_ P N fuel I c all X l S K)->f9_ P N c.k all l Y S.T S.H S.D (kV P Q c L S.n Y K) (xV P Q c L S.n Y X)
 |[],S,Y,hL,hf,h=>⟨S.n,S.lv,L,List.prefix_refl L,hL,Nat.le_refl _,Ext.refl _ _,hf,h⟩
 |o::r,S,Y,hL,hf,h=>by
  have ih:=is_ hm hc (all:=all) (X:=X) (K:=K) (L:=L) r;have fin:∀(S1:VS) (u:Tm->AV->Tm),bT_ N o.dst=.mk u->S1.n=S.n->S1.lv=S.lv->Weak P N c.k Y S.T S.H S.D Y S1.T S1.H S1.D->VOK P Q L Y (vOp P fuel I c all o u X (λS=>l2_ P N fuel I c all X r S K) S1)->
    f9_ P N c.k all (o::r) Y S.T S.H S.D (kV P Q c L S.n Y K) (xV P Q c L S.n Y X):=by
   intro S1 u hu hn1 hl1 hw h1;obtain ⟨S',h2,t,ht,h3,h4⟩:=vd_ (N:=N) (X:=xV P Q c L S.n Y X) (next:=λY' T H D=>f9_ P N c.k all r Y' T H D (kV P Q c L S.n Y K) (xV P Q c L S.n Y X)) hm hc (λY' S2 g1 g2 g3 g4 g5=>by
    rw [hn1]at g2 g3;exact hw_ (λ_ _ _ _ hk=>ig_ (List.prefix_refl L) g2 g3 hk) (λ_ _ h=>c4_ (List.prefix_refl L) g2 g3 h) _ _ _ _ _ (ih S2 Y' (by omega) g4 g5))
    (λY' S2 v g1 g2 g3 g4 hv=>⟨S2.n,S2.lv,L,List.prefix_refl L,by omega,by omega,by grind,g4,hv⟩) (by omega) (by grind) h1
   refine ⟨Y,S'.T,S'.H,S'.D,hw.trans h2.1,?_⟩
   grind
  unfold l2_ at h;split at h;exact h.elim
  .rename_i u hu;split at h
   .rename_i i hg;obtain ⟨t,ht,h1,h2⟩:=h;cases t with
    |true=>exact fin (S.know i true) u hu rfl rfl (b6_ ht S.x S.D) (h1 rfl)
    |false=>exact fin (S.know i false) u hu rfl rfl (b6_ ht S.x S.D) (h2 rfl)
   grind [ql_]
end
end Go.Sx
