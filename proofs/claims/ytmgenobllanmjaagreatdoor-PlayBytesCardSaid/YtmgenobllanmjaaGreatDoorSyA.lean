/-
  What code comes to, as a proposition on abstract states: branches that are not known, loops by a measure, calls by what is known of them.
-/
import Derived.Test.YtmgenobllanmjaaGreatDoorSxX
set_option linter.unusedVariables false
set_option linter.unusedSimpArgs false
namespace Go.Sx
structure Env.leF (k:Nat) (E E':Env):Prop where
 phi:∀i x,i<k->E.φ i=some x->E'.φ i=some x
 sz:∀b n,E.sz b=some n->E'.sz b=some n
 imm:∀b o v,E.imm b o=some v->E'.imm b o=some v
 bim:E'.bim=E.bim
 sy:∀i,i<64->E'.sy i=E.sy i
theorem Env.leF_refl (k:Nat) (E:Env):E.leF k E:=⟨λ_ _ _ h=>h,λ_ _ h=>h,λ_ _ _ h=>h,rfl,λ_ _=>rfl⟩
theorem Env.leF.trans {k:Nat} {E E' E'':Env} (h:E.leF k E') (h':E'.leF k E''):E.leF k E'':=
 ⟨λi x hi hx=>h'.phi i x hi (h.phi i x hi hx),λb n hx=>h'.sz b n (h.sz b n hx),λb o v hx=>h'.imm b o v (h.imm b o v hx),h'.bim.trans h.bim,λi hi=>(h'.sy i hi).trans (h.sy i hi)⟩
theorem Env.le.leF {E E':Env} (h:E.le E') (k:Nat):E.leF k E':=⟨λi x _ hx=>h.1.1 i x hx,h.1.2.1,h.1.2.2.1,h.2.2.1,λi _=>by rw [h.1.2.2.2.1]⟩
structure Sy where
 v:Nat->Option AV
 l:Nat->Option (List AV)
structure Env.At (E:Env) (Y:Sy):Prop where
 v:E.sy=Y.v
 l:E.syl=Y.l
 res:∀id,E.res id->E.vd id
theorem Env.At.le {E E':Env} {Y:Sy} (h:E.At Y) (hle:E.le E'):E'.At Y:=⟨hle.1.2.2.2.1.trans h.v,hle.1.2.2.2.2.trans h.l,by rw [hle.2.1,hle.2.2.2];exact h.res⟩
variable [Gl]
def SemCall (P:Program) (Y:Sy) (f:FuncId) (args:List AV) (H:AHeap) (Q:FRes->Prop):Prop:=
 ∀(B:World) (pr:Nat->Prop) (E:Env) (w:World) (vs:List Value),E.At Y->GlOk E->Rel B pr E H w->ConL E args vs->
  Calls P f ⟨vs⟩ w (λe w'=>∃r,Q r/\FPost B pr E r e w')
theorem SemCall.mono {P:Program} {Y:Sy} {f:FuncId} {args:List AV} {H:AHeap} {Q Q':FRes->Prop} (hq:∀r,Q r->Q' r) (h:SemCall P Y f args H Q):SemCall P Y f args H Q':=
 λB pr E w vs hy hg hr hc=>Calls.mono (h B pr E w vs hy hg hr hc) λe w' he=>by grind
def QOutF (P:Program) (B:World) (pr:Nat->Prop) (N k:Nat) (E:Env) (Y:Sy) (r:CRes) (e:Exit) (a:Act) (w:World):Prop:=
 ∃E',E.leF k E'/\E'.At Y/\match r with
  | .norm T H D=>e=.normal/\St P B pr N E' T H D a w
  | .exit id T H D=>e=.exit id/\St P B pr N E' T H D a w
  | .ret T H D=>e=.ret/\St P B pr N E' T H D a w
  | .pan v T H D=>∃u,e=.panic [{ v:=u,recovered:=false }]/\Con E' v u/\St P B pr N E' T H D a w
abbrev KP:=Sy->Tm->AHeap->Dfs->Prop
abbrev XP:=Sy->CRes->Prop
def ay_ (K:KP) (X:XP) (Y:Sy) (r:CRes):Prop:=match r with
 | .norm T H D=>K Y T H D
 |r=>X Y r
def Weak (P:Program) (N k:Nat) (Y:Sy) (T:Tm) (H:AHeap) (D:Dfs) (Y':Sy) (T':Tm) (H':AHeap) (D':Dfs):Prop:=
 ∀(B:World) (pr:Nat->Prop) (E:Env) (a:Act) (w:World),E.At Y->St P B pr N E T H D a w->∃E',E.leF k E'/\E'.At Y'/\St P B pr N E' T' H' D' a w
theorem Weak.refl (P:Program) (N k:Nat) (Y:Sy) (T:Tm) (H:AHeap) (D:Dfs):Weak P N k Y T H D Y T H D:=λB pr E a w hy st=>⟨E,Env.leF_refl k E,hy,st⟩
theorem Weak.trans {P:Program} {N k:Nat} {Y Y' Y'':Sy} {T T' T'':Tm} {H H' H'':AHeap} {D D' D'':Dfs} (h:Weak P N k Y T H D Y' T' H' D') (h':Weak P N k Y' T' H' D' Y'' T'' H'' D''):Weak P N k Y T H D Y'' T'' H'' D'':=
 λB pr E a w hy st=>by obtain ⟨E',h1,hy',st'⟩:=h B pr E a w hy st;obtain ⟨E'',h2,hy'',st''⟩:=h' B pr E' a w hy' st';exact ⟨E'',h1.trans h2,hy'',st''⟩
section
variable {P:Program} {B:World} {pr:Nat->Prop} {N k:Nat} {E:Env}
theorem QOut.toF {Y:Sy} (hy:E.At Y) {r:CRes} {e:Exit} {a:Act} {w:World} (h:QOut P B pr N E r e a w):QOutF P B pr N k E Y r e a w:=by obtain ⟨E',h1,h2⟩:=h;exact ⟨E',h1.leF k,hy.le h1,h2⟩
theorem QOutF.le {Y:Sy} {E':Env} (h:E.leF k E') {r:CRes} {e:Exit} {a:Act} {w:World} (hq:QOutF P B pr N k E' Y r e a w):QOutF P B pr N k E Y r e a w:=by obtain ⟨E'',h1,h2⟩:=hq;exact ⟨E'',h.trans h1,h2⟩
end
def OutF (P:Program) (B:World) (pr:Nat->Prop) (N k:Nat) (E:Env) (R:Sy->CRes->Prop) (e:Exit) (a:Act) (w:World):Prop:=∃Y r,R Y r/\QOutF P B pr N k E Y r e a w
theorem OutF.le {P:Program} {B:World} {pr:Nat->Prop} {N k:Nat} {E E':Env} (h:E.leF k E') {R:Sy->CRes->Prop} {e:Exit} {a:Act} {w:World} (hq:OutF P B pr N k E' R e a w):OutF P B pr N k E R e a w:=by obtain ⟨Y,r,h1,h2⟩:=hq;exact ⟨Y,r,h1,h2.le h⟩
def dr_ (P:Program) (o:Oper) (u:Tm->AV->Tm) (Y:Sy) (T:Tm) (H:AHeap) (D:Dfs) (next:KP) (X:XP):Prop:=match (ac_ P o).run T H with
 |some (.val a H')=>next Y (u T a) H' D
 |some (.call g args)=>SemCall P Y g args H λr=>match r with
  | .ret a H'=>next Y (u T a) H' D
  | .pan v H'=>X Y (.pan v T H' D)
 |some (.dfr g args)=>next Y (u T (.tup [])) H ((g,args)::D)
 |some (.pan v)=>X Y (.pan v T H D)
 |_=>False
def e6_ (P:Program) (N k:Nat) (o:Oper) (u:Tm->AV->Tm) (Y:Sy) (T:Tm) (H:AHeap) (D:Dfs) (next:KP):Prop:=
 ∃(Y':Sy) (r:AV) (H':AHeap),next Y' (u T r) H' D/\∀(B:World) (pr:Nat->Prop) (E:Env) (a:Act) (w:World),E.At Y->St P B pr N E T H D a w->
  ∃E' n v w',(execOp a.eval o).run P w=.ok n w'/\(n=.value v\/(n=.skip/\v=undef))/\E.leF k E'/\E'.At Y'/\St P B pr N E' T H' D a w'/\Con E' r v
def wCL (P:Program) (N k:Nat) (o:Oper) (u:Tm->AV->Tm) (Y:Sy) (T:Tm) (H:AHeap) (D:Dfs) (next:KP):Prop:=
 ∃(g:FuncId) (args:List AV) (Y':Sy) (r:AV),(ac_ P o).run T H=some (.call g args)/\next Y' (u T r) H D/\∀(B:World) (pr:Nat->Prop) (E:Env) (a:Act) (w:World) (vs:List Value),E.At Y->St P B pr N E T H D a w->
  ConL E args vs->Calls P g ⟨vs⟩ w λe w'=>∃E' v,e=.returned v/\E.leF k E'/\E'.At Y'/\St P B pr N E' T H D a w'/\Con E' r v
def wCF (P:Program) (N k:Nat) (o:Oper) (u:Tm->AV->Tm) (Y:Sy) (T:Tm) (H:AHeap) (D:Dfs) (next:KP) (X:XP):Prop:=
 ∃(g:FuncId) (args:List AV) (R:Sy->Bool->AV->AHeap->Prop),(ac_ P o).run T H=some (.call g args)/\(∀Y' r H',R Y' false r H'->next Y' (u T r) H' D)/\(∀Y' v H',R Y' true v H'->X Y' (.pan v T H' D))/\
  ∀(B:World) (pr:Nat->Prop) (E:Env) (a:Act) (w:World) (vs:List Value),E.At Y->St P B pr N E T H D a w->ConL E args vs->
   Calls P g ⟨vs⟩ w λe w'=>∃E' Y' b r H' v,R Y' b r H'/\E.leF k E'/\E'.At Y'/\St P B pr N E' T H' D a w'/\Con E' r v/\e=(match b with
    |true=>.panicked [{ v:=v,recovered:=false }]
    |false=>.returned v)
def f9_ (P:Program) (N k:Nat) (all:List Oper):List Oper->Sy->Tm->AHeap->Dfs->KP->XP->Prop
 |[],Y,T,H,D,K,X=>K Y T H D
 |o::r,Y0,T0,H0,D0,K,X=>∃Y T H D,Weak P N k Y0 T0 H0 D0 Y T H D/\match bT_ N o.dst with
  | .bad=>False
  | .mk u=>∃t,(match aZ_ all o with
     | .always=>some true
     | .mk g=>g T)=some t/\
     (t=true->dr_ P o u Y T H D (λY T H D=>f9_ P N k all r Y T H D K X) X\/e6_ P N k o u Y T H D (λY T H D=>f9_ P N k all r Y T H D K X)\/wCL P N k o u Y T H D (λY T H D=>f9_ P N k all r Y T H D K X)\/wCF P N k o u Y T H D (λY T H D=>f9_ P N k all r Y T H D K X) X)/\
     (t=false->f9_ P N k all r Y (u T (.tup [])) H D K X)
section
variable {P:Program} {N k:Nat}
theorem it_ (ops:Array Oper):∀(l:List Oper) (Y:Sy) (T:Tm) (H:AHeap) (D:Dfs) (K:KP) (X:XP),f9_ P N k ops.toList l Y T H D K X->∀B pr E a w,E.At Y->St P B pr N E T H D a w->
  wpList P ops (OutF P B pr N k E (ay_ K X)) l a w
 |[],Y,T,H,D,K,X,h,B,pr,E,a,w,hy,st=>⟨Y,.norm T H D,h,E,Env.leF_refl k E,hy,rfl,st⟩
 |o::l,Y0,T0,H0,D0,K,X,h,B,pr,E0,a,w,hy0,st0=>by
  obtain ⟨Y,T,H,D,hweak,h⟩:=h;obtain ⟨E,hle0,hy,st⟩:=hweak B pr E0 a w hy0 st0;refine wpList_mono (λe a w hq=>OutF.le hle0 hq) _ _ _ ?_;have ih:=it_ ops l;split at h;exact h.elim
  .rename_i u hu;obtain ⟨t,ht,h1,h2⟩:=h;have key:Region.wanted o (yielded ops a.tmps)=t:=by
    split at ht
    .grind [cZ_]
    rename_i g hg;exact eO_ st.t hg ht
   have pd:∀v,(a.put o.dst v).defers=a.defers:=λv=>(by unfold Act.put;split<;>rfl);unfold wpList;cases t with
   |false=>rw [if_neg (by grind)];exact ih _ _ _ _ _ _ (h2 rfl) B pr E _ w hy ⟨st.t.put hu (a6_ E),st.r,by rw [pd];exact st.d⟩
   |true=>
    rw [if_pos key];refine .inl ?_;rcases h1 rfl with h1|h1|h1|h1
    .unfold dr_ at h1;split at h1
     .rename_i x H' hrun;obtain ⟨E',n,v,w',g1,g2,g3,g4,g5⟩:=aw_ hrun st.r st.t;unfold Oper.wp;rw [g1];have key:wpList P ops (OutF P B pr N k E (ay_ K X)) l (a.put o.dst v) w':=
       wpList_mono (λe a w hq=>OutF.le (g3.leF k) hq) _ _ _ (ih _ _ _ _ _ _ h1 B pr E' (a.put o.dst v) w' (hy.le g3) ⟨(st.t.mono g3).put hu g5,g4,by rw [pd];exact st.d.mono g3⟩)
      rcases g2 with rfl|⟨rfl,rfl⟩;exact key;exact key
     .rename_i g args hrun;obtain ⟨vs,g1,g2⟩:=aw_ hrun st.r st.t;unfold Oper.wp;rw [g1];refine Calls.mono (h1 B pr E w vs hy st.t.gl st.r g2) λe w' he=>?_;obtain ⟨r,hq,E',g3,he⟩:=he;cases r with
      |ret x H'=>obtain ⟨v,rfl,g4,g5⟩:=he;exact wpList_mono (λe a w hq=>OutF.le (g3.leF k) hq) _ _ _ (ih _ _ _ _ _ _ hq B pr E' (a.put o.dst v) w' (hy.le g3) ⟨(st.t.mono g3).put hu g4,g5,by rw [pd];exact st.d.mono g3⟩)
      |pan x H'=>obtain ⟨v,rfl,g4,g5⟩:=he;exact ⟨Y,.pan x T H' D,hq,E',g3.leF k,hy.le g3,v,rfl,g4,st.t.mono g3,g5,st.d.mono g3⟩
     .rename_i g args hrun;obtain ⟨vs,g1,g2,g3⟩:=aw_ hrun st.r st.t;unfold Oper.wp;rw [g1];refine ih _ _ _ _ _ _ h1 B pr E _ w hy ⟨?_,st.r,?_⟩
      .have:=st.t.put (a:=a) hu (a6_ E);have e:(({ a with defers:={ target:=.fn (.func g) #[],args:=⟨vs⟩ }::a.defers }:Act).put o.dst undef).tmps=(a.put o.dst undef).tmps:=by unfold Act.put;split<;>rfl
       grind
      have e:(({ a with defers:={ target:=.fn (.func g) #[],args:=⟨vs⟩ }::a.defers }:Act).put o.dst undef).defers={ target:=.fn (.func g) #[],args:=⟨vs⟩ }::a.defers:=(by unfold Act.put;split<;>rfl);rw [e];exact ⟨vs,a.defers,rfl,g2,g3,st.d⟩
     rename_i v hrun;obtain ⟨u',g1,g2⟩:=aw_ hrun st.r st.t;unfold Oper.wp;rw [g1];exact ⟨Y,.pan v T H D,h1,E,Env.leF_refl k E,hy,u',rfl,g2,st⟩
     grind
    .obtain ⟨Y',r,H',hnext,hrun⟩:=h1;obtain ⟨E',n,v,w',g1,g2,g3,hy',st',g5⟩:=hrun B pr E a w hy st;unfold Oper.wp;rw [g1];have key:wpList P ops (OutF P B pr N k E (ay_ K X)) l (a.put o.dst v) w':=
      wpList_mono (λe a w hq=>OutF.le g3 hq) _ _ _ (ih _ _ _ _ _ _ hnext B pr E' (a.put o.dst v) w' hy' ⟨st'.t.put hu g5,st'.r,by rw [pd];exact st'.d⟩)
     rcases g2 with rfl|⟨rfl,rfl⟩;exact key;exact key
    obtain ⟨g,args,Y',r,hst,hnext,hrun⟩:=h1;obtain ⟨vs,g1,g2⟩:=aw_ hst st.r st.t;unfold Oper.wp;rw [g1];refine Calls.mono (hrun B pr E a w vs hy st g2) λe w' he=>?_;obtain ⟨E',v,rfl,g3,hy',st',g5⟩:=he;exact wpList_mono (λe a w hq=>OutF.le g3 hq) _ _ _ (ih _ _ _ _ _ _ hnext B pr E' (a.put o.dst v) w' hy' ⟨st'.t.put hu g5,st'.r,by rw [pd];exact st'.d⟩)
    .obtain ⟨g,args,R,hst,hnext,hX,hrun⟩:=h1;obtain ⟨vs,g1,g2⟩:=aw_ hst st.r st.t;unfold Oper.wp;rw [g1];refine Calls.mono (hrun B pr E a w vs hy st g2) λe w' he=>?_;obtain ⟨E',Y',b,r,H',v,hR,g3,hy',st',g5,rfl⟩:=he;cases b with
     |false=>exact wpList_mono (λe a w hq=>OutF.le g3 hq) _ _ _ (ih _ _ _ _ _ _ (hnext Y' r H' hR) B pr E' (a.put o.dst v) w' hy' ⟨st'.t.put hu g5,st'.r,by rw [pd];exact st'.d⟩)
     |true=>exact ⟨Y',.pan r T H' D,hX Y' r H' hR,E',g3,hy',v,rfl,g5,st'⟩
end
def nQ_ (id:Nat) (K:KP) (X:XP) (Y:Sy) (r:CRes):Prop:=match r with
 | .exit id' T H D=>(id'=id->K Y T H D)/\(id'≠id->X Y r)
 |r=>X Y r
structure AS where
 Y:Sy
 T:Tm
 H:AHeap
 D:Dfs
def aE_ (P:Program) (N k:Nat):Code->Sy->Tm->AHeap->Dfs->KP->XP->Prop
 | .skip,Y,T,H,D,K,X=>K Y T H D
 | .label _,Y,T,H,D,K,X=>K Y T H D
 | .region id ops draw,Y,T,H,D,K,X=>match draw with
   |false=>f9_ P N k ops.toList ops.toList Y T H D K X
   |true=>(∃Y1 T1 H1 D1,Weak P N k Y T H D Y1 T1 H1 D1/\∃call r,an_ P call/\iJ_ P call N ops.toList T1 H1 D1=some r/\ay_ K X Y1 r)\/
     ∀B pr E a w,E.At Y->St P B pr N E T H D a w->(Code.region id ops true).wp P (OutF P B pr N k E (ay_ K X)) a w
 | .seq a b,Y,T,H,D,K,X=>aE_ P N k a Y T H D (λY T H D=>aE_ P N k b Y T H D K X) X
 | .cond c a b,Y,T,H,D,K,X=>∃Y1 T1 H1 D1,Weak P N k Y T H D Y1 T1 H1 D1/\∃t,look T1 c=.bool t/\(t=true->aE_ P N k a Y1 T1 H1 D1 K X)/\(t=false->aE_ P N k b Y1 T1 H1 D1 K X)
 | .block id b,Y,T,H,D,K,X=>aE_ P N k b Y T H D K (nQ_ id K X)
 | .loop b,Y,T,H,D,K,X=>∃(ι:Type) (S:ι->AS) (μ:ι->Nat) (i0:ι),Weak P N k Y T H D (S i0).Y (S i0).T (S i0).H (S i0).D/\
    ∀i,aE_ P N k b (S i).Y (S i).T (S i).H (S i).D (λY' T' H' D'=>∃j,μ j<μ i/\Weak P N k Y' T' H' D' (S j).Y (S j).T (S j).H (S j).D) X
 | .exit id,Y,T,H,D,K,X=>X Y (.exit id T H D)
 | .ret,Y,T,H,D,K,X=>X Y (.ret T H D)
 |_,_,_,_,_,_,_=>False
section
variable {P:Program} {N k:Nat}
theorem OutF.then {B:World} {pr:Nat->Prop} {E:Env} {K:KP} {X:XP} {Q:Exit->Act->World->Prop} {KA:Act->World->Prop} {e:Exit} {a:Act} {w:World} (h:OutF P B pr N k E (ay_ K X) e a w)
  (hk:∀E' Y T H D a w,K Y T H D->E.leF k E'->E'.At Y->St P B pr N E' T H D a w->KA a w) (hx:∀Y r e a w,(∀T H D,r≠ .norm T H D)->X Y r->QOutF P B pr N k E Y r e a w->Q e a w):Exit.then KA Q e a w:=by
 obtain ⟨Y,r,hr,hq⟩:=h;have hex:∀e,(∀T H D,r≠ .norm T H D)->QOutF P B pr N k E Y r e a w->e≠ .normal:=λe hn hq he=>by
  obtain ⟨E',h1,_,h2⟩:=hq
  grind
 cases r with
 |norm T H D=>obtain ⟨E',h1,hy,rfl,h2⟩:=hq;exact hk E' Y T H D a w hr h1 hy h2
 |exit id T H D=>have:=hx Y _ e a w (λ_ _ _ h=>by cases h) hr hq;have hne:=hex e (λ_ _ _ h=>by cases h) hq;cases e<;>first|exact absurd rfl hne|exact this
 |ret T H D=>have:=hx Y _ e a w (λ_ _ _ h=>by cases h) hr hq;have hne:=hex e (λ_ _ _ h=>by cases h) hq;cases e<;>first|exact absurd rfl hne|exact this
 |pan v T H D=>have:=hx Y _ e a w (λ_ _ _ h=>by cases h) hr hq;have hne:=hex e (λ_ _ _ h=>by cases h) hq;cases e<;>first|exact absurd rfl hne|exact this
omit [Gl]in
theorem hD_ {K:KP} {X:XP} {Y:Sy} {r:CRes} (hn:∀T H D,r≠ .norm T H D) (h:X Y r):ay_ K X Y r:=by
 cases r with
 |norm T H D=>grind
 |exit id T H D=>exact h
 |ret T H D=>exact h
 |pan v T H D=>exact h
theorem cO_ (hm:P.follows .mixedOrders=true):∀(c:Code) (Y:Sy) (T:Tm) (H:AHeap) (D:Dfs) (K:KP) (X:XP),aE_ P N k c Y T H D K X->∀B pr E a w,E.At Y->St P B pr N E T H D a w->
  c.wp P (OutF P B pr N k E (ay_ K X)) a w
 | .skip,Y,T,H,D,K,X,h,B,pr,E,a,w,hy,st=>by exact wp_skip ⟨Y,.norm T H D,h,E,Env.leF_refl k E,hy,rfl,st⟩
 | .label _,Y,T,H,D,K,X,h,B,pr,E,a,w,hy,st=>by exact wp_label ⟨Y,.norm T H D,h,E,Env.leF_refl k E,hy,rfl,st⟩
 | .exit id,Y,T,H,D,K,X,h,B,pr,E,a,w,hy,st=>by exact wp_exit ⟨Y,.exit id T H D,h,E,Env.leF_refl k E,hy,rfl,st⟩
 | .ret,Y,T,H,D,K,X,h,B,pr,E,a,w,hy,st=>by exact wp_ret ⟨Y,.ret T H D,h,E,Env.leF_refl k E,hy,rfl,st⟩
 | .region id ops false,Y,T,H,D,K,X,h,B,pr,E,a,w,hy,st=>by
   grind [aE_,wp_region_list,it_]
 | .region id ops true,Y,T,H,D,K,X,h,B,pr,E,a,w,hy,st=>by
   rcases h with h|h;obtain ⟨Y1,T1,H1,D1,hweak,call,r,hc,hd,hr⟩:=h;obtain ⟨E1,hle,hy1,st1⟩:=hweak B pr E a w hy st;exact Code.wp_mono (λe a w hq=>⟨Y1,r,hr,(QOut.toF hy1 hq).le hle⟩) (ic_ hm hc N id ops T1 H1 D1 r hd B pr E1 a w st1)
   grind
 | .seq x y,Y,T,H,D,K,X,h,B,pr,E,a,w,hy,st=>by unfold aE_ at h;refine wp_seq (Code.wp_mono (λe a w hq=>?_) (cO_ hm x Y T H D _ X h B pr E a w hy st));refine OutF.then hq (λE' Y T H D a w hK hle hy' st'=>?_) λY r e a w hn hX hq=>⟨Y,r,hD_ hn hX,hq⟩;exact Code.wp_mono (λe a w hq=>OutF.le hle hq) (cO_ hm y Y T H D K X hK B pr E' a w hy' st')
 | .cond c x y,Y,T,H,D,K,X,h,B,pr,E,a,w,hy,st=>by
   obtain ⟨Y1,T1,H1,D1,hweak,t,ht,h1,h2⟩:=h;obtain ⟨E1,hle,hy1,st1⟩:=hweak B pr E a w hy st;refine Code.wp_mono (λe a w hq=>OutF.le hle hq) ?_;have hl:a.eval c=.bool t:=(by have:=st1.t.look c;grind [Con]);cases t with
   |true=>exact wp_cond_true hl (cO_ hm x Y1 T1 H1 D1 K X (h1 rfl) B pr E1 a w hy1 st1)
   |false=>exact wp_cond_false hl (cO_ hm y Y1 T1 H1 D1 K X (h2 rfl) B pr E1 a w hy1 st1)
 | .block id b,Y,T,H,D,K,X,h,B,pr,E,a,w,hy,st=>by
   refine wp_block (Code.wp_mono (λe a w hq=>?_) (cO_ hm b Y T H D K _ h B pr E a w hy st));obtain ⟨Y',r,hr,hq⟩:=hq;cases e with
   |exit id'=>
    show if id'=id then _ else _
    obtain ⟨E',h1,hy',h2⟩:=hq;cases r with
    |norm T H D=>cases h2.1
    |ret T H D=>cases h2.1
    |pan v T H D=>grind
    |exit i2 T' H' D'=>obtain ⟨he,st'⟩:=h2;cases he;split;rename_i hid;exact ⟨Y',.norm T' H' D',hr.1 hid,E',h1,hy',rfl,st'⟩;rename_i hid;exact ⟨Y',.exit id' T' H' D',hr.2 hid,E',h1,hy',rfl,st'⟩
   |normal=>
    obtain ⟨E',h1,hy',h2⟩:=hq;cases r with
    |norm T' H' D'=>exact ⟨Y',.norm T' H' D',hr,E',h1,hy',h2⟩
    |exit i2 T H D=>cases h2.1
    |ret T H D=>cases h2.1
    |pan v T H D=>grind
   |ret=>
    obtain ⟨E',h1,hy',h2⟩:=hq;cases r with
    |ret T' H' D'=>exact ⟨Y',.ret T' H' D',hr,E',h1,hy',h2⟩
    |exit i2 T H D=>cases h2.1
    |norm T H D=>cases h2.1
    |pan v T H D=>grind
   |panic ch=>
    obtain ⟨E',h1,hy',h2⟩:=hq;cases r with
    |pan v T' H' D'=>exact ⟨Y',.pan v T' H' D',hr,E',h1,hy',h2⟩
    |exit i2 T H D=>cases h2.1
    |norm T H D=>cases h2.1
    |ret T H D=>cases h2.1
   |goto l=>
    obtain ⟨E',h1,hy',h2⟩:=hq
    grind
   |outgrown=>
    obtain ⟨E',h1,hy',h2⟩:=hq
    grind
 | .loop b,Y,T,H,D,K,X,h,B,pr,E,a,w,hy,st=>by
   obtain ⟨ι,S,μ,i0,hw0,hb⟩:=h;have rounds:∀(m:Nat) (i:ι),μ i<m->∀E' a w,E.leF k E'->E'.At (S i).Y->St P B pr N E' (S i).T (S i).H (S i).D a w->Code.rounds P b (OutF P B pr N k E (ay_ K X)) m a w:=by
    intro m
    induction m with
    |zero=>grind
    |succ m ih=>intro i hi E' a w hle hy st;refine Code.wp_mono (λe a w hq=>?_) (cO_ hm b _ _ _ _ _ X (hb i) B pr E' a w hy st);refine OutF.then hq (λE2 Y T H D a w hK hle2 hy2 st2=>?_) λY r e a w hn hX hq=>⟨Y,r,hD_ hn hX,hq.le hle⟩;obtain ⟨j,hj,hweak⟩:=hK;obtain ⟨E3,hle3,hy3,st3⟩:=hweak B pr E2 a w hy2 st2;exact ih j (by omega) E3 a w (hle.trans (hle2.trans hle3)) hy3 st3
   obtain ⟨E1,hle1,hy1,st1⟩:=hw0 B pr E a w hy st;exact wp_loop_rounds (μ i0+1) (rounds (μ i0+1) i0 (Nat.lt_succ_self _) E1 a w hle1 hy1 st1)
 | .scope _,Y,T,H,D,K,X,h,B,pr,E,a,w,hy,st=>by grind [aE_]
 | .goto _,Y,T,H,D,K,X,h,B,pr,E,a,w,hy,st=>by grind [aE_]
 | .refuse _,Y,T,H,D,K,X,h,B,pr,E,a,w,hy,st=>by grind [aE_]
 | .rangeFunc _ _ _ _,Y,T,H,D,K,X,h,B,pr,E,a,w,hy,st=>by grind [aE_]
def lc_ (k:Nat) (B:World) (pr:Nat->Prop) (E:Env) (Y:Sy) (r:FRes) (e:Ending) (w':World):Prop:=
 ∃E',E.leF k E'/\E'.At Y/\match r with
  | .ret v H'=>∃u,e=.returned u/\Con E' v u/\Rel B pr E' H' w'
  | .pan v H'=>∃u,e=.panicked [{ v:=u,recovered:=false }]/\Con E' v u/\Rel B pr E' H' w'
def dq_ (P:Program) (k:Nat) (fn:Func) (Q:Sy->FRes->Prop) (Y:Sy) (T:Tm) (H:AHeap) (D:Dfs) (u:Option AV):Prop:=
 (∃call n r,an_ P call/\cU_ P call n fn.results.toList T D H u=some r/\Q Y r)\/
 ∀B pr E w tmps ds m,E.At Y->TRel E fn.ntmps T tmps->Rel B pr E H w->DRel P E D ds->ModeAt E u m->Leaves P fn tmps (λe w'=>∃Y r,Q Y r/\lc_ k B pr E Y r e w') ds m w
def t1_ (P:Program) (k:Nat) (fn:Func) (Q:Sy->FRes->Prop) (Y:Sy) (r:CRes):Prop:=match r with
 | .norm T H D=>dq_ P k fn Q Y T H D none
 | .ret T H D=>dq_ P k fn Q Y T H D none
 | .pan v T H D=>dq_ P k fn Q Y T H D (some v)
 | .exit _ _ _ _=>False
def SemCallF (P:Program) (k:Nat) (Y:Sy) (f:FuncId) (args:List AV) (H:AHeap) (Q:Sy->FRes->Prop):Prop:=
 ∀(B:World) (pr:Nat->Prop) (E:Env) (w:World) (vs:List Value),E.At Y->GlOk E->Rel B pr E H w->ConL E args vs->
  Calls P f ⟨vs⟩ w (λe w'=>∃Y' r,Q Y' r/\lc_ k B pr E Y' r e w')
def wFn (P:Program) (k:Nat) (fn:Func) (c:Code) (Y:Sy) (args:List AV) (H:AHeap) (Q:Sy->FRes->Prop):Prop:=
 args.length<=fn.ntmps/\fn.ntmps<=512/\aE_ P fn.ntmps k c Y (aT_ args 0 tnil) H [] (λY T H D=>dq_ P k fn Q Y T H D none) (t1_ P k fn Q)
theorem jX_ (hm:P.follows .mixedOrders=true) {f:FuncId} {fn:Func} {c:Code} (hf:P.funcs[f]? =some fn) (hb:fn.body=some c) {Y:Sy} {args:List AV} {H:AHeap} {Q:Sy->FRes->Prop}
  (h:wFn P k fn c Y args H Q):SemCallF P k Y f args H Q:=by
 intro B pr E w vs hy hg hr hc;obtain ⟨hle,h5,h⟩:=h;have leave:∀(E':Env) (Y':Sy) (a:Act) (w':World) (T:Tm) (H':AHeap) (D:Dfs) (u:Option AV) (m:FrameMode),dq_ P k fn Q Y' T H' D u->E.leF k E'->E'.At Y'->St P B pr fn.ntmps E' T H' D a w'->ModeAt E' u m->
   Leaves P fn a.tmps (λe w'=>∃Y r,Q Y r/\lc_ k B pr E Y r e w') a.defers m w':=by
  intro E' Y' a w' T H' D u m hl hle hy' st hmode;rcases hl with ⟨call,n,r,h1,h2,h3⟩|hl
  case inr=>exact Leaves.mono (λe w ⟨Y,r,h1,E'',g1,g2⟩=>⟨Y,r,h1,E'',hle.trans g1,g2⟩) _ _ _ (hl B pr E' w' a.tmps a.defers m hy' st.t st.r st.d hmode)
  refine Leaves.mono (λe w hq=>?_) _ _ _ (c6_ h1 (λN=>ic_ hm h1 N) D H' u r h2 E' w' a.defers m st.t st.r st.d hmode);obtain ⟨E'',g1,g2⟩:=hq;exact ⟨Y',r,h3,E'',hle.trans (g1.leF k),hy'.le g1,g2⟩
 refine calls_of_wp_defers hf hb (Code.wp_mono (λe a w' hq=>?_) (cO_ hm c _ _ _ _ _ _ h B pr E _ w hy ⟨fh_ hg hc hle h5,hr,rfl⟩));obtain ⟨Y',r',hd,E',h1,hy',h2⟩:=hq;cases r' with
 |norm T H' D=>obtain ⟨rfl,st⟩:=h2;exact leave E' Y' a w' T H' D none .returning hd h1 hy' st rfl
 |ret T H' D=>obtain ⟨rfl,st⟩:=h2;exact leave E' Y' a w' T H' D none .returning hd h1 hy' st rfl
 |pan v T H' D=>obtain ⟨u,rfl,h3,st⟩:=h2;exact leave E' Y' a w' T H' D (some v) _ hd h1 hy' st ⟨u,rfl,h3⟩
 |exit id T H' D=>exact hd.elim
end
end Go.Sx
