/-
  Functions from another state of their start: rows of a known length, laid open.
-/
import Derived.Test.YtjconanknjgpnaaGreatSyK
import Derived.Test.YtjconanknjgpnaaGreatSyM
set_option linter.unusedVariables false
set_option linter.unusedSimpArgs false
namespace Go.Sx
section
variable [Gl]
def um_ (P:Program) (fuel:Nat) (c:VC) (f:FuncId) (ft:FT) (args:List AV) (H:AHeap) (n:Nat):VT:=match P.funcs[f]? with
 |some fn=>match fn.body with
  |some cd=>match Nat.ble (aZ_ args) fn.ntmps&&(Nat.ble fn.ntmps 512&&Nat.beq c.k ft.k)with
   |true=>bo_ P fn.ntmps fuel (inN P fuel 6) c 0 cd ⟨aT_ args 0 tnil,H,n,0,[]⟩ (hi_ P fuel (inN P fuel 6) c fn.results.toList ft none) (tJ_ P fuel (inN P fuel 6) c fn.results.toList ft)
   |false=>.bad
  |none=>.bad
 |none=>.bad
end
section
variable [Gl] {P:Program} {c:VC} {fuel:Nat}
theorem FEndW.callO {ft:FT} {R:Nat->List AV->Prop} {Y0 Y:Sy} {f:FuncId} {args:List AV} {H:AHeap} (h:SemCallF P ft.k Y f args H (FEndW P ft R Y0)):SemCallF P ft.k Y f args H (pC_ ft (Nat.add 64 ft.ent.nv) Y0 R):=λB pr E w vs hy hg hr hcon=>
 Calls.mono (h B pr E w vs hy hg hr hcon) λe w' he=>by
  obtain ⟨Y',r,⟨b,a,H',j,ws,tp,rfl,h1,h2,h3,h4,hw⟩,E',hle,hy',hres⟩:=he;have hend:∃u,e=(match b with
    |true=>.panicked [{ v:=u,recovered:=false }]
    |false=>.returned u)/\Con E' a u/\Rel B pr E' H' w':=by
   cases b with
   |true=>exact hres
   |false=>exact hres
  obtain ⟨u,he,hcu,hr'⟩:=hend;have hgl:GlOk E':=hg.leF hle
  let ac:Act:={ tmps:= #[u],defers:=[] }
  have st:St P B pr 1 E' (dq_ topq 0 a) H' [] ac w':=⟨⟨rfl,by omega,λt ht=>by
   by_cases e:0=t;subst e;rw [an_ _ ht];exact hcu
   .rw [aq_ _ ht (by omega) e,bF_];simp [Con],hgl⟩,hr',rfl⟩
  obtain ⟨E2,hle2,hy2,st2⟩:=hw 1 B pr E' ac w' hy' st;have hcu2:=st2.t.con 0 (by omega);refine ⟨_,_,⟨j,ws,b,tp,h1,h2,h3,h4,rfl,rfl⟩,E2,hle.trans hle2,hy2,?_⟩;cases b with
  |true=>exact ⟨u,he,hcu2,st2.r⟩
  |false=>exact ⟨u,he,hcu2,st2.r⟩
theorem te_ (hm:P.follows .mixedOrders=true) (hc:ar_ P (a5_ P fuel)) {f:FuncId} {ft:FT} {R:Nat->List AV->Prop} {Y0 Y:Sy} {args:List AV} {H:AHeap} {n:Nat} (hf0:Fresh Y0 (Nat.add 64 ft.ent.nv)) (hf:Good P c n Y) (hx0:Ext (Nat.add 64 ft.ent.nv) Y0 Y) (hn0:Nat.add 64 ft.ent.nv<=n) (h:VOK P (QF R) [] Y (um_ P fuel c f ft args H n)):
  SemCallF P ft.k Y f args H (pC_ ft (Nat.add 64 ft.ent.nv) Y0 R):=by
 unfold um_ at h;split at h
 .rename_i fn hfn;split at h
  .rename_i cd hb;split at h
   .rename_i hle;obtain ⟨h1,hle⟩:=aa_ hle;obtain ⟨h2,h3⟩:=aa_ hle;have h1:args.length<=fn.ntmps:=(by rw [ah_]at h1;simpa [Nat.ble_eq]using h1);have h2:fn.ntmps<=512:=(by simpa [Nat.ble_eq]using h2);have h3:=Nat.eq_of_beq_eq_true h3;have fin:∀u L Y' S,L.length=S.lv->Good P c S.n Y'->Nat.add 64 ft.ent.nv<=S.n->Ext (Nat.add 64 ft.ent.nv) Y0 Y'->VOK P (QF R) L Y' (hi_ P fuel (inN P fuel 6) c fn.results.toList ft u S)->dI_ P c.k fn (FEndW P ft R Y0) Y' S.T S.H S.D u:=by
     intro u L Y' S hL hg hn hx h;refine fp_ hm hc hL hg h λr n' lv' L' Y2 _ _ _ hx2 _ h=>?_;have hx:=hx.trans hx2 hn;cases r with
     |ret a H=>obtain ⟨j,ws,tp,q1,q2,q3,q4,q5⟩:=fo_ (a:=a) rfl rfl hf0 hx ft.exs 0 (λj q hj=>by rw [Nat.zero_add];exact hj) h;exact ⟨false,a,H,j,ws,tp,rfl,q1,q2,q3,q4,q5⟩
     |pan a H=>obtain ⟨j,ws,tp,q1,q2,q3,q4,q5⟩:=fo_ (a:=a) rfl rfl hf0 hx ft.exs 0 (λj q hj=>by rw [Nat.zero_add];exact hj) h;exact ⟨true,a,H,j,ws,tp,rfl,q1,q2,q3,q4,q5⟩
    refine FEndW.callO ?_;rw [←h3];refine lO_ hm hfn hb ⟨h1,h2,aC_ cd (λY' T' H' D' hk=>?_) (λY' r hx=>?_) _ _ _ _ (bC_ hm hc cd 0 ⟨aT_ args 0 tnil,H,n,0,[]⟩ _ _ Y [] rfl hf h)⟩;obtain ⟨n',lv,L',_,q2,q3,hx,q5,h'⟩:=hk;exact fin none L' Y' ⟨T',H',n',lv,D'⟩ q2 q5 (Nat.le_trans hn0 q3) (hx0.trans hx hn0) h'
    .cases r with
     |norm T H D=>exact hx.elim
     |pan v T H D=>obtain ⟨n',lv,L',_,q2,q3,hx,q5,h'⟩:=hx;exact fin (some v) L' Y' ⟨T,H,n',lv,D⟩ q2 q5 (Nat.le_trans hn0 q3) (hx0.trans hx hn0) h'
     |exit id T H D=>obtain ⟨n',lv,L',_,_,_,_,_,h'⟩:=hx;exact h'.elim
     |ret T H D=>obtain ⟨n',lv,L',_,q2,q3,hx,q5,h'⟩:=hx;exact fin none L' Y' ⟨T,H,n',lv,D⟩ q2 q5 (Nat.le_trans hn0 q3) (hx0.trans hx hn0) h'
   exact h.elim
  exact h.elim
 exact h.elim
theorem vf_ (hm:P.follows .mixedOrders=true) (ho:kQ_ P) {f:FuncId} {ft:FT} {vs ex args:List AV} {H:AHeap} {n1 n:Nat} {R:Nat->List AV->Prop} {t:VT} (hlen:vs.length=ft.ent.nv) (hk:∀Y,KnownF P c.fc Y) (hn:64+ft.ent.nv+ex.length=n1)
  (hopen:∀(B:World) (pr:Nat->Prop) (E:Env) (w:World) (us:List Value),(∀(i:Nat) (a:AV),vs[i]? =some a->E.sy (64+i)=some a)->(∀(i:Nat) (a:AV),ex[i]? =some a->E.sy (64+ft.ent.nv+i)=some a)->Rel B pr E (ft.ent.heap 64) w->ConL E (bs_ 64 (cq_ ft.ent.slots)) us->Rel B pr E H w/\ConL E args us)
  (ht:um_ P n c f ft args H n1=t) (h:∀Y,Fresh Y 64->Gl.gt Y.v->VOK P (QF R) [] ((Y.puts 64 vs).puts (64+ft.ent.nv) ex) t):CF P f ft vs R:=
 ⟨hlen,λY hf B pr E w us hy hg hr hcon=>by obtain ⟨p1,p2,p3,p4⟩:=hf.puts vs;have hat:=bJ_ vs hf;rw [hlen]at p1;obtain ⟨q1,q2,q3,q4⟩:=p1.puts ex;have hae:=bJ_ ex p1;have hgt:Gl.gt Y.v:=Gl.gtm _ _ (λi hi=>by rw [hy.v];exact (p4 i hi).symm) hg.2;have hv:∀i a,E.sy i=some a->((Y.puts 64 vs).puts (64+ft.ent.nv) ex).v i=some a:=λi a ha=>(by rw [hy.v]at ha;exact q2 i a ha);have hl:∀i l,E.syl i=some l->((Y.puts 64 vs).puts (64+ft.ent.nv) ex).l i=some l:=λi l ha=>(by rw [hy.l]at ha;rw [q3];exact ha);have hle:E.leF ft.k (E.with ((Y.puts 64 vs).puts (64+ft.ent.nv) ex)):=Env.with_leF ft.k λi hi=>(by rw [hy.v];exact q4 i hi);have hx:Ext (Nat.add 64 ft.ent.nv) (Y.puts 64 vs) ((Y.puts 64 vs).puts (64+ft.ent.nv) ex):=Ext.puts ex _ (Nat.le_refl _);have hr1:=hr.with hv hl;have hc1:=hcon.with hv hl;obtain ⟨hr2,hc2⟩:=hopen B pr (E.with ((Y.puts 64 vs).puts (64+ft.ent.nv) ex)) w us (λi a ha=>q2 _ _ (hat i a ha)) (λi a ha=>hae i a ha) hr1 hc1;have hsem:=te_ (c:=c) (fuel:=n) (R:=R) (args:=args) (H:=H) (n:=n1) hm (dc_ hm ho n) p1 ⟨by rw [←hn];exact q1,hk _⟩ hx (by rw [←hn];exact Nat.le_add_right _ _) (by rw [ht];exact h Y hf hgt);refine Calls.mono (hsem B pr (E.with ((Y.puts 64 vs).puts (64+ft.ent.nv) ex)) w us ⟨rfl,rfl,hy.res⟩ (hg.leF hle) hr2 hc2) λe w' he=>?_;obtain ⟨Y',r,h1,E',h2,h3⟩:=he;exact ⟨Y',r,h1,E',hle.trans h2,h3⟩⟩
omit [Gl]in
theorem uA_ {E:Env} {i:Nat} {k:IntKind} {n:Int} (hi:E.sy i=some (.int k n)) {v:Value} (h:Con E (.sym i) v):Con E (.int k n) v:=by simp only [Con]at h⊢;obtain ⟨a,h1,_,h2⟩:=h;rw [hi]at h1;cases h1;simpa only [Con0]using h2
end
end Go.Sx
