/-
  Regions whose order is open, with symbols.
-/
import Derived.Test.YtbjjpimpabbpdaaGreatDoorSyJ
set_option linter.unusedVariables false
set_option linter.unusedSimpArgs false
namespace Go.Sx
theorem dK_ (T:Tm) {t:Nat} (ht:t<512):∀(rd:List Nat) (R:Tm),tget (ar_ T rd R) t=if t∈rd then tget T t else tget R t
 |[],R=>by simp [ar_]
 |d::r,R=>by
  unfold ar_;split
  .rename_i hb;have hd:d<512:=(by simpa [Nat.blt_eq]using hb);rw [dK_ T ht r];by_cases e:d=t
   .subst e;rw [ap_ R hd];by_cases hm:d∈r<;>simp [hm]
   rw [av_ R ht hd e];have e':t≠d:=λh=>e h.symm;simp [e']
  .rename_i hb;have hd:¬d<512:=λh=>by have:Nat.blt d 512=true:=(by simpa [Nat.blt_eq]using h);rw [hb]at this;cases this
   rw [dK_ T ht r];have e':t≠d:=λh=>(by omega);simp [e']
mutual
theorem qz_ {n:Nat} {s s':Nat->Option AV} (hs:∀k,k<n->s k=s' k):∀{a:AV},eN_ n a=true->den s a=den s' a
 | .opq,_=>rfl
 | .bool _,_=>rfl
 | .int _ _,_=>rfl
 | .flt _ _,_=>rfl
 | .nan _,_=>rfl
 | .str _,_=>rfl
 | .nptr,_=>rfl
 | .ptr _ _,_=>rfl
 | .vptr cs,h=>by simp only [eN_]at h;simp only [den,be_ hs h]
 | .nsl,_=>rfl
 | .sl ..,_=>rfl
 | .vsl _ _ cs,h=>by simp only [eN_]at h;simp only [den,be_ hs h]
 | .nmap,_=>rfl
 | .map _,_=>rfl
 | .nfn,_=>rfl
 | .fn _ cs,h=>by simp only [eN_]at h;simp only [den,be_ hs h]
 | .nif,_=>rfl
 | .iface _ a,h=>by simp only [eN_]at h;simp only [den,qz_ hs h]
 | .agg cs,h=>by simp only [eN_]at h;simp only [den,be_ hs h]
 | .tup cs,h=>by simp only [eN_]at h;simp only [den,be_ hs h]
 | .sym i,h=>by have hi:i<n:=(by simpa [eN_,Nat.blt_eq]using h);simp only [den,hs i hi]
 | .slx ..,_=>rfl
 | .ptx ..,_=>rfl
theorem be_ {n:Nat} {s s':Nat->Option AV} (hs:∀k,k<n->s k=s' k):∀{l:List AV},aF_ n l=true->ab_ s l=ab_ s' l
 |[],_=>rfl
 |a::r,h=>by simp only [aF_]at h;obtain ⟨h1,h2⟩:=aa_ h;simp only [ab_,qz_ hs h1,be_ hs h2]
end
variable [Gl]
section
variable {P:Program} {N:Nat} {Q:AV->Prop} {c:VC}
theorem kr_ {s:Nat->Option AV} {m:Nat} {H:AHeap} {R:Tm} {o:Oper} {q:AV} (h:ch_ (ac_ P o) R H=some q):SemOp P s m N H R o q:=λB pr E a w hE ht hr C X hC=>by obtain ⟨E',n,v,w',h1,h2,h3,h4,h5⟩:=aw_ (kp_ h) hr ht;have:=hC E' v w' h3 h4 h5;unfold Oper.wp;rw [h1];rcases h2 with rfl|⟨rfl,rfl⟩;exact this;exact this
theorem lu_ {s:Nat->Option AV} {m:Nat} {H:AHeap} {R:Tm} {o:Oper} {q:AV} (h:nn_ P R o=some q):SemOp P s m N H R o q:=λB pr E a w hE ht hr C X hC=>by
 unfold nn_ at h;split at h
 case h_2=>cases h
 rename_i t n ps ho;split at h
 case h_2=>cases h
 rename_i r hr0;obtain ⟨h1,h2⟩:=d7_ (E:=E) (ρ:=look R) (σ:=a.eval) (λx=>ht.look x) ps.toList;have e:(ps.map λp=>(p.1,a.eval p.2)).toList=ps.toList.map λp=>(p.1,a.eval p.2):=by simp
 obtain ⟨e',sz,cs,arr,hroom,rfl,hlen,hc,hrun⟩:=di_ (E:=E) (vparts:=ps.map λp=>(p.1,a.eval p.2)) (by rw [e];exact h2) (by rw [e];exact h1) hr0;simp only at h;split at h
 case h_2=>cases h
 rename_i cs' hcs;split at h
 case h_2=>cases h
 cases h;have hcs':cs'=cs:=by have:=AHeap.get_push_same ⟨hnil,0,1⟩ (show 0<top by decide) (.cells cs);have hcs:(AHeap.push ⟨hnil,0,1⟩ (.cells cs)).get 0=some (.cells cs'):=hcs;rw [show (AHeap.push ⟨hnil,0,1⟩ (.cells cs)).get 0=some (.cells cs) from this]at hcs;cases hcs;rfl
 subst hcs';obtain ⟨i1,i2⟩:=hr.new_imm (arr:=arr) (t:=e') (fr:=(0,0)) (vs:=arr.toList) (λi v hv=>by simpa using hv);have:=hC _ (.slice (some ⟨w.heap.size,0,none⟩) n n) _ i1 i2 (by simp only [Con];exact ⟨w.heap.size,0,arr.toList,n,rfl,Nat.le_refl _,hc.sub i1.1,λi v hv=>by simp only [Nat.zero_add,if_pos];exact hv⟩);unfold Oper.wp;have hx:(execOp a.eval o).run P w=.ok (.value (.slice (some ⟨w.heap.size,0,none⟩) n n)) (w.alloc (.cells arr e')):=by unfold execOp;rw [ho];simp only [Sem.run_bind,hrun w,Result.andThen_ok,Sem.run_pure]
 rw [hx];exact this
theorem n1_ {Y:Sy} {n:Nat} (hf:Fresh Y n) {H:AHeap} {R:Tm} {o:Oper} {g:FuncId} {args:List AV} {sh:List (Option Nat)} {v:AV} {vs:List AV} (hst:(ac_ P o).run R H=some (.call g args)) (hso:ad_ args=true) (hlt:aF_ n args=true)
  (hp:kD_ P g (ab_ Y.v args) v) (hfl:hr_ sh v=some vs) (hok:okL vs=true):SemOp P (Y.puts n vs).v (n+cL_ sh) N H R o (de_ n sh):=λB pr E a w hE ht hr C X hC=>by
 obtain ⟨us,g1,g2⟩:=aw_ hst hr ht;have hlen:=gD_ hfl;have hden:ab_ E.sy args=ab_ Y.v args:=be_ (λk hk=>(hE k (by omega)).trans (Ext.puts vs n (Nat.le_refl n) k hk)) hlt;have hcon:ConL E (ab_ Y.v args) us:=by rw [←hden];exact (bK_ hso g2).con
 unfold Oper.wp;rw [g1];refine Calls.mono (hp H B pr E w us ht.gl hr hcon) λe w' he=>?_;obtain ⟨E',hle,u',rfl,h1,h2⟩:=he;exact hC E' u' w' hle h2 (j4_ (E:=E') (E':=E') (λ_ _ _ h=>h) hfl hok h1 λi a ha=>by rw [hle.1.2.2.2.1,hE (n+i) (by rw [←hlen];have:=(List.getElem?_eq_some_iff.1 ha).1;omega)];exact b0_ vs hf i a ha)
theorem ja_ {Y:Sy} {n:Nat} {H:AHeap} {R:Tm} {o:Oper} {op:XOp} {args:List AV} {r:AV} (hl:c9_ R o=some (op,args)) (hso:ad_ args=true) (hlt:aF_ n args=true) (hr:op.run P (ab_ Y.v args)=some r) (hok:okC r=true):
  SemOp P (Y.put n r).v (n+1) N H R o (.sym n):=λB pr E a w hE ht hrel C X hC=>by
 have hden:ab_ E.sy args=ab_ Y.v args:=be_ (λk hk=>(hE k (by omega)).trans (Sy.put_ne _ _ (by omega))) hlt;obtain ⟨E',nx,v,w',h1,h2,h3,h4,h5⟩:=nK_ hl hso (r:=r) (by rw [hden];exact hr) hrel ht;have:=hC E' v w' h3 h4 (by simp only [Con];refine ⟨r,?_,bn_ hok,bW_ hok h5⟩;rw [h3.1.2.2.2.1,hE n (by omega)];exact Sy.put_same _ _ _);unfold Oper.wp;rw [h1];rcases h2 with rfl|⟨rfl,rfl⟩;exact this;exact this
theorem mS_ {Y:Sy} {n:Nat} {H:AHeap} {R:Tm} {o:Oper} {op:XOp} {args:List AV} {r:AV} (hl:jR_ R H o=some (op,args)) (hlt:aF_ n args=true) (hr:op.run P (ab_ Y.v args)=some r) (hok:okC r=true):
  SemOp P (Y.put n r).v (n+1) N H R o (.sym n):=λB pr E a w hE ht hrel C X hC=>by
 have hden:ab_ E.sy args=ab_ Y.v args:=be_ (λk hk=>(hE k (by omega)).trans (Sy.put_ne _ _ (by omega))) hlt;obtain ⟨E',nx,v,w',h1,h2,h3,h4,h5⟩:=jS_ hrel (λx=>ht.look x) hl (r:=r) (by rw [hden];exact hr);have:=hC E' v w' h3 h4 (by simp only [Con];refine ⟨r,?_,bn_ hok,bW_ hok h5⟩;rw [h3.1.2.2.2.1,hE n (by omega)];exact Sy.put_same _ _ _);unfold Oper.wp;rw [h1];rcases h2 with rfl|⟨rfl,rfl⟩;exact this;exact this
theorem n2_ {Y:Sy} {n:Nat} (hf:Fresh Y n) {H:AHeap} {R:Tm} {o:Oper} {op:XOp} {args cs:List AV} (hl:c9_ R o=some (op,args)) (hso:ad_ args=true) (hlt:aF_ n args=true) (hr:op.run P (ab_ Y.v args)=some (.agg cs)) (hok:okL cs=true):
  SemOp P (Y.puts n cs).v (n+cs.length) N H R o (.agg (ah_ n cs.length)):=λB pr E a w hE ht hrel C X hC=>by
 have hden:ab_ E.sy args=ab_ Y.v args:=be_ (λk hk=>(hE k (by omega)).trans (Ext.puts cs n (Nat.le_refl n) k hk)) hlt;obtain ⟨E',nx,v,w',h1,h2,h3,h4,h5⟩:=nK_ hl hso (r:=.agg cs) (by rw [hden];exact hr) hrel ht;have:=hC E' v w' h3 h4 (by simp only [Con]at h5⊢;obtain ⟨vs,rfl,hL⟩:=h5;refine ⟨vs,rfl,bN_ n cs vs hok (λi a ha=>?_) (bp_ hok hL)⟩;rw [h3.1.2.2.2.1,hE (n+i) (by have:=(List.getElem?_eq_some_iff.1 ha).1;omega)];exact b0_ cs hf i a ha);unfold Oper.wp;rw [h1];rcases h2 with rfl|⟨rfl,rfl⟩;exact this;exact this
theorem n3_ {s:Nat->Option AV} {m:Nat} {H:AHeap} {R:Tm} {o:Oper} {q:AV} (h:rg_ P R o=some q):SemOp P s m N H R o q:=λB pr E a w hE ht hr C X hC=>by obtain ⟨v,h1,h2⟩:=mJ_ hr (λx=>ht.look x) h;unfold Oper.wp;rw [h1];exact hC E v w (Env.le_refl E) hr h2
theorem p2_ {Y:Sy} {n id sz:Nat} {H:AHeap} {R:Tm} {o:Oper} {op:XOp} {args:List AV} {r:AV} (hl:pO_ P R o=some (op,args,id,sz)) (hlt:aF_ n args=true) (hr:op.run P (ab_ Y.v args)=some r):
  SemOp P (Y.put n r).v (n+1) N H R o (.ptx id n sz 0):=λB pr E a w hE ht hrel C X hC=>by
 have hden:ab_ E.sy args=ab_ Y.v args:=be_ (λk hk=>(hE k (by omega)).trans (Sy.put_ne _ _ (by omega))) hlt;obtain ⟨q,E',v,w',rfl,h1,h2,h3,h4⟩:=oG_ hrel (λx=>ht.look x) hl (by rw [hden];exact hr);unfold Oper.wp;rw [h1];refine hC E' v w' h2 h3 ((dT_ (k:=.i64) ?_).2 (by simpa using h4));rw [h2.1.2.2.2.1,hE n (by omega)];exact Sy.put_same _ _ _
theorem p3_ {Y:Sy} {n:Nat} {H:AHeap} {R:Tm} {o:Oper} {op:XOp} {args:List AV} {r:AV} (hl:ldX R H o=some (op,args)) (hlt:aF_ n args=true) (hr:op.run P (ab_ Y.v args)=some r) (hok:okC r=true):
  SemOp P (Y.put n r).v (n+1) N H R o (.sym n):=λB pr E a w hE ht hrel C X hC=>by
 have hden:ab_ E.sy args=ab_ Y.v args:=be_ (λk hk=>(hE k (by omega)).trans (Sy.put_ne _ _ (by omega))) hlt;obtain ⟨v,h1,h2⟩:=nH_ hrel (λx=>ht.look x) hl (by rw [hden];exact hr);unfold Oper.wp;rw [h1];refine hC E v w (Env.le_refl E) hrel ?_;simp only [Con];exact ⟨r,by rw [hE n (by omega)];exact Sy.put_same _ _ _,bn_ hok,bW_ hok h2⟩
theorem p4_ {Y:Sy} {n:Nat} (hf:Fresh Y n) {H:AHeap} {R:Tm} {o:Oper} {op:XOp} {args cs:List AV} (hl:ldX R H o=some (op,args)) (hlt:aF_ n args=true) (hr:op.run P (ab_ Y.v args)=some (.agg cs)) (hok:okL cs=true):
  SemOp P (Y.puts n cs).v (n+cs.length) N H R o (.agg (ah_ n cs.length)):=λB pr E a w hE ht hrel C X hC=>by
 have hden:ab_ E.sy args=ab_ Y.v args:=be_ (λk hk=>(hE k (by omega)).trans (Ext.puts cs n (Nat.le_refl n) k hk)) hlt;obtain ⟨v,h1,h2⟩:=nH_ hrel (λx=>ht.look x) hl (by rw [hden];exact hr);unfold Oper.wp;rw [h1];refine hC E v w (Env.le_refl E) hrel ?_;simp only [Con]at h2⊢;obtain ⟨vs,rfl,hL⟩:=h2;refine ⟨vs,rfl,bN_ n cs vs hok (λi a ha=>?_) (bp_ hok hL)⟩;rw [hE (n+i) (by have:=(List.getElem?_eq_some_iff.1 ha).1;omega)];exact b0_ cs hf i a ha
theorem p5_ {Y:Sy} {n:Nat} {H:AHeap} {R:Tm} {o:Oper} {op:XOp} {args:List AV} {r:AV} (hl:nJ_ R o=some (op,args)) (hlt:aF_ n args=true) (hr:op.run P (ab_ Y.v args)=some r) (hok:okC r=true):
  SemOp P (Y.put n r).v (n+1) N H R o (.sym n):=λB pr E a w hE ht hrel C X hC=>by
 have hden:ab_ E.sy args=ab_ Y.v args:=be_ (λk hk=>(hE k (by omega)).trans (Sy.put_ne _ _ (by omega))) hlt;obtain ⟨E',nx,v,w',h1,h2,h3,h4,h5⟩:=mr_ hl (by rw [hden];exact hr) ht hrel;have:=hC E' v w' h3 h4 (by simp only [Con];refine ⟨r,?_,bn_ hok,bW_ hok h5⟩;rw [h3.1.2.2.2.1,hE n (by omega)];exact Sy.put_same _ _ _);unfold Oper.wp;rw [h1];rcases h2 with rfl|⟨rfl,rfl⟩;exact this;exact this
def Sim (Y:Sy) (n:Nat) (Tr T:Tm):Prop:=∀t,t<512->∀(E:Env) (v:Value),Agr Y.v n E->Con E (tget Tr t) v->Con E (tget T t) v
omit [Gl]in
theorem Sim.know {Y:Sy} {n:Nat} {Tr T:Tm} (h:Sim Y n Tr T) (hf:Fresh Y n) {i:Nat} {b:Bool} (hb:Y.v i=some (.bool b)):Sim Y n Tr (a9_ (g7_ i b) T):=λt ht E v hE hc=>by
 rw [aJ_];have hi:i<n:=by rcases Nat.lt_or_ge i n with h|h;exact h;rw [hf.2 i h]at hb;cases hb
 exact il_ ((hE i hi).trans hb) (h t ht E v hE hc)
omit [Gl]in
theorem Sim.put {Y Y':Sy} {n n':Nat} {Tr T:Tm} (h:Sim Y n Tr T) (hx:Ext n Y Y') (hn:n<=n') {d:Option Nat} {u:Tm->AV->Tm} (hu:b5_ N d=.mk u) (q:AV):Sim Y' n' (u Tr q) (u T q):=λt ht E v hE hc=>by obtain ⟨p1,p2⟩:=eJ_ hu Tr q ht;obtain ⟨q1,q2⟩:=eJ_ hu T q ht;by_cases e:d=some t;rw [p1 e]at hc;rw [q1 e];exact hc;rw [p2 e]at hc;rw [q2 e];exact h t ht E v (λk hk=>(hE k (by omega)).trans (hx k hk)) hc
structure Did1 (P:Program) (N:Nat) (Q:AV->Prop) (c:VC) (L:LVs) (ops:List Oper) (l0:List SI) (n0 nx:Nat) (x:SI) (gs:List GW) (ps:List (Nat×List Nat)) (u:Tm->AV->Tm) (Tr:Tm) (S:VS) (Y:Sy) (next:VS->VT) (Y':Sy) (S1 S':VS) (q:AV) (e:Evt):Prop where
 good:Good P c S'.n Y'
 n:S.n<=S'.n
 ext:Ext S.n Y Y'
 lv:S'.lv=S.lv
 d:S'.D=S.D
 l:Y'.l=Y.l
 sim:Sim Y S.n Tr S1.T
 t:S'.T=u S1.T q
 ok:VOK P Q L Y' (next S')
 ev:(bV_ x=false/\e=.off/\q=.tup []/\aK_ ops x (ar_ S1.T x.rd topq)=some false/\S'.H=S.H)\/(e=.val q/\aK_ ops x (ar_ S1.T x.rd topq)=some true/\
  ((isW x=true/\st_ x.bef (b1_ x (ar_ S.T x.rd topq)) ps=true/\lF_ P Y'.v S'.n N S.H S'.H (ar_ S1.T x.rd topq) x.o q/\
      ∀ids,apart (b1_ x (ar_ S.T x.rd topq)) ids=true->∀id k,memT id ids=true->S.H.get id=some k->S'.H.get id=some k)\/
   (bV_ x=true/\S'.H=S.H/\∃k,jF_ P x nx=some (q,k))\/
   (bV_ x=false/\isW x=false/\jE_ x.bef (fo_ x S.T) l0 0 n0=true/\rb_ x.bef (fo_ x S.T) gs=true/\S'.H=S.H/\SemOp P Y'.v S'.n N (gH_ x S gs) (ar_ S1.T x.rd topq) x.o q)))
theorem rp_ {s:Nat->Option AV} {m:Nat} {H H':AHeap} {R:Tm} {o:Oper} {q:AV} (h:(ac_ P o).run R H=some (.val q H')):lF_ P s m N H H' R o q:=λB pr E a w hE ht hr C X hC=>by obtain ⟨E',n,v,w',h1,h2,h3,h4,h5⟩:=aw_ h hr ht;have:=hC E' v w' h3 h4 h5;unfold Oper.wp;rw [h1];rcases h2 with rfl|⟨rfl,rfl⟩;exact this;exact this
theorem sE_ {Y:Sy} {n id:Nat} {H:AHeap} {R:Tm} {o:Oper} {op:XOp} {args:List AV} {r:AV} (hl:stX R H o=some (op,args,id)) (hlt:aF_ n args=true) (hr:op.run P (ab_ Y.v args)=some r) (hok:okC r=true):
  lF_ P (Y.put n r).v (n+1) N H (H.set id (.syl n)) R o (.tup []):=λB pr E a w hE ht hrel C X hC=>by
 have hden:ab_ E.sy args=ab_ Y.v args:=be_ (λk hk=>(hE k (by omega)).trans (Sy.put_ne _ _ (by omega))) hlt;obtain ⟨w',h1,h2⟩:=pc_ (n:=n) hrel (λx=>ht.look x) hl (by rw [hden];exact hr) hok (by rw [hE n (by omega)];exact Sy.put_same _ _ _);unfold Oper.wp;rw [h1];exact hC E undef w' (Env.le_refl E) h2 (bc_ E)
omit [Gl]in
theorem eR_ {n i:Nat} {args:List AV} (h:c2_ args=some i) (hlt:aF_ n args=true):i<n:=by unfold c2_ at h;split at h;split at h;cases h;simp only [aF_,eN_]at hlt;obtain ⟨_,hlt⟩:=aa_ hlt;obtain ⟨hlt,_⟩:=aa_ hlt;simpa [Nat.blt_eq]using hlt;cases h;cases h
theorem ro_ {Y:Sy} {n id sz:Nat} {H:AHeap} {R:Tm} {o:Oper} {op:XOp} {args:List AV} {r:AV} (hl:fN_ P R H o=some (id,sz,op,args)) (hpos:fs_ args=true\/∃i,c2_ args=some i/\fi_ Y.v i) (hlt:aF_ n args=true) (hr:op.run P (ab_ Y.v args)=some r) (hok:okC r=true):
  lF_ P (Y.put n r).v (n+1) N H ((H.erase id).push (.syl n)) R o (.slx H.next sz n):=λB pr E a w hE ht hrel C X hC=>by
 have hden:ab_ E.sy args=ab_ Y.v args:=be_ (λk hk=>(hE k (by omega)).trans (Sy.put_ne _ _ (by omega))) hlt;obtain ⟨_,E',v,w',h1,h2,h3,h4⟩:=ql_ (E:=E) hl hok (hpos.imp (λh=>h) λ⟨i,hi,h⟩=>⟨i,hi,by
  have hin:i<n:=eR_ hi hlt;unfold fi_;rw [(hE i (by omega)).trans (Sy.put_ne _ _ (by omega))];exact h⟩) (by rw [hden];exact hr) (by rw [hE n (by omega)];exact Sy.put_same _ _ _) ht hrel
 unfold Oper.wp;rw [h1];exact hC E' v w' h2 h3 h4
theorem ks_ {Y:Sy} {n m id sz:Nat} {H:AHeap} {R:Tm} {o:Oper} {op:XOp} {args:List AV} {r:AV} (hl:cC_ P R H o=some (id,sz,op,args)) (hpos:fs_ args=true\/∃i,c2_ args=some i/\fi_ Y.v i) (hlt:aF_ m args=true) (hmn:m<=n) (hr:op.run P (ab_ Y.v args)=some r) (hok:okC r=true):
  lF_ P (Y.put n r).v (n+1) N H ((H.erase id).push (.syl n)) R o (.slx H.next sz n):=λB pr E a w hE ht hrel C X hC=>by
 have hden:ab_ E.sy args=ab_ Y.v args:=be_ (λk hk=>(hE k (by omega)).trans (Sy.put_ne _ _ (by omega))) hlt;obtain ⟨E',v,w',h1,h2,h3,h4⟩:=pq_ (E:=E) hl hok (hpos.imp (λh=>h) λ⟨i,hi,h⟩=>⟨i,hi,by
  have hin:i<m:=eR_ hi hlt;unfold fi_;rw [(hE i (by omega)).trans (Sy.put_ne _ _ (by omega))];exact h⟩) (by rw [hden];exact hr) (by rw [hE n (by omega)];exact Sy.put_same _ _ _) ht hrel
 unfold Oper.wp;rw [h1];exact hC E' v w' h2 h3 h4
theorem p6_ {Y:Sy} {n m id sz i:Nat} {H:AHeap} {R:Tm} {o:Oper} {op:XOp} {args:List AV} (hl:cC_ P R H o=some (id,sz,op,args)) (hi:c2_ args=some i) (he:jC_ Y.v i) (hlt:aF_ m args=true) (hmn:m<=n):
  lF_ P Y.v n N H H R o (lY_ R o):=λB pr E a w hE ht hrel C X hC=>by
 obtain ⟨E',v,w',h1,h2,h3,h4⟩:=qm_ (E:=E) hl hi (by have hin:i<m:=eR_ hi hlt;unfold jC_;rw [hE i (by omega)];exact he) ht hrel;unfold Oper.wp;rw [h1];exact hC E' v w' h2 h3 h4
theorem jH_ {x:SI} {R:Tm} {H:AHeap} {id sz n:Nat} {op:XOp} {args:List AV} (hap:iD_ x=true) (hl:cC_ P R H x.o=some (id,sz,op,args)) {ids:List Nat} (ha:apart (b1_ x R) ids=true) {idr:Nat} {k:ABlk} (hm:memT idr ids=true) (hk:H.get idr=some k) (hnew:H.get H.next=none):
  ((H.erase id).push (.syl n)).get idr=some k:=by
 unfold cC_ at hl;split at hl
 case h_2=>cases hl
 rename_i c ho;split at hl
 case h_2=>cases hl
 rename_i b hc;split at hl
 case h_2=>cases hl
 split at hl
 case h_2=>cases hl
 rename_i s x' t tx h1 h2;split at hl
 case h_2=>cases hl
 rename_i hroom;split at hl
 case h_2=>cases hl
 split at hl
 case h_2=>cases hl
 split at hl
 case h_2=>cases hl
 split at hl
 case h_2=>cases hl
 split at hl
 case h_2=>cases hl
 split at hl
 case h_2=>cases hl
 rename_i id' sd hh;have hid:id'=id:=by
  repeat' (split at hl<;>first|(cases hl;done)|skip)
  cases hl;rfl
 subst hid;have hM:isM x=false:=by unfold isM;rw [ho]
 unfold b1_ at ha;rw [hM]at ha;simp only [ho]at ha;unfold g8_ at ha;rw [ho]at ha;simp only [hap,h1]at ha;have hne:id'≠idr:=λe=>by
  subst e;unfold e8_ at hh;split at hh;cases hh;rw [hk]at hnew;cases hnew
  .rename_i id2 off len sz2 cap hlk;have:id2=id':=by
    repeat' (split at hh<;>first|(cases hh;done)|skip)
    cases hh;rfl
   subst this;rw [hlk]at ha;simp only [apart,hm,Bool.not_true]at ha;cases ha
  cases hh
 obtain ⟨r1,r2,r3⟩:=Rel.room hroom;have e1:((H.erase id').push (.syl n)).get idr=(H.erase id').get idr:=AHeap.get_push_ne (H.erase id') r2 (λe=>by have e':H.next=idr:=e;rw [e',hk]at hnew;cases hnew) _;rw [e1,AHeap.get_erase_ne _ hne];exact hk
theorem sD_ {s:Nat->Option AV} {m N:Nat} {H:AHeap} {R:Tm} {o:Oper} {q:AV} (h:SemOp P s m N H R o q):lF_ P s m N H H R o q:=λB pr E a w hE ht hr C Q hC=>h B pr E a w hE ht hr C Q hC
theorem qo_ {x:SI} {R:Tm} {H:AHeap} {id sz n:Nat} {op:XOp} {args:List AV} (hap:iD_ x=true) (hl:fN_ P R H x.o=some (id,sz,op,args)) {ids:List Nat} (ha:apart (b1_ x R) ids=true) {idr:Nat} {k:ABlk} (hm:memT idr ids=true) (hk:H.get idr=some k) (hnew:H.get H.next=none):
  ((H.erase id).push (.syl n)).get idr=some k:=by
 unfold fN_ at hl;split at hl
 case h_2=>cases hl
 rename_i c ho;split at hl
 case h_2=>cases hl
 rename_i b hc;split at hl
 case h_2=>cases hl
 split at hl
 case h_2=>cases hl
 rename_i s x' t tx h1 h2;split at hl
 case h_2=>cases hl
 rename_i id' sz' i hs;split at hl
 case h_2=>cases hl
 split at hl
 case h_2=>cases hl
 rename_i hji;have hroom:=(aa_ hji).2;have hid:id'=id:=by
  repeat' (split at hl<;>first|(cases hl;done)|skip)
  cases hl;rfl
 subst hid;have hM:isM x=false:=by unfold isM;rw [ho]
 unfold b1_ at ha;rw [hM]at ha;simp only [ho]at ha;unfold g8_ at ha;rw [ho]at ha;simp only [hap,h1,hs]at ha;have hne:id'≠idr:=λe=>by subst e;simp only [apart,hm,Bool.not_true]at ha;cases ha
 obtain ⟨r1,r2,r3⟩:=Rel.room hroom;have e1:((H.erase id').push (.syl n)).get idr=(H.erase id').get idr:=AHeap.get_push_ne (H.erase id') r2 (λe=>by have e':H.next=idr:=e;rw [e',hk]at hnew;cases hnew) _;rw [e1,AHeap.get_erase_ne _ hne];exact hk
theorem sJ_ {x:SI} {R:Tm} (h:ib_ x R=false):g8_ x R=.all:=by
 cases hh:iD_ x with
 |false=>unfold g8_;split;simp only [hh];rfl
 |true=>
  unfold ib_ at h;rw [hh]at h;simp only at h;split at h
  .assumption
  cases h
omit [Gl]in
theorem i7_ {H:AHeap} (h:H.room=true):H.next<top:=by
 unfold AHeap.room at h;obtain ⟨h1,h2⟩:=aa_ h;have h1:H.next<H.hi:=by simpa [Nat.blt_eq]using h1
 have h2:H.hi<=top:=by simpa [Nat.ble_eq]using h2
 omega
omit [Gl]in
theorem kh_ {H:AHeap} {cs:List AV} {a:AV} {H':AHeap} (h:ex_ H cs=some (a,H')) (hn:H.get H.next=none):∀id k,H.get id=some k->H'.get id=some k:=λid k hk=>by unfold ex_ at h;split at h;rename_i hroom;cases h;rw [AHeap.get_push_ne H (i7_ hroom) (λe=>by rw [e]at hn;rw [hn]at hk;cases hk)];exact hk;cases h
theorem pP_ {x:SI} (hx:isM x=true) {R:Tm} {H H':AHeap} {a:AV} (h:(ac_ P x.o).run R H=some (.val a H')) (hn:H.get H.next=none):∀id k,H.get id=some k->H'.get id=some k:=by
 unfold isM at hx;unfold ac_ at h;split at hx
 .rename_i t ho;rw [ho]at h;simp only [OC.run]at h;split at h
  .rename_i a' H2 he;cases h;unfold e1_ at he;repeat' (split at he<;>try (cases he;done))
   exact kh_ he hn
  cases h
 rename_i t y ho;rw [ho]at h;simp only [OC.run]at h;split at h;rename_i a' H2 he;cases h;unfold l3_ at he;split at he;cases he;exact kh_ he hn;cases h
 .rename_i t n parts ho;rw [ho]at h;simp only [OC.run]at h;split at h
  .rename_i a' H2 he;cases h;unfold bg_ at he;repeat' (split at he<;>try (cases he;done))
   rename_i hroom;cases he;intro id k hk;rw [AHeap.get_push_ne H (i7_ hroom) (λe=>by rw [e]at hn;rw [hn]at hk;cases hk)];exact hk
  cases h
 cases hx
omit [Gl]in
theorem nz_ {P:Program} {H H':AHeap} {t:TypeId} {id off j:Nat} {v a:AV} (h:cf_ P H t (.ptr id off) v=some (a,H')) (hne:id≠j):H'.get j=H.get j:=by unfold cf_ at h;split at h;simp only at h;split at h;cases h;split at h;split at h;split at h;rename_i cs hcs;split at h;cases h;exact AHeap.get_set_ne H (AHeap.get_lt hcs) hne _;cases h;cases h;cases h;cases h;cases h
theorem rC_ {x:SI} {R:Tm} {H H':AHeap} {a:AV} (h:(ac_ P x.o).run R H=some (.val a H')) (hn:isM x=true->H.get H.next=none) (hna:isM x=false->ib_ x R=false) {ids:List Nat} (ht:apart (b1_ x R) ids=true):∀id k,memT id ids=true->H.get id=some k->H'.get id=some k:=by
 intro id k hid hk;unfold b1_ at ht;split at ht;rename_i hm;exact pP_ hm h (hn hm) id k hk
 .rename_i hM;split at ht
  .rename_i t ad v ho;split at ht
   .rename_i id2 off hl;unfold ac_ at h;rw [ho]at h;simp only [OC.run]at h;split at h
    .rename_i a' H2 he;cases h;have hl':(aU_ ad).f R=.ptr id2 off:=hl;rw [hl']at he;have hne:id2≠id:=λe=>by subst e;simp only [apart,hid,Bool.not_true]at ht;cases ht
     rw [nz_ he hne];exact hk
    cases h
   .rename_i id2 j2 sz2 off2 hl;unfold ac_ at h;rw [ho]at h;simp only [OC.run]at h;split at h
    .rename_i a' H2 he;have hl':(aU_ ad).f R=.ptx id2 j2 sz2 off2:=hl;rw [hl']at he;unfold cf_ at he;split at he<;>cases he
    cases h
   simp only [apart]at ht;split at ht;simp [memT]at hid;cases ht
  rw [sJ_ (hna hM)]at ht;simp only [apart]at ht;split at ht;simp [memT]at hid;cases ht
theorem sL_ {L:LVs} {ops:List Oper} {l0:List SI} {n0 nx:Nat} {x:SI} {gs:List GW} {ps:List (Nat×List Nat)} {u:Tm->AV->Tm} {Tr:Tm} {S:VS} {Y:Sy} {next:VS->VT} (hf:Good P c S.n Y) (hsim:Sim Y S.n Tr S.T) (h:VOK P Q L Y (qb_ P c ops l0 n0 nx x gs ps u next S)):
  ∃Y' S2 S' q e,Did1 P N Q c L ops l0 n0 nx x gs ps u Tr S Y next Y' S2 S' q e:=by
 unfold qb_ at h;split at h
 case h_2=>exact h.elim
 rename_i t hg;split at h
 .refine ⟨Y,S,⟨u S.T (.tup []),S.H,S.n,S.lv,S.D⟩,.tup [],.off,hf,Nat.le_refl _,Ext.refl _ _,rfl,rfl,rfl,hsim,rfl,h,.inl ⟨?_,rfl,rfl,hg,rfl⟩⟩;cases hal:bV_ x with
  |false=>rfl
  |true=>unfold bV_ at hal;split at hal;split at hal;rename_i hgn;unfold aK_ a1_ at hg;rw [hgn]at hg;simp at hg;cases hal;cases hal
 split at h;rename_i hal;split at h;rename_i p hp;exact ⟨Y,S,⟨u S.T p.1,S.H,S.n,S.lv,S.D⟩,p.1,.val p.1,hf,Nat.le_refl _,Ext.refl _ _,rfl,rfl,rfl,hsim,rfl,h,.inr ⟨rfl,hg,.inr (.inl ⟨hal,rfl,p.2,hp⟩)⟩⟩;exact h.elim;rename_i hal;split at h
 .rename_i hw;split at h
  case h_2=>exact h.elim
  rename_i hokw;unfold vDW at h;have happ:VOK P Q L Y (m9_ P x u S next)->∃Y' S2 S' q e,Did1 P N Q c L ops l0 n0 nx x gs ps u Tr S Y next Y' S2 S' q e:=λh=>by
   unfold m9_ at h;split at h;exact h.elim;rename_i hap;split at h
   .rename_i id sz op args hl;split at h
    case h_2=>exact h.elim
    rename_i hlt;split at h
    case h_2=>exact h.elim
    rename_i hnew;obtain ⟨hpos,r,hr,hok,ht⟩:(fs_ args=true\/∃i,c2_ args=some i/\fi_ Y.v i)/\VOK P Q L Y (.lt op args S.n none (next ⟨u S.T (.slx S.H.next sz S.n),(S.H.erase id).push (.syl S.n),Nat.succ S.n,S.lv,S.D⟩)):=by split at h;rename_i hp;exact ⟨.inl hp,h⟩;split at h;rename_i i hi;exact ⟨.inr ⟨i,hi,h.1⟩,h.2⟩;exact h.elim
    exact ⟨Y.put S.n r,S,⟨u S.T (.slx S.H.next sz S.n),(S.H.erase id).push (.syl S.n),Nat.succ S.n,S.lv,S.D⟩,.slx S.H.next sz S.n,.val (.slx S.H.next sz S.n),hf.put r,Nat.le_succ _,Ext.put r (Nat.le_refl _),rfl,rfl,rfl,hsim,rfl,ht,.inr ⟨rfl,hg,.inl ⟨hw,hokw,ro_ hl hpos hlt hr hok,λids ha idr k hm hk=>qo_ hap hl ha hm hk hnew⟩⟩⟩
   split at h
   .rename_i id sz op args hl;unfold rH_ at h;split at h
    case h_2=>exact h.elim
    rename_i hlt;split at h
    case h_2=>exact h.elim
    rename_i hnew;split at h;rename_i hp;obtain ⟨r,hr,hok,ht⟩:=h;exact ⟨Y.put S.n r,S,⟨u S.T (.slx S.H.next sz S.n),(S.H.erase id).push (.syl S.n),Nat.succ S.n,S.lv,S.D⟩,.slx S.H.next sz S.n,.val (.slx S.H.next sz S.n),hf.put r,Nat.le_succ _,Ext.put r (Nat.le_refl _),rfl,rfl,rfl,hsim,rfl,ht,.inr ⟨rfl,hg,.inl ⟨hw,hokw,ks_ hl (.inl hp) hlt (Nat.le_refl _) hr hok,λids ha idr k hm hk=>jH_ hap hl ha hm hk hnew⟩⟩⟩;split at h
    case h_2=>exact h.elim
    rename_i i hi;have hin:i<S.n:=eR_ hi hlt;obtain ⟨b,hb,hbok,t,ht,htt,htf⟩:=h;have hbt:b=.bool t:=by have:=Sy.put_same Y S.n b;rw [this]at ht;exact Option.some.inj ht
    subst hbt;cases t with
    |true=>
     have he:jC_ Y.v i:=by
      simp only [ab_,den,XOp.run]at hb;cases hv:Y.v i with
      |none=>rw [hv]at hb;cases hb
      |some a=>
       rw [hv]at hb;cases a<;>first|(cases hb;done)|skip
       exact .inl hv;rename_i n z cs;simp only [Option.getD_some,Option.some.injEq,AV.bool.injEq]at hb;have:=Nat.eq_of_beq_eq_true hb;subst this;exact .inr ⟨_,_,hv⟩
     have he1:jC_ (Y.put S.n (.bool true)).v i:=(by unfold jC_;rw [Sy.put_ne _ _ (by omega)];exact he);exact ⟨Y.put S.n (.bool true),S,⟨u S.T (lY_ (ar_ S.T x.rd topq) x.o),S.H,Nat.succ S.n,S.lv,S.D⟩,lY_ (ar_ S.T x.rd topq) x.o,.val (lY_ (ar_ S.T x.rd topq) x.o),hf.put _,Nat.le_succ _,Ext.put _ (Nat.le_refl _),rfl,rfl,rfl,hsim,rfl,htt rfl,.inr ⟨rfl,hg,.inl ⟨hw,hokw,p6_ hl hi he1 hlt (Nat.le_succ _),λids ha idr k hm hk=>hk⟩⟩⟩
    |false=>
     have he:fi_ Y.v i:=by
      simp only [ab_,den,XOp.run]at hb;cases hv:Y.v i with
      |none=>rw [hv]at hb;cases hb
      |some a=>
       rw [hv]at hb;cases a<;>first|(cases hb;done)|skip
       .rename_i n z cs;simp only [Option.getD_some,Option.some.injEq,AV.bool.injEq]at hb;cases n with
        |zero=>cases hb
        |succ n=>exact ⟨_,_,_,hv⟩
     have he1:fi_ (Y.put S.n (.bool false)).v i:=(by unfold fi_;rw [Sy.put_ne _ _ (by omega)];exact he);obtain ⟨r,hr,hok,ht⟩:=htf rfl;exact ⟨(Y.put S.n (.bool false)).put (Nat.succ S.n) r,S,⟨u S.T (.slx S.H.next sz (Nat.succ S.n)),(S.H.erase id).push (.syl (Nat.succ S.n)),Nat.succ (Nat.succ S.n),S.lv,S.D⟩,.slx S.H.next sz (Nat.succ S.n),.val (.slx S.H.next sz (Nat.succ S.n)),(hf.put _).put r,Nat.le_succ_of_le (Nat.le_succ _),(Ext.put _ (Nat.le_refl _)).trans (Ext.put r (Nat.le_refl _)) (Nat.le_succ _),rfl,rfl,rfl,hsim,rfl,ht,.inr ⟨rfl,hg,.inl ⟨hw,hokw,ks_ hl (.inr ⟨i,hi,he1⟩) hlt (Nat.le_succ _) hr hok,λids ha idr k hm hk=>jH_ hap hl ha hm hk hnew⟩⟩⟩
   split at h
   case h_2=>exact h.elim
   rename_i op args hl;split at h
   case h_2=>exact h.elim
   rename_i hb;obtain ⟨hso,hlt⟩:=aa_ hb;split at h
   case h_2=>exact h.elim
   rename_i hsh;obtain ⟨r,hr,hok,ht⟩:=h;exact ⟨Y.put S.n r,S,⟨u S.T (.sym S.n),S.H,Nat.succ S.n,S.lv,S.D⟩,.sym S.n,.val (.sym S.n),hf.put r,Nat.le_succ _,Ext.put r (Nat.le_refl _),rfl,rfl,rfl,hsim,rfl,ht,.inr ⟨rfl,hg,.inl ⟨hw,hokw,sD_ (ja_ hl hso hlt hr hok),λids ha idr k hm hk=>hk⟩⟩⟩
  split at h
  case h_2=>
   split at h;exact happ h;split at h
   case h_2=>exact happ h
   rename_i op args id hst;split at h
   case h_2=>exact h.elim
   rename_i hb;obtain ⟨hlt,hnm⟩:=aa_ hb;obtain ⟨r,hr,hok,ht⟩:=h;refine ⟨Y.put S.n r,S,⟨u S.T (.tup []),S.H.set id (.syl S.n),Nat.succ S.n,S.lv,S.D⟩,.tup [],.val (.tup []),hf.put r,Nat.le_succ _,Ext.put r (Nat.le_refl _),rfl,rfl,rfl,hsim,rfl,ht,.inr ⟨rfl,hg,.inl ⟨hw,hokw,sE_ hst hlt hr hok,λids ha idr k hm hk=>?_⟩⟩⟩;obtain ⟨xx,yy,kk,jj,_,⟨sz,off,hx⟩,hkk⟩:=pb_ hst;have hne:id≠idr:=λe=>by
    subst e;unfold b1_ at ha;have hnm':isM x=false:=(by simpa using hnm);rw [hnm']at ha;simp only at ha;unfold stX at hst;split at hst
    case h_2=>cases hst
    rename_i t' x' y' ho;rw [ho]at ha;simp only at ha;split at hst
    case h_2=>cases hst
    rename_i id' j' sz' off' hx';split at hst
    case h_2=>cases hst
    split at hst
    case h_2=>cases hst
    cases hst;rw [hx']at ha;simp only [apart,hm]at ha;cases ha
   show (S.H.set id (.syl S.n)).get idr=some k;rw [AHeap.get_set_ne _ (AHeap.get_lt hkk) hne];exact hk
  rename_i r hr;split at h
  case h_2=>exact h.elim
  rename_i a H';have fin:(isM x=true->S.H.get S.H.next=none)->(isM x=false->ib_ x (ar_ S.T x.rd topq)=false)->VOK P Q L Y (next ⟨u S.T a,H',S.n,S.lv,S.D⟩)->∃Y' S2 S' q e,Did1 P N Q c L ops l0 n0 nx x gs ps u Tr S Y next Y' S2 S' q e:=λhm hna h=>
   ⟨Y,S,⟨u S.T a,H',S.n,S.lv,S.D⟩,a,.val a,hf,Nat.le_refl _,Ext.refl _ _,rfl,rfl,rfl,hsim,rfl,h,.inr ⟨rfl,hg,.inl ⟨hw,hokw,rp_ hr,λids ha=>rC_ hr hm hna ha⟩⟩⟩
  split at h;rename_i hm;split at h;rename_i hn;exact fin (λ_=>hn) (λe=>by rw [hm]at e;cases e) h;exact h.elim;rename_i hm;split at h;exact happ h;rename_i hna;exact fin (λe=>by rw [hm]at e;cases e) (λ_=>hna) h
 .rename_i hw;split at h
  case h_2=>exact h.elim
  rename_i hokr;obtain ⟨hokr,hchk⟩:=aa_ hokr;split at h;unfold uu_ at h;split at h;rename_i q hq;exact ⟨Y,S,⟨u S.T q,S.H,S.n,S.lv,S.D⟩,q,.val q,hf,Nat.le_refl _,Ext.refl _ _,rfl,rfl,rfl,hsim,rfl,h,.inr ⟨rfl,hg,.inr (.inr ⟨hal,hw,hchk,hokr,rfl,lu_ hq⟩)⟩⟩;exact h.elim;unfold rI_ at h;split at h;rename_i q hq;exact ⟨Y,S,⟨u S.T q,S.H,S.n,S.lv,S.D⟩,q,.val q,hf,Nat.le_refl _,Ext.refl _ _,rfl,rfl,rfl,hsim,rfl,h,.inr ⟨rfl,hg,.inr (.inr ⟨hal,hw,hchk,hokr,rfl,kr_ hq⟩)⟩⟩
  .split at h;rename_i t hown;unfold tg_ at hown;split at hown;cases hown;split at hown;rename_i q hq;cases hown;exact ⟨Y,S,⟨u S.T q,S.H,S.n,S.lv,S.D⟩,q,.val q,hf,Nat.le_refl _,Ext.refl _ _,rfl,rfl,rfl,hsim,rfl,h,.inr ⟨rfl,hg,.inr (.inr ⟨hal,hw,hchk,hokr,rfl,n3_ hq⟩)⟩⟩;split at hown;rename_i op args id sz hl;split at hown;rename_i hlt;cases hown;obtain ⟨r,hr,hok,ht⟩:=h;exact ⟨Y.put S.n r,S,⟨u S.T (.ptx id S.n sz 0),S.H,Nat.succ S.n,S.lv,S.D⟩,.ptx id S.n sz 0,.val (.ptx id S.n sz 0),hf.put r,Nat.le_succ _,Ext.put r (Nat.le_refl _),rfl,rfl,rfl,hsim,rfl,ht,.inr ⟨rfl,hg,.inr (.inr ⟨hal,hw,hchk,hokr,rfl,p2_ hl hlt hr⟩)⟩⟩;cases hown;split at hown;rename_i op args hl;split at hown;rename_i hlt;split at hown;cases hown;obtain ⟨r,hr,hok,ht⟩:=h;exact ⟨Y.put S.n r,S,⟨u S.T (.sym S.n),S.H,Nat.succ S.n,S.lv,S.D⟩,.sym S.n,.val (.sym S.n),hf.put r,Nat.le_succ _,Ext.put r (Nat.le_refl _),rfl,rfl,rfl,hsim,rfl,ht,.inr ⟨rfl,hg,.inr (.inr ⟨hal,hw,hchk,hokr,rfl,p3_ hl hlt hr hok⟩)⟩⟩;rename_i m hm;cases hown;obtain ⟨cs,hr,hlen,hok,ht⟩:=h;subst hlen;exact ⟨Y.puts S.n cs,S,⟨u S.T (.agg (ah_ S.n cs.length)),S.H,Nat.add S.n cs.length,S.lv,S.D⟩,.agg (ah_ S.n cs.length),.val (.agg (ah_ S.n cs.length)),hf.puts cs,Nat.le_add_right _ _,Ext.puts cs _ (Nat.le_refl _),rfl,rfl,(hf.1.puts cs).2.2.1,hsim,rfl,ht,.inr ⟨rfl,hg,.inr (.inr ⟨hal,hw,hchk,hokr,rfl,p4_ hf.1 hl hlt hr hok⟩)⟩⟩;cases hown;split at hown;rename_i op args hl;split at hown;rename_i hlt;cases hown;obtain ⟨r,hr,hok,ht⟩:=h;exact ⟨Y.put S.n r,S,⟨u S.T (.sym S.n),S.H,Nat.succ S.n,S.lv,S.D⟩,.sym S.n,.val (.sym S.n),hf.put r,Nat.le_succ _,Ext.put r (Nat.le_refl _),rfl,rfl,rfl,hsim,rfl,ht,.inr ⟨rfl,hg,.inr (.inr ⟨hal,hw,hchk,hokr,rfl,p5_ hl hlt hr hok⟩)⟩⟩;cases hown;cases hown;split at h;rename_i r hst;split at h;rename_i g args;split at h;rename_i sh hsh;split at h;rename_i hb;obtain ⟨hso,hlt⟩:=aa_ hb;obtain ⟨v,vs,hp,hfl,hok,ht⟩:=h;have hlen:=gD_ hfl;refine ⟨Y.puts S.n vs,S,⟨u S.T (de_ S.n sh),S.H,Nat.add S.n (cL_ sh),S.lv,S.D⟩,de_ S.n sh,.val (de_ S.n sh),?_,Nat.le_add_right _ _,Ext.puts vs _ (Nat.le_refl _),rfl,rfl,(hf.1.puts vs).2.2.1,hsim,rfl,ht,.inr ⟨rfl,hg,.inr (.inr ⟨hal,hw,hchk,hokr,rfl,?_⟩)⟩⟩;show Good P c (S.n+cL_ sh) _;rw [←hlen];exact hf.puts vs;exact n1_ hf.1 hst hso hlt hp hfl hok;exact h.elim;exact h.elim;exact h.elim
   .split at h
    .rename_i i a b hp;obtain ⟨t,ht,k1,k2⟩:=h;have val:∀t,Y.v i=some (.bool t)->VOK P Q L Y (pi_ P x (gH_ x S gs) u (S.know i t) next)->∃Y' S2 S' q e,Did1 P N Q c L ops l0 n0 nx x gs ps u Tr S Y next Y' S2 S' q e:=λt ht h=>by
      unfold pi_ at h;split at h
      .rename_i q hq;have hg':aK_ ops x (ar_ (S.know i t).T x.rd topq)=some true:=by
        unfold aK_ at hg⊢;split at hg;rename_i hgc;exact hg
        .rename_i g hgc;have hi:a1_ ops x.o=.mk g:=hgc;have hgk:=iu_ hi (S:=⟨ar_ S.T x.rd topq,S.H,0⟩) hg i t;have hTe:∀tt,tt<512->tget (ar_ (S.know i t).T x.rd topq) tt=tget (a9_ (g7_ i t) (ar_ S.T x.rd topq)) tt:=λtt htt=>by rw [aJ_,dK_ _ htt,dK_ _ htt];show (if tt∈x.rd then tget (a9_ (g7_ i t) S.T) tt else tget topq tt)=_;rw [aJ_];split;rfl;rw [bP_];rfl
         unfold a1_ at hi;split at hi;cases hi;split at hi;split at hi;rename_i d hd;split at hi;rename_i hd512;cases hi;have hd512:d<512:=(by simpa [Nat.blt_eq]using hd512);have hgk':bo_ (tget (a9_ (g7_ i t) (ar_ S.T x.rd topq)) d) _=some true:=hgk;show bo_ (tget (ar_ (S.know i t).T x.rd topq) d) _=some true;rw [hTe d hd512];exact hgk';cases hi;exact hg;cases hi;exact hg;cases hi;exact hg
       exact ⟨Y,S.know i t,⟨u (S.know i t).T q,S.H,S.n,S.lv,S.D⟩,q,.val q,hf,Nat.le_refl _,Ext.refl _ _,rfl,rfl,rfl,hsim.know hf.1 ht,rfl,h,.inr ⟨rfl,hg',.inr (.inr ⟨hal,hw,hchk,hokr,rfl,kr_ hq⟩)⟩⟩
      exact h.elim
     cases t with
     |true=>exact val true ht (k1 rfl)
     |false=>exact val false ht (k2 rfl)
    split at h;rename_i op args hl;split at h;rename_i hlt;obtain ⟨r,hr,hok,ht⟩:=h;exact ⟨Y.put S.n r,S,⟨u S.T (.sym S.n),S.H,Nat.succ S.n,S.lv,S.D⟩,.sym S.n,.val (.sym S.n),hf.put r,Nat.le_succ _,Ext.put r (Nat.le_refl _),rfl,rfl,rfl,hsim,rfl,ht,.inr ⟨rfl,hg,.inr (.inr ⟨hal,hw,hchk,hokr,rfl,mS_ hl hlt hr hok⟩)⟩⟩;exact h.elim;split at h;rename_i op args hl;split at h;rename_i hb;obtain ⟨hso,hlt⟩:=aa_ hb;split at h;obtain ⟨r,hr,hok,ht⟩:=h;exact ⟨Y.put S.n r,S,⟨u S.T (.sym S.n),S.H,Nat.succ S.n,S.lv,S.D⟩,.sym S.n,.val (.sym S.n),hf.put r,Nat.le_succ _,Ext.put r (Nat.le_refl _),rfl,rfl,rfl,hsim,rfl,ht,.inr ⟨rfl,hg,.inr (.inr ⟨hal,hw,hchk,hokr,rfl,ja_ hl hso hlt hr hok⟩)⟩⟩;rename_i m hm;obtain ⟨cs,hr,hlen,hok,ht⟩:=h;subst hlen;exact ⟨Y.puts S.n cs,S,⟨u S.T (.agg (ah_ S.n cs.length)),S.H,Nat.add S.n cs.length,S.lv,S.D⟩,.agg (ah_ S.n cs.length),.val (.agg (ah_ S.n cs.length)),hf.puts cs,Nat.le_add_right _ _,Ext.puts cs _ (Nat.le_refl _),rfl,rfl,(hf.1.puts cs).2.2.1,hsim,rfl,ht,.inr ⟨rfl,hg,.inr (.inr ⟨hal,hw,hchk,hokr,rfl,n2_ hf.1 hl hso hlt hr hok⟩)⟩⟩;exact h.elim;exact h.elim
def GsOk (l:List SI) (b:Nat) (G:Nat->AHeap):Nat->List GW->Prop
 |i,[]=>∀j,j<i->¬Wr l b j
 |i,g::r=>Wr l b g.i/\g.i<i/\(∀j,g.i<j->j<i->¬Wr l b j)/\g.H=G g.i/\(∀ids,apart g.t ids=true->∀id k,memT id ids=true->(G g.i).get id=some k->(G (g.i+1)).get id=some k)/\GsOk l b G g.i r
omit [Gl]in
theorem GsOk.congr {l:List SI} {b:Nat} {G G':Nat->AHeap}:∀{gs:List GW} {i:Nat},(∀j,j<=i->G' j=G j)->GsOk l b G i gs->GsOk l b G' i gs
 |[],i,_,h=>h
 |g::r,i,hG,h=>by obtain ⟨h1,h2,h3,h4,h5,h6⟩:=h;refine ⟨h1,h2,h3,h4.trans (hG _ (by omega)).symm,λids ha id k hid hk=>?_,h6.congr λj hj=>hG j (by omega)⟩;rw [hG _ (by omega)]at hk;rw [hG _ (by omega)];exact h5 ids ha id k hid hk
omit [Gl]in
theorem GsOk.keep {l:List SI} {b:Nat} {G:Nat->AHeap} {gs:List GW} {i:Nat} (h:GsOk l b G i gs) (hn:¬Wr l b i):GsOk l b G (i+1) gs:=by
 cases gs with
 |nil=>exact λj hj=>if e:j=i then by rw [e];exact hn else h j (by omega)
 |cons g r=>obtain ⟨h1,h2,h3,h4,h5,h6⟩:=h;exact ⟨h1,by omega,λj hj1 hj2=>if e:j=i then by rw [e];exact hn else h3 j hj1 (by omega),h4,h5,h6⟩
omit [Gl]in
theorem ir_ {G:Nat->AHeap} {lo hi:Nat} (h:lo<=hi) (hk:∀j,lo<=j->j<hi->G (j+1)=G j):G hi=G lo:=by
 obtain ⟨n,rfl⟩:∃n,hi=lo+n:=⟨hi-lo,by omega⟩;clear h
 induction n with
 |zero=>rfl
 |succ n ih=>rw [show lo+(n+1)=lo+n+1 by omega,hk (lo+n) (by omega) (by omega)];exact ih λj h1 h2=>hk j h1 (by omega)
omit [Gl]in
theorem ko_ {l:List SI} {G:Nat->AHeap} {b bef:Nat} {ids:List Nat}:∀{gs:List GW} {i:Nat},GsOk l b G i gs->(∀j,j<i->¬Wr l b j->G (j+1)=G j)->rb_ bef ids gs=true->
  ∃lo,lo<=i/\mI_ bef (G i) gs=G lo/\(lo=0\/∃j,lo=j+1/\Wr l b j/\bit bef j=true)/\∀j,Wr l b j->lo<=j->j<i->∀id k,memT id ids=true->(G j).get id=some k->(G (j+1)).get id=some k
 |[],i,h,hk,_=>⟨0,Nat.zero_le _,ir_ (Nat.zero_le _) λj _ hj=>hk j hj (h j hj),.inl rfl,λj hj _ hji=>absurd hj (h j hji)⟩
 |g::r,i,h,hk,hok=>by
  obtain ⟨h1,h2,h3,h4,h5,h6⟩:=h;unfold rb_ at hok;unfold mI_;cases hbit:bit bef g.i with
  |true=>exact ⟨g.i+1,h2,ir_ h2 λj h7 h8=>hk j h8 (h3 j h7 h8),.inr ⟨g.i,rfl,h1,hbit⟩,λj hj h7 h8=>absurd hj (h3 j h7 h8)⟩
  |false=>rw [hbit]at hok;obtain ⟨k1,k2⟩:=aa_ hok;obtain ⟨lo,g1,g2,g3,g4⟩:=ko_ (bef:=bef) (ids:=ids) h6 (λj hj=>hk j (by omega)) k2;refine ⟨lo,by omega,by rw [h4];exact g2,g3,λj hj h7 h8=>?_⟩;rcases Nat.lt_trichotomy j g.i with hlt|rfl|hgt;exact g4 j hj h7 hlt;exact h5 ids k1;exact absurd hj (h3 j hgt h8)
omit [Gl]in
theorem eL_ (H:AHeap):∀ids:List Nat,(dv_ H ids).next=0/\(dv_ H ids).hi=0
 |[]=>⟨rfl,rfl⟩
 |id::r=>by unfold dv_;split;exact eL_ H r;exact eL_ H r
omit [Gl]in
theorem cs_ {H:AHeap}:∀{ids:List Nat} {id:Nat} {k:ABlk},(dv_ H ids).get id=some k->memT id ids=true/\H.get id=some k
 |[],id,k,h=>by have:(⟨hnil,0,0⟩:AHeap).get id=some k:=h;rw [dJ_]at this;cases this
 |a::r,id,k,h=>by unfold dv_ at h;unfold memT;split at h;rename_i b hb;have ha:=AHeap.get_lt hb;by_cases e:a=id;subst e;rw [AHeap.get_set_same _ ha]at h;cases h;exact ⟨by rw [Nat.beq_refl],hb⟩;rw [AHeap.get_set_ne _ ha e]at h;obtain ⟨h1,h2⟩:=cs_ h;exact ⟨by split<;>first|rfl|exact h1,h2⟩;obtain ⟨h1,h2⟩:=cs_ h;exact ⟨by split<;>first|rfl|exact h1,h2⟩
def t7_ (l:List SI) (KK:Nat->AHeap) (i:Nat) (ps:List (Nat×List Nat)):Prop:=∀j y,l[j]? =some y->j<i->isW y=false->∃ids,(j,ids)∈ps/\∀id k,(KK j).get id=some k->memT id ids=true
omit [Gl]in
theorem oZ_ {bef:Nat} {t:Tch}:∀{ps:List (Nat×List Nat)} {j:Nat} {ids:List Nat},st_ bef t ps=true->(j,ids)∈ps->bit bef j=false->apart t ids=true
 |[],j,ids,_,h,_=>by cases h
 |(i,is)::r,j,ids,hok,h,hb=>by obtain ⟨k1,k2⟩:=aa_ hok;rcases List.mem_cons.1 h with h|h;cases h;rw [hb,Bool.false_or]at k1;exact k1;exact oZ_ k2 h hb
def fL_ (l:List SI) (i:Nat):Bool:=match l[i]? with
 |some x=>bV_ x
 |none=>false
def aL_ (l:List SI) (n0 i:Nat):Nat:=n0+(l.take i).countP bV_
omit [Gl]in
theorem iv_ {l:List SI} {n0 i:Nat} {x:SI} (h:l[i]? =some x):aL_ l n0 (i+1)=eG_ x (aL_ l n0 i):=by
 unfold aL_ eG_;rw [List.take_add_one,h,List.countP_append];cases hx:bV_ x<;>simp [hx]
 omega
omit [Gl]in
theorem h8_ {bef:Nat} {ids:List Nat}:∀{r:List SI} {i nx:Nat},jE_ bef ids r i nx=true->∀(k:Nat) (y:SI),r[k]? =some y->bV_ y=true->bit bef (i+k)=true\/memT (nx+(r.take k).countP bV_) ids=false
 |[],i,nx,_,k,y,hk,_=>by simp at hk
 |z::r,i,nx,h,k,y,hk,hy=>by
  unfold jE_ at h;cases k with
  |zero=>simp at hk;subst hk;rw [hy]at h;obtain ⟨h1,_⟩:=aa_ h;simp only [Bool.or_eq_true,Bool.not_eq_true']at h1;simpa using h1
  |succ k=>
   have hk:r[k]? =some y:=(by simpa using hk);cases hz:bV_ z with
   |false=>rw [hz]at h;have:=h8_ h k y hk hy;rw [List.take_succ_cons,List.countP_cons,hz,show i+(k+1)=i.succ+k by omega];simpa using this
   |true=>rw [hz]at h;obtain ⟨_,h2⟩:=aa_ h;have:=h8_ h2 k y hk hy;rw [List.take_succ_cons,List.countP_cons,hz,show i+(k+1)=i.succ+k by omega];simpa [Nat.add_assoc,Nat.add_comm,Nat.add_left_comm,Nat.succ_eq_add_one]using this
theorem na_ {L:LVs} {ops:List Oper} {l:List SI} {b:Nat} (hbl:b<=l.length) {T0:Tm} {K:VS->VT} {n0:Nat}:∀(rest:List SI) (i nx:Nat) (gs:List GW) (ps:List (Nat×List Nat)) (S:VS) (Tr:Tm) (Y:Sy) (ev:Nat->Evt) (G KK:Nat->AHeap),(∀k,k<rest.length->rest[k]? =l[i+k]?)->i+rest.length=b->nx=aL_ l n0 i->(∀(j:Nat) (x:SI),l[j]? =some x->j<b->bV_ x=true->∃q k,jF_ P x (aL_ l n0 j)=some (q,k)/\(G 0).get (aL_ l n0 j)=some k)->Good P c S.n Y->G i=S.H->GsOk l b G i gs->t7_ l KK i ps->
  (∀t,t<512->Sl l ev T0 (λj=>decide (j<i)) t (tget Tr t))->Sim Y S.n Tr S.T->(∀j x,l[j]? =some x->j<i->SemF P Y.v S.n N ops l b ev T0 G KK (fL_ l) (aL_ l n0) j x)->VOK P Q L Y (jh_ P N c ops (l.take b) n0 rest i nx gs ps S K)->
  ∃Y' S' Tr' ev' G' KK',Good P c S'.n Y'/\S.n<=S'.n/\Ext S.n Y Y'/\S'.lv=S.lv/\S'.D=S.D/\G' b=S'.H/\(∀j,j<=i->G' j=G j)/\Y'.l=Y.l/\(∀t,t<512->Sl l ev' T0 (λj=>decide (j<b)) t (tget Tr' t))/\Sim Y' S'.n Tr' S'.T/\(∀j x,l[j]? =some x->j<b->SemF P Y'.v S'.n N ops l b ev' T0 G' KK' (fL_ l) (aL_ l n0) j x)/\VOK P Q L Y' (K S')
 |[],i,nx,gs,ps,S,Tr,Y,ev,G,KK,hr,hi,hnx,hal0,hf,hH,hgs,hps,hsl,hsim,hF,h=>by have hi:i=b:=(by simpa using hi);subst hi;exact ⟨Y,S,Tr,ev,G,KK,hf,Nat.le_refl _,Ext.refl _ _,rfl,rfl,hH,λ_ _=>rfl,rfl,hsl,hsim,hF,h⟩
 |x::r,i,nx,gs,ps,S,Tr,Y,ev,G,KK,hr,hi,hnx,hal0,hf,hH,hgs,hps,hsl,hsim,hF,h=>by
  have hx:l[i]? =some x:=(by have:=hr 0 (by simp);simpa using this.symm);have hib:i<b:=(by simp only [List.length_cons]at hi;omega);unfold jh_ at h;split at h;exact h.elim;rename_i u hu;have fin:∀S1:VS,S1.n=S.n/\S1.lv=S.lv/\S1.H=S.H/\S1.D=S.D->Sim Y S.n Tr S1.T->VOK P Q L Y (qb_ P c ops (l.take b) n0 nx x gs ps u (λS'=>jh_ P N c ops (l.take b) n0 r (Nat.succ i) (eG_ x nx) (gG_ x i S1 gs) (gY_ x i S1 ps) S' K) S1)->
    ∃Y' S' Tr' ev' G' KK',Good P c S'.n Y'/\S.n<=S'.n/\Ext S.n Y Y'/\S'.lv=S.lv/\S'.D=S.D/\G' b=S'.H/\(∀j,j<=i->G' j=G j)/\Y'.l=Y.l/\(∀t,t<512->Sl l ev' T0 (λj=>decide (j<b)) t (tget Tr' t))/\Sim Y' S'.n Tr' S'.T/\(∀j x,l[j]? =some x->j<b->SemF P Y'.v S'.n N ops l b ev' T0 G' KK' (fL_ l) (aL_ l n0) j x)/\VOK P Q L Y' (K S'):=by
   intro S1 h1 hs1 hk;obtain ⟨e1,e2,e3,e4⟩:=h1;obtain ⟨Y1,S2,S3,q,e,d⟩:=sL_ (N:=N) (Tr:=Tr) (by rw [e1];exact hf) (by rw [e1];exact hs1) hk;have dn:=d.n;have dext:=d.ext;rw [e1]at dn dext;have hput:e.put=some q:=by rcases d.ev with ⟨_,rfl,rfl,_⟩|⟨rfl,_⟩<;>rfl
   let ev1:Nat->Evt:=λj=>if j=i then e else ev j
   let G1:Nat->AHeap:=λj=>if j=i+1 then S3.H else G j
   let K1:Nat->AHeap:=λj=>if j=i then gH_ x S1 gs else KK j
   have hev1:ev1 i=e:=if_pos rfl;have hold:∀j,j<i->ev1 j=ev j:=λj hj=>if_neg (by omega);have hG1:G1 (i+1)=S3.H:=if_pos rfl;have hGold:∀j,j<=i->G1 j=G j:=λj hj=>if_neg (by omega);have hK1:K1 i=gH_ x S1 gs:=if_pos rfl;have hKold:∀j,j<i->K1 j=KK j:=λj hj=>if_neg (by omega);have hGi:G i=S1.H:=hH.trans e3.symm;have hsl1:∀t a,Sl l ev T0 (λj=>decide (j<i)) t a->Sl l ev1 T0 (λj=>decide (j<i)) t a:=λt a h=>h.ev_congr λj hj=>hold j (by simpa using hj);have hgs1:GsOk l b G1 i gs:=hgs.congr hGold;have hpres:isW x=true->∀ids,apart (b1_ x (ar_ S1.T x.rd topq)) ids=true->∀id k,memT id ids=true->S1.H.get id=some k->S3.H.get id=some k:=λhw ids ha id k hid hk=>(by rcases d.ev with ⟨_,_,_,_,h⟩|⟨_,_,⟨_,_,_,h⟩|⟨h,_⟩|⟨_,h,_⟩⟩;rw [h];exact hk;exact h ids ha id k hid hk;rw [hL_ h]at hw;cases hw;rw [hw]at h;cases h);obtain ⟨Y',S',Tr',ev',G',KK',g1,g2,g3,g4,gd,gG,gGo,g6,g7,g8,g9,g10⟩:=na_ hbl r (i+1) (eG_ x nx) _ _ S3 (u Tr q) Y1 ev1 G1 K1 (λk hk=>by have:=hr (k+1) (by simp only [List.length_cons];omega);rw [show i+1+k=i+(k+1) by omega];simpa using this) (by simp only [List.length_cons]at hi;omega) (by rw [hnx];exact (iv_ hx).symm) (λj y hy hj ha=>by rw [hGold 0 (Nat.zero_le _)];exact hal0 j y hy hj ha) d.good hG1
    (by
      show GsOk l b G1 (i+1) (gG_ x i S1 gs);unfold gG_;cases hw:isW x with
      |false=>exact hgs1.keep λhwr=>by obtain ⟨y,hy,hy2,_⟩:=hwr;rw [hx]at hy;cases hy;rw [hw]at hy2;cases hy2
      |true=>
       refine ⟨⟨x,hx,hw,hib⟩,Nat.lt_succ_self i,λj h7 h8=>absurd (show i<j from h7) (by omega),?_,λids ha id k hid hk=>?_,hgs1⟩;show S1.H=G1 i;rw [hGold i (Nat.le_refl _),hGi]
       .show (G1 (i+1)).get id=some k;rw [hG1];refine hpres hw ids ha id k hid ?_;have:(G1 i).get id=some k:=hk;rw [hGold i (Nat.le_refl _),hGi]at this;exact this)
    (by
      show t7_ l K1 (i+1) (gY_ x i S1 ps);intro j y hy hj hw;unfold gY_;by_cases ej:j=i;subst ej;rw [hx]at hy;cases hy;rw [hw];refine ⟨fo_ x S1.T,List.mem_cons_self ..,λid k hk=>?_⟩;rw [hK1]at hk;exact (cs_ hk).1
      .obtain ⟨ids,q1,q2⟩:=hps j y hy (by omega) hw;refine ⟨ids,?_,λid k hk=>by rw [hKold j (by omega)]at hk;exact q2 id k hk⟩;split;exact q1
       .exact List.mem_cons_of_mem _ q1)
    (λt ht=>by
     show Sl l ev1 T0 _ t _;rw [oP_];obtain ⟨p1,p2⟩:=eJ_ hu Tr q ht;by_cases ed:x.o.dst=some t;rw [p1 ed];refine Sl.put hx ed (by rw [hev1];exact hput) λj y hj hs hd=>?_;have:j<i:=(by simpa using hs);omega
     .rw [p2 ed];refine (hsl1 t _ (hsl t ht)).keep λy hy hd=>?_;rw [hx]at hy;cases hy;exact absurd hd ed)
    (by have:=d.sim.put d.ext d.n hu q;rw [d.t];exact this)
    (λj y hj hlt=>by
     by_cases ej:j=i
     .subst ej;rw [hx]at hj;cases hj;refine ⟨u,ar_ Tr x.rd topq,ar_ S2.T x.rd topq,hu,λt ht=>?_,λt ht E v hE hc=>?_,?_⟩;rw [dK_ Tr ht];split;rename_i hm;exact .inr ⟨hm,hsl1 t _ (hsl t ht)⟩;exact .inl (bP_ t);rw [dK_ _ ht]at hc⊢;split;rename_i hm;rw [if_pos hm]at hc;exact d.sim t ht E v (λk hk=>(hE k (Nat.lt_of_lt_of_le hk d.n)).trans (d.ext k hk)) hc;rw [bP_];simp [Con]
      .rw [hev1,hG1,hGold j (Nat.le_refl _),hGi,hK1];have halj:fL_ l j=bV_ x:=(by unfold fL_;rw [hx]);rcases d.ev with ⟨hal,rfl,_,hg,e5⟩|⟨rfl,hg,⟨hw,hokw,hop,hm⟩|⟨hal,e5,k,hav⟩|⟨hal,hw,hchk,hokr,e5,hop⟩⟩;exact .inl ⟨halj.trans hal,rfl,hg,e5⟩;refine .inr ⟨q,rfl,hg,.inl ⟨hw,hop,λj2 y2 hy2 hj2 hw2 hb2 id k hk=>?_⟩⟩;obtain ⟨ids,q1,q2⟩:=hps j2 y2 hy2 hj2 hw2;rw [hKold j2 hj2]at hk;exact hm ids (oZ_ hokw q1 hb2) id k (q2 id k hk);obtain ⟨q',k',h1,h2⟩:=hal0 j x hx hib hal;rw [←hnx,hav]at h1;cases h1;unfold jF_ at hav;split at hav;rename_i t ho;split at hav;rename_i p hp;split at hav;rename_i kk hkk;cases hav;refine .inr ⟨_,rfl,hg,.inr (.inl ⟨hal,e5,p.2,k,?_,?_,?_⟩)⟩;unfold ac_;rw [ho];simp only [OC.run];rw [←hnx,hp];rw [←hnx];exact hkk;rw [hGold 0 (Nat.zero_le _)];exact h2;cases hav;cases hav;cases hav
       .refine .inr ⟨q,rfl,hg,.inr (.inr ⟨hw,halj.trans hal,λj2 hj2 ha2 hb2=>?_,e5,?_,hop,?_⟩)⟩
        .have hyl:∃y2,l[j2]? =some y2:=⟨l[j2],by simp [show j2<l.length by omega]⟩;obtain ⟨y2,hy2⟩:=hyl;have hal2:bV_ y2=true:=(by unfold fL_ at ha2;rw [hy2]at ha2;exact ha2);cases ca_:(gH_ x S1 gs).get (aL_ l n0 j2)with
         |none=>rfl
         |some kk=>have hm:=(cs_ ca_).1;rcases h8_ hchk j2 y2 (by rw [List.getElem?_take_of_lt hj2];exact hy2) hal2 with h|h;rw [Nat.zero_add,hb2]at h;cases h;rw [List.take_take,Nat.min_eq_left (by omega)]at h;have:memT (aL_ l n0 j2) (fo_ x S1.T)=false:=h;rw [this]at hm;cases hm
        .obtain ⟨r1,r2⟩:=eL_ (mI_ x.bef S1.H gs) (fo_ x S1.T);show (dv_ _ _).hi<=(dv_ _ _).next
         rw [r1,r2];exact Nat.le_refl _
        .obtain ⟨lo,q1,q2,q3,q4⟩:=ko_ (bef:=x.bef) (ids:=fo_ x S1.T) hgs1 (λj2 hj2 hn=>by
           obtain ⟨y2,hy2⟩:∃y2,l[j2]? =some y2:=⟨l[j2],by simp [show j2<l.length by omega]⟩;have:=(hF j2 y2 hy2 hj2).keeps (by
            cases hw2:isW y2 with
            |false=>rfl
            |true=>exact absurd ⟨y2,hy2,hw2,by omega⟩ hn)
           rw [hGold j2 (by omega),hGold (j2+1) (by omega)];exact this) hokr
         rw [hGold j (Nat.le_refl _),hGi]at q2;refine ⟨lo,λid k hk=>?_,q1,q3,λj2 hj2 h7 h8 id k hk=>q4 j2 hj2 h7 h8 id k (cs_ hk).1⟩;have:=(cs_ hk).2;rw [q2]at this;exact this
     .exact (hF j y hj (by omega)).mono dext dn (λk hk=>hold k (by omega)) (λk hk=>hGold k (by omega)) (λk hk=>hKold k (by omega)))
    d.ok
   exact ⟨Y',S',Tr',ev',G',KK',g1,Nat.le_trans dn g2,dext.trans g3 dn,g4.trans (d.lv.trans e2),gd.trans (d.d.trans e4),gG,λj hj=>(gGo j (by omega)).trans (hGold j hj),g6.trans d.l,g7,g8,g9,g10⟩
  split at h
  .rename_i k hg;obtain ⟨t,ht,h1,h2⟩:=h;cases t with
   |true=>exact fin (S.know k true) ⟨rfl,rfl,rfl,rfl⟩ (hsim.know hf.1 ht) (h1 rfl)
   |false=>exact fin (S.know k false) ⟨rfl,rfl,rfl,rfl⟩ (hsim.know hf.1 ht) (h2 rfl)
  exact fin S ⟨rfl,rfl,rfl,rfl⟩ hsim h
omit [Gl]in
theorem m4_:∀(n:Nat) (l:List SI),dq_ n l=l.take n
 |0,_=>by simp [dq_]
 |_+1,[]=>by simp [dq_]
 |n+1,x::r=>by simp [dq_,m4_ n r]
omit [Gl]in
theorem lX_:∀(n:Nat) (l:List Oper),jV_ n l=l.drop n
 |0,_=>by simp [jV_]
 |_+1,[]=>by simp [jV_]
 |n+1,x::r=>by simp [jV_,lX_ n r]
omit [Gl]in
theorem mj_ {x:SI}:∀{n:Nat},qN_ x n=true->∀j,j<n->bit x.bef j=true
 |0,_,j,h=>absurd h (Nat.not_lt_zero _)
 |n+1,h,j,hj=>by obtain ⟨h1,h2⟩:=aa_ h;rcases Nat.lt_or_ge j n with h|h;exact mj_ h2 j h;have:j=n:=(by omega);subst this;exact h1
omit [Gl]in
theorem kw_:∀(l:List SI) (i:Nat),i<=ck_ l i/\ck_ l i<=i+l.length/\∀k x,l[k]? =some x->ck_ l i<=i+k->∀j,j<i+k->bit x.bef j=true
 |[],i=>⟨Nat.le_refl _,Nat.le_refl _,λk x hk=>by simp at hk⟩
 |y::r,i=>by
  obtain ⟨h1,h2,h3⟩:=kw_ r (i+1);have rest:∀k x,r[k]? =some x->ck_ r (i+1)<=i+(k+1)->∀j,j<i+(k+1)->bit x.bef j=true:=λk x hk hle j hj=>h3 k x hk (by omega) j (by omega);unfold ck_ rB_;split
  .rename_i hb;obtain ⟨e1,e2⟩:=aa_ hb;have e1:=Nat.eq_of_beq_eq_true e1;refine ⟨Nat.le_refl _,by simp,λk x hk hle=>?_⟩;cases k with
   |zero=>simp at hk;subst hk;exact λj hj=>mj_ e2 j hj
   |succ k=>exact rest k x (by simpa using hk) (by show ck_ r (Nat.succ i)<=_;omega)
  .refine ⟨?_,?_,λk x hk hle=>?_⟩;show i<=ck_ r (i+1);omega;show ck_ r (i+1)<=_;simp only [List.length_cons];omega
   .have hle:ck_ r (i+1)<=i+k:=hle;cases k with
    |zero=>omega
    |succ k=>exact rest k x (by simpa using hk) hle
omit [Gl]in
theorem km_ {x:SI} {i:Nat}:∀{l:List SI},nT_ x i l=true->∀(j:Nat) (y:SI),l[j]? =some y->oY_ x i y=true
 |[],_,j,y,hj=>by simp at hj
 |z::r,h,j,y,hj=>by
  obtain ⟨h1,h2⟩:=aa_ h;cases j with
  |zero=>simp at hj;subst hj;exact h1
  |succ j=>exact km_ (l:=r) h2 j y (by simpa using hj)
omit [Gl]in
theorem kn_:∀{l:List SI} {k:Nat},lh_ l k=true->∀(i j:Nat) (x y:SI),i<j->l[i]? =some x->l[j]? =some y->oY_ x (k+i) y=true
 |[],k,_,i,j,x,y,hij,hi,hj=>by simp at hi
 |z::r,k,h,i,j,x,y,hij,hi,hj=>by
  obtain ⟨h1,h2⟩:=aa_ h;cases j with
  |zero=>omega
  |succ j=>
   cases i with
   |zero=>simp at hi;subst hi;exact km_ h1 j y (by simpa using hj)
   |succ i=>
    have:=kn_ (k:=k+1) h2 i j x y (by omega) (by simpa using hi) (by simpa using hj)
    rwa [show k+1+i=k+(i+1) by omega]at this
omit [Gl]in
theorem h7_ {bef:Nat}:∀{r:List SI} {i:Nat},jD_ bef r i=true->∀(k:Nat) (y:SI),r[k]? =some y->bV_ y=true->bit bef (i+k)=true
 |[],i,_,k,y,hk,_=>by simp at hk
 |z::r,i,h,k,y,hk,hy=>by
  unfold jD_ at h;cases k with
  |zero=>simp at hk;subst hk;rw [hy]at h;exact (aa_ h).1
  |succ k=>
   have hk:r[k]? =some y:=(by simpa using hk);rw [show i+(k+1)=i.succ+k by omega];cases hz:bV_ z with
   |false=>rw [hz]at h;exact h7_ h k y hk hy
   |true=>rw [hz]at h;exact h7_ (aa_ h).2 k y hk hy
omit [Gl]in
theorem ia_ {l0:List SI}:∀{r:List SI},jG_ l0 r=true->∀(k:Nat) (x:SI),r[k]? =some x->isW x=true->jD_ x.bef l0 0=true
 |[],_,k,x,hk,_=>by simp at hk
 |z::r,h,k,x,hk,hx=>by
  unfold jG_ at h;cases k with
  |zero=>simp at hk;subst hk;rw [hx]at h;exact (aa_ h).1
  |succ k=>
   have hk:r[k]? =some x:=(by simpa using hk);cases hz:isW z with
   |false=>rw [hz]at h;exact ia_ h k x hk hx
   |true=>rw [hz]at h;exact ia_ (aa_ h).2 k x hk hx
omit [Gl]in
theorem go_:∀{r:List SI} {H H2:AHeap},h9_ P r H=some H2->H.next<=H2.next/\H2.hi=H.hi/\(∀id k,H.get id=some k->H2.get id=some k)/\
  (∀(i:Nat) (x:SI),r[i]? =some x->bV_ x=true->aL_ r H.next i<H2.next/\aL_ r H.next i<H.hi/\aL_ r H.next i<top/\∃q k,jF_ P x (aL_ r H.next i)=some (q,k)/\H2.get (aL_ r H.next i)=some k)/\
  (∀id k,H2.get id=some k->(∀(i:Nat) (x:SI),r[i]? =some x->bV_ x=true->id≠aL_ r H.next i)->H.get id=some k)
 |[],H,H2,h=>by cases h;exact ⟨Nat.le_refl _,rfl,λ_ _ h=>h,λi x hi=>by simp at hi,λ_ _ h _=>h⟩
 |z::r,H,H2,h=>by
  unfold h9_ at h;cases hz:bV_ z with
  |false=>
   rw [hz]at h;obtain ⟨h1,h2,h3,h4,h5⟩:=go_ h;have he:∀i,aL_ (z::r) H.next (i+1)=aL_ r H.next i:=λi=>(by unfold aL_;rw [List.take_succ_cons,List.countP_cons,hz];simp);refine ⟨h1,h2,h3,λi x hi hx=>?_,λid k hk hn=>h5 id k hk λi x hi hx=>?_⟩
   .cases i with
    |zero=>simp at hi;subst hi;rw [hz]at hx;cases hx
    |succ i=>rw [he];exact h4 i x (by simpa using hi) hx
   .have:=hn (i+1) x (by simpa using hi) hx
    rwa [he]at this
  |true=>
   rw [hz]at h;simp only at h;split at h;cases h;rename_i hfree;split at h;cases h;rename_i hroom;split at h
   case h_2=>cases h
   rename_i p hp;have htop:=i7_ hroom;have hlt:H.next<H.hi:=by unfold AHeap.room at hroom;have:=(aa_ hroom).1;simpa [Nat.blt_eq]using this
   obtain ⟨h1,h2,h3,h4,h5⟩:=go_ h;have hnx:(H.push p.2).next=H.next+1:=rfl
   have hhi:(H.push p.2).hi=H.hi:=rfl;have hps:(H.push p.2).get H.next=some p.2:=AHeap.get_push_same H htop _;have hpn:∀id,H.next≠id->(H.push p.2).get id=H.get id:=λid hne=>AHeap.get_push_ne H htop hne _;have he:∀i,aL_ (z::r) H.next (i+1)=aL_ r (H.push p.2).next i:=λi=>by unfold aL_;rw [List.take_succ_cons,List.countP_cons,hz,hnx];simp;omega
   have he0:aL_ (z::r) H.next 0=H.next:=(by unfold aL_;simp);rw [hnx]at h1;rw [hhi]at h2 h4;refine ⟨by omega,h2,λid k hk=>h3 id k ?_,λi x hi hx=>?_,λid k hk hn=>?_⟩;rw [hpn id (λe=>by rw [e]at hfree;rw [hfree]at hk;cases hk)];exact hk
   .cases i with
    |zero=>simp at hi;subst hi;rw [he0];exact ⟨by omega,hlt,htop,p.1,p.2,hp,h3 _ _ hps⟩
    |succ i=>rw [he];exact h4 i x (by simpa using hi) hx
   .have h0:=hn 0 z (by simp) hz;rw [he0]at h0;rw [←hpn id (λe=>h0 e.symm)];refine h5 id k hk λi x hi hx=>?_;have:=hn (i+1) x (by simpa using hi) hx
    rwa [he]at this
omit [Gl]in
theorem nD_ {l:List SI} {n0 i j:Nat} (h:i<=j):aL_ l n0 i<=aL_ l n0 j:=by
 unfold aL_;have:(l.take i).Sublist (l.take j):=by rw [show l.take i=(l.take j).take i by rw [List.take_take,Nat.min_eq_left h]];exact List.take_sublist _ _
 have:=this.countP_le (p:=bV_);omega
omit [Gl]in
theorem pM_ {l:List SI} {n0 i j:Nat} (hi:fL_ l i=true) (hj:fL_ l j=true) (h:aL_ l n0 i=aL_ l n0 j):i=j:=by
 have key:∀a b,fL_ l a=true->a<b->aL_ l n0 a<aL_ l n0 b:=λa b ha hab=>by unfold fL_ at ha;split at ha;rename_i x hx;have h1:=iv_ (n0:=n0) hx;unfold eG_ at h1;rw [ha]at h1;have h2:=nD_ (l:=l) (n0:=n0) (show a+1<=b by omega);have h1:aL_ l n0 (a+1)=aL_ l n0 a+1:=h1;omega;cases ha
 rcases Nat.lt_trichotomy i j with h'|h'|h';have:=key i j hi h';omega;exact h';have:=key j i hj h';omega
theorem rL_ {fuel:Nat} {I:Inl P fuel} (hm:P.follows .mixedOrders=true) (hc:as_ P (a6_ P fuel)) {L:LVs} {ops:Array Oper} {id:Nat} {S:VS} {Y:Sy} {X:VX->VT} {K:VS->VT} (hL:L.length=S.lv) (hf:Good P c S.n Y) (h:VOK P Q L Y (nb_ P N fuel I c ops.toList S X K)):
  ∀(B:World) (pr:Nat->Prop) (E:Env) (a:Act) (w:World),E.At Y->St P B pr N E S.T S.H S.D a w->(Code.region id ops true).wp P (OutF P B pr N c.k E (ax_ (kV P Q c L S.n Y K) (xV P Q c L S.n Y X))) a w:=by
 intro B pr E a w hy st;unfold nb_ at h;split at h
 case h_2=>exact h.elim
 rename_i l n hpl;obtain ⟨hP,_⟩:=ll_ hpl;simp only at h;split at h
 case h_2=>exact h.elim
 rename_i htwo;obtain ⟨htwo,hwrs⟩:=aa_ htwo;split at h
 case h_2=>exact h.elim
 rename_i HH hHH;obtain ⟨_,hb2,hb3⟩:=kw_ l 0;simp only [Nat.zero_add]at hb2 hb3;rw [m4_]at htwo hwrs hHH h;simp only [lX_]at h;generalize ck_ l 0=b at h hb2 hb3 htwo hwrs hHH;obtain ⟨a1,a2,a3,a4,a5⟩:=go_ hHH;have htk:∀i,i<b->(l.take b)[i]? =l[i]? :=λi hi=>List.getElem?_take_of_lt hi;have hid:∀i,i<b->aL_ (l.take b) S.H.next i=aL_ l S.H.next i:=λi hi=>by unfold aL_;rw [List.take_take,Nat.min_eq_left (by omega)]
 have halx:∀i x,l[i]? =some x->fL_ l i=bV_ x:=λi x hx=>by unfold fL_;rw [hx]
 have hxat:∀i,i<b->∃x,l[i]? =some x:=λi hi=>⟨l[i],by simp [show i<l.length by omega]⟩
 have hA:AlOk l b (fL_ l) (aL_ l S.H.next) S.H HH:={
  nx:=a1
  hi:=a2
  rng:=λj hj ha=>by obtain ⟨x,hx⟩:=hxat j hj;obtain ⟨q1,q2,q3,_⟩:=a4 j x (by rw [htk j hj];exact hx) (by rw [←halx j x hx];exact ha);rw [hid j hj]at q1 q2 q3;exact ⟨Nat.le_add_right _ _,q1,q2,q3⟩
  inj:=λi j _ _ hi hj h=>pM_ hi hj h
  old:=a3
  new:=λid k hk hn=>a5 id k hk λi x hi hx=>by have hib:i<b:=(by have:=(List.getElem?_eq_some_iff.1 hi).1;rw [List.length_take]at this;omega);rw [htk i hib]at hi;rw [hid i hib];exact hn i hib (by rw [halx i x hi];exact hx)
  wr:=λi j x hx hi hw hj ha=>by
   obtain ⟨y,hy⟩:=hxat j hj;have:=h7_ (ia_ hwrs i x (by rw [htk i hi];exact hx) hw) j y (by rw [htk j hj];exact hy) (by rw [←halx j y hy];exact ha)
   rwa [Nat.zero_add]at this
  is:=halx }
 have hat:∀k,k<(l.take b).length->(l.take b)[k]? =l[0+k]? :=λk hk=>by rw [List.length_take]at hk;rw [List.getElem?_take_of_lt (by omega),Nat.zero_add]
 have h2:∀(i j:Nat) (x y:SI),i<j->j<b->l[i]? =some x->l[j]? =some y->isW x=true->isW y=true->bit y.bef i=true:=λi j x y hij hjb hi hj hwx hwy=>by have:=kn_ (k:=0) htwo i j x y hij (by rw [List.getElem?_take_of_lt (by omega)];exact hi) (by rw [List.getElem?_take_of_lt hjb];exact hj);rw [Nat.zero_add]at this;unfold oY_ at this;rw [hwx,hwy]at this;exact this
 obtain ⟨Y',S',Tr',ev',G',KK',g1,g2,g3,g4,gd,gG,gGo,g6,g7,g8,g9,g10⟩:=na_ (N:=N) (b:=b) hb2 (T0:=S.T) (n0:=S.H.next) (l.take b) 0 S.H.next [] [] ⟨S.T,HH,S.n,S.lv,S.D⟩ S.T Y (λ_=>.gone) (λ_=>HH) (λ_=>HH) hat (by rw [List.length_take];omega) (by unfold aL_;simp)
  (λj x hx hj ha=>by obtain ⟨_,_,_,q,k,q4,q5⟩:=a4 j x (by rw [htk j hj];exact hx) ha;rw [hid j hj]at q4 q5;exact ⟨q,k,q4,q5⟩) hf rfl (λj hj=>absurd hj (Nat.not_lt_zero _)) (λj _ _ hj=>absurd hj (Nat.not_lt_zero _)) (λt ht=>.inl ⟨rfl,λj x _ hs=>by simp at hs⟩) (λt _ E v _ h=>h) (λj x _ hj=>absurd hj (Nat.not_lt_zero _)) h
 have hv:∀i x,E.sy i=some x->Y'.v i=some x:=λi x hx=>by
  rw [hy.v]at hx;have hi:i<S.n:=by rcases Nat.lt_or_ge i S.n with h|h;exact h;rw [hf.1.2 i h]at hx;cases hx
  rw [g3 i hi];exact hx
 have hll:∀i x,E.syl i=some x->Y'.l i=some x:=λi x hx=>by rw [g6,←hy.l];exact hx
 have hlo:∀i,i<64->Y'.v i=E.sy i:=λi hi=>by rw [hy.v];exact g3 i (by have:=hf.1.1;show i<S.n;omega)
 have st1:=st.with hv hll hlo;have hy1:(E.with Y').At Y':=⟨rfl,rfl,hy.res⟩;refine n4_ (s:=Y'.v) (m:=S'.n) (id:=id) (b:=b) (G:=G') hm hpl (λk _=>rfl) g9 h2 hb2 hb3 (Tf:=S'.T) (λt ht=>⟨_,g7 t ht,λE v hE hc=>g8 t ht E v hE hc⟩) (H00:=S.H) (al:=fL_ l) (idf:=aL_ l S.H.next) (by rw [gGo 0 (Nat.zero_le _)];exact hA) (λE' a w hle st'=>?_) st1;rw [gG,←gd]at st';have:=h6_ ops (ops.toList.drop b) Y' S'.T S'.H S'.D _ _ (h5_ hm hc (ops.toList.drop b) S' Y' (by rw [g4];exact hL) g1 g10) B pr E' a w (hy1.le hle) st';refine wpList_mono (λe a w hq=>?_) _ _ _ this;obtain ⟨Y2,r,hr,hq⟩:=hq;refine ⟨Y2,r,du_ (λ_ _ _ _ hk=>hS_ (List.prefix_refl L) g2 g3 hk) (λ_ _ hx=>cW_ (List.prefix_refl L) g2 g3 hx) hr,hq.le ((Env.with_leF c.k hlo).trans (hle.leF c.k))⟩
end
end Go.Sx
