/-
  Regions whose order is open, with symbols.
-/
import Derived.Test.YtmgenobllanmjaaGreatDoorSyJ
set_option linter.unusedVariables false
set_option linter.unusedSimpArgs false
namespace Go.Sx
theorem dZ_ (T:Tm) {t:Nat} (ht:t<512):∀(rd:List Nat) (R:Tm),tget (av_ T rd R) t=if t∈rd then tget T t else tget R t
 |[],R=>by rfl
 |d::r,R=>by
  unfold av_;split
  .rename_i hb;have hd:d<512:=(by simpa [Nat.blt_eq]using hb);rw [dZ_ T ht r];by_cases e:d=t
   .subst e;rw [ar_ R hd];by_cases hm:d∈r<;>simp [hm]
   rw [ap_ R ht hd e];have e':t≠d:=λh=>e h.symm;simp [e']
  .rename_i hb;have hd:¬d<512:=λh=>by have:Nat.blt d 512=true:=(by simpa [Nat.blt_eq]using h);rw [hb]at this;cases this
   rw [dZ_ T ht r];have e':t≠d:=λh=>(by omega);simp [e']
mutual
theorem ri_ {n:Nat} {s s':Nat->Option AV} (hs:∀k,k<n->s k=s' k):∀{a:AV},e4_ n a=true->den s a=den s' a
 | .opq,_=>rfl
 | .bool _,_=>rfl
 | .int _ _,_=>rfl
 | .flt _ _,_=>rfl
 | .nan _,_=>rfl
 | .str _,_=>rfl
 | .nptr,_=>rfl
 | .ptr _ _,_=>rfl
 | .vptr cs,h=>by simp only [e4_]at h;simp only [den,bk_ hs h]
 | .nsl,_=>rfl
 | .sl ..,_=>rfl
 | .vsl _ _ cs,h=>by simp only [e4_]at h;simp only [den,bk_ hs h]
 | .nmap,_=>rfl
 | .map _,_=>rfl
 | .nfn,_=>rfl
 | .fn _ cs,h=>by simp only [e4_]at h;simp only [den,bk_ hs h]
 | .nif,_=>rfl
 | .iface _ a,h=>by simp only [e4_]at h;simp only [den,ri_ hs h]
 | .agg cs,h=>by simp only [e4_]at h;simp only [den,bk_ hs h]
 | .tup cs,h=>by simp only [e4_]at h;simp only [den,bk_ hs h]
 | .sym i,h=>by
   grind [e4_,Nat.blt_eq,den]
 | .slx ..,_=>rfl
 | .ptx ..,_=>rfl
theorem bk_ {n:Nat} {s s':Nat->Option AV} (hs:∀k,k<n->s k=s' k):∀{l:List AV},aH_ n l=true->ab_ s l=ab_ s' l
 |[],_=>rfl
 |a::r,h=>by obtain ⟨h1,h2⟩:=aa_ h;simp only [ab_,ri_ hs h1,bk_ hs h2]
end
variable [Gl]
section
variable {P:Program} {N:Nat} {Q:AV->Prop} {c:VC}
theorem k1_ {s:Nat->Option AV} {m:Nat} {H:AHeap} {R:Tm} {o:Oper} {q:AV} (h:cn_ (ac_ P o) R H=some q):SemOp P s m N H R o q:=λB pr E a w hE ht hr C X hC=>by obtain ⟨E',n,v,w',h1,h2,h3,h4,h5⟩:=aw_ (kZ_ h) hr ht;have:=hC E' v w' h3 h4 h5;unfold Oper.wp;rw [h1];rcases h2 with rfl|⟨rfl,rfl⟩;exact this;exact this
theorem lW_ {s:Nat->Option AV} {m:Nat} {H:AHeap} {R:Tm} {o:Oper} {q:AV} (h:nS_ P R o=some q):SemOp P s m N H R o q:=λB pr E a w hE ht hr C X hC=>by
 unfold nS_ at h;split at h
 case h_2=>cases h
 rename_i t n ps ho;split at h
 case h_2=>cases h
 rename_i r hr0;obtain ⟨h1,h2⟩:=ej_ (E:=E) (ρ:=look R) (σ:=a.eval) (λx=>ht.look x) ps.toList;have e:(ps.map λp=>(p.1,a.eval p.2)).toList=ps.toList.map λp=>(p.1,a.eval p.2):=by simp
 obtain ⟨e',sz,cs,arr,hroom,rfl,hlen,hc,hrun⟩:=dx_ (E:=E) (vparts:=ps.map λp=>(p.1,a.eval p.2)) (by grind) (by grind) hr0;simp only at h;split at h
 case h_2=>cases h
 rename_i cs' hcs;split at h
 case h_2=>cases h
 cases h;have hcs':cs'=cs:=by
  grind [AHeap.get_push_same,top]
 subst hcs';obtain ⟨i1,i2⟩:=hr.new_imm (arr:=arr) (t:=e') (fr:=(0,0)) (vs:=arr.toList) (λi v hv=>by grind);have:=hC _ (.slice (some ⟨w.heap.size,0,none⟩) n n) _ i1 i2 (by exact ⟨w.heap.size,0,arr.toList,n,.inl rfl,Nat.le_refl _,hc.sub i1.1,λi v hv=>by grind⟩);unfold Oper.wp;have hx:(execOp a.eval o).run P w=.ok (.value (.slice (some ⟨w.heap.size,0,none⟩) n n)) (w.alloc (.cells arr e')):=by
  grind [execOp,Sem.run_bind,Result.andThen_ok,Sem.run_pure]
 rw [hx];exact this
theorem ov_ {Y:Sy} {n:Nat} (hf:Fresh Y n) {H:AHeap} {R:Tm} {o:Oper} {g:FuncId} {args:List AV} {sh:List (Option Nat)} {v:AV} {vs:List AV} (hst:(ac_ P o).run R H=some (.call g args)) (hso:ad_ args=true) (hlt:aH_ n args=true)
  (hp:iu_ P g (ab_ Y.v args) v) (hfl:hJ_ sh v=some vs) (hok:okL vs=true):SemOp P (Y.puts n vs).v (n+dD_ sh) N H R o (dm_ n sh):=λB pr E a w hE ht hr C X hC=>by
 obtain ⟨us,g1,g2⟩:=aw_ hst hr ht;have hlen:=g2_ hfl;have hden:ab_ E.sy args=ab_ Y.v args:=bk_ (λk hk=>(hE k (by omega)).trans (Ext.puts vs n (Nat.le_refl n) k hk)) hlt;have hcon:ConL E (ab_ Y.v args) us:=by rw [←hden];exact (bQ_ hso g2).con
 unfold Oper.wp;rw [g1];refine Calls.mono (hp H B pr E w us ht.gl hr hcon) λe w' he=>?_;obtain ⟨E',hle,u',rfl,h1,h2⟩:=he;exact hC E' u' w' hle h2 (kA_ (E:=E') (E':=E') (λ_ _ _ h=>h) hfl hok h1 λi a ha=>by
  rw [hle.1.2.2.2.1,hE (n+i) (by grind)]
  grind [bB_])
theorem jF_ {Y:Sy} {n:Nat} {H:AHeap} {R:Tm} {o:Oper} {op:XOp} {args:List AV} {r:AV} (hl:cK_ R o=some (op,args)) (hso:ad_ args=true) (hlt:aH_ n args=true) (hr:op.run P (ab_ Y.v args)=some r) (hok:okC r=true):
  SemOp P (Y.put n r).v (n+1) N H R o (.sym n):=λB pr E a w hE ht hrel C X hC=>by
 have hden:ab_ E.sy args=ab_ Y.v args:=bk_ (λk hk=>(hE k (by omega)).trans (Sy.put_ne _ _ (by omega))) hlt;obtain ⟨E',nx,v,w',h1,h2,h3,h4,h5⟩:=of_ hl hso (r:=r) (by rw [hden];exact hr) hrel ht;have:=hC E' v w' h3 h4 (by refine ⟨r,?_,ba_ hok,bD_ hok h5⟩;rw [h3.1.2.2.2.1,hE n (by omega)];exact Sy.put_same _ _ _);unfold Oper.wp;rw [h1];rcases h2 with rfl|⟨rfl,rfl⟩;exact this;exact this
theorem nj_ {Y:Sy} {n:Nat} {H:AHeap} {R:Tm} {o:Oper} {op:XOp} {args:List AV} {r:AV} (hl:kv_ R H o=some (op,args)) (hlt:aH_ n args=true) (hr:op.run P (ab_ Y.v args)=some r) (hok:okC r=true):
  SemOp P (Y.put n r).v (n+1) N H R o (.sym n):=λB pr E a w hE ht hrel C X hC=>by
 have hden:ab_ E.sy args=ab_ Y.v args:=bk_ (λk hk=>(hE k (by omega)).trans (Sy.put_ne _ _ (by omega))) hlt;obtain ⟨E',nx,v,w',h1,h2,h3,h4,h5⟩:=kw_ hrel (λx=>ht.look x) hl (r:=r) (by rw [hden];exact hr);have:=hC E' v w' h3 h4 (by refine ⟨r,?_,ba_ hok,bD_ hok h5⟩;rw [h3.1.2.2.2.1,hE n (by omega)];exact Sy.put_same _ _ _);unfold Oper.wp;rw [h1];rcases h2 with rfl|⟨rfl,rfl⟩;exact this;exact this
theorem ow_ {Y:Sy} {n:Nat} (hf:Fresh Y n) {H:AHeap} {R:Tm} {o:Oper} {op:XOp} {args cs:List AV} (hl:cK_ R o=some (op,args)) (hso:ad_ args=true) (hlt:aH_ n args=true) (hr:op.run P (ab_ Y.v args)=some (.agg cs)) (hok:okL cs=true):
  SemOp P (Y.puts n cs).v (n+cs.length) N H R o (.agg (ag_ n cs.length)):=λB pr E a w hE ht hrel C X hC=>by
 have hden:ab_ E.sy args=ab_ Y.v args:=bk_ (λk hk=>(hE k (by omega)).trans (Ext.puts cs n (Nat.le_refl n) k hk)) hlt;obtain ⟨E',nx,v,w',h1,h2,h3,h4,h5⟩:=of_ hl hso (r:=.agg cs) (by rw [hden];exact hr) hrel ht;have:=hC E' v w' h3 h4 (by
  obtain ⟨vs,rfl,hL⟩:=h5;refine ⟨vs,rfl,bC_ n cs vs hok (λi a ha=>?_) (bl_ hok hL)⟩;rw [h3.1.2.2.2.1,hE (n+i) (by grind)]
  grind [bB_])
 unfold Oper.wp;rw [h1];rcases h2 with rfl|⟨rfl,rfl⟩;exact this;exact this
theorem ox_ {s:Nat->Option AV} {m:Nat} {H:AHeap} {R:Tm} {o:Oper} {q:AV} (h:r8_ P R o=some q):SemOp P s m N H R o q:=λB pr E a w hE ht hr C X hC=>by obtain ⟨v,h1,h2⟩:=nb_ hr (λx=>ht.look x) h;unfold Oper.wp;rw [h1];exact hC E v w (Env.le_refl E) hr h2
theorem qE_ {Y:Sy} {n id sz:Nat} {H:AHeap} {R:Tm} {o:Oper} {op:XOp} {args:List AV} {r:AV} (hl:qr_ P R o=some (op,args,id,sz)) (hlt:aH_ n args=true) (hr:op.run P (ab_ Y.v args)=some r):
  SemOp P (Y.put n r).v (n+1) N H R o (.ptx id n sz 0):=λB pr E a w hE ht hrel C X hC=>by
 have hden:ab_ E.sy args=ab_ Y.v args:=bk_ (λk hk=>(hE k (by omega)).trans (Sy.put_ne _ _ (by omega))) hlt;obtain ⟨q,E',v,w',rfl,h1,h2,h3,h4⟩:=pf_ hrel (λx=>ht.look x) hl (by rw [hden];exact hr);unfold Oper.wp;rw [h1];refine hC E' v w' h2 h3 ((d9_ (k:=.i64) ?_).2 (by omega));rw [h2.1.2.2.2.1,hE n (by omega)];exact Sy.put_same _ _ _
theorem qF_ {Y:Sy} {n:Nat} {H:AHeap} {R:Tm} {o:Oper} {op:XOp} {args:List AV} {r:AV} (hl:ldX R H o=some (op,args)) (hlt:aH_ n args=true) (hr:op.run P (ab_ Y.v args)=some r) (hok:okC r=true):
  SemOp P (Y.put n r).v (n+1) N H R o (.sym n):=λB pr E a w hE ht hrel C X hC=>by
 have hden:ab_ E.sy args=ab_ Y.v args:=bk_ (λk hk=>(hE k (by omega)).trans (Sy.put_ne _ _ (by omega))) hlt;obtain ⟨v,h1,h2⟩:=od_ hrel (λx=>ht.look x) hl (by rw [hden];exact hr);unfold Oper.wp;rw [h1];refine hC E v w (Env.le_refl E) hrel ?_;exact ⟨r,by rw [hE n (by omega)];exact Sy.put_same _ _ _,ba_ hok,bD_ hok h2⟩
theorem qG_ {Y:Sy} {n:Nat} (hf:Fresh Y n) {H:AHeap} {R:Tm} {o:Oper} {op:XOp} {args cs:List AV} (hl:ldX R H o=some (op,args)) (hlt:aH_ n args=true) (hr:op.run P (ab_ Y.v args)=some (.agg cs)) (hok:okL cs=true):
  SemOp P (Y.puts n cs).v (n+cs.length) N H R o (.agg (ag_ n cs.length)):=λB pr E a w hE ht hrel C X hC=>by
 have hden:ab_ E.sy args=ab_ Y.v args:=bk_ (λk hk=>(hE k (by omega)).trans (Ext.puts cs n (Nat.le_refl n) k hk)) hlt;obtain ⟨v,h1,h2⟩:=od_ hrel (λx=>ht.look x) hl (by rw [hden];exact hr);unfold Oper.wp;rw [h1];refine hC E v w (Env.le_refl E) hrel ?_;obtain ⟨vs,rfl,hL⟩:=h2;refine ⟨vs,rfl,bC_ n cs vs hok (λi a ha=>?_) (bl_ hok hL)⟩;rw [hE (n+i) (by grind)]
 grind [bB_]
theorem qH_ {Y:Sy} {n:Nat} {H:AHeap} {R:Tm} {o:Oper} {op:XOp} {args:List AV} {r:AV} (hl:oe_ R o=some (op,args)) (hlt:aH_ n args=true) (hr:op.run P (ab_ Y.v args)=some r) (hok:okC r=true):
  SemOp P (Y.put n r).v (n+1) N H R o (.sym n):=λB pr E a w hE ht hrel C X hC=>by
 have hden:ab_ E.sy args=ab_ Y.v args:=bk_ (λk hk=>(hE k (by omega)).trans (Sy.put_ne _ _ (by omega))) hlt;obtain ⟨E',nx,v,w',h1,h2,h3,h4,h5⟩:=mR_ hl (by rw [hden];exact hr) ht hrel;have:=hC E' v w' h3 h4 (by refine ⟨r,?_,ba_ hok,bD_ hok h5⟩;rw [h3.1.2.2.2.1,hE n (by omega)];exact Sy.put_same _ _ _);unfold Oper.wp;rw [h1];rcases h2 with rfl|⟨rfl,rfl⟩;exact this;exact this
def Sim (Y:Sy) (n:Nat) (Tr T:Tm):Prop:=∀t,t<512->∀(E:Env) (v:Value),Agr Y.v n E->Con E (tget Tr t) v->Con E (tget T t) v
omit [Gl]in
theorem Sim.know {Y:Sy} {n:Nat} {Tr T:Tm} (h:Sim Y n Tr T) (hf:Fresh Y n) {i:Nat} {b:Bool} (hb:Y.v i=some (.bool b)):Sim Y n Tr (bc_ (hs_ i b) T):=λt ht E v hE hc=>by
 rw [aC_];have hi:i<n:=by rcases Nat.lt_or_ge i n with h|h;exact h;rw [hf.2 i h]at hb;cases hb
 exact iI_ ((hE i hi).trans hb) (h t ht E v hE hc)
omit [Gl]in
theorem Sim.put {Y Y':Sy} {n n':Nat} {Tr T:Tm} (h:Sim Y n Tr T) (hx:Ext n Y Y') (hn:n<=n') {d:Option Nat} {u:Tm->AV->Tm} (hu:bT_ N d=.mk u) (q:AV):Sim Y' n' (u Tr q) (u T q):=λt ht E v hE hc=>by
 obtain ⟨p1,p2⟩:=eZ_ hu Tr q ht;obtain ⟨q1,q2⟩:=eZ_ hu T q ht;by_cases e:d=some t
 .grind
 rw [p2 e]at hc;rw [q2 e];exact h t ht E v (λk hk=>(hE k (by omega)).trans (hx k hk)) hc
structure Did1 (P:Program) (N:Nat) (Q:AV->Prop) (c:VC) (L:LVs) (ops:List Oper) (l0:List SI) (n0 nx:Nat) (x:SI) (gs:List GW) (ps:List (Nat×List Nat)) (u:Tm->AV->Tm) (Tr:Tm) (S:VS) (Y:Sy) (next:VS->VT) (Y':Sy) (S1 S':VS) (q:AV) (e:Evt):Prop where
 good:Good P c S'.n Y'
 n:S.n<=S'.n
 ext:Ext S.n Y Y'
 lv:S'.lv=S.lv
 d:S'.D=S.D
 l:Y'.l=Y.l
 sim:Sim Y S.n Tr S1.T
 t:S'.T=u S1.T q
 ok:VOK P Q L Y' (next S')
 ev:(cs_ x=false/\e=.off/\q=.tup []/\aK_ ops x (av_ S1.T x.rd topq)=some false/\S'.H=S.H)\/(e=.val q/\aK_ ops x (av_ S1.T x.rd topq)=some true/\
  ((isW x=true/\tt_ x.bef (b2_ x (av_ S.T x.rd topq)) ps=true/\l6_ P Y'.v S'.n N S.H S'.H (av_ S1.T x.rd topq) x.o q/\
      ∀ids,apart (b2_ x (av_ S.T x.rd topq)) ids=true->∀id k,memT id ids=true->S.H.get id=some k->S'.H.get id=some k)\/
   (cs_ x=true/\S'.H=S.H/\∃k,kh_ P x nx=some (q,k))\/
   (cs_ x=false/\isW x=false/\kg_ x.bef (gw_ x S.T) l0 0 n0=true/\r3_ x.bef (gw_ x S.T) gs=true/\S'.H=S.H/\SemOp P Y'.v S'.n N (g5_ x S gs) (av_ S1.T x.rd topq) x.o q)))
theorem sk_ {s:Nat->Option AV} {m:Nat} {H H':AHeap} {R:Tm} {o:Oper} {q:AV} (h:(ac_ P o).run R H=some (.val q H')):l6_ P s m N H H' R o q:=λB pr E a w hE ht hr C X hC=>by obtain ⟨E',n,v,w',h1,h2,h3,h4,h5⟩:=aw_ h hr ht;have:=hC E' v w' h3 h4 h5;unfold Oper.wp;rw [h1];rcases h2 with rfl|⟨rfl,rfl⟩;exact this;exact this
theorem tI_ {Y:Sy} {n id:Nat} {H:AHeap} {R:Tm} {o:Oper} {op:XOp} {args:List AV} {r:AV} (hl:stX R H o=some (op,args,id)) (hlt:aH_ n args=true) (hr:op.run P (ab_ Y.v args)=some r) (hok:okC r=true):
  l6_ P (Y.put n r).v (n+1) N H (H.set id (.syl n)) R o (.tup []):=λB pr E a w hE ht hrel C X hC=>by
 have hden:ab_ E.sy args=ab_ Y.v args:=bk_ (λk hk=>(hE k (by omega)).trans (Sy.put_ne _ _ (by omega))) hlt;obtain ⟨w',h1,h2⟩:=pL_ (n:=n) hrel (λx=>ht.look x) hl (by rw [hden];exact hr) hok (by rw [hE n (by omega)];exact Sy.put_same _ _ _);unfold Oper.wp;rw [h1];exact hC E undef w' (Env.le_refl E) h2 (a6_ E)
omit [Gl]in
theorem e9_ {n i:Nat} {args:List AV} (h:da_ args=some i) (hlt:aH_ n args=true):i<n:=by
 unfold da_ at h;split at h
 .split at h<;>simp_all [aH_,e4_]
 cases h
theorem sj_ {Y:Sy} {n id sz:Nat} {H:AHeap} {R:Tm} {o:Oper} {op:XOp} {args:List AV} {r:AV} (hl:gd_ P R H o=some (id,sz,op,args)) (hpos:fP_ args=true\/∃i,da_ args=some i/\fF_ Y.v i) (hlt:aH_ n args=true) (hr:op.run P (ab_ Y.v args)=some r) (hok:okC r=true):
  l6_ P (Y.put n r).v (n+1) N H ((H.erase id).push (.syl n)) R o (.slx H.next sz n):=λB pr E a w hE ht hrel C X hC=>by
 have hden:ab_ E.sy args=ab_ Y.v args:=bk_ (λk hk=>(hE k (by omega)).trans (Sy.put_ne _ _ (by omega))) hlt;obtain ⟨_,E',v,w',h1,h2,h3,h4⟩:=q4_ (E:=E) hl hok (hpos.imp (λh=>h) λ⟨i,hi,h⟩=>⟨i,hi,by
  have hin:i<n:=e9_ hi hlt;unfold fF_;rw [(hE i (by omega)).trans (Sy.put_ne _ _ (by omega))];exact h⟩) (by grind) (by rw [hE n (by omega)];exact Sy.put_same _ _ _) ht hrel
 unfold Oper.wp;rw [h1];exact hC E' v w' h2 h3 h4
theorem k2_ {Y:Sy} {n m id sz:Nat} {H:AHeap} {R:Tm} {o:Oper} {op:XOp} {args:List AV} {r:AV} (hl:cP_ P R H o=some (id,sz,op,args)) (hpos:fP_ args=true\/∃i,da_ args=some i/\fF_ Y.v i) (hlt:aH_ m args=true) (hmn:m<=n) (hr:op.run P (ab_ Y.v args)=some r) (hok:okC r=true):
  l6_ P (Y.put n r).v (n+1) N H ((H.erase id).push (.syl n)) R o (.slx H.next sz n):=λB pr E a w hE ht hrel C X hC=>by
 have hden:ab_ E.sy args=ab_ Y.v args:=bk_ (λk hk=>(hE k (by omega)).trans (Sy.put_ne _ _ (by omega))) hlt;obtain ⟨E',v,w',h1,h2,h3,h4⟩:=p2_ (E:=E) hl hok (hpos.imp (λh=>h) λ⟨i,hi,h⟩=>⟨i,hi,by
  have hin:i<m:=e9_ hi hlt;unfold fF_;rw [(hE i (by omega)).trans (Sy.put_ne _ _ (by omega))];exact h⟩) (by grind) (by rw [hE n (by omega)];exact Sy.put_same _ _ _) ht hrel
 unfold Oper.wp;rw [h1];exact hC E' v w' h2 h3 h4
theorem qI_ {Y:Sy} {n m id sz i:Nat} {H:AHeap} {R:Tm} {o:Oper} {op:XOp} {args:List AV} (hl:cP_ P R H o=some (id,sz,op,args)) (hi:da_ args=some i) (he:ke_ Y.v i) (hlt:aH_ m args=true) (hmn:m<=n):
  l6_ P Y.v n N H H R o (ms_ R o):=λB pr E a w hE ht hrel C X hC=>by
 obtain ⟨E',v,w',h1,h2,h3,h4⟩:=q5_ (E:=E) hl hi (by have hin:i<m:=e9_ hi hlt;unfold ke_;rw [hE i (by omega)];exact he) ht hrel;unfold Oper.wp;rw [h1];exact hC E' v w' h2 h3 h4
theorem kk_ {x:SI} {R:Tm} {H:AHeap} {id sz n:Nat} {op:XOp} {args:List AV} (hap:kJ_ x=true) (hl:cP_ P R H x.o=some (id,sz,op,args)) {ids:List Nat} (ha:apart (b2_ x R) ids=true) {idr:Nat} {k:ABlk} (hm:memT idr ids=true) (hk:H.get idr=some k) (hnew:H.get H.next=none):
  ((H.erase id).push (.syl n)).get idr=some k:=by
 unfold cP_ at hl;split at hl
 case h_2=>cases hl
 rename_i c ho;split at hl
 case h_2=>cases hl
 rename_i b hc;split at hl
 case h_2=>cases hl
 split at hl
 case h_2=>cases hl
 rename_i s x' t tx h1 h2;split at hl
 case h_2=>cases hl
 rename_i hroom;split at hl
 case h_2=>cases hl
 split at hl
 case h_2=>cases hl
 split at hl
 case h_2=>cases hl
 split at hl
 case h_2=>cases hl
 split at hl
 case h_2=>cases hl
 split at hl
 case h_2=>cases hl
 rename_i id' sd hh;have hM:isM x=false:=by unfold isM;rw [ho]
 unfold b2_ at ha;rw [hM]at ha;unfold hu_ at ha;rw [ho]at ha;simp only [hap,h1]at ha;have hne:id'≠idr:=λe=>by
  grind [fq_,apart]
 obtain ⟨r1,r2,r3⟩:=Rel.room hroom;have e1:((H.erase id').push (.syl n)).get idr=(H.erase id').get idr:=AHeap.get_push_ne (H.erase id') r2 (λe=>by have e':H.next=idr:=e;grind) _
 grind [AHeap.get_erase_ne]
theorem tH_ {s:Nat->Option AV} {m N:Nat} {H:AHeap} {R:Tm} {o:Oper} {q:AV} (h:SemOp P s m N H R o q):l6_ P s m N H H R o q:=λB pr E a w hE ht hr C Q hC=>h B pr E a w hE ht hr C Q hC
theorem q7_ {x:SI} {R:Tm} {H:AHeap} {id sz n:Nat} {op:XOp} {args:List AV} (hap:kJ_ x=true) (hl:gd_ P R H x.o=some (id,sz,op,args)) {ids:List Nat} (ha:apart (b2_ x R) ids=true) {idr:Nat} {k:ABlk} (hm:memT idr ids=true) (hk:H.get idr=some k) (hnew:H.get H.next=none):
  ((H.erase id).push (.syl n)).get idr=some k:=by
 unfold gd_ at hl;split at hl
 case h_2=>cases hl
 rename_i c ho;split at hl
 case h_2=>cases hl
 rename_i b hc;split at hl
 case h_2=>cases hl
 split at hl
 case h_2=>cases hl
 rename_i s x' t tx h1 h2;split at hl
 case h_2=>cases hl
 rename_i id' sz' i hs;split at hl
 case h_2=>cases hl
 split at hl
 case h_2=>cases hl
 rename_i hji;have hroom:=(aa_ hji).2;have hid:id'=id:=by
  repeat' (split at hl<;>first|(cases hl;done)|skip)
  cases hl;rfl
 have hM:isM x=false:=by unfold isM;rw [ho]
 unfold b2_ at ha;rw [hM]at ha;unfold hu_ at ha;rw [ho]at ha;simp only [hap,h1,hs]at ha;have hne:id'≠idr:=λe=>by
  grind [apart]
 obtain ⟨r1,r2,r3⟩:=Rel.room hroom;have e1:((H.erase id').push (.syl n)).get idr=(H.erase id').get idr:=AHeap.get_push_ne (H.erase id') r2 (λe=>by have e':H.next=idr:=e;grind) _
 grind [AHeap.get_erase_ne]
theorem tQ_ {x:SI} {R:Tm} (h:iz_ x R=false):hu_ x R=.all:=by
 grind [hu_,iz_]
omit [Gl]in
theorem jC_ {H:AHeap} (h:H.room=true):H.next<top:=by
 unfold AHeap.room at h
 grind [Nat.blt_eq,Nat.ble_eq]
omit [Gl]in
theorem kQ_ {H:AHeap} {cs:List AV} {a:AV} {H':AHeap} (h:eJ_ H cs=some (a,H')) (hn:H.get H.next=none):∀id k,H.get id=some k->H'.get id=some k:=λid k hk=>by
 grind [eJ_,AHeap.get_push_ne,jC_]
theorem qt_ {x:SI} (hx:isM x=true) {R:Tm} {H H':AHeap} {a:AV} (h:(ac_ P x.o).run R H=some (.val a H')) (hn:H.get H.next=none):∀id k,H.get id=some k->H'.get id=some k:=by
 unfold isM at hx;unfold ac_ at h;split at hx
 .grind [OC.run,fi_,kQ_]
 .grind [OC.run,my_,kQ_]
 .rename_i t n parts ho;rw [ho]at h;simp only [OC.run]at h;split at h
  .rename_i a' H2 he;unfold bz_ at he;repeat' (split at he<;>try (cases he;done))
   grind [AHeap.get_push_ne,jC_]
  cases h
 cases hx
omit [Gl]in
theorem n4_ {P:Program} {H H':AHeap} {t:TypeId} {id off j:Nat} {v a:AV} (h:ci_ P H t (.ptr id off) v=some (a,H')) (hne:id≠j):H'.get j=H.get j:=by
 unfold ci_ at h;split at h
 .simp only at h;split at h<;>grind [AHeap.get_set_ne,AHeap.get_lt]
 cases h
theorem sv_ {x:SI} {R:Tm} {H H':AHeap} {a:AV} (h:(ac_ P x.o).run R H=some (.val a H')) (hn:isM x=true->H.get H.next=none) (hna:isM x=false->iz_ x R=false) {ids:List Nat} (ht:apart (b2_ x R) ids=true):∀id k,memT id ids=true->H.get id=some k->H'.get id=some k:=by
 intro id k hid hk;unfold b2_ at ht;split at ht
 .grind [qt_]
 .rename_i hM;split at ht
  .rename_i t ad v ho;split at ht
   .rename_i id2 off hl;unfold ac_ at h;rw [ho]at h;simp only [OC.run]at h;split at h
    .have hl':(aW_ ad).f R=.ptr id2 off:=hl
     grind [apart,n4_]
    cases h
   .rename_i id2 j2 sz2 off2 hl;unfold ac_ at h;rw [ho]at h;simp only [OC.run]at h;split at h
    .have hl':(aW_ ad).f R=.ptx id2 j2 sz2 off2:=hl
     grind [ci_]
    cases h
   .simp only [apart]at ht
    grind [memT]
  .rw [tQ_ (hna hM)]at ht;simp only [apart]at ht
   grind [memT]
theorem tS_ {L:LVs} {ops:List Oper} {l0:List SI} {n0 nx:Nat} {x:SI} {gs:List GW} {ps:List (Nat×List Nat)} {u:Tm->AV->Tm} {Tr:Tm} {S:VS} {Y:Sy} {next:VS->VT} (hf:Good P c S.n Y) (hsim:Sim Y S.n Tr S.T) (h:VOK P Q L Y (qS_ P c ops l0 n0 nx x gs ps u next S)):
  ∃Y' S2 S' q e,Did1 P N Q c L ops l0 n0 nx x gs ps u Tr S Y next Y' S2 S' q e:=by
 unfold qS_ at h;split at h
 case h_2=>exact h.elim
 rename_i t hg;split at h
 .refine ⟨Y,S,⟨u S.T (.tup []),S.H,S.n,S.lv,S.D⟩,.tup [],.off,hf,Nat.le_refl _,Ext.refl _ _,rfl,rfl,rfl,hsim,rfl,h,.inl ⟨?_,rfl,rfl,hg,rfl⟩⟩
  grind [cs_,aK_,aZ_]
 split at h;rename_i hal;split at h;rename_i p hp;exact ⟨Y,S,⟨u S.T p.1,S.H,S.n,S.lv,S.D⟩,p.1,.val p.1,hf,Nat.le_refl _,Ext.refl _ _,rfl,rfl,rfl,hsim,rfl,h,.inr ⟨rfl,hg,.inr (.inl ⟨hal,rfl,p.2,hp⟩)⟩⟩;exact h.elim;rename_i hal;split at h
 .rename_i hw;split at h
  case h_2=>exact h.elim
  rename_i hokw;unfold vDW at h;have happ:VOK P Q L Y (nB_ P x u S next)->∃Y' S2 S' q e,Did1 P N Q c L ops l0 n0 nx x gs ps u Tr S Y next Y' S2 S' q e:=λh=>by
   unfold nB_ at h;split at h;exact h.elim;rename_i hap;split at h
   .rename_i id sz op args hl;split at h
    case h_2=>exact h.elim
    rename_i hlt;split at h
    case h_2=>exact h.elim
    rename_i hnew;obtain ⟨hpos,r,hr,hok,ht⟩:(fP_ args=true\/∃i,da_ args=some i/\fF_ Y.v i)/\VOK P Q L Y (.lt op args S.n none (next ⟨u S.T (.slx S.H.next sz S.n),(S.H.erase id).push (.syl S.n),Nat.succ S.n,S.lv,S.D⟩)):=by
     split at h
     .grind
     split at h;rename_i i hi;exact ⟨.inr ⟨i,hi,h.1⟩,h.2⟩;exact h.elim
    exact ⟨Y.put S.n r,S,⟨u S.T (.slx S.H.next sz S.n),(S.H.erase id).push (.syl S.n),Nat.succ S.n,S.lv,S.D⟩,.slx S.H.next sz S.n,.val (.slx S.H.next sz S.n),hf.put r,Nat.le_succ _,Ext.put r (Nat.le_refl _),rfl,rfl,rfl,hsim,rfl,ht,.inr ⟨rfl,hg,.inl ⟨hw,hokw,sj_ hl hpos hlt hr hok,λids ha idr k hm hk=>q7_ hap hl ha hm hk hnew⟩⟩⟩
   split at h
   .rename_i id sz op args hl;unfold sA_ at h;split at h
    case h_2=>exact h.elim
    rename_i hlt;split at h
    case h_2=>exact h.elim
    rename_i hnew;split at h;rename_i hp;obtain ⟨r,hr,hok,ht⟩:=h;exact ⟨Y.put S.n r,S,⟨u S.T (.slx S.H.next sz S.n),(S.H.erase id).push (.syl S.n),Nat.succ S.n,S.lv,S.D⟩,.slx S.H.next sz S.n,.val (.slx S.H.next sz S.n),hf.put r,Nat.le_succ _,Ext.put r (Nat.le_refl _),rfl,rfl,rfl,hsim,rfl,ht,.inr ⟨rfl,hg,.inl ⟨hw,hokw,k2_ hl (.inl hp) hlt (Nat.le_refl _) hr hok,λids ha idr k hm hk=>kk_ hap hl ha hm hk hnew⟩⟩⟩;split at h
    case h_2=>exact h.elim
    rename_i i hi;have hin:i<S.n:=e9_ hi hlt;obtain ⟨b,hb,hbok,t,ht,htt,htf⟩:=h;have hbt:b=.bool t:=by
     grind [Sy.put_same]
    subst hbt;cases t with
    |true=>
     have he:ke_ Y.v i:=by
      simp only [ab_,den,XOp.run]at hb;cases hv:Y.v i with
      |none=>grind
      |some a=>
       rw [hv]at hb;cases a<;>first|(cases hb;done)|skip
       exact .inl hv;simp only [Option.getD_some,Option.some.injEq,AV.bool.injEq]at hb;have:=Nat.eq_of_beq_eq_true hb;subst this;exact .inr ⟨_,_,hv⟩
     have he1:ke_ (Y.put S.n (.bool true)).v i:=by
      grind [ke_,Sy.put_ne]
     exact ⟨Y.put S.n (.bool true),S,⟨u S.T (ms_ (av_ S.T x.rd topq) x.o),S.H,Nat.succ S.n,S.lv,S.D⟩,ms_ (av_ S.T x.rd topq) x.o,.val (ms_ (av_ S.T x.rd topq) x.o),hf.put _,Nat.le_succ _,Ext.put _ (Nat.le_refl _),rfl,rfl,rfl,hsim,rfl,htt rfl,.inr ⟨rfl,hg,.inl ⟨hw,hokw,qI_ hl hi he1 hlt (Nat.le_succ _),λids ha idr k hm hk=>hk⟩⟩⟩
    |false=>
     have he:fF_ Y.v i:=by
      simp only [ab_,den,XOp.run]at hb;cases hv:Y.v i with
      |none=>grind
      |some a=>
       rw [hv]at hb;cases a<;>first|(cases hb;done)|skip
       .rename_i n z cs;cases n with
        |zero=>cases hb
        |succ n=>exact ⟨_,_,_,hv⟩
     have he1:fF_ (Y.put S.n (.bool false)).v i:=by
      grind [fF_,Sy.put_ne]
     obtain ⟨r,hr,hok,ht⟩:=htf rfl;exact ⟨(Y.put S.n (.bool false)).put (Nat.succ S.n) r,S,⟨u S.T (.slx S.H.next sz (Nat.succ S.n)),(S.H.erase id).push (.syl (Nat.succ S.n)),Nat.succ (Nat.succ S.n),S.lv,S.D⟩,.slx S.H.next sz (Nat.succ S.n),.val (.slx S.H.next sz (Nat.succ S.n)),(hf.put _).put r,Nat.le_succ_of_le (Nat.le_succ _),(Ext.put _ (Nat.le_refl _)).trans (Ext.put r (Nat.le_refl _)) (Nat.le_succ _),rfl,rfl,rfl,hsim,rfl,ht,.inr ⟨rfl,hg,.inl ⟨hw,hokw,k2_ hl (.inr ⟨i,hi,he1⟩) hlt (Nat.le_succ _) hr hok,λids ha idr k hm hk=>kk_ hap hl ha hm hk hnew⟩⟩⟩
   split at h
   case h_2=>exact h.elim
   rename_i op args hl;split at h
   case h_2=>exact h.elim
   rename_i hb;obtain ⟨hso,hlt⟩:=aa_ hb;split at h
   case h_2=>exact h.elim
   obtain ⟨r,hr,hok,ht⟩:=h;exact ⟨Y.put S.n r,S,⟨u S.T (.sym S.n),S.H,Nat.succ S.n,S.lv,S.D⟩,.sym S.n,.val (.sym S.n),hf.put r,Nat.le_succ _,Ext.put r (Nat.le_refl _),rfl,rfl,rfl,hsim,rfl,ht,.inr ⟨rfl,hg,.inl ⟨hw,hokw,tH_ (jF_ hl hso hlt hr hok),λids ha idr k hm hk=>hk⟩⟩⟩
  split at h
  case h_2=>
   split at h;exact happ h;split at h
   case h_2=>exact happ h
   rename_i op args id hst;split at h
   case h_2=>exact h.elim
   rename_i hb;obtain ⟨hlt,hnm⟩:=aa_ hb;obtain ⟨r,hr,hok,ht⟩:=h;refine ⟨Y.put S.n r,S,⟨u S.T (.tup []),S.H.set id (.syl S.n),Nat.succ S.n,S.lv,S.D⟩,.tup [],.val (.tup []),hf.put r,Nat.le_succ _,Ext.put r (Nat.le_refl _),rfl,rfl,rfl,hsim,rfl,ht,.inr ⟨rfl,hg,.inl ⟨hw,hokw,tI_ hst hlt hr hok,λids ha idr k hm hk=>?_⟩⟩⟩
   grind [b2_,stX,apart,AHeap.get_set_ne,AHeap.get_lt]
  rename_i r hr;split at h
  case h_2=>exact h.elim
  rename_i a H';have fin:(isM x=true->S.H.get S.H.next=none)->(isM x=false->iz_ x (av_ S.T x.rd topq)=false)->VOK P Q L Y (next ⟨u S.T a,H',S.n,S.lv,S.D⟩)->∃Y' S2 S' q e,Did1 P N Q c L ops l0 n0 nx x gs ps u Tr S Y next Y' S2 S' q e:=λhm hna h=>
   ⟨Y,S,⟨u S.T a,H',S.n,S.lv,S.D⟩,a,.val a,hf,Nat.le_refl _,Ext.refl _ _,rfl,rfl,rfl,hsim,rfl,h,.inr ⟨rfl,hg,.inl ⟨hw,hokw,sk_ hr,λids ha=>sv_ hr hm hna ha⟩⟩⟩
  split at h
  .rename_i hm;split at h
   .grind
   exact h.elim
  grind
 .rename_i hw;split at h
  case h_2=>exact h.elim
  rename_i hokr;obtain ⟨hokr,hchk⟩:=aa_ hokr;split at h;unfold v2_ at h;split at h;rename_i q hq;exact ⟨Y,S,⟨u S.T q,S.H,S.n,S.lv,S.D⟩,q,.val q,hf,Nat.le_refl _,Ext.refl _ _,rfl,rfl,rfl,hsim,rfl,h,.inr ⟨rfl,hg,.inr (.inr ⟨hal,hw,hchk,hokr,rfl,lW_ hq⟩)⟩⟩;exact h.elim;unfold sB_ at h;split at h;rename_i q hq;exact ⟨Y,S,⟨u S.T q,S.H,S.n,S.lv,S.D⟩,q,.val q,hf,Nat.le_refl _,Ext.refl _ _,rfl,rfl,rfl,hsim,rfl,h,.inr ⟨rfl,hg,.inr (.inr ⟨hal,hw,hchk,hokr,rfl,k1_ hq⟩)⟩⟩
  .split at h;rename_i t hown;unfold ut_ at hown;split at hown;cases hown;split at hown;rename_i q hq;cases hown;exact ⟨Y,S,⟨u S.T q,S.H,S.n,S.lv,S.D⟩,q,.val q,hf,Nat.le_refl _,Ext.refl _ _,rfl,rfl,rfl,hsim,rfl,h,.inr ⟨rfl,hg,.inr (.inr ⟨hal,hw,hchk,hokr,rfl,ox_ hq⟩)⟩⟩;split at hown;rename_i op args id sz hl;split at hown;rename_i hlt;cases hown;obtain ⟨r,hr,hok,ht⟩:=h;exact ⟨Y.put S.n r,S,⟨u S.T (.ptx id S.n sz 0),S.H,Nat.succ S.n,S.lv,S.D⟩,.ptx id S.n sz 0,.val (.ptx id S.n sz 0),hf.put r,Nat.le_succ _,Ext.put r (Nat.le_refl _),rfl,rfl,rfl,hsim,rfl,ht,.inr ⟨rfl,hg,.inr (.inr ⟨hal,hw,hchk,hokr,rfl,qE_ hl hlt hr⟩)⟩⟩;cases hown;split at hown;rename_i op args hl;split at hown;rename_i hlt;split at hown;cases hown;obtain ⟨r,hr,hok,ht⟩:=h;exact ⟨Y.put S.n r,S,⟨u S.T (.sym S.n),S.H,Nat.succ S.n,S.lv,S.D⟩,.sym S.n,.val (.sym S.n),hf.put r,Nat.le_succ _,Ext.put r (Nat.le_refl _),rfl,rfl,rfl,hsim,rfl,ht,.inr ⟨rfl,hg,.inr (.inr ⟨hal,hw,hchk,hokr,rfl,qF_ hl hlt hr hok⟩)⟩⟩;cases hown;obtain ⟨cs,hr,hlen,hok,ht⟩:=h;subst hlen;exact ⟨Y.puts S.n cs,S,⟨u S.T (.agg (ag_ S.n cs.length)),S.H,Nat.add S.n cs.length,S.lv,S.D⟩,.agg (ag_ S.n cs.length),.val (.agg (ag_ S.n cs.length)),hf.puts cs,Nat.le_add_right _ _,Ext.puts cs _ (Nat.le_refl _),rfl,rfl,(hf.1.puts cs).2.2.1,hsim,rfl,ht,.inr ⟨rfl,hg,.inr (.inr ⟨hal,hw,hchk,hokr,rfl,qG_ hf.1 hl hlt hr hok⟩)⟩⟩;cases hown;split at hown;rename_i op args hl;split at hown;rename_i hlt;cases hown;obtain ⟨r,hr,hok,ht⟩:=h;exact ⟨Y.put S.n r,S,⟨u S.T (.sym S.n),S.H,Nat.succ S.n,S.lv,S.D⟩,.sym S.n,.val (.sym S.n),hf.put r,Nat.le_succ _,Ext.put r (Nat.le_refl _),rfl,rfl,rfl,hsim,rfl,ht,.inr ⟨rfl,hg,.inr (.inr ⟨hal,hw,hchk,hokr,rfl,qH_ hl hlt hr hok⟩)⟩⟩;cases hown;cases hown;split at h;rename_i r hst;split at h;split at h;rename_i sh hsh;split at h;rename_i hb;obtain ⟨hso,hlt⟩:=aa_ hb;obtain ⟨v,vs,hp,hfl,hok,ht⟩:=h;have hlen:=g2_ hfl;refine ⟨Y.puts S.n vs,S,⟨u S.T (dm_ S.n sh),S.H,Nat.add S.n (dD_ sh),S.lv,S.D⟩,dm_ S.n sh,.val (dm_ S.n sh),?_,Nat.le_add_right _ _,Ext.puts vs _ (Nat.le_refl _),rfl,rfl,(hf.1.puts vs).2.2.1,hsim,rfl,ht,.inr ⟨rfl,hg,.inr (.inr ⟨hal,hw,hchk,hokr,rfl,?_⟩)⟩⟩;rw [←hlen];exact hf.puts vs;exact ov_ hf.1 hst hso hlt hp hfl hok;exact h.elim;exact h.elim;exact h.elim
   .split at h
    .rename_i i a b hp;obtain ⟨t,ht,k1,k2⟩:=h;have val:∀t,Y.v i=some (.bool t)->VOK P Q L Y (pS_ P x (g5_ x S gs) u (S.know i t) next)->∃Y' S2 S' q e,Did1 P N Q c L ops l0 n0 nx x gs ps u Tr S Y next Y' S2 S' q e:=λt ht h=>by
      unfold pS_ at h;split at h
      .rename_i q hq;have hg':aK_ ops x (av_ (S.know i t).T x.rd topq)=some true:=by
        unfold aK_ at hg⊢;split at hg;rfl
        .rename_i g hgc;have hi:aZ_ ops x.o=.mk g:=hgc;have hgk:=fX_ hi (S:=⟨av_ S.T x.rd topq,S.H,0⟩) hg i t;have hTe:∀tt,tt<512->tget (av_ (S.know i t).T x.rd topq) tt=tget (bc_ (hs_ i t) (av_ S.T x.rd topq)) tt:=λtt htt=>by rw [aC_,dZ_ _ htt,dZ_ _ htt];show (if tt∈x.rd then tget (bc_ (hs_ i t) S.T) tt else tget topq tt)=_;rw [aC_];split;rfl;rw [ca_];rfl
         unfold aZ_ at hi;split at hi;cases hi
         .split at hi
          .split at hi
           .rename_i d hd;split at hi
            .rename_i hd512;cases hi;have hd512:d<512:=(by simp_all);have hgk':br_ (tget (bc_ (hs_ i t) (av_ S.T x.rd topq)) d) _=some true:=hgk;show br_ (tget (av_ (S.know i t).T x.rd topq) d) _=some true
             grind
            grind
           grind
          grind
       exact ⟨Y,S.know i t,⟨u (S.know i t).T q,S.H,S.n,S.lv,S.D⟩,q,.val q,hf,Nat.le_refl _,Ext.refl _ _,rfl,rfl,rfl,hsim.know hf.1 ht,rfl,h,.inr ⟨rfl,hg',.inr (.inr ⟨hal,hw,hchk,hokr,rfl,k1_ hq⟩)⟩⟩
      exact h.elim
     cases t<;>grind
    split at h;rename_i op args hl;split at h;rename_i hlt;obtain ⟨r,hr,hok,ht⟩:=h;exact ⟨Y.put S.n r,S,⟨u S.T (.sym S.n),S.H,Nat.succ S.n,S.lv,S.D⟩,.sym S.n,.val (.sym S.n),hf.put r,Nat.le_succ _,Ext.put r (Nat.le_refl _),rfl,rfl,rfl,hsim,rfl,ht,.inr ⟨rfl,hg,.inr (.inr ⟨hal,hw,hchk,hokr,rfl,nj_ hl hlt hr hok⟩)⟩⟩;exact h.elim;split at h;rename_i op args hl;split at h;rename_i hb;obtain ⟨hso,hlt⟩:=aa_ hb;split at h;obtain ⟨r,hr,hok,ht⟩:=h;exact ⟨Y.put S.n r,S,⟨u S.T (.sym S.n),S.H,Nat.succ S.n,S.lv,S.D⟩,.sym S.n,.val (.sym S.n),hf.put r,Nat.le_succ _,Ext.put r (Nat.le_refl _),rfl,rfl,rfl,hsim,rfl,ht,.inr ⟨rfl,hg,.inr (.inr ⟨hal,hw,hchk,hokr,rfl,jF_ hl hso hlt hr hok⟩)⟩⟩;obtain ⟨cs,hr,hlen,hok,ht⟩:=h;subst hlen;exact ⟨Y.puts S.n cs,S,⟨u S.T (.agg (ag_ S.n cs.length)),S.H,Nat.add S.n cs.length,S.lv,S.D⟩,.agg (ag_ S.n cs.length),.val (.agg (ag_ S.n cs.length)),hf.puts cs,Nat.le_add_right _ _,Ext.puts cs _ (Nat.le_refl _),rfl,rfl,(hf.1.puts cs).2.2.1,hsim,rfl,ht,.inr ⟨rfl,hg,.inr (.inr ⟨hal,hw,hchk,hokr,rfl,ow_ hf.1 hl hso hlt hr hok⟩)⟩⟩;exact h.elim;exact h.elim
def GsOk (l:List SI) (b:Nat) (G:Nat->AHeap):Nat->List GW->Prop
 |i,[]=>∀j,j<i->¬Wr l b j
 |i,g::r=>Wr l b g.i/\g.i<i/\(∀j,g.i<j->j<i->¬Wr l b j)/\g.H=G g.i/\(∀ids,apart g.t ids=true->∀id k,memT id ids=true->(G g.i).get id=some k->(G (g.i+1)).get id=some k)/\GsOk l b G g.i r
omit [Gl]in
theorem GsOk.congr {l:List SI} {b:Nat} {G G':Nat->AHeap}:∀{gs:List GW} {i:Nat},(∀j,j<=i->G' j=G j)->GsOk l b G i gs->GsOk l b G' i gs
 |[],i,_,h=>h
 |g::r,i,hG,h=>by
  obtain ⟨h1,h2,h3,h4,h5,h6⟩:=h;refine ⟨h1,h2,h3,h4.trans (hG _ (by omega)).symm,λids ha id k hid hk=>?_,h6.congr λj hj=>hG j (by omega)⟩
  grind
omit [Gl]in
theorem GsOk.keep {l:List SI} {b:Nat} {G:Nat->AHeap} {gs:List GW} {i:Nat} (h:GsOk l b G i gs) (hn:¬Wr l b i):GsOk l b G (i+1) gs:=by
 cases gs with
 |nil=>grind [Go.Sx.GsOk]
 |cons g r=>
  grind [Go.Sx.GsOk]
omit [Gl]in
theorem iS_ {G:Nat->AHeap} {lo hi:Nat} (h:lo<=hi) (hk:∀j,lo<=j->j<hi->G (j+1)=G j):G hi=G lo:=by
 obtain ⟨n,rfl⟩:∃n,hi=lo+n:=⟨hi-lo,by omega⟩
 induction n<;>grind
omit [Gl]in
theorem kY_ {l:List SI} {G:Nat->AHeap} {b bef:Nat} {ids:List Nat}:∀{gs:List GW} {i:Nat},GsOk l b G i gs->(∀j,j<i->¬Wr l b j->G (j+1)=G j)->r3_ bef ids gs=true->
  ∃lo,lo<=i/\na_ bef (G i) gs=G lo/\(lo=0\/∃j,lo=j+1/\Wr l b j/\bit bef j=true)/\∀j,Wr l b j->lo<=j->j<i->∀id k,memT id ids=true->(G j).get id=some k->(G (j+1)).get id=some k
 |[],i,h,hk,_=>⟨0,Nat.zero_le _,iS_ (Nat.zero_le _) λj _ hj=>hk j hj (h j hj),.inl rfl,λj hj _ hji=>absurd hj (h j hji)⟩
 |g::r,i,h,hk,hok=>by
  obtain ⟨h1,h2,h3,h4,h5,h6⟩:=h;unfold r3_ at hok;unfold na_;cases hbit:bit bef g.i with
  |true=>exact ⟨g.i+1,h2,iS_ h2 λj h7 h8=>hk j h8 (h3 j h7 h8),.inr ⟨g.i,rfl,h1,hbit⟩,λj hj h7 h8=>absurd hj (h3 j h7 h8)⟩
  |false=>
   rw [hbit]at hok;obtain ⟨k1,k2⟩:=aa_ hok;obtain ⟨lo,g1,g2,g3,g4⟩:=kY_ (bef:=bef) (ids:=ids) h6 (λj hj=>hk j (by omega)) k2
   grind
omit [Gl]in
theorem e1_ (H:AHeap):∀ids:List Nat,(di_ H ids).next=0/\(di_ H ids).hi=0
 |[]=>⟨rfl,rfl⟩
 |id::r=>by unfold di_;split;exact e1_ H r;exact e1_ H r
omit [Gl]in
theorem cD_ {H:AHeap}:∀{ids:List Nat} {id:Nat} {k:ABlk},(di_ H ids).get id=some k->memT id ids=true/\H.get id=some k
 |[],id,k,h=>by
  grind [dY_,di_]
 |a::r,id,k,h=>by unfold di_ at h;unfold memT;split at h;rename_i b hb;have ha:=AHeap.get_lt hb;by_cases e:a=id;subst e;rw [AHeap.get_set_same _ ha]at h;cases h;exact ⟨by rw [Nat.beq_refl],hb⟩;rw [AHeap.get_set_ne _ ha e]at h;obtain ⟨h1,h2⟩:=cD_ h;exact ⟨by split<;>first|rfl|exact h1,h2⟩;obtain ⟨h1,h2⟩:=cD_ h;exact ⟨by split<;>first|rfl|exact h1,h2⟩
def wr_ (l:List SI) (KK:Nat->AHeap) (i:Nat) (ps:List (Nat×List Nat)):Prop:=∀j y,l[j]? =some y->j<i->isW y=false->∃ids,(j,ids)∈ps/\∀id k,(KK j).get id=some k->memT id ids=true
omit [Gl]in
theorem pz_ {bef:Nat} {t:Tch}:∀{ps:List (Nat×List Nat)} {j:Nat} {ids:List Nat},tt_ bef t ps=true->(j,ids)∈ps->bit bef j=false->apart t ids=true
 |[],j,ids,_,h,_=>by cases h
 |(i,is)::r,j,ids,hok,h,hb=>by
  obtain ⟨k1,k2⟩:=aa_ hok;rcases List.mem_cons.1 h with h|h
  .grind
  exact pz_ k2 h hb
def gb_ (l:List SI) (i:Nat):Bool:=match l[i]? with
 |some x=>cs_ x
 |none=>false
def aY_ (l:List SI) (n0 i:Nat):Nat:=n0+(l.take i).countP cs_
omit [Gl]in
theorem iX_ {l:List SI} {n0 i:Nat} {x:SI} (h:l[i]? =some x):aY_ l n0 (i+1)=eV_ x (aY_ l n0 i):=by
 grind [aY_,eV_,List.take_add_one]
omit [Gl]in
theorem iw_ {bef:Nat} {ids:List Nat}:∀{r:List SI} {i nx:Nat},kg_ bef ids r i nx=true->∀(k:Nat) (y:SI),r[k]? =some y->cs_ y=true->bit bef (i+k)=true\/memT (nx+(r.take k).countP cs_) ids=false
 |[],i,nx,_,k,y,hk,_=>by simp at hk
 |z::r,i,nx,h,k,y,hk,hy=>by
  unfold kg_ at h;cases k with
  |zero=>
   grind
  |succ k=>
   cases hz:cs_ z with
   |false=>
    rw [hz]at h;have:=iw_ h k y hk hy
    grind
   |true=>
    rw [hz]at h;obtain ⟨_,h2⟩:=aa_ h;have:=iw_ h2 k y hk hy
    grind
theorem nC_ {L:LVs} {ops:List Oper} {l:List SI} {b:Nat} (hbl:b<=l.length) {T0:Tm} {K:VS->VT} {n0:Nat}:∀(rest:List SI) (i nx:Nat) (gs:List GW) (ps:List (Nat×List Nat)) (S:VS) (Tr:Tm) (Y:Sy) (ev:Nat->Evt) (G KK:Nat->AHeap),(∀k,k<rest.length->rest[k]? =l[i+k]?)->i+rest.length=b->nx=aY_ l n0 i->(∀(j:Nat) (x:SI),l[j]? =some x->j<b->cs_ x=true->∃q k,kh_ P x (aY_ l n0 j)=some (q,k)/\(G 0).get (aY_ l n0 j)=some k)->Good P c S.n Y->G i=S.H->GsOk l b G i gs->wr_ l KK i ps->
  (∀t,t<512->Sl l ev T0 (λj=>decide (j<i)) t (tget Tr t))->Sim Y S.n Tr S.T->(∀j x,l[j]? =some x->j<i->SemF P Y.v S.n N ops l b ev T0 G KK (gb_ l) (aY_ l n0) j x)->VOK P Q L Y (jP_ P N c ops (l.take b) n0 rest i nx gs ps S K)->
  ∃Y' S' Tr' ev' G' KK',Good P c S'.n Y'/\S.n<=S'.n/\Ext S.n Y Y'/\S'.lv=S.lv/\S'.D=S.D/\G' b=S'.H/\(∀j,j<=i->G' j=G j)/\Y'.l=Y.l/\(∀t,t<512->Sl l ev' T0 (λj=>decide (j<b)) t (tget Tr' t))/\Sim Y' S'.n Tr' S'.T/\(∀j x,l[j]? =some x->j<b->SemF P Y'.v S'.n N ops l b ev' T0 G' KK' (gb_ l) (aY_ l n0) j x)/\VOK P Q L Y' (K S')
 |[],i,nx,gs,ps,S,Tr,Y,ev,G,KK,hr,hi,hnx,hal0,hf,hH,hgs,hps,hsl,hsim,hF,h=>by subst hi;exact ⟨Y,S,Tr,ev,G,KK,hf,Nat.le_refl _,Ext.refl _ _,rfl,rfl,hH,λ_ _=>rfl,rfl,hsl,hsim,hF,h⟩
 |x::r,i,nx,gs,ps,S,Tr,Y,ev,G,KK,hr,hi,hnx,hal0,hf,hH,hgs,hps,hsl,hsim,hF,h=>by
  have hx:l[i]? =some x:=(by have:=hr 0 (by simp);grind);have hib:i<b:=(by grind);unfold jP_ at h;split at h;exact h.elim;rename_i u hu;have fin:∀S1:VS,S1.n=S.n/\S1.lv=S.lv/\S1.H=S.H/\S1.D=S.D->Sim Y S.n Tr S1.T->VOK P Q L Y (qS_ P c ops (l.take b) n0 nx x gs ps u (λS'=>jP_ P N c ops (l.take b) n0 r (Nat.succ i) (eV_ x nx) (iV_ x i S1 gs) (jr_ x i S1 ps) S' K) S1)->
    ∃Y' S' Tr' ev' G' KK',Good P c S'.n Y'/\S.n<=S'.n/\Ext S.n Y Y'/\S'.lv=S.lv/\S'.D=S.D/\G' b=S'.H/\(∀j,j<=i->G' j=G j)/\Y'.l=Y.l/\(∀t,t<512->Sl l ev' T0 (λj=>decide (j<b)) t (tget Tr' t))/\Sim Y' S'.n Tr' S'.T/\(∀j x,l[j]? =some x->j<b->SemF P Y'.v S'.n N ops l b ev' T0 G' KK' (gb_ l) (aY_ l n0) j x)/\VOK P Q L Y' (K S'):=by
   intro S1 h1 hs1 hk;obtain ⟨e1,e2,e3,e4⟩:=h1;obtain ⟨Y1,S2,S3,q,e,d⟩:=tS_ (N:=N) (Tr:=Tr) (by grind) (by grind) hk;have dn:=d.n;have dext:=d.ext;rw [e1]at dn dext;have hput:e.put=some q:=by rcases d.ev with ⟨_,rfl,rfl,_⟩|⟨rfl,_⟩<;>rfl
   let ev1:Nat->Evt:=λj=>if j=i then e else ev j
   let G1:Nat->AHeap:=λj=>if j=i+1 then S3.H else G j
   let K1:Nat->AHeap:=λj=>if j=i then g5_ x S1 gs else KK j
   have hev1:ev1 i=e:=if_pos rfl;have hold:∀j,j<i->ev1 j=ev j:=λj hj=>if_neg (by omega);have hG1:G1 (i+1)=S3.H:=if_pos rfl;have hGold:∀j,j<=i->G1 j=G j:=λj hj=>if_neg (by omega);have hK1:K1 i=g5_ x S1 gs:=if_pos rfl;have hKold:∀j,j<i->K1 j=KK j:=λj hj=>if_neg (by omega);have hGi:G i=S1.H:=hH.trans e3.symm;have hsl1:∀t a,Sl l ev T0 (λj=>decide (j<i)) t a->Sl l ev1 T0 (λj=>decide (j<i)) t a:=λt a h=>h.ev_congr λj hj=>hold j (by grind);have hgs1:GsOk l b G1 i gs:=hgs.congr hGold;have hpres:isW x=true->∀ids,apart (b2_ x (av_ S1.T x.rd topq)) ids=true->∀id k,memT id ids=true->S1.H.get id=some k->S3.H.get id=some k:=λhw ids ha id k hid hk=>(by rcases d.ev with ⟨_,_,_,_,h⟩|⟨_,_,⟨_,_,_,h⟩|⟨h,_⟩|⟨_,h,_⟩⟩<;>grind);obtain ⟨Y',S',Tr',ev',G',KK',g1,g2,g3,g4,gd,gG,gGo,g6,g7,g8,g9,g10⟩:=nC_ hbl r (i+1) (eV_ x nx) _ _ S3 (u Tr q) Y1 ev1 G1 K1 (λk hk=>by have:=hr (k+1) (by grind);grind) (by grind) (by grind [iX_]) (λj y hy hj ha=>by grind) d.good hG1
    (by
      unfold iV_;cases hw:isW x with
      |false=>
       exact hgs1.keep λhwr=>by
        obtain ⟨y,hy,hy2,_⟩:=hwr
        grind
      |true=>refine ⟨⟨x,hx,hw,hib⟩,Nat.lt_succ_self i,λj h7 h8=>absurd (show i<j from h7) (by omega),?_,λids ha id k hid hk=>?_,hgs1⟩<;>grind)
    (by
      intro j y hy hj hw;unfold jr_;by_cases ej:j=i;subst ej;rw [hx]at hy;cases hy;rw [hw];refine ⟨gw_ x S1.T,List.mem_cons_self ..,λid k hk=>?_⟩;rw [hK1]at hk;exact (cD_ hk).1
      .obtain ⟨ids,q1,q2⟩:=hps j y hy (by omega) hw
       grind)
    (λt ht=>by
     show Sl l ev1 T0 _ t _;rw [pp_];obtain ⟨p1,p2⟩:=eZ_ hu Tr q ht;by_cases ed:x.o.dst=some t
     .grind [Sl.put]
     .rw [p2 ed];refine (hsl1 t _ (hsl t ht)).keep λy hy hd=>?_
      grind)
    (by have:=d.sim.put d.ext d.n hu q;rw [d.t];exact this)
    (λj y hj hlt=>by
     by_cases ej:j=i
     .subst ej;rw [hx]at hj;cases hj;refine ⟨u,av_ Tr x.rd topq,av_ S2.T x.rd topq,hu,λt ht=>?_,λt ht E v hE hc=>?_,?_⟩
      .grind [dZ_,ca_]
      .rw [dZ_ _ ht]at hc⊢;split;rename_i hm;rw [if_pos hm]at hc;exact d.sim t ht E v (λk hk=>(hE k (Nat.lt_of_lt_of_le hk d.n)).trans (d.ext k hk)) hc
       grind
      .rw [hev1,hG1,hGold j (Nat.le_refl _),hGi,hK1];have halj:gb_ l j=cs_ x:=(by unfold gb_;rw [hx]);rcases d.ev with ⟨hal,rfl,_,hg,e5⟩|⟨rfl,hg,⟨hw,hokw,hop,hm⟩|⟨hal,e5,k,hav⟩|⟨hal,hw,hchk,hokr,e5,hop⟩⟩
       .grind
       .refine .inr ⟨q,rfl,hg,.inl ⟨hw,hop,λj2 y2 hy2 hj2 hw2 hb2 id k hk=>?_⟩⟩;obtain ⟨ids,q1,q2⟩:=hps j2 y2 hy2 hj2 hw2
        grind [pz_]
       .obtain ⟨q',k',h1,h2⟩:=hal0 j x hx hib hal;rw [←hnx,hav]at h1;cases h1;unfold kh_ at hav;split at hav
        .rename_i t ho;split at hav
         .rename_i p hp;split at hav
          .refine .inr ⟨_,rfl,hg,.inr (.inl ⟨hal,e5,p.2,k,?_,?_,?_⟩)⟩<;>simp_all [ac_,OC.run]
          cases hav
         cases hav
        cases hav
       .refine .inr ⟨q,rfl,hg,.inr (.inr ⟨hw,halj.trans hal,λj2 hj2 ha2 hb2=>?_,e5,?_,hop,?_⟩)⟩
        .have hyl:∃y2,l[j2]? =some y2:=⟨l[j2],by simp⟩;obtain ⟨y2,hy2⟩:=hyl;have hal2:cs_ y2=true:=(by grind [gb_]);cases cr_:(g5_ x S1 gs).get (aY_ l n0 j2)with
         |none=>rfl
         |some kk=>
          have hm:=(cD_ cr_).1;rcases iw_ hchk j2 y2 (by grind) hal2 with h|h
          .grind
          grind [aY_]
        .obtain ⟨r1,r2⟩:=e1_ (na_ x.bef S1.H gs) (gw_ x S1.T);show (di_ _ _).hi<=(di_ _ _).next
         omega
        .obtain ⟨lo,q1,q2,q3,q4⟩:=kY_ (bef:=x.bef) (ids:=gw_ x S1.T) hgs1 (λj2 hj2 hn=>by
           obtain ⟨y2,hy2⟩:∃y2,l[j2]? =some y2:=⟨l[j2],by simp⟩;have:=(hF j2 y2 hy2 hj2).keeps (by
            cases hw2:isW y2 with
            |false=>rfl
            |true=>exact absurd ⟨y2,hy2,hw2,by omega⟩ hn)
           grind) hokr
         refine ⟨lo,λid k hk=>?_,q1,q3,λj2 hj2 h7 h8 id k hk=>q4 j2 hj2 h7 h8 id k (cD_ hk).1⟩;have:=(cD_ hk).2
         grind
     .exact (hF j y hj (by omega)).mono dext dn (λk hk=>hold k (by omega)) (λk hk=>hGold k (by omega)) (λk hk=>hKold k (by omega)))
    d.ok
   exact ⟨Y',S',Tr',ev',G',KK',g1,Nat.le_trans dn g2,dext.trans g3 dn,g4.trans (d.lv.trans e2),gd.trans (d.d.trans e4),gG,λj hj=>(gGo j (by omega)).trans (hGold j hj),g6.trans d.l,g7,g8,g9,g10⟩
  split at h
  .rename_i k hg;obtain ⟨t,ht,h1,h2⟩:=h;cases t with
   |true=>exact fin (S.know k true) ⟨rfl,rfl,rfl,rfl⟩ (hsim.know hf.1 ht) (h1 rfl)
   |false=>exact fin (S.know k false) ⟨rfl,rfl,rfl,rfl⟩ (hsim.know hf.1 ht) (h2 rfl)
  exact fin S ⟨rfl,rfl,rfl,rfl⟩ hsim h
omit [Gl]in
theorem nv_:∀(n:Nat) (l:List SI),es_ n l=l.take n
 |0,_=>by rfl
 |_+1,[]=>by rfl
 |n+1,x::r=>by simp [es_,nv_ n r]
omit [Gl]in
theorem mr_:∀(n:Nat) (l:List Oper),oY_ n l=l.drop n
 |0,_=>by rfl
 |_+1,[]=>by rfl
 |n+1,x::r=>by simp [oY_,mr_ n r]
omit [Gl]in
theorem mK_ {x:SI}:∀{n:Nat},rA_ x n=true->∀j,j<n->bit x.bef j=true
 |0,_,j,h=>absurd h (Nat.not_lt_zero _)
 |n+1,h,j,hj=>by obtain ⟨h1,h2⟩:=aa_ h;rcases Nat.lt_or_ge j n with h|h;exact mK_ h2 j h;have:j=n:=(by omega);subst this;exact h1
omit [Gl]in
theorem k6_:∀(l:List SI) (i:Nat),i<=dn_ l i/\dn_ l i<=i+l.length/\∀k x,l[k]? =some x->dn_ l i<=i+k->∀j,j<i+k->bit x.bef j=true
 |[],i=>⟨Nat.le_refl _,Nat.le_refl _,λk x hk=>by simp at hk⟩
 |y::r,i=>by
  obtain ⟨h1,h2,h3⟩:=k6_ r (i+1);have rest:∀k x,r[k]? =some x->dn_ r (i+1)<=i+(k+1)->∀j,j<i+(k+1)->bit x.bef j=true:=λk x hk hle j hj=>h3 k x hk (by omega) j (by omega);unfold dn_ su_;split
  .rename_i hb;obtain ⟨e1,e2⟩:=aa_ hb;have e1:=Nat.eq_of_beq_eq_true e1;refine ⟨Nat.le_refl _,by simp,λk x hk hle=>?_⟩;cases k<;>grind [mK_,dn_]
  .refine ⟨?_,?_,λk x hk hle=>?_⟩
   .grind
   .grind
   .cases k<;>grind
omit [Gl]in
theorem kW_ {x:SI} {i:Nat}:∀{l:List SI},ol_ x i l=true->∀(j:Nat) (y:SI),l[j]? =some y->py_ x i y=true
 |[],_,j,y,hj=>by simp at hj
 |z::r,h,j,y,hj=>by
  obtain ⟨h1,h2⟩:=aa_ h;cases j with
  |zero=>simp at hj;subst hj;exact h1
  |succ j=>exact kW_ (l:=r) h2 j y (by simpa using hj)
omit [Gl]in
theorem kX_:∀{l:List SI} {k:Nat},lK_ l k=true->∀(i j:Nat) (x y:SI),i<j->l[i]? =some x->l[j]? =some y->py_ x (k+i) y=true
 |[],k,_,i,j,x,y,hij,hi,hj=>by simp at hi
 |z::r,k,h,i,j,x,y,hij,hi,hj=>by
  obtain ⟨h1,h2⟩:=aa_ h;cases j with
  |zero=>omega
  |succ j=>
   cases i with
   |zero=>simp at hi;subst hi;exact kW_ h1 j y (by simpa using hj)
   |succ i=>
    have:=kX_ (k:=k+1) h2 i j x y (by omega) (by simpa using hi) (by simpa using hj)
    rwa [show k+1+i=k+(i+1) by omega]at this
omit [Gl]in
theorem iv_ {bef:Nat}:∀{r:List SI} {i:Nat},kf_ bef r i=true->∀(k:Nat) (y:SI),r[k]? =some y->cs_ y=true->bit bef (i+k)=true
 |[],i,_,k,y,hk,_=>by simp at hk
 |z::r,i,h,k,y,hk,hy=>by
  unfold kf_ at h;cases k with
  |zero=>
   grind
  |succ k=>
   rw [show i+(k+1)=i.succ+k by omega];cases hz:cs_ z with
   |false=>rw [hz]at h;exact iv_ h k y hk hy
   |true=>rw [hz]at h;exact iv_ (aa_ h).2 k y hk hy
omit [Gl]in
theorem iy_ {l0:List SI}:∀{r:List SI},ki_ l0 r=true->∀(k:Nat) (x:SI),r[k]? =some x->isW x=true->kf_ x.bef l0 0=true
 |[],_,k,x,hk,_=>by simp at hk
 |z::r,h,k,x,hk,hx=>by
  unfold ki_ at h;cases k with
  |zero=>
   grind
  |succ k=>
   cases hz:isW z with
   |false=>rw [hz]at h;exact iy_ h k x hk hx
   |true=>rw [hz]at h;exact iy_ (aa_ h).2 k x hk hx
omit [Gl]in
theorem gM_:∀{r:List SI} {H H2:AHeap},ix_ P r H=some H2->H.next<=H2.next/\H2.hi=H.hi/\(∀id k,H.get id=some k->H2.get id=some k)/\
  (∀(i:Nat) (x:SI),r[i]? =some x->cs_ x=true->aY_ r H.next i<H2.next/\aY_ r H.next i<H.hi/\aY_ r H.next i<top/\∃q k,kh_ P x (aY_ r H.next i)=some (q,k)/\H2.get (aY_ r H.next i)=some k)/\
  (∀id k,H2.get id=some k->(∀(i:Nat) (x:SI),r[i]? =some x->cs_ x=true->id≠aY_ r H.next i)->H.get id=some k)
 |[],H,H2,h=>by cases h;simp
 |z::r,H,H2,h=>by
  unfold ix_ at h;cases hz:cs_ z with
  |false=>
   rw [hz]at h;obtain ⟨h1,h2,h3,h4,h5⟩:=gM_ h;have he:∀i,aY_ (z::r) H.next (i+1)=aY_ r H.next i:=λi=>by grind [aY_]
   grind
  |true=>
   rw [hz]at h;simp only at h;split at h;cases h;rename_i hfree;split at h;cases h;rename_i hroom;split at h
   case h_2=>cases h
   rename_i p hp;have htop:=jC_ hroom;have hlt:H.next<H.hi:=by simp_all [AHeap.room]
   obtain ⟨h1,h2,h3,h4,h5⟩:=gM_ h;have hnx:(H.push p.2).next=H.next+1:=rfl
   have hhi:(H.push p.2).hi=H.hi:=rfl;have hps:(H.push p.2).get H.next=some p.2:=AHeap.get_push_same H htop _;have hpn:∀id,H.next≠id->(H.push p.2).get id=H.get id:=λid hne=>AHeap.get_push_ne H htop hne _;have he:∀i,aY_ (z::r) H.next (i+1)=aY_ r (H.push p.2).next i:=λi=>by grind [aY_]
   have he0:aY_ (z::r) H.next 0=H.next:=by rfl
   grind
omit [Gl]in
theorem n9_ {l:List SI} {n0 i j:Nat} (h:i<=j):aY_ l n0 i<=aY_ l n0 j:=by
 unfold aY_;have:(l.take i).Sublist (l.take j):=by
  rw [show l.take i=(l.take j).take i by grind]
  grind
 grind
omit [Gl]in
theorem qp_ {l:List SI} {n0 i j:Nat} (hi:gb_ l i=true) (hj:gb_ l j=true) (h:aY_ l n0 i=aY_ l n0 j):i=j:=by
 have key:∀a b,gb_ l a=true->a<b->aY_ l n0 a<aY_ l n0 b:=λa b ha hab=>by
  unfold gb_ at ha;split at ha
  .rename_i x hx;have h1:=iX_ (n0:=n0) hx;unfold eV_ at h1;have h2:=n9_ (l:=l) (n0:=n0) (show a+1<=b by omega)
   grind
  cases ha
 rcases Nat.lt_trichotomy i j with h'|h'|h'<;>grind
theorem sE_ {fuel:Nat} {I:Inl P fuel} (hm:P.follows .mixedOrders=true) (hc:an_ P (aM_ P fuel)) {L:LVs} {ops:Array Oper} {id:Nat} {S:VS} {Y:Sy} {X:VX->VT} {K:VS->VT} (hL:L.length=S.lv) (hf:Good P c S.n Y) (h:VOK P Q L Y (nD_ P N fuel I c ops.toList S X K)):
  ∀(B:World) (pr:Nat->Prop) (E:Env) (a:Act) (w:World),E.At Y->St P B pr N E S.T S.H S.D a w->(Code.region id ops true).wp P (OutF P B pr N c.k E (ay_ (kV P Q c L S.n Y K) (xV P Q c L S.n Y X))) a w:=by
 intro B pr E a w hy st;unfold nD_ at h;split at h
 case h_2=>exact h.elim
 rename_i l n hpl;obtain ⟨hP,_⟩:=lN_ hpl;simp only at h;split at h
 case h_2=>exact h.elim
 rename_i htwo;obtain ⟨htwo,hwrs⟩:=aa_ htwo;split at h
 case h_2=>exact h.elim
 rename_i HH hHH;obtain ⟨_,hb2,hb3⟩:=k6_ l 0;simp only [Nat.zero_add]at hb2 hb3;rw [nv_]at htwo hwrs hHH h;simp only [mr_]at h;generalize dn_ l 0=b at h hb2 hb3 htwo hwrs hHH;obtain ⟨a1,a2,a3,a4,a5⟩:=gM_ hHH;have htk:∀i,i<b->(l.take b)[i]? =l[i]? :=λi hi=>List.getElem?_take_of_lt hi;have hid:∀i,i<b->aY_ (l.take b) S.H.next i=aY_ l S.H.next i:=λi hi=>by grind [aY_]
 have halx:∀i x,l[i]? =some x->gb_ l i=cs_ x:=λi x hx=>by unfold gb_;rw [hx]
 have hxat:∀i,i<b->∃x,l[i]? =some x:=λi hi=>⟨l[i],by simp⟩
 have hA:AlOk l b (gb_ l) (aY_ l S.H.next) S.H HH:={
  nx:=a1
  hi:=a2
  rng:=λj hj ha=>by obtain ⟨x,hx⟩:=hxat j hj;obtain ⟨q1,q2,q3,_⟩:=a4 j x (by grind) (by grind);rw [hid j hj]at q1 q2 q3;exact ⟨Nat.le_add_right _ _,q1,q2,q3⟩
  inj:=λi j _ _ hi hj h=>qp_ hi hj h
  old:=a3
  new:=λid k hk hn=>a5 id k hk λi x hi hx=>by
   grind
  wr:=λi j x hx hi hw hj ha=>by
   obtain ⟨y,hy⟩:=hxat j hj;have:=iv_ (iy_ hwrs i x (by grind) hw) j y (by grind) (by grind)
   grind
  is:=halx }
 have hat:∀k,k<(l.take b).length->(l.take b)[k]? =l[0+k]? :=λk hk=>by
  grind
 have h2:∀(i j:Nat) (x y:SI),i<j->j<b->l[i]? =some x->l[j]? =some y->isW x=true->isW y=true->bit y.bef i=true:=λi j x y hij hjb hi hj hwx hwy=>by have:=kX_ (k:=0) htwo i j x y hij (by grind) (by grind);simp_all [py_]
 obtain ⟨Y',S',Tr',ev',G',KK',g1,g2,g3,g4,gd,gG,gGo,g6,g7,g8,g9,g10⟩:=nC_ (N:=N) (b:=b) hb2 (T0:=S.T) (n0:=S.H.next) (l.take b) 0 S.H.next [] [] ⟨S.T,HH,S.n,S.lv,S.D⟩ S.T Y (λ_=>.gone) (λ_=>HH) (λ_=>HH) hat (by grind) (by rfl)
  (λj x hx hj ha=>by
   obtain ⟨_,_,_,q,k,q4,q5⟩:=a4 j x (by grind) ha
   grind) hf rfl (λj hj=>absurd hj (Nat.not_lt_zero _)) (λj _ _ hj=>absurd hj (Nat.not_lt_zero _)) (λt ht=>.inl ⟨rfl,λj x _ hs=>by simp at hs⟩) (λt _ E v _ h=>h) (λj x _ hj=>absurd hj (Nat.not_lt_zero _)) h
 have hv:∀i x,E.sy i=some x->Y'.v i=some x:=λi x hx=>by
  rw [hy.v]at hx;have hi:i<S.n:=by rcases Nat.lt_or_ge i S.n with h|h;exact h;rw [hf.1.2 i h]at hx;cases hx
  rw [g3 i hi];exact hx
 have hll:∀i x,E.syl i=some x->Y'.l i=some x:=λi x hx=>by rw [g6,←hy.l];exact hx
 have hlo:∀i,i<64->Y'.v i=E.sy i:=λi hi=>by rw [hy.v];exact g3 i (by have:=hf.1.1;grind)
 have st1:=st.with hv hll hlo;have hy1:(E.with Y').At Y':=⟨rfl,rfl,hy.res⟩;refine oy_ (s:=Y'.v) (m:=S'.n) (id:=id) (b:=b) (G:=G') hm hpl (λk _=>rfl) g9 h2 hb2 hb3 (Tf:=S'.T) (λt ht=>⟨_,g7 t ht,λE v hE hc=>g8 t ht E v hE hc⟩) (H00:=S.H) (al:=gb_ l) (idf:=aY_ l S.H.next) (by grind) (λE' a w hle st'=>?_) st1;rw [gG,←gd]at st';have:=it_ ops (ops.toList.drop b) Y' S'.T S'.H S'.D _ _ (is_ hm hc (ops.toList.drop b) S' Y' (by grind) g1 g10) B pr E' a w (hy1.le hle) st';refine wpList_mono (λe a w hq=>?_) _ _ _ this;obtain ⟨Y2,r,hr,hq⟩:=hq;refine ⟨Y2,r,dG_ (λ_ _ _ _ hk=>ig_ (List.prefix_refl L) g2 g3 hk) (λ_ _ hx=>c4_ (List.prefix_refl L) g2 g3 hx) hr,hq.le ((Env.with_leF c.k hlo).trans (hle.leF c.k))⟩
end
end Go.Sx
