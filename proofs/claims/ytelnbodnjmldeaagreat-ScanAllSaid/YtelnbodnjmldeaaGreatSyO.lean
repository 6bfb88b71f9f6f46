/-
  Regions whose order is open, with symbols.
-/
import Derived.Test.YtelnbodnjmldeaaGreatSyY
import Derived.Test.YtelnbodnjmldeaaGreatSyH
import Derived.Test.YtelnbodnjmldeaaGreatSyS
set_option linter.all false
open Nat renaming le_refl→za',le_succ→zc',eq_of_beq_eq_true→zd',le_trans→ze',le_add_right→zf',ble_eq→zg',not_lt_zero→zi',lt_or_ge→zk',lt_of_lt_of_le→zl',blt_eq→zm',zero_le→zn',lt_succ_self→zo'
open List renaming prefix_refl→zb',mem_cons_self→zh',mem_cons_of_mem→zj'
namespace Go.Sx
theorem OB (T:Tm) {t:Nat} (ht:t<512):∀(rd:List Nat) (R:Tm),Ao (BR T rd R) t=if t∈rd then Ao T t else Ao R t
 |[],R=>by rfl
 |d::r,R=>by
  unfold BR;split
  .rename_i hb;have hd:d<512:=(by simpa [Nat.blt_eq]using hb);rw [OB T ht r];by_cases e:d=t
   .subst e;rw [GD R hd];by_cases hm:d∈r<;>simp [hm]
   rw [Fm R ht hd e];have e':t≠d:=λh=>e h.symm;simp [e']
  .rename_i hb;have hd:¬d<512:=λh=>by have:Nat.blt d 512=true:=(by simpa [Nat.blt_eq]using h);rw [hb]at this;cases this
   rw [OB T ht r];have e':t≠d:=λh=>(by omega);simp [e']
mutual
theorem oR {n:Nat} {s s':Nat->Option AV} (hs:∀k,k<n->s k=s' k):∀{a:AV},Im n a=true->Ar s a=Ar s' a
 | .opq,_=>rfl
 | .bool _,_=>rfl
 | .int _ _,_=>rfl
 | .flt _ _,_=>rfl
 | .nan _,_=>rfl
 | .str _,_=>rfl
 | .nptr,_=>rfl
 | .ptr _ _,_=>rfl
 | .vptr cs,h=>by simp only [Im]at h;simp only [Ar,Fa hs h]
 | .nsl,_=>rfl
 | .sl ..,_=>rfl
 | .vsl _ _ cs,h=>by simp only [Im]at h;simp only [Ar,Fa hs h]
 | .nmap,_=>rfl
 | .map _,_=>rfl
 | .nfn,_=>rfl
 | .fn _ cs,h=>by simp only [Im]at h;simp only [Ar,Fa hs h]
 | .nif,_=>rfl
 | .iface _ a,h=>by simp only [Im]at h;simp only [Ar,oR hs h]
 | .agg cs,h=>by simp only [Im]at h;simp only [Ar,Fa hs h]
 | .tup cs,h=>by simp only [Im]at h;simp only [Ar,Fa hs h]
 | .sym i,h=>by
   grind [Im,zm',Ar]
 | .slx ..,_=>rfl
 | .ptx ..,_=>rfl
theorem Fa {n:Nat} {s s':Nat->Option AV} (hs:∀k,k<n->s k=s' k):∀{l:List AV},CP n l=true->An s l=An s' l
 |[],_=>rfl
 |a::r,h=>by obtain ⟨h1,h2⟩:=Au h;simp only [An,oR hs h1,Fa hs h2]
end
variable [Gl]
section
variable {P:Program} {N:Nat} {Q:AV->Prop} {c:VC}
def kF {s:Nat->Option AV} {m:Nat} {H:AHeap} {R:Tm} {o:Oper} {q:AV} (h:Ev (A3 P o) R H=some q):BK P s m N H R o q:=λB pr E a w hE ht hr C X hC=>by obtain ⟨E',n,v,w',h1,h2,h3,h4,h5⟩:=Ej (eG h) hr ht;have:=hC E' v w' h3 h4 h5;unfold Oper.wp;rw [h1];rcases h2 with rfl|⟨rfl,rfl⟩;exact this;exact this
def wo {s:Nat->Option AV} {m:Nat} {H:AHeap} {R:Tm} {o:Oper} {q:AV} (h:aX P R o=some q):BK P s m N H R o q:=λB pr E a w hE ht hr C X hC=>by
 unfold aX at h;split at h
 case h_2=>cases h
 rename_i t n ps ho;split at h
 case h_2=>cases h
 rename_i r hr0;obtain ⟨h1,h2⟩:=Tq (E:=E) (ρ:=look R) (σ:=a.eval) (λx=>ht.look x) ps.toList;have e:(ps.map λp=>(p.1,a.eval p.2)).toList=ps.toList.map λp=>(p.1,a.eval p.2):=by simp
 obtain ⟨e',sz,cs,arr,hroom,rfl,hlen,hc,hrun⟩:=ir (E:=E) (vparts:=ps.map λp=>(p.1,a.eval p.2)) (by grind) (by grind) hr0;simp only at h;split at h
 case h_2=>cases h
 rename_i cs' hcs;split at h
 case h_2=>cases h
 cases h;have hcs':cs'=cs:=by
  grind [AHeap.get_push_same,Bb]
 subst hcs';obtain ⟨i1,i2⟩:=hr.new_imm (arr:=arr) (t:=e') (fr:=(0,0)) (vs:=arr.toList) (λi v hv=>by grind);have:=hC _ (.slice (some ⟨w.heap.size,0,none⟩) n n) _ i1 i2 (by exact ⟨w.heap.size,0,arr.toList,n,rfl,za' _,hc.sub i1.1,λi v hv=>by grind⟩);unfold Oper.wp;have hx:(execOp a.eval o).run P w=.ok (.value (.slice (some ⟨w.heap.size,0,none⟩) n n)) (w.alloc (.cells arr e')):=by
  grind [execOp,Sem.run_bind,Result.andThen_ok,Sem.run_pure]
 rw [hx];exact this
def u9 {Y:Sy} {n:Nat} (hf:AA Y n) {H:AHeap} {R:Tm} {o:Oper} {g:FuncId} {ag:List AV} {sh:List (Option Nat)} {v:AV} {vs:List AV} (hst:(A3 P o).run R H=some (.call g ag)) (hso:Bm ag=true) (hlt:CP n ag=true)
  (hp:HL P g (An Y.v ag) v) (hfl:Kp sh v=some vs) (hok:Ak vs=true):BK P (Y.puts n vs).v (n+FH sh) N H R o (Ik n sh):=λB pr E a w hE ht hr C X hC=>by
 obtain ⟨us,g1,g2⟩:=Ej hst hr ht;have hlen:=X1 hfl;have hden:An E.sy ag=An Y.v ag:=Fa (λk hk=>(hE k (by omega)).trans (AR.puts vs n (za' n) k hk)) hlt;have hcon:Ah E (An Y.v ag) us:=by rw [←hden];exact (JA hso g2).con
 unfold Oper.wp;rw [g1];refine Calls.mono (hp H B pr E w us ht.gl hr hcon) λe w' he=>?_;obtain ⟨E',hle,u',rfl,h1,h2⟩:=he;exact hC E' u' w' hle h2 (mQ (E:=E') (E':=E') (λ_ _ _ h=>h) hfl hok h1 λi a ha=>by
  rw [hle.1.2.2.2.1,hE (n+i) (by grind)]
  grind [F7])
def oT {Y:Sy} {n:Nat} {H:AHeap} {R:Tm} {o:Oper} {op:XOp} {ag:List AV} {r:AV} (hl:FO R o=some (op,ag)) (hso:Bm ag=true) (hlt:CP n ag=true) (hr:op.run P (An Y.v ag)=some r) (hok:okC r=true):
  BK P (Y.put n r).v (n+1) N H R o (.sym n):=λB pr E a w hE ht hrel C X hC=>by
 have hden:An E.sy ag=An Y.v ag:=Fa (λk hk=>(hE k (by omega)).trans (Sy.put_ne _ _ (by omega))) hlt;obtain ⟨E',nx,v,w',h1,h2,h3,h4,h5⟩:=XJ hl hso (r:=r) (by rw [hden];exact hr) hrel ht;have:=hC E' v w' h3 h4 (by refine ⟨r,?_,Fx hok,Jf hok h5⟩;rw [h3.1.2.2.2.1,hE n (by omega)];exact Sy.put_same _ _ _);unfold Oper.wp;rw [h1];rcases h2 with rfl|⟨rfl,rfl⟩;exact this;exact this
def xm {Y:Sy} {n:Nat} {H:AHeap} {R:Tm} {o:Oper} {op:XOp} {ag:List AV} {r:AV} (hl:Nw R H o=some (op,ag)) (hlt:CP n ag=true) (hr:op.run P (An Y.v ag)=some r) (hok:okC r=true):
  BK P (Y.put n r).v (n+1) N H R o (.sym n):=λB pr E a w hE ht hrel C X hC=>by
 have hden:An E.sy ag=An Y.v ag:=Fa (λk hk=>(hE k (by omega)).trans (Sy.put_ne _ _ (by omega))) hlt;obtain ⟨E',nx,v,w',h1,h2,h3,h4,h5⟩:=kU hrel (λx=>ht.look x) hl (r:=r) (by rw [hden];exact hr);have:=hC E' v w' h3 h4 (by refine ⟨r,?_,Fx hok,Jf hok h5⟩;rw [h3.1.2.2.2.1,hE n (by omega)];exact Sy.put_same _ _ _);unfold Oper.wp;rw [h1];rcases h2 with rfl|⟨rfl,rfl⟩;exact this;exact this
def oc_ {Y:Sy} {n:Nat} (hf:AA Y n) {H:AHeap} {R:Tm} {o:Oper} {op:XOp} {ag cs:List AV} (hl:FO R o=some (op,ag)) (hso:Bm ag=true) (hlt:CP n ag=true) (hr:op.run P (An Y.v ag)=some (.agg cs)) (hok:Ak cs=true):
  BK P (Y.puts n cs).v (n+cs.length) N H R o (.agg (Ae n cs.length)):=λB pr E a w hE ht hrel C X hC=>by
 have hden:An E.sy ag=An Y.v ag:=Fa (λk hk=>(hE k (by omega)).trans (AR.puts cs n (za' n) k hk)) hlt;obtain ⟨E',nx,v,w',h1,h2,h3,h4,h5⟩:=XJ hl hso (r:=.agg cs) (by rw [hden];exact hr) hrel ht;have:=hC E' v w' h3 h4 (by
  obtain ⟨vs,rfl,hL⟩:=h5;refine ⟨vs,rfl,NZ n cs vs hok (λi a ha=>?_) (Gv hok hL)⟩;rw [h3.1.2.2.2.1,hE (n+i) (by grind)]
  grind [F7])
 unfold Oper.wp;rw [h1];rcases h2 with rfl|⟨rfl,rfl⟩;exact this;exact this
def u0 {s:Nat->Option AV} {m:Nat} {H:AHeap} {R:Tm} {o:Oper} {q:AV} (h:PE P R o=some q):BK P s m N H R o q:=λB pr E a w hE ht hr C X hC=>by obtain ⟨v,h1,h2⟩:=og hr (λx=>ht.look x) h;unfold Oper.wp;rw [h1];exact hC E v w (Ag.le_refl E) hr h2
def qg_ {Y:Sy} {n id sz:Nat} {H:AHeap} {R:Tm} {o:Oper} {op:XOp} {ag:List AV} {r:AV} (hl:Nr P R o=some (op,ag,id,sz)) (hlt:CP n ag=true) (hr:op.run P (An Y.v ag)=some r):
  BK P (Y.put n r).v (n+1) N H R o (.ptx id n sz 0):=λB pr E a w hE ht hrel C X hC=>by
 have hden:An E.sy ag=An Y.v ag:=Fa (λk hk=>(hE k (by omega)).trans (Sy.put_ne _ _ (by omega))) hlt;obtain ⟨q,E',v,w',rfl,h1,h2,h3,h4⟩:=ko hrel (λx=>ht.look x) hl (by rw [hden];exact hr);unfold Oper.wp;rw [h1];refine hC E' v w' h2 h3 ((LN (k:=.i64) ?_).2 (by omega));rw [h2.1.2.2.2.1,hE n (by omega)];exact Sy.put_same _ _ _
def xe {Y:Sy} {n:Nat} {H:AHeap} {R:Tm} {o:Oper} {op:XOp} {ag:List AV} {r:AV} (hl:Ng R H o=some (op,ag)) (hlt:CP n ag=true) (hr:op.run P (An Y.v ag)=some r) (hok:okC r=true):
  BK P (Y.put n r).v (n+1) N H R o (.sym n):=λB pr E a w hE ht hrel C X hC=>by
 have hden:An E.sy ag=An Y.v ag:=Fa (λk hk=>(hE k (by omega)).trans (Sy.put_ne _ _ (by omega))) hlt;obtain ⟨v,h1,h2⟩:=YV hrel (λx=>ht.look x) hl (by rw [hden];exact hr);unfold Oper.wp;rw [h1];refine hC E v w (Ag.le_refl E) hrel ?_;exact ⟨r,by rw [hE n (by omega)];exact Sy.put_same _ _ _,Fx hok,Jf hok h2⟩
def q9 {Y:Sy} {n:Nat} (hf:AA Y n) {H:AHeap} {R:Tm} {o:Oper} {op:XOp} {ag cs:List AV} (hl:Ng R H o=some (op,ag)) (hlt:CP n ag=true) (hr:op.run P (An Y.v ag)=some (.agg cs)) (hok:Ak cs=true):
  BK P (Y.puts n cs).v (n+cs.length) N H R o (.agg (Ae n cs.length)):=λB pr E a w hE ht hrel C X hC=>by
 have hden:An E.sy ag=An Y.v ag:=Fa (λk hk=>(hE k (by omega)).trans (AR.puts cs n (za' n) k hk)) hlt;obtain ⟨v,h1,h2⟩:=YV hrel (λx=>ht.look x) hl (by rw [hden];exact hr);unfold Oper.wp;rw [h1];refine hC E v w (Ag.le_refl E) hrel ?_;obtain ⟨vs,rfl,hL⟩:=h2;refine ⟨vs,rfl,NZ n cs vs hok (λi a ha=>?_) (Gv hok hL)⟩;rw [hE (n+i) (by grind)]
 grind [F7]
def zh {Y:Sy} {n:Nat} {H:AHeap} {R:Tm} {o:Oper} {op:XOp} {ag:List AV} {r:AV} (hl:FA R o=some (op,ag)) (hlt:CP n ag=true) (hr:op.run P (An Y.v ag)=some r) (hok:okC r=true):
  BK P (Y.put n r).v (n+1) N H R o (.sym n):=λB pr E a w hE ht hrel C X hC=>by
 have hden:An E.sy ag=An Y.v ag:=Fa (λk hk=>(hE k (by omega)).trans (Sy.put_ne _ _ (by omega))) hlt;obtain ⟨E',nx,v,w',h1,h2,h3,h4,h5⟩:=dI hl (by rw [hden];exact hr) ht hrel;have:=hC E' v w' h3 h4 (by refine ⟨r,?_,Fx hok,Jf hok h5⟩;rw [h3.1.2.2.2.1,hE n (by omega)];exact Sy.put_same _ _ _);unfold Oper.wp;rw [h1];rcases h2 with rfl|⟨rfl,rfl⟩;exact this;exact this
def Hk (Y:Sy) (n:Nat) (Tr T:Tm):Prop:=∀t,t<512->∀(E:Ag) (v:Value),Ih Y.v n E->Ac E (Ao Tr t) v->Ac E (Ao T t) v
omit [Gl]in
def Hk.know {Y:Sy} {n:Nat} {Tr T:Tm} (h:Hk Y n Tr T) (hf:AA Y n) {i:Nat} {b:Bool} (hb:Y.v i=some (.bool b)):Hk Y n Tr (BZ (Gt i b) T):=λt ht E v hE hc=>by
 rw [E8];have hi:i<n:=by rcases zk' i n with h|h;exact h;rw [hf.2 i h]at hb;cases hb
 exact aV ((hE i hi).trans hb) (h t ht E v hE hc)
omit [Gl]in
theorem Hk.put {Y Y':Sy} {n n':Nat} {Tr T:Tm} (h:Hk Y n Tr T) (hx:AR n Y Y') (hn:n<=n') {d:Option Nat} {u:Tm->AV->Tm} (hu:CN N d=.mk u) (q:AV):Hk Y' n' (u Tr q) (u T q):=λt ht E v hE hc=>by
 obtain ⟨p1,p2⟩:=O7 hu Tr q ht;obtain ⟨q1,q2⟩:=O7 hu T q ht;by_cases e:d=some t
 .grind
 rw [p2 e]at hc;rw [q2 e];exact h t ht E v (λk hk=>(hE k (by omega)).trans (hx k hk)) hc
structure Kc (P:Program) (N:Nat) (Q:AV->Prop) (c:VC) (L:BG) (Af:List Oper) (l0:List SI) (n0 nx:Nat) (x:SI) (gs:List GW) (ps:List (Nat×List Nat)) (u:Tm->AV->Tm) (Tr:Tm) (S:VS) (Y:Sy) (next:VS->VT) (Y':Sy) (S1 S':VS) (q:AV) (e:Cr):Prop where
 good:Av P c S'.n Y'
 n:S.n<=S'.n
 ext:AR S.n Y Y'
 lv:S'.lv=S.lv
 d:S'.D=S.D
 l:Y'.l=Y.l
 sim:Hk Y S.n Tr S1.T
 t:S'.T=u S1.T q
 ok:AC P Q L Y' (next S')
 ev:(C0 x=false/\e=.off/\q=.tup []/\CR Af x (BR S1.T x.rd AP)=some false/\S'.H=S.H)\/(e=.val q/\CR Af x (BR S1.T x.rd AP)=some true/\
  ((Cq x=true/\V7 x.bef (Hj x (BR S.T x.rd AP)) ps=true/\Lv P Y'.v S'.n N S.H S'.H (BR S1.T x.rd AP) x.o q/\
      ∀ids,apart (Hj x (BR S.T x.rd AP)) ids=true->∀id k,BB id ids=true->S.H.get id=some k->S'.H.get id=some k)\/
   (C0 x=true/\S'.H=S.H/\∃k,NC P x nx=some (q,k))\/
   (C0 x=false/\Cq x=false/\OD x.bef (Jq x S.T) l0 0 n0=true/\Ps x.bef (Jq x S.T) gs=true/\S'.H=S.H/\BK P Y'.v S'.n N (Na x S gs) (BR S1.T x.rd AP) x.o q)))
def rh {s:Nat->Option AV} {m:Nat} {H H':AHeap} {R:Tm} {o:Oper} {q:AV} (h:(A3 P o).run R H=some (.val q H')):Lv P s m N H H' R o q:=λB pr E a w hE ht hr C X hC=>by obtain ⟨E',n,v,w',h1,h2,h3,h4,h5⟩:=Ej h hr ht;have:=hC E' v w' h3 h4 h5;unfold Oper.wp;rw [h1];rcases h2 with rfl|⟨rfl,rfl⟩;exact this;exact this
def zx {Y:Sy} {n id:Nat} {H:AHeap} {R:Tm} {o:Oper} {op:XOp} {ag:List AV} {r:AV} (hl:JS R H o=some (op,ag,id)) (hlt:CP n ag=true) (hr:op.run P (An Y.v ag)=some r) (hok:okC r=true):
  Lv P (Y.put n r).v (n+1) N H (H.set id (.syl n)) R o (.tup []):=λB pr E a w hE ht hrel C X hC=>by
 have hden:An E.sy ag=An Y.v ag:=Fa (λk hk=>(hE k (by omega)).trans (Sy.put_ne _ _ (by omega))) hlt;obtain ⟨w',h1,h2⟩:=cb (n:=n) hrel (λx=>ht.look x) hl (by rw [hden];exact hr) hok (by rw [hE n (by omega)];exact Sy.put_same _ _ _);unfold Oper.wp;rw [h1];exact hC E undef w' (Ag.le_refl E) h2 (GG E)
omit [Gl]in
def VV {n i:Nat} {ag:List AV} (h:HG ag=some i) (hlt:CP n ag=true):i<n:=by
 unfold HG at h;split at h
 .split at h<;>simp_all [CP,Im]
 cases h
def rQ_ {Y:Sy} {n id sz:Nat} {H:AHeap} {R:Tm} {o:Oper} {op:XOp} {ag:List AV} {r:AV} (hl:JE P R H o=some (id,sz,op,ag)) (hpos:LM ag=true\/∃i,HG ag=some i/\Iu Y.v i) (hlt:CP n ag=true) (hr:op.run P (An Y.v ag)=some r) (hok:okC r=true):
  Lv P (Y.put n r).v (n+1) N H ((H.erase id).push (.syl n)) R o (.slx H.next sz n):=λB pr E a w hE ht hrel C X hC=>by
 have hden:An E.sy ag=An Y.v ag:=Fa (λk hk=>(hE k (by omega)).trans (Sy.put_ne _ _ (by omega))) hlt;obtain ⟨_,E',v,w',h1,h2,h3,h4⟩:=qE_ (E:=E) hl hok (hpos.imp (λh=>h) λ⟨i,hi,h⟩=>⟨i,hi,by
  have hin:i<n:=VV hi hlt;unfold Iu;rw [(hE i (by omega)).trans (Sy.put_ne _ _ (by omega))];exact h⟩) (by grind) (by rw [hE n (by omega)];exact Sy.put_same _ _ _) ht hrel
 unfold Oper.wp;rw [h1];exact hC E' v w' h2 h3 h4
def gF {Y:Sy} {n m id sz:Nat} {H:AHeap} {R:Tm} {o:Oper} {op:XOp} {ag:List AV} {r:AV} (hl:Hm P R H o=some (id,sz,op,ag)) (hpos:LM ag=true\/∃i,HG ag=some i/\Iu Y.v i) (hlt:CP m ag=true) (hmn:m<=n) (hr:op.run P (An Y.v ag)=some r) (hok:okC r=true):
  Lv P (Y.put n r).v (n+1) N H ((H.erase id).push (.syl n)) R o (.slx H.next sz n):=λB pr E a w hE ht hrel C X hC=>by
 have hden:An E.sy ag=An Y.v ag:=Fa (λk hk=>(hE k (by omega)).trans (Sy.put_ne _ _ (by omega))) hlt;obtain ⟨E',v,w',h1,h2,h3,h4⟩:=zO (E:=E) hl hok (hpos.imp (λh=>h) λ⟨i,hi,h⟩=>⟨i,hi,by
  have hin:i<m:=VV hi hlt;unfold Iu;rw [(hE i (by omega)).trans (Sy.put_ne _ _ (by omega))];exact h⟩) (by grind) (by rw [hE n (by omega)];exact Sy.put_same _ _ _) ht hrel
 unfold Oper.wp;rw [h1];exact hC E' v w' h2 h3 h4
def zB {Y:Sy} {n m id sz i:Nat} {H:AHeap} {R:Tm} {o:Oper} {op:XOp} {ag:List AV} (hl:Hm P R H o=some (id,sz,op,ag)) (hi:HG ag=some i) (he:M8 Y.v i) (hlt:CP m ag=true) (hmn:m<=n):
  Lv P Y.v n N H H R o (KB R o):=λB pr E a w hE ht hrel C X hC=>by
 obtain ⟨E',v,w',h1,h2,h3,h4⟩:=wC (E:=E) hl hi (by have hin:i<m:=VV hi hlt;unfold M8;rw [hE i (by omega)];exact he) ht hrel;unfold Oper.wp;rw [h1];exact hC E' v w' h2 h3 h4
def ny {x:SI} {R:Tm} {H:AHeap} {id sz n:Nat} {op:XOp} {ag:List AV} (hap:OX x=true) (hl:Hm P R H x.o=some (id,sz,op,ag)) {ids:List Nat} (ha:apart (Hj x R) ids=true) {idr:Nat} {k:A2} (hm:BB idr ids=true) (hk:H.get idr=some k) (hnew:H.get H.next=none):
  ((H.erase id).push (.syl n)).get idr=some k:=by
 unfold Hm at hl;split at hl
 case h_2=>cases hl
 rename_i c ho;split at hl
 case h_2=>cases hl
 rename_i b hc;split at hl
 case h_2=>cases hl
 split at hl
 case h_2=>cases hl
 rename_i s x' t tx h1 h2;split at hl
 case h_2=>cases hl
 rename_i hroom;split at hl
 case h_2=>cases hl
 split at hl
 case h_2=>cases hl
 split at hl
 case h_2=>cases hl
 split at hl
 case h_2=>cases hl
 split at hl
 case h_2=>cases hl
 split at hl
 case h_2=>cases hl
 rename_i id' sd hh;have hM:Gz x=false:=by unfold Gz;rw [ho]
 unfold Hj at ha;rw [hM]at ha;unfold N2 at ha;rw [ho]at ha;simp only [hap,h1]at ha;have hne:id'≠idr:=λe=>by
  grind [OK,apart]
 obtain ⟨r1,r2,r3⟩:=As.room hroom;have e1:((H.erase id').push (.syl n)).get idr=(H.erase id').get idr:=AHeap.get_push_ne (H.erase id') r2 (λe=>by have e':H.next=idr:=e;grind) _
 grind [AHeap.get_erase_ne]
def vJ {s:Nat->Option AV} {m N:Nat} {H:AHeap} {R:Tm} {o:Oper} {q:AV} (h:BK P s m N H R o q):Lv P s m N H H R o q:=λB pr E a w hE ht hr C Q hC=>h B pr E a w hE ht hr C Q hC
def qH_ {x:SI} {R:Tm} {H:AHeap} {id sz n:Nat} {op:XOp} {ag:List AV} (hap:OX x=true) (hl:JE P R H x.o=some (id,sz,op,ag)) {ids:List Nat} (ha:apart (Hj x R) ids=true) {idr:Nat} {k:A2} (hm:BB idr ids=true) (hk:H.get idr=some k) (hnew:H.get H.next=none):
  ((H.erase id).push (.syl n)).get idr=some k:=by
 unfold JE at hl;split at hl
 case h_2=>cases hl
 rename_i c ho;split at hl
 case h_2=>cases hl
 rename_i b hc;split at hl
 case h_2=>cases hl
 split at hl
 case h_2=>cases hl
 rename_i s x' t tx h1 h2;split at hl
 case h_2=>cases hl
 rename_i id' sz' i hs;split at hl
 case h_2=>cases hl
 split at hl
 case h_2=>cases hl
 rename_i hji;have hroom:=(Au hji).2;have hid:id'=id:=by
  repeat' (split at hl<;>first|(cases hl;done)|skip)
  cases hl;rfl
 have hM:Gz x=false:=by unfold Gz;rw [ho]
 unfold Hj at ha;rw [hM]at ha;unfold N2 at ha;rw [ho]at ha;simp only [hap,h1,hs]at ha;have hne:id'≠idr:=λe=>by
  grind [apart]
 obtain ⟨r1,r2,r3⟩:=As.room hroom;have e1:((H.erase id').push (.syl n)).get idr=(H.erase id').get idr:=AHeap.get_push_ne (H.erase id') r2 (λe=>by have e':H.next=idr:=e;grind) _
 grind [AHeap.get_erase_ne]
def tj_ {x:SI} {R:Tm} (h:Rs x R=false):N2 x R=.all:=by
 grind [N2,Rs]
omit [Gl]in
theorem aj {H:AHeap} (h:H.room=true):H.next<Bb:=by
 unfold AHeap.room at h
 grind [zm',zg']
omit [Gl]in
theorem eZ {H:AHeap} {cs:List AV} {a:AV} {H':AHeap} (h:Hz H cs=some (a,H')) (hn:H.get H.next=none):∀id k,H.get id=some k->H'.get id=some k:=λid k hk=>by
 grind [Hz,AHeap.get_push_ne,aj]
theorem yC {x:SI} (hx:Gz x=true) {R:Tm} {H H':AHeap} {a:AV} (h:(A3 P x.o).run R H=some (.val a H')) (hn:H.get H.next=none):∀id k,H.get id=some k->H'.get id=some k:=by
 unfold Gz at hx;unfold A3 at h;split at hx
 .grind [OC.run,M9,eZ]
 .grind [OC.run,Rc,eZ]
 .rename_i t n parts ho;rw [ho]at h;simp only [OC.run]at h;split at h
  .rename_i a' H2 he;unfold MX at he;repeat' (split at he<;>try (cases he;done))
   grind [AHeap.get_push_ne,aj]
  cases h
 cases hx
omit [Gl]in
theorem uS {P:Program} {H H':AHeap} {t:TypeId} {id off j:Nat} {v a:AV} (h:EU P H t (.ptr id off) v=some (a,H')) (hne:id≠j):H'.get j=H.get j:=by
 unfold EU at h;split at h
 .simp only at h;split at h<;>grind [AHeap.get_set_ne,AHeap.get_lt]
 cases h
def r2_ {x:SI} {R:Tm} {H H':AHeap} {a:AV} (h:(A3 P x.o).run R H=some (.val a H')) (hn:Gz x=true->H.get H.next=none) (hna:Gz x=false->Rs x R=false) {ids:List Nat} (ht:apart (Hj x R) ids=true):∀id k,BB id ids=true->H.get id=some k->H'.get id=some k:=by
 intro id k hid hk;unfold Hj at ht;split at ht
 .grind [yC]
 .rename_i hM;split at ht
  .rename_i t ad v ho;split at ht
   .rename_i id2 off hl;unfold A3 at h;rw [ho]at h;simp only [OC.run]at h;split at h
    .have hl':(BE ad).f R=.ptr id2 off:=hl
     grind [apart,uS]
    cases h
   .rename_i id2 j2 sz2 off2 hl;unfold A3 at h;rw [ho]at h;simp only [OC.run]at h;split at h
    .have hl':(BE ad).f R=.ptx id2 j2 sz2 off2:=hl
     grind [EU]
    cases h
   .simp only [apart]at ht
    grind [BB]
  .rw [tj_ (hna hM)]at ht;simp only [apart]at ht
   grind [BB]
def pG {L:BG} {Af:List Oper} {l0:List SI} {n0 nx:Nat} {x:SI} {gs:List GW} {ps:List (Nat×List Nat)} {u:Tm->AV->Tm} {Tr:Tm} {S:VS} {Y:Sy} {next:VS->VT} (hf:Av P c S.n Y) (hsim:Hk Y S.n Tr S.T) (h:AC P Q L Y (Oz P c Af l0 n0 nx x gs ps u next S)):
  ∃Y' S2 S' q e,Kc P N Q c L Af l0 n0 nx x gs ps u Tr S Y next Y' S2 S' q e:=by
 unfold Oz at h;split at h
 case h_2=>exact h.elim
 rename_i t hg;split at h
 .refine ⟨Y,S,⟨u S.T (.tup []),S.H,S.n,S.lv,S.D⟩,.tup [],.off,hf,za' _,AR.refl _ _,rfl,rfl,rfl,hsim,rfl,h,.inl ⟨?_,rfl,rfl,hg,rfl⟩⟩
  grind [C0,CR,Du]
 split at h;rename_i hal;split at h;rename_i p hp;exact ⟨Y,S,⟨u S.T p.1,S.H,S.n,S.lv,S.D⟩,p.1,.val p.1,hf,za' _,AR.refl _ _,rfl,rfl,rfl,hsim,rfl,h,.inr ⟨rfl,hg,.inr (.inl ⟨hal,rfl,p.2,hp⟩)⟩⟩;exact h.elim;rename_i hal;split at h
 .rename_i hw;split at h
  case h_2=>exact h.elim
  rename_i hokw;unfold ii at h;have happ:AC P Q L Y (QY P x u S next)->∃Y' S2 S' q e,Kc P N Q c L Af l0 n0 nx x gs ps u Tr S Y next Y' S2 S' q e:=λh=>by
   unfold QY at h;split at h;exact h.elim;rename_i hap;split at h
   .rename_i id sz op ag hl;split at h
    case h_2=>exact h.elim
    rename_i hlt;split at h
    case h_2=>exact h.elim
    rename_i hnew;obtain ⟨hpos,r,hr,hok,ht⟩:(LM ag=true\/∃i,HG ag=some i/\Iu Y.v i)/\AC P Q L Y (.lt op ag S.n none (next ⟨u S.T (.slx S.H.next sz S.n),(S.H.erase id).push (.syl S.n),Nat.succ S.n,S.lv,S.D⟩)):=by
     split at h
     .grind
     split at h;rename_i i hi;exact ⟨.inr ⟨i,hi,h.1⟩,h.2⟩;exact h.elim
    exact ⟨Y.put S.n r,S,⟨u S.T (.slx S.H.next sz S.n),(S.H.erase id).push (.syl S.n),Nat.succ S.n,S.lv,S.D⟩,.slx S.H.next sz S.n,.val (.slx S.H.next sz S.n),hf.put r,zc' _,AR.put r (za' _),rfl,rfl,rfl,hsim,rfl,ht,.inr ⟨rfl,hg,.inl ⟨hw,hokw,rQ_ hl hpos hlt hr hok,λids ha idr k hm hk=>qH_ hap hl ha hm hk hnew⟩⟩⟩
   split at h
   .rename_i id sz op ag hl;unfold lm at h;split at h
    case h_2=>exact h.elim
    rename_i hlt;split at h
    case h_2=>exact h.elim
    rename_i hnew;split at h;rename_i hp;obtain ⟨r,hr,hok,ht⟩:=h;exact ⟨Y.put S.n r,S,⟨u S.T (.slx S.H.next sz S.n),(S.H.erase id).push (.syl S.n),Nat.succ S.n,S.lv,S.D⟩,.slx S.H.next sz S.n,.val (.slx S.H.next sz S.n),hf.put r,zc' _,AR.put r (za' _),rfl,rfl,rfl,hsim,rfl,ht,.inr ⟨rfl,hg,.inl ⟨hw,hokw,gF hl (.inl hp) hlt (za' _) hr hok,λids ha idr k hm hk=>ny hap hl ha hm hk hnew⟩⟩⟩;split at h
    case h_2=>exact h.elim
    rename_i i hi;have hin:i<S.n:=VV hi hlt;obtain ⟨b,hb,hbok,t,ht,htt,htf⟩:=h;have hbt:b=.bool t:=by
     grind [Sy.put_same]
    subst hbt;cases t with
    |true=>
     have he:M8 Y.v i:=by
      simp only [An,Ar,XOp.run]at hb;cases hv:Y.v i with
      |none=>grind
      |some a=>
       rw [hv]at hb;cases a<;>first|(cases hb;done)|skip
       exact .inl hv;simp only [Option.getD_some,A6,AV.bool.injEq]at hb;have:=zd' hb;subst this;exact .inr ⟨_,_,hv⟩
     have he1:M8 (Y.put S.n (.bool true)).v i:=by
      grind [M8,Sy.put_ne]
     exact ⟨Y.put S.n (.bool true),S,⟨u S.T (KB (BR S.T x.rd AP) x.o),S.H,Nat.succ S.n,S.lv,S.D⟩,KB (BR S.T x.rd AP) x.o,.val (KB (BR S.T x.rd AP) x.o),hf.put _,zc' _,AR.put _ (za' _),rfl,rfl,rfl,hsim,rfl,htt rfl,.inr ⟨rfl,hg,.inl ⟨hw,hokw,zB hl hi he1 hlt (zc' _),λids ha idr k hm hk=>hk⟩⟩⟩
    |false=>
     have he:Iu Y.v i:=by
      simp only [An,Ar,XOp.run]at hb;cases hv:Y.v i with
      |none=>grind
      |some a=>
       rw [hv]at hb;cases a<;>first|(cases hb;done)|skip
       .rename_i n z cs;cases n with
        |zero=>cases hb
        |succ n=>exact ⟨_,_,_,hv⟩
     have he1:Iu (Y.put S.n (.bool false)).v i:=by
      grind [Iu,Sy.put_ne]
     obtain ⟨r,hr,hok,ht⟩:=htf rfl;exact ⟨(Y.put S.n (.bool false)).put (Nat.succ S.n) r,S,⟨u S.T (.slx S.H.next sz (Nat.succ S.n)),(S.H.erase id).push (.syl (Nat.succ S.n)),Nat.succ (Nat.succ S.n),S.lv,S.D⟩,.slx S.H.next sz (Nat.succ S.n),.val (.slx S.H.next sz (Nat.succ S.n)),(hf.put _).put r,Nat.le_succ_of_le (zc' _),(AR.put _ (za' _)).trans (AR.put r (za' _)) (zc' _),rfl,rfl,rfl,hsim,rfl,ht,.inr ⟨rfl,hg,.inl ⟨hw,hokw,gF hl (.inr ⟨i,hi,he1⟩) hlt (zc' _) hr hok,λids ha idr k hm hk=>ny hap hl ha hm hk hnew⟩⟩⟩
   split at h
   case h_2=>exact h.elim
   rename_i op ag hl;split at h
   case h_2=>exact h.elim
   rename_i hb;obtain ⟨hso,hlt⟩:=Au hb;split at h
   case h_2=>exact h.elim
   obtain ⟨r,hr,hok,ht⟩:=h;exact ⟨Y.put S.n r,S,⟨u S.T (.sym S.n),S.H,Nat.succ S.n,S.lv,S.D⟩,.sym S.n,.val (.sym S.n),hf.put r,zc' _,AR.put r (za' _),rfl,rfl,rfl,hsim,rfl,ht,.inr ⟨rfl,hg,.inl ⟨hw,hokw,vJ (oT hl hso hlt hr hok),λids ha idr k hm hk=>hk⟩⟩⟩
  split at h
  case h_2=>
   split at h;exact happ h;split at h
   case h_2=>exact happ h
   rename_i op ag id hst;split at h
   case h_2=>exact h.elim
   rename_i hb;obtain ⟨hlt,hnm⟩:=Au hb;obtain ⟨r,hr,hok,ht⟩:=h;refine ⟨Y.put S.n r,S,⟨u S.T (.tup []),S.H.set id (.syl S.n),Nat.succ S.n,S.lv,S.D⟩,.tup [],.val (.tup []),hf.put r,zc' _,AR.put r (za' _),rfl,rfl,rfl,hsim,rfl,ht,.inr ⟨rfl,hg,.inl ⟨hw,hokw,zx hst hlt hr hok,λids ha idr k hm hk=>?_⟩⟩⟩
   grind [Hj,JS,apart,AHeap.get_set_ne,AHeap.get_lt]
  rename_i r hr;split at h
  case h_2=>exact h.elim
  rename_i a H';have fin:(Gz x=true->S.H.get S.H.next=none)->(Gz x=false->Rs x (BR S.T x.rd AP)=false)->AC P Q L Y (next ⟨u S.T a,H',S.n,S.lv,S.D⟩)->∃Y' S2 S' q e,Kc P N Q c L Af l0 n0 nx x gs ps u Tr S Y next Y' S2 S' q e:=λhm hna h=>
   ⟨Y,S,⟨u S.T a,H',S.n,S.lv,S.D⟩,a,.val a,hf,za' _,AR.refl _ _,rfl,rfl,rfl,hsim,rfl,h,.inr ⟨rfl,hg,.inl ⟨hw,hokw,rh hr,λids ha=>r2_ hr hm hna ha⟩⟩⟩
  split at h
  .rename_i hm;split at h
   .grind
   exact h.elim
  grind
 .rename_i hw;split at h
  case h_2=>exact h.elim
  rename_i hokr;obtain ⟨hokr,hchk⟩:=Au hokr;split at h;unfold oh at h;split at h;rename_i q hq;exact ⟨Y,S,⟨u S.T q,S.H,S.n,S.lv,S.D⟩,q,.val q,hf,za' _,AR.refl _ _,rfl,rfl,rfl,hsim,rfl,h,.inr ⟨rfl,hg,.inr (.inr ⟨hal,hw,hchk,hokr,rfl,wo hq⟩)⟩⟩;exact h.elim;unfold fA at h;split at h;rename_i q hq;exact ⟨Y,S,⟨u S.T q,S.H,S.n,S.lv,S.D⟩,q,.val q,hf,za' _,AR.refl _ _,rfl,rfl,rfl,hsim,rfl,h,.inr ⟨rfl,hg,.inr (.inr ⟨hal,hw,hchk,hokr,rfl,kF hq⟩)⟩⟩
  .split at h;rename_i t hown;unfold nC at hown;split at hown;cases hown;split at hown;rename_i q hq;cases hown;exact ⟨Y,S,⟨u S.T q,S.H,S.n,S.lv,S.D⟩,q,.val q,hf,za' _,AR.refl _ _,rfl,rfl,rfl,hsim,rfl,h,.inr ⟨rfl,hg,.inr (.inr ⟨hal,hw,hchk,hokr,rfl,u0 hq⟩)⟩⟩;split at hown;rename_i op ag id sz hl;split at hown;rename_i hlt;cases hown;obtain ⟨r,hr,hok,ht⟩:=h;exact ⟨Y.put S.n r,S,⟨u S.T (.ptx id S.n sz 0),S.H,Nat.succ S.n,S.lv,S.D⟩,.ptx id S.n sz 0,.val (.ptx id S.n sz 0),hf.put r,zc' _,AR.put r (za' _),rfl,rfl,rfl,hsim,rfl,ht,.inr ⟨rfl,hg,.inr (.inr ⟨hal,hw,hchk,hokr,rfl,qg_ hl hlt hr⟩)⟩⟩;cases hown;split at hown;rename_i op ag hl;split at hown;rename_i hlt;split at hown;cases hown;obtain ⟨r,hr,hok,ht⟩:=h;exact ⟨Y.put S.n r,S,⟨u S.T (.sym S.n),S.H,Nat.succ S.n,S.lv,S.D⟩,.sym S.n,.val (.sym S.n),hf.put r,zc' _,AR.put r (za' _),rfl,rfl,rfl,hsim,rfl,ht,.inr ⟨rfl,hg,.inr (.inr ⟨hal,hw,hchk,hokr,rfl,xe hl hlt hr hok⟩)⟩⟩;cases hown;obtain ⟨cs,hr,hlen,hok,ht⟩:=h;subst hlen;exact ⟨Y.puts S.n cs,S,⟨u S.T (.agg (Ae S.n cs.length)),S.H,Nat.add S.n cs.length,S.lv,S.D⟩,.agg (Ae S.n cs.length),.val (.agg (Ae S.n cs.length)),hf.puts cs,zf' _ _,AR.puts cs _ (za' _),rfl,rfl,(hf.1.puts cs).2.2.1,hsim,rfl,ht,.inr ⟨rfl,hg,.inr (.inr ⟨hal,hw,hchk,hokr,rfl,q9 hf.1 hl hlt hr hok⟩)⟩⟩;cases hown;split at hown;rename_i op ag hl;split at hown;rename_i hlt;cases hown;obtain ⟨r,hr,hok,ht⟩:=h;exact ⟨Y.put S.n r,S,⟨u S.T (.sym S.n),S.H,Nat.succ S.n,S.lv,S.D⟩,.sym S.n,.val (.sym S.n),hf.put r,zc' _,AR.put r (za' _),rfl,rfl,rfl,hsim,rfl,ht,.inr ⟨rfl,hg,.inr (.inr ⟨hal,hw,hchk,hokr,rfl,zh hl hlt hr hok⟩)⟩⟩;cases hown;cases hown;split at h;rename_i r hst;split at h;split at h;rename_i sh hsh;split at h;rename_i hb;obtain ⟨hso,hlt⟩:=Au hb;obtain ⟨v,vs,hp,hfl,hok,ht⟩:=h;have hlen:=X1 hfl;refine ⟨Y.puts S.n vs,S,⟨u S.T (Ik S.n sh),S.H,Nat.add S.n (FH sh),S.lv,S.D⟩,Ik S.n sh,.val (Ik S.n sh),?_,zf' _ _,AR.puts vs _ (za' _),rfl,rfl,(hf.1.puts vs).2.2.1,hsim,rfl,ht,.inr ⟨rfl,hg,.inr (.inr ⟨hal,hw,hchk,hokr,rfl,?_⟩)⟩⟩;rw [←hlen];exact hf.puts vs;exact u9 hf.1 hst hso hlt hp hfl hok;exact h.elim;exact h.elim;exact h.elim
   .split at h
    .rename_i i a b hp;obtain ⟨t,ht,k1,k2⟩:=h;have val:∀t,Y.v i=some (.bool t)->AC P Q L Y (UB P x (Na x S gs) u (S.know i t) next)->∃Y' S2 S' q e,Kc P N Q c L Af l0 n0 nx x gs ps u Tr S Y next Y' S2 S' q e:=λt ht h=>by
      unfold UB at h;split at h
      .rename_i q hq;have hg':CR Af x (BR (S.know i t).T x.rd AP)=some true:=by
        unfold CR at hg⊢;split at hg;rfl
        .rename_i g hgc;have hi:Du Af x.o=.mk g:=hgc;have hgk:=gp hi (S:=⟨BR S.T x.rd AP,S.H,0⟩) hg i t;have hTe:∀tt,tt<512->Ao (BR (S.know i t).T x.rd AP) tt=Ao (BZ (Gt i t) (BR S.T x.rd AP)) tt:=λtt htt=>by rw [E8,OB _ htt,OB _ htt];show (if tt∈x.rd then Ao (BZ (Gt i t) S.T) tt else Ao AP tt)=_;rw [E8];split;rfl;rw [K2];rfl
         unfold Du at hi;split at hi;cases hi
         .split at hi
          .split at hi
           .rename_i d hd;split at hi
            .rename_i hd512;cases hi;have hd512:d<512:=(by simp_all);have hgk':Es (Ao (BZ (Gt i t) (BR S.T x.rd AP)) d) _=some true:=hgk;show Es (Ao (BR (S.know i t).T x.rd AP) d) _=some true
             grind
            grind
           grind
          grind
       exact ⟨Y,S.know i t,⟨u (S.know i t).T q,S.H,S.n,S.lv,S.D⟩,q,.val q,hf,za' _,AR.refl _ _,rfl,rfl,rfl,hsim.know hf.1 ht,rfl,h,.inr ⟨rfl,hg',.inr (.inr ⟨hal,hw,hchk,hokr,rfl,kF hq⟩)⟩⟩
      exact h.elim
     cases t<;>grind
    split at h;rename_i op ag hl;split at h;rename_i hlt;obtain ⟨r,hr,hok,ht⟩:=h;exact ⟨Y.put S.n r,S,⟨u S.T (.sym S.n),S.H,Nat.succ S.n,S.lv,S.D⟩,.sym S.n,.val (.sym S.n),hf.put r,zc' _,AR.put r (za' _),rfl,rfl,rfl,hsim,rfl,ht,.inr ⟨rfl,hg,.inr (.inr ⟨hal,hw,hchk,hokr,rfl,xm hl hlt hr hok⟩)⟩⟩;exact h.elim;split at h;rename_i op ag hl;split at h;rename_i hb;obtain ⟨hso,hlt⟩:=Au hb;split at h;obtain ⟨r,hr,hok,ht⟩:=h;exact ⟨Y.put S.n r,S,⟨u S.T (.sym S.n),S.H,Nat.succ S.n,S.lv,S.D⟩,.sym S.n,.val (.sym S.n),hf.put r,zc' _,AR.put r (za' _),rfl,rfl,rfl,hsim,rfl,ht,.inr ⟨rfl,hg,.inr (.inr ⟨hal,hw,hchk,hokr,rfl,oT hl hso hlt hr hok⟩)⟩⟩;obtain ⟨cs,hr,hlen,hok,ht⟩:=h;subst hlen;exact ⟨Y.puts S.n cs,S,⟨u S.T (.agg (Ae S.n cs.length)),S.H,Nat.add S.n cs.length,S.lv,S.D⟩,.agg (Ae S.n cs.length),.val (.agg (Ae S.n cs.length)),hf.puts cs,zf' _ _,AR.puts cs _ (za' _),rfl,rfl,(hf.1.puts cs).2.2.1,hsim,rfl,ht,.inr ⟨rfl,hg,.inr (.inr ⟨hal,hw,hchk,hokr,rfl,oc_ hf.1 hl hso hlt hr hok⟩)⟩⟩;exact h.elim;exact h.elim
def GsOk (l:List SI) (b:Nat) (G:Nat->AHeap):Nat->List GW->Prop
 |i,[]=>∀j,j<i->¬Wr l b j
 |i,g::r=>Wr l b g.i/\g.i<i/\(∀j,g.i<j->j<i->¬Wr l b j)/\g.H=G g.i/\(∀ids,apart g.t ids=true->∀id k,BB id ids=true->(G g.i).get id=some k->(G (g.i+1)).get id=some k)/\GsOk l b G g.i r
section
omit [Gl]
def GsOk.congr {l:List SI} {b:Nat} {G G':Nat->AHeap}:∀{gs:List GW} {i:Nat},(∀j,j<=i->G' j=G j)->GsOk l b G i gs->GsOk l b G' i gs
 |[],i,_,h=>h
 |g::r,i,hG,h=>by
  obtain ⟨h1,h2,h3,h4,h5,h6⟩:=h;refine ⟨h1,h2,h3,h4.trans (hG _ (by omega)).symm,λids ha id k hid hk=>?_,h6.congr λj hj=>hG j (by omega)⟩
  grind
def GsOk.keep {l:List SI} {b:Nat} {G:Nat->AHeap} {gs:List GW} {i:Nat} (h:GsOk l b G i gs) (hn:¬Wr l b i):GsOk l b G (i+1) gs:=by
 cases gs with
 |nil=>grind [Go.Sx.GsOk]
 |cons g r=>
  grind [Go.Sx.GsOk]
def gM {G:Nat->AHeap} {lo hi:Nat} (h:lo<=hi) (hk:∀j,lo<=j->j<hi->G (j+1)=G j):G hi=G lo:=by
 obtain ⟨n,rfl⟩:∃n,hi=lo+n:=⟨hi-lo,by omega⟩
 induction n<;>grind
def lX {l:List SI} {G:Nat->AHeap} {b bef:Nat} {ids:List Nat}:∀{gs:List GW} {i:Nat},GsOk l b G i gs->(∀j,j<i->¬Wr l b j->G (j+1)=G j)->Ps bef ids gs=true->
  ∃lo,lo<=i/\Rb bef (G i) gs=G lo/\(lo=0\/∃j,lo=j+1/\Wr l b j/\AW bef j=true)/\∀j,Wr l b j->lo<=j->j<i->∀id k,BB id ids=true->(G j).get id=some k->(G (j+1)).get id=some k
 |[],i,h,hk,_=>⟨0,zn' _,gM (zn' _) λj _ hj=>hk j hj (h j hj),.inl rfl,λj hj _ hji=>absurd hj (h j hji)⟩
 |g::r,i,h,hk,hok=>by
  obtain ⟨h1,h2,h3,h4,h5,h6⟩:=h;unfold Ps at hok;unfold Rb;cases hbit:AW bef g.i with
  |true=>exact ⟨g.i+1,h2,gM h2 λj h7 h8=>hk j h8 (h3 j h7 h8),.inr ⟨g.i,rfl,h1,hbit⟩,λj hj h7 h8=>absurd hj (h3 j h7 h8)⟩
  |false=>
   rw [hbit]at hok;obtain ⟨k1,k2⟩:=Au hok;obtain ⟨lo,g1,g2,g3,g4⟩:=lX (bef:=bef) (ids:=ids) h6 (λj hj=>hk j (by omega)) k2
   grind
def aZ (H:AHeap):∀ids:List Nat,(Ia H ids).next=0/\(Ia H ids).hi=0
 |[]=>⟨rfl,rfl⟩
 |id::r=>by unfold Ia;split;exact aZ H r;exact aZ H r
def NO {H:AHeap}:∀{ids:List Nat} {id:Nat} {k:A2},(Ia H ids).get id=some k->BB id ids=true/\H.get id=some k
 |[],id,k,h=>by
  grind [Pc,Ia]
 |a::r,id,k,h=>by unfold Ia at h;unfold BB;split at h;rename_i b hb;have ha:=AHeap.get_lt hb;by_cases e:a=id;subst e;rw [AHeap.get_set_same _ ha]at h;cases h;exact ⟨by rw [Nat.beq_refl],hb⟩;rw [AHeap.get_set_ne _ ha e]at h;obtain ⟨h1,h2⟩:=NO h;exact ⟨by split<;>first|rfl|exact h1,h2⟩;obtain ⟨h1,h2⟩:=NO h;exact ⟨by split<;>first|rfl|exact h1,h2⟩
end
def vl (l:List SI) (KK:Nat->AHeap) (i:Nat) (ps:List (Nat×List Nat)):Prop:=∀j y,l[j]? =some y->j<i->Cq y=false->∃ids,(j,ids)∈ps/\∀id k,(KK j).get id=some k->BB id ids=true
omit [Gl]in
theorem iM {bef:Nat} {t:OO}:∀{ps:List (Nat×List Nat)} {j:Nat} {ids:List Nat},V7 bef t ps=true->(j,ids)∈ps->AW bef j=false->apart t ids=true
 |[],j,ids,_,h,_=>by cases h
 |(i,is)::r,j,ids,hok,h,hb=>by
  obtain ⟨k1,k2⟩:=Au hok;rcases List.mem_cons.1 h with h|h
  .grind
  exact iM k2 h hb
def Gm (l:List SI) (i:Nat):Bool:=match l[i]? with
 |some x=>C0 x
 |none=>false
def Co (l:List SI) (n0 i:Nat):Nat:=n0+(l.take i).countP C0
omit [Gl]in
theorem eT {l:List SI} {n0 i:Nat} {x:SI} (h:l[i]? =some x):Co l n0 (i+1)=K6 x (Co l n0 i):=by
 grind [Co,K6,List.take_add_one]
omit [Gl]in
def YF {bef:Nat} {ids:List Nat}:∀{r:List SI} {i nx:Nat},OD bef ids r i nx=true->∀(k:Nat) (y:SI),r[k]? =some y->C0 y=true->AW bef (i+k)=true\/BB (nx+(r.take k).countP C0) ids=false
 |[],i,nx,_,k,y,hk,_=>by simp at hk
 |z::r,i,nx,h,k,y,hk,hy=>by
  unfold OD at h;cases k with
  |zero=>
   grind
  |succ k=>
   cases hz:C0 z with
   |false=>
    rw [hz]at h;have:=YF h k y hk hy
    grind
   |true=>
    rw [hz]at h;obtain ⟨_,h2⟩:=Au h;have:=YF h2 k y hk hy
    grind
def lF {L:BG} {Af:List Oper} {l:List SI} {b:Nat} (hbl:b<=l.length) {T0:Tm} {K:VS->VT} {n0:Nat}:∀(rest:List SI) (i nx:Nat) (gs:List GW) (ps:List (Nat×List Nat)) (S:VS) (Tr:Tm) (Y:Sy) (ev:Nat->Cr) (G KK:Nat->AHeap),(∀k,k<rest.length->rest[k]? =l[i+k]?)->i+rest.length=b->nx=Co l n0 i->(∀(j:Nat) (x:SI),l[j]? =some x->j<b->C0 x=true->∃q k,NC P x (Co l n0 j)=some (q,k)/\(G 0).get (Co l n0 j)=some k)->Av P c S.n Y->G i=S.H->GsOk l b G i gs->vl l KK i ps->
  (∀t,t<512->Sl l ev T0 (λj=>decide (j<i)) t (Ao Tr t))->Hk Y S.n Tr S.T->(∀j x,l[j]? =some x->j<i->DG P Y.v S.n N Af l b ev T0 G KK (Gm l) (Co l n0) j x)->AC P Q L Y (Mn P N c Af (l.take b) n0 rest i nx gs ps S K)->
  ∃Y' S' Tr' ev' G' KK',Av P c S'.n Y'/\S.n<=S'.n/\AR S.n Y Y'/\S'.lv=S.lv/\S'.D=S.D/\G' b=S'.H/\(∀j,j<=i->G' j=G j)/\Y'.l=Y.l/\(∀t,t<512->Sl l ev' T0 (λj=>decide (j<b)) t (Ao Tr' t))/\Hk Y' S'.n Tr' S'.T/\(∀j x,l[j]? =some x->j<b->DG P Y'.v S'.n N Af l b ev' T0 G' KK' (Gm l) (Co l n0) j x)/\AC P Q L Y' (K S')
 |[],i,nx,gs,ps,S,Tr,Y,ev,G,KK,hr,hi,hnx,hal0,hf,hH,hgs,hps,hsl,hsim,hF,h=>by subst hi;exact ⟨Y,S,Tr,ev,G,KK,hf,za' _,AR.refl _ _,rfl,rfl,hH,λ_ _=>rfl,rfl,hsl,hsim,hF,h⟩
 |x::r,i,nx,gs,ps,S,Tr,Y,ev,G,KK,hr,hi,hnx,hal0,hf,hH,hgs,hps,hsl,hsim,hF,h=>by
  have hx:l[i]? =some x:=(by have:=hr 0 (by simp);grind);have hib:i<b:=(by grind);unfold Mn at h;split at h;exact h.elim;rename_i u hu;have fin:∀S1:VS,S1.n=S.n/\S1.lv=S.lv/\S1.H=S.H/\S1.D=S.D->Hk Y S.n Tr S1.T->AC P Q L Y (Oz P c Af (l.take b) n0 nx x gs ps u (λS'=>Mn P N c Af (l.take b) n0 r (Nat.succ i) (K6 x nx) (P6 x i S1 gs) (P1 x i S1 ps) S' K) S1)->
    ∃Y' S' Tr' ev' G' KK',Av P c S'.n Y'/\S.n<=S'.n/\AR S.n Y Y'/\S'.lv=S.lv/\S'.D=S.D/\G' b=S'.H/\(∀j,j<=i->G' j=G j)/\Y'.l=Y.l/\(∀t,t<512->Sl l ev' T0 (λj=>decide (j<b)) t (Ao Tr' t))/\Hk Y' S'.n Tr' S'.T/\(∀j x,l[j]? =some x->j<b->DG P Y'.v S'.n N Af l b ev' T0 G' KK' (Gm l) (Co l n0) j x)/\AC P Q L Y' (K S'):=by
   intro S1 h1 hs1 hk;obtain ⟨e1,e2,e3,e4⟩:=h1;obtain ⟨Y1,S2,S3,q,e,d⟩:=pG (N:=N) (Tr:=Tr) (by grind) (by grind) hk;have dn:=d.n;have dext:=d.ext;rw [e1]at dn dext;have Gi:e.put=some q:=by rcases d.ev with ⟨_,rfl,rfl,_⟩|⟨rfl,_⟩<;>rfl
   let ev1:Nat->Cr:=λj=>if j=i then e else ev j
   let G1:Nat->AHeap:=λj=>if j=i+1 then S3.H else G j
   let K1:Nat->AHeap:=λj=>if j=i then Na x S1 gs else KK j
   have hev1:ev1 i=e:=Ad rfl;have hold:∀j,j<i->ev1 j=ev j:=λj hj=>Ab (by omega);have hG1:G1 (i+1)=S3.H:=Ad rfl;have hGold:∀j,j<=i->G1 j=G j:=λj hj=>Ab (by omega);have hK1:K1 i=Na x S1 gs:=Ad rfl;have hKold:∀j,j<i->K1 j=KK j:=λj hj=>Ab (by omega);have hGi:G i=S1.H:=hH.trans e3.symm;have hsl1:∀t a,Sl l ev T0 (λj=>decide (j<i)) t a->Sl l ev1 T0 (λj=>decide (j<i)) t a:=λt a h=>h.ev_congr λj hj=>hold j (by grind);have hgs1:GsOk l b G1 i gs:=hgs.congr hGold;have hpres:Cq x=true->∀ids,apart (Hj x (BR S1.T x.rd AP)) ids=true->∀id k,BB id ids=true->S1.H.get id=some k->S3.H.get id=some k:=λhw ids ha id k hid hk=>(by rcases d.ev with ⟨_,_,_,_,h⟩|⟨_,_,⟨_,_,_,h⟩|⟨h,_⟩|⟨_,h,_⟩⟩<;>grind);obtain ⟨Y',S',Tr',ev',G',KK',g1,g2,g3,g4,gd,gG,gGo,g6,g7,g8,g9,g10⟩:=lF hbl r (i+1) (K6 x nx) _ _ S3 (u Tr q) Y1 ev1 G1 K1 (λk hk=>by have:=hr (k+1) (by grind);grind) (by grind) (by grind [eT]) (λj y hy hj ha=>by grind) d.good hG1
    (by
      unfold P6;cases hw:Cq x with
      |false=>
       exact hgs1.keep λhwr=>by
        obtain ⟨y,hy,hy2,_⟩:=hwr
        grind
      |true=>refine ⟨⟨x,hx,hw,hib⟩,zo' i,λj h7 h8=>absurd (show i<j from h7) (by omega),?_,λids ha id k hid hk=>?_,hgs1⟩<;>grind)
    (by
      intro j y hy hj hw;unfold P1;by_cases ej:j=i;subst ej;rw [hx]at hy;cases hy;rw [hw];refine ⟨Jq x S1.T,zh' ..,λid k hk=>?_⟩;rw [hK1]at hk;exact (NO hk).1
      .obtain ⟨ids,q1,q2⟩:=hps j y hy (by omega) hw
       grind)
    (λt ht=>by
     show Sl l ev1 T0 _ t _;rw [lf];obtain ⟨p1,p2⟩:=O7 hu Tr q ht;by_cases ed:x.o.dst=some t
     .grind [Sl.put]
     .rw [p2 ed];refine (hsl1 t _ (hsl t ht)).keep λy hy hd=>?_
      grind)
    (by have:=d.sim.put d.ext d.n hu q;rw [d.t];exact this)
    (λj y hj hlt=>by
     by_cases ej:j=i
     .subst ej;rw [hx]at hj;cases hj;refine ⟨u,BR Tr x.rd AP,BR S2.T x.rd AP,hu,λt ht=>?_,λt ht E v hE hc=>?_,?_⟩
      .grind [OB,K2]
      .rw [OB _ ht]at hc⊢;split;rename_i hm;rw [Ad hm]at hc;exact d.sim t ht E v (λk hk=>(hE k (zl' hk d.n)).trans (d.ext k hk)) hc
       grind
      .rw [hev1,hG1,hGold j (Nat.le_refl _),hGi,hK1];have halj:Gm l j=C0 x:=(by unfold Gm;rw [hx]);rcases d.ev with ⟨hal,rfl,_,hg,e5⟩|⟨rfl,hg,⟨hw,hokw,hop,hm⟩|⟨hal,e5,k,hav⟩|⟨hal,hw,hchk,hokr,e5,hop⟩⟩
       .grind
       .refine .inr ⟨q,rfl,hg,.inl ⟨hw,hop,λj2 y2 hy2 hj2 hw2 hb2 id k hk=>?_⟩⟩;obtain ⟨ids,q1,q2⟩:=hps j2 y2 hy2 hj2 hw2
        grind [iM]
       .obtain ⟨q',k',h1,h2⟩:=hal0 j x hx hib hal;rw [←hnx,hav]at h1;cases h1;unfold NC at hav;split at hav
        .rename_i t ho;split at hav
         .rename_i p hp;split at hav
          .refine .inr ⟨_,rfl,hg,.inr (.inl ⟨hal,e5,p.2,k,?_,?_,?_⟩)⟩<;>simp_all [A3,OC.run]
          cases hav
         cases hav
        cases hav
       .refine .inr ⟨q,rfl,hg,.inr (.inr ⟨hw,halj.trans hal,λj2 hj2 ha2 hb2=>?_,e5,?_,hop,?_⟩)⟩
        .have hyl:∃y2,l[j2]? =some y2:=⟨l[j2],by simp⟩;obtain ⟨y2,hy2⟩:=hyl;have hal2:C0 y2=true:=(by grind [Gm]);cases BU:(Na x S1 gs).get (Co l n0 j2)with
         |none=>rfl
         |some kk=>
          have hm:=(NO BU).1;rcases YF hchk j2 y2 (by grind) hal2 with h|h
          .grind
          grind [Co]
        .obtain ⟨r1,r2⟩:=aZ (Rb x.bef S1.H gs) (Jq x S1.T);show (Ia _ _).hi<=(Ia _ _).next
         omega
        .obtain ⟨lo,q1,q2,q3,q4⟩:=lX (bef:=x.bef) (ids:=Jq x S1.T) hgs1 (λj2 hj2 hn=>by
           obtain ⟨y2,hy2⟩:∃y2,l[j2]? =some y2:=⟨l[j2],by simp⟩;have:=(hF j2 y2 hy2 hj2).keeps (by
            cases hw2:Cq y2 with
            |false=>rfl
            |true=>exact absurd ⟨y2,hy2,hw2,by omega⟩ hn)
           grind) hokr
         refine ⟨lo,λid k hk=>?_,q1,q3,λj2 hj2 h7 h8 id k hk=>q4 j2 hj2 h7 h8 id k (NO hk).1⟩;have:=(NO hk).2
         grind
     .exact (hF j y hj (by omega)).mono dext dn (λk hk=>hold k (by omega)) (λk hk=>hGold k (by omega)) (λk hk=>hKold k (by omega)))
    d.ok
   exact ⟨Y',S',Tr',ev',G',KK',g1,ze' dn g2,dext.trans g3 dn,g4.trans (d.lv.trans e2),gd.trans (d.d.trans e4),gG,λj hj=>(gGo j (by omega)).trans (hGold j hj),g6.trans d.l,g7,g8,g9,g10⟩
  split at h
  .rename_i k hg;obtain ⟨t,ht,h1,h2⟩:=h;cases t with
   |true=>exact fin (S.know k true) ⟨rfl,rfl,rfl,rfl⟩ (hsim.know hf.1 ht) (h1 rfl)
   |false=>exact fin (S.know k false) ⟨rfl,rfl,rfl,rfl⟩ (hsim.know hf.1 ht) (h2 rfl)
  exact fin S ⟨rfl,rfl,rfl,rfl⟩ hsim h
section
omit [Gl]
theorem pu:∀(n:Nat) (l:List SI),Hn n l=l.take n
 |0,_=>by rfl
 |_+1,[]=>by rfl
 |n+1,x::r=>by simp [Hn,pu n r]
theorem l9:∀(n:Nat) (l:List Oper),VH n l=l.drop n
 |0,_=>by rfl
 |_+1,[]=>by rfl
 |n+1,x::r=>by simp [VH,l9 n r]
theorem jj {x:SI}:∀{n:Nat},XC x n=true->∀j,j<n->AW x.bef j=true
 |0,_,j,h=>absurd h (zi' _)
 |n+1,h,j,hj=>by obtain ⟨h1,h2⟩:=Au h;rcases zk' j n with h|h;exact jj h2 j h;have:j=n:=(by omega);subst this;exact h1
def gQ:∀(l:List SI) (i:Nat),i<=HE l i/\HE l i<=i+l.length/\∀k x,l[k]? =some x->HE l i<=i+k->∀j,j<i+k->AW x.bef j=true
 |[],i=>⟨za' _,za' _,λk x hk=>by simp at hk⟩
 |y::r,i=>by
  obtain ⟨h1,h2,h3⟩:=gQ r (i+1);have rest:∀k x,r[k]? =some x->HE r (i+1)<=i+(k+1)->∀j,j<i+(k+1)->AW x.bef j=true:=λk x hk hle j hj=>h3 k x hk (by omega) j (by omega);unfold HE fT;split
  .rename_i hb;obtain ⟨e1,e2⟩:=Au hb;have e1:=zd' e1;refine ⟨za' _,by simp,λk x hk hle=>?_⟩;cases k<;>grind [jj,HE]
  .refine ⟨?_,?_,λk x hk hle=>?_⟩
   .grind
   .grind
   .cases k<;>grind
def dz {x:SI} {i:Nat}:∀{l:List SI},WV x i l=true->∀(j:Nat) (y:SI),l[j]? =some y->Ty x i y=true
 |[],_,j,y,hj=>by simp at hj
 |z::r,h,j,y,hj=>by
  obtain ⟨h1,h2⟩:=Au h;cases j with
  |zero=>simp at hj;subst hj;exact h1
  |succ j=>exact dz (l:=r) h2 j y (by simpa using hj)
def iR:∀{l:List SI} {k:Nat},UM l k=true->∀(i j:Nat) (x y:SI),i<j->l[i]? =some x->l[j]? =some y->Ty x (k+i) y=true
 |[],k,_,i,j,x,y,hij,hi,hj=>by simp at hi
 |z::r,k,h,i,j,x,y,hij,hi,hj=>by
  obtain ⟨h1,h2⟩:=Au h;cases j with
  |zero=>omega
  |succ j=>
   cases i with
   |zero=>simp at hi;subst hi;exact dz h1 j y (by simpa using hj)
   |succ i=>
    have:=iR (k:=k+1) h2 i j x y (by omega) (by simpa using hi) (by simpa using hj)
    rwa [show k+1+i=k+(i+1) by omega]at this
def Ys {bef:Nat}:∀{r:List SI} {i:Nat},ON bef r i=true->∀(k:Nat) (y:SI),r[k]? =some y->C0 y=true->AW bef (i+k)=true
 |[],i,_,k,y,hk,_=>by simp at hk
 |z::r,i,h,k,y,hk,hy=>by
  unfold ON at h;cases k with
  |zero=>
   grind
  |succ k=>
   rw [show i+(k+1)=i.succ+k by omega];cases hz:C0 z with
   |false=>rw [hz]at h;exact Ys h k y hk hy
   |true=>rw [hz]at h;exact Ys (Au h).2 k y hk hy
def Wd {l0:List SI}:∀{r:List SI},NN l0 r=true->∀(k:Nat) (x:SI),r[k]? =some x->Cq x=true->ON x.bef l0 0=true
 |[],_,k,x,hk,_=>by simp at hk
 |z::r,h,k,x,hk,hx=>by
  unfold NN at h;cases k with
  |zero=>
   grind
  |succ k=>
   cases hz:Cq z with
   |false=>rw [hz]at h;exact Wd h k x hk hx
   |true=>rw [hz]at h;exact Wd (Au h).2 k x hk hx
def YE:∀{r:List SI} {H H2:AHeap},Rz P r H=some H2->H.next<=H2.next/\H2.hi=H.hi/\(∀id k,H.get id=some k->H2.get id=some k)/\
  (∀(i:Nat) (x:SI),r[i]? =some x->C0 x=true->Co r H.next i<H2.next/\Co r H.next i<H.hi/\Co r H.next i<Bb/\∃q k,NC P x (Co r H.next i)=some (q,k)/\H2.get (Co r H.next i)=some k)/\
  (∀id k,H2.get id=some k->(∀(i:Nat) (x:SI),r[i]? =some x->C0 x=true->id≠Co r H.next i)->H.get id=some k)
 |[],H,H2,h=>by cases h;simp
 |z::r,H,H2,h=>by
  unfold Rz at h;cases hz:C0 z with
  |false=>
   rw [hz]at h;obtain ⟨h1,h2,h3,h4,h5⟩:=YE h;have he:∀i,Co (z::r) H.next (i+1)=Co r H.next i:=λi=>by grind [Co]
   grind
  |true=>
   rw [hz]at h;simp only at h;split at h;cases h;rename_i hfree;split at h;cases h;rename_i hroom;split at h
   case h_2=>cases h
   rename_i p hp;have htop:=aj hroom;have hlt:H.next<H.hi:=by simp_all [AHeap.room]
   obtain ⟨h1,h2,h3,h4,h5⟩:=YE h;have hnx:(H.push p.2).next=H.next+1:=rfl
   have hhi:(H.push p.2).hi=H.hi:=rfl;have hps:(H.push p.2).get H.next=some p.2:=AHeap.get_push_same H htop _;have hpn:∀id,H.next≠id->(H.push p.2).get id=H.get id:=λid hne=>AHeap.get_push_ne H htop hne _;have he:∀i,Co (z::r) H.next (i+1)=Co r (H.push p.2).next i:=λi=>by grind [Co]
   have he0:Co (z::r) H.next 0=H.next:=by rfl
   grind
def u7 {l:List SI} {n0 i j:Nat} (h:i<=j):Co l n0 i<=Co l n0 j:=by
 unfold Co;have:(l.take i).Sublist (l.take j):=by
  rw [show l.take i=(l.take j).take i by grind]
  grind
 grind
def tF {l:List SI} {n0 i j:Nat} (hi:Gm l i=true) (hj:Gm l j=true) (h:Co l n0 i=Co l n0 j):i=j:=by
 have key:∀a b,Gm l a=true->a<b->Co l n0 a<Co l n0 b:=λa b ha hab=>by
  unfold Gm at ha;split at ha
  .rename_i x hx;have h1:=eT (n0:=n0) hx;unfold K6 at h1;have h2:=u7 (l:=l) (n0:=n0) (show a+1<=b by omega)
   grind
  cases ha
 rcases Nat.lt_trichotomy i j with h'|h'|h'<;>grind
end
def sb_ {fuel:Nat} {I:C3 P fuel} (hm:P.follows .mixedOrders=true) (hc:Cj P (CL P fuel)) {L:BG} {Af:Array Oper} {id:Nat} {S:VS} {Y:Sy} {X:VX->VT} {K:VS->VT} (hL:L.length=S.lv) (hf:Av P c S.n Y) (h:AC P Q L Y (Re P N fuel I c Af.toList S X K)):
  ∀(B:World) (pr:Nat->Prop) (E:Ag) (a:Act) (w:World),E.At Y->St P B pr N E S.T S.H S.D a w->(Code.region id Af true).wp P (Bp P B pr N c.k E (DH (kV P Q c L S.n Y K) (xV P Q c L S.n Y X))) a w:=by
 intro B pr E a w hy st;unfold Re at h;split at h
 case h_2=>exact h.elim
 rename_i l n hpl;obtain ⟨hP,_⟩:=bo hpl;simp only at h;split at h
 case h_2=>exact h.elim
 rename_i htwo;obtain ⟨htwo,hwrs⟩:=Au htwo;split at h
 case h_2=>exact h.elim
 rename_i HH hHH;obtain ⟨_,hb2,hb3⟩:=gQ l 0;simp only [Cu]at hb2 hb3;rw [pu]at htwo hwrs hHH h;simp only [l9]at h;generalize HE l 0=b at h hb2 hb3 htwo hwrs hHH;obtain ⟨a1,a2,a3,a4,a5⟩:=YE hHH;have htk:∀i,i<b->(l.take b)[i]? =l[i]? :=λi hi=>List.getElem?_take_of_lt hi;have hid:∀i,i<b->Co (l.take b) S.H.next i=Co l S.H.next i:=λi hi=>by grind [Co]
 have halx:∀i x,l[i]? =some x->Gm l i=C0 x:=λi x hx=>by unfold Gm;rw [hx]
 have hxat:∀i,i<b->∃x,l[i]? =some x:=λi hi=>⟨l[i],by simp⟩
 have hA:JO l b (Gm l) (Co l S.H.next) S.H HH:={
  nx:=a1
  hi:=a2
  rng:=λj hj ha=>by obtain ⟨x,hx⟩:=hxat j hj;obtain ⟨q1,q2,q3,_⟩:=a4 j x (by grind) (by grind);rw [hid j hj]at q1 q2 q3;exact ⟨zf' _ _,q1,q2,q3⟩
  inj:=λi j _ _ hi hj h=>tF hi hj h
  old:=a3
  new:=λid k hk hn=>a5 id k hk λi x hi hx=>by
   grind
  wr:=λi j x hx hi hw hj ha=>by
   obtain ⟨y,hy⟩:=hxat j hj;have:=Ys (Wd hwrs i x (by grind) hw) j y (by grind) (by grind)
   grind
  is:=halx }
 have hat:∀k,k<(l.take b).length->(l.take b)[k]? =l[0+k]? :=λk hk=>by
  grind
 have h2:∀(i j:Nat) (x y:SI),i<j->j<b->l[i]? =some x->l[j]? =some y->Cq x=true->Cq y=true->AW y.bef i=true:=λi j x y hij hjb hi hj hwx hwy=>by have:=iR (k:=0) htwo i j x y hij (by grind) (by grind);simp_all [Ty]
 obtain ⟨Y',S',Tr',ev',G',KK',g1,g2,g3,g4,gd,gG,gGo,g6,g7,g8,g9,g10⟩:=lF (N:=N) (b:=b) hb2 (T0:=S.T) (n0:=S.H.next) (l.take b) 0 S.H.next [] [] ⟨S.T,HH,S.n,S.lv,S.D⟩ S.T Y (λ_=>.gone) (λ_=>HH) (λ_=>HH) hat (by grind) (by rfl)
  (λj x hx hj ha=>by
   obtain ⟨_,_,_,q,k,q4,q5⟩:=a4 j x (by grind) ha
   grind) hf rfl (λj hj=>absurd hj (zi' _)) (λj _ _ hj=>absurd hj (zi' _)) (λt ht=>.inl ⟨rfl,λj x _ hs=>by simp at hs⟩) (λt _ E v _ h=>h) (λj x _ hj=>absurd hj (zi' _)) h
 have hv:∀i x,E.sy i=some x->Y'.v i=some x:=λi x hx=>by
  rw [hy.v]at hx;have hi:i<S.n:=by rcases zk' i S.n with h|h;exact h;rw [hf.1.2 i h]at hx;cases hx
  rw [g3 i hi];exact hx
 have hll:∀i x,E.syl i=some x->Y'.l i=some x:=λi x hx=>by rw [g6,←hy.l];exact hx
 have hlo:∀i,i<64->Y'.v i=E.sy i:=λi hi=>by rw [hy.v];exact g3 i (by have:=hf.1.1;grind)
 have st1:=st.with hv hll hlo;have hy1:(E.with Y').At Y':=⟨rfl,rfl,hy.res⟩;refine pF (s:=Y'.v) (m:=S'.n) (id:=id) (b:=b) (G:=G') hm hpl (λk _=>rfl) g9 h2 hb2 hb3 (Tf:=S'.T) (λt ht=>⟨_,g7 t ht,λE v hE hc=>g8 t ht E v hE hc⟩) (H00:=S.H) (al:=Gm l) (idf:=Co l S.H.next) (by grind) (λE' a w hle st'=>?_) st1;rw [gG,←gd]at st';have:=UU Af (Af.toList.drop b) Y' S'.T S'.H S'.D _ _ (Sp hm hc (Af.toList.drop b) S' Y' (by grind) g1 g10) B pr E' a w (hy1.le hle) st';refine AZ (λe a w hq=>?_) _ _ _ this;obtain ⟨Y2,r,hr,hq⟩:=hq;refine ⟨Y2,r,aB (λ_ _ _ _ hk=>SZ (zb' L) g2 g3 hk) (λ_ _ hx=>Jz (zb' L) g2 g3 hx) hr,hq.le ((Ag.with_leF c.k hlo).trans (hle.leF c.k))⟩
end
end Go.Sx
namespace Go.Sx
theorem Oper.wp_mono3 {P:Program} {o:Oper} {a:Act} {w:World} {K K':Act->World->Prop} {Q Q':Exit->Act->World->Prop} (h:∀a w,K a w->K' a w) (hq:∀e a w,e≠ .normal->Q e a w->Q' e a w)
  (hh:o.wp P a w K Q):o.wp P a w K' Q':=by
 unfold Oper.wp at*;generalize (execOp a.eval o).run P w=r at*;cases r with
 |ok n w'=>
  cases n<;>simp only [Oper.upon]at hh⊢<;>
   first|exact h _ _ hh|exact Calls.mono hh (λe w'' he=>by cases e<;>first|exact h _ _ he|exact hq _ _ _ (λe=>by cases e) he|exact he.imp λ_ hx=>hx.imp λ_ hy=>hq _ _ _ (λe=>by cases e) hy)|exact Rows.mono hh (λ_ _ he=>h _ _ he)
 |halt x w'=>cases x<;>simp only [Oper.upon]at hh⊢<;>first|exact hh|exact hq _ _ _ (λe=>by cases e) hh
theorem Vv {m:Nat}:∀{l:List Edge},Ld m l=true↔∀e∈l,Region.binds .any e=true->AW m e.on=true
 |[]=>by simp [Ld]
 |e::r=>by
  unfold Ld;rw [Yt];cases hb:Region.binds .any e with
  |true=>simp [Vv (l:=r),hb]
  |false=>simp [Vv (l:=r),hb]
def bw {m:Nat}:∀{l:List Oper} {k:Nat} {x:Gk},x∈Ii m l k↔∃j,x.i=k+j/\l[j]? =some x.o/\AW m x.i=false/\∀e∈x.o.after,Region.binds .any e=true->AW m e.on=true
 |[],k,x=>by simp [Ii]
 |o::r,k,x=>by
  have ih:=bw (m:=m) (l:=r) (k:=Nat.succ k) (x:=x);have key:(∃j,x.i=k+j/\(o::r)[j]? =some x.o/\AW m x.i=false/\∀e∈x.o.after,Region.binds .any e=true->AW m e.on=true)↔
    (x.i=k/\o=x.o/\AW m x.i=false/\∀e∈x.o.after,Region.binds .any e=true->AW m e.on=true)\/x∈Ii m r (Nat.succ k):=by
   rw [ih];constructor
   .grind
   .rintro (⟨h1,h2,h3⟩|⟨j,h1,h2,h3⟩);simp_all
    exact ⟨j+1,by omega,by grind,h3⟩
  rw [key];have eq:Ii m (o::r) k=(match not (AW m k)&&Ld m o.after.toList with
   |true=>⟨k,o⟩::Ii m r (Nat.succ k)
   |false=>Ii m r (Nat.succ k)):=rfl
  rw [eq];cases hb:(not (AW m k)&&Ld m o.after.toList)with
  |true=>
   simp only [CE];have hb':AW m k=false/\∀e∈o.after,Region.binds .any e=true->AW m e.on=true:=by simp_all [Vv]
   constructor
   .grind
   .rintro (⟨h1,h2,h3⟩|h)
    .obtain ⟨i,o'⟩:=x
     grind
    grind
  |false=>
   grind [Vv]
theorem gN {i:Nat}:∀{l:List Edge},TY i l=true->∃e∈l,Region.binds .any e=true/\e.on=i
 |[],h=>by cases h
 |e::r,h=>by unfold TY at h;split at h<;>simp_all [Yt,gN]
theorem jr {t:Nat}:∀{l:List Operand},Operand.tmp t∈l->t∈Jy l
 |[],h=>by simp at h
 |x::r,h=>by
  rcases List.mem_cons.1 h with h|h;subst h;unfold Jy;exact zh'
  .have ih:=jr h;cases x<;>unfold Jy<;>first|exact zj' _ ih|exact ih
def qa {t:Nat} {l:List Nat} (h:BB t l=false):t∉l:=by grind [SL]
def u6 {Af:Array Oper} {o:Oper} {d:Nat} (h:d∈o.looksAt Af):d∈JB Af.toList o:=by
 unfold JB;rcases List.mem_append.1 h with h|h
 .grind [jr]
 .split at h
  .grind [X4]
  simp at h
def zm {Af:Array Oper} {x y:Oper} (h:EH Af.toList x y=true):x.apart Af y=true:=by
 unfold EH at h;unfold Oper.apart;have key:∀(o:Oper) (d:Nat),BB d (JB Af.toList o)=false->(o.looksAt Af).contains d=false:=λo d hm=>by
  cases hc:(o.looksAt Af).contains d with
  |false=>rfl
  |true=>exact absurd (u6 (by grind)) (qa hm)
 cases hx:x.dst with
 |none=>
  grind
 |some d=>
  cases hy:y.dst with
  |none=>
   grind
  |some e=>
   simp only [hx,hy,Bool.and_eq_true,Bool.not_eq_true']at h⊢;obtain ⟨⟨h1,h2⟩,h3⟩:=h;have:d≠e:=λhde=>by simp_all
   grind
def dG {all:List Oper} {m i:Nat} {x:Oper}:∀{l:List Oper} {k:Nat},TB all m i x l k=true->∀(j:Nat) (y:Oper),l[j]? =some y->k+j≠i->AW m (k+j)=false->(∀e∈y.after,Region.binds .any e=true->e.on≠i)->EH all x y=true
 |[],k,h,j,y,hj,_,_,_=>by simp at hj
 |o::r,k,h,j,y,hj,h1,h2,h3=>by
  obtain ⟨h,hr⟩:=Au h;cases j with
  |zero=>
   grind [zd',gN]
  |succ j=>exact dG hr j y (by simpa using hj) (by rw [show Nat.succ k+j=k+(j+1) by omega];exact h1) (by rw [show Nat.succ k+j=k+(j+1) by omega];exact h2) h3
def lz:∀{l:List Oper},P9 l=true->∀(j:Nat) (o:Oper) cs b,l[j]? =some o->o.op≠ .select cs b
 |[],h,j,o,cs,b,hj,_=>by simp at hj
 |x::r,h,j,o,cs,b,hj,ho=>by
  unfold P9 at h;cases j with
  |zero=>simp at hj;subst hj;rw [ho]at h;cases h
  |succ j=>split at h;cases h;exact lz h j o cs b (by simpa using hj) ho
def ae {N:Nat}:∀{l:List Oper},SV N l=true->∀o∈l,∀d,o.dst=some d->d<N
 |[],h,o,ho,_,_=>by simp at ho
 |x::r,h,o,ho,d,hd=>by
  obtain ⟨h1,h2⟩:=Au h;rcases List.mem_cons.1 ho with rfl|ho;simp_all
  exact ae h2 o ho d hd
def XZ:∀(l:List Oper) (T:Tm) (t:Nat),t<512->(∀o∈l,∀d,o.dst=some d->d<512)->Ao (HY l T) t=Ao T t\/Ao (HY l T) t=.opq
 |[],T,t,_,_=>.inl rfl
 |o::r,T,t,ht,hd=>by
  have hr:∀o∈r,∀d,o.dst=some d->d<512:=λo ho=>hd o (zj' _ ho);unfold HY;cases ho:o.dst with
  |none=>exact XZ r T t ht hr
  |some d=>have hd':=hd o zh' d ho;simp only;rcases XZ r (D9 T d .opq) t ht hr with h|h;by_cases e:d=t;subst e;rw [GD T ht]at h;exact .inr h;rw [Fm T ht hd' e]at h;exact .inl h;exact .inr h
def TP:∀(l:List Oper) (T:Tm) (d:Nat),(∀o∈l,∀d,o.dst=some d->d<512)->((∃o∈l,o.dst=some d)\/(d<512/\Ao T d=.opq))->Ao (HY l T) d=.opq
 |[],T,d,_,h=>by simp_all [HY]
 |o::r,T,d,hd,h=>by
  have hr:∀o∈r,∀d,o.dst=some d->d<512:=λo ho=>hd o (zj' _ ho);unfold HY;cases ho:o.dst with
  |none=>
   refine TP r T d hr ?_
   grind
  |some e=>
   have he:=hd o zh' e ho;by_cases hde:e=d;subst hde;exact TP r _ e hr (.inr ⟨he,GD T he _⟩)
   .refine TP r _ d hr ?_;rcases h with ⟨o',h1,h2⟩|h
    .grind
    grind [Fm]
section
variable [Gl]
def yr {P:Program} {Af:Array Oper} {N:Nat} {E:Ag} {T:Tm} {a:Act} {o:Oper} {q:AV} (h:Sg P T o=some q) (ht:Bf E N T a.tmps):
  ∃v,Yields P Af o v a/\Ac E q v:=by
 obtain ⟨dst,op,type,pos,after,guard⟩:=o;unfold Sg at h;cases guard with
 |some g=>cases h
 |none=>
  simp only at h;split at h;rename_i x;cases h;exact ⟨a.eval x,.inl ⟨rfl,λw=>by rfl⟩,ht.look x⟩;rename_i x;split at h;rename_i id off hx;cases h;have hc:=ht.look x;rw [hx]at hc;have hc':=hc;obtain ⟨b,o,h1,h2⟩:=hc;exact ⟨a.eval x,.inl ⟨rfl,λw=>by simp [execOp,h2]⟩,hc'⟩;cases h
  .rename_i s x f;split at h
   .rename_i id off hx;have hc:=ht.look x;rw [hx]at hc;unfold Hd at h;split at h
    .rename_i fields hd;split at h
     .rename_i fl hfl;split at h;split at h;cases h;cases h;obtain ⟨b,o,hφ,h2⟩:=hc;refine ⟨.pointer (some ⟨b,o+(off+fl.offset),none⟩),.inl ⟨rfl,λw=>?_⟩,by simp only [Ac];grind⟩;simp_all [execOp,Instr.fieldAt,run_underlying,Instr.sureAddr,fieldPlace,DK,Addr.add_lit]
      cases h
     cases h
    cases h
   cases h
  rename_i x i;split at h;rename_i cs hx;have hc:=ht.look x;rw [hx]at hc;obtain ⟨vs,h2,hL⟩:=hc;rw [Pi]at h;obtain ⟨u,hu,hcu⟩:=hL.at i q h;exact ⟨u,.inl ⟨rfl,λw=>by simp [execOp,h2,Instr.extract,hu]⟩,hcu⟩;cases h;cases h
def XB (Af:List Oper) (X:XP):XP:=λY r=>match r with
 | .pan v T H D=>(∀o∈Af,∀d,o.dst=some d->Ao T d=.opq)/\X Y (.pan v T H D)
 |r=>X Y r
omit [Gl]in
def pU {Af:List Oper} {K:KP} {X:XP} {Y:Sy} {r:A7} (h:DH K (XB Af X) Y r):DH K X Y r:=by
 cases r with
 |pan v T H D=>exact h.2
 |norm T H D=>exact h
 |exit i T H D=>exact h
 |ret T H D=>exact h
section
variable {P:Program} {N:Nat} {Q:AV->Prop} {fuel:Nat} {I:C3 P fuel} {c:VC}
def uK {B:World} {pr:Nat->Prop} {k:Nat} {E:Ag} {Af:Array Oper} {K:KP} {X:XP} {o:Oper} (ho:o∈Af.toList) (hd:∀d,o.dst=some d->d<N) {v:Value} {ch:List PanicEntry} {a:Act} {w:World}
  (h:Bp P B pr N k E (DH K (XB Af.toList X)) (.panic ch) (a.put o.dst v) w):Bp P B pr N k E (DH K (XB Af.toList X)) (.panic ch) a w:=by
 obtain ⟨Y,r,h1,E',h2,h3,h4⟩:=h;cases r with
 |norm T H D=>cases h4.1
 |exit i T H D=>cases h4.1
 |ret T H D=>cases h4.1
 |pan u T H D=>
  obtain ⟨u',h5,h6,st⟩:=h4;refine ⟨Y,.pan u T H D,h1,E',h2,h3,u',h5,h6,?_,st.r,?_⟩
  .refine ⟨?_,st.t.le,λt ht=>?_,st.t.gl⟩
   .have:=st.t.size;cases hdst:o.dst<;>grind [Act.put]
   .have:=st.t.con t ht;cases hdst:o.dst with
    |none=>rw [hdst]at this;exact this
    |some d=>by_cases e:t=d;subst e;rw [h1.1 o ho t hdst];simp [Ac];simp_all [Act.put,Ne.symm]
  .have:=st.d;cases hdst:o.dst with
   |none=>rw [hdst]at this;exact this
   |some d=>rw [hdst]at this;exact this
section
omit [Gl]
theorem oB:∀{a b:List (Nat×AV)},Rr a b=true->a=b
 |[],[],_=>rfl
 |(i,a)::r,(j,b)::s,h=>by obtain ⟨h1,h⟩:=Au h;obtain ⟨h2,h3⟩:=Au h;rw [AF h1,Dz h2,oB h3]
 |[],_::_,h=>by simp [Rr]at h
 |_::_,[],h=>by simp [Rr]at h
theorem jC:∀{a b:List (Nat×List AV)},Pt a b=true->a=b
 |[],[],_=>rfl
 |(i,a)::r,(j,b)::s,h=>by obtain ⟨h1,h⟩:=Au h;obtain ⟨h2,h3⟩:=Au h;rw [AF h1,Fv h2,jC h3]
 |[],_::_,h=>by simp [Pt]at h
 |_::_,[],h=>by simp [Pt]at h
def ZA:∀{a b:Option Nat},MC a b=true->a=b
 |none,none,_=>rfl
 |some a,some b,h=>by grind [MC,zd']
 |none,some _,h=>by simp [MC]at h
 |some _,none,h=>by simp [MC]at h
def mB:∀{a b:List (Option Nat)},Pa a b=true->a=b
 |[],[],_=>rfl
 |a::r,b::s,h=>by obtain ⟨h1,h2⟩:=Au h;rw [ZA h1,mB h2]
 |[],_::_,h=>by simp [Pa]at h
 |_::_,[],h=>by simp [Pa]at h
theorem iL:∀{a b:List (Nat×Nat)},M6 a b=true->a=b
 |[],[],_=>rfl
 |(i,a)::r,(j,b)::s,h=>by obtain ⟨h1,h⟩:=Au h;obtain ⟨h2,h3⟩:=Au h;rw [AF h1,AF h2,iL h3]
 |[],_::_,h=>by simp [M6]at h
 |_::_,[],h=>by simp [M6]at h
theorem fU:∀{a b:List TA},O8 a b=true->a=b
 |[],[],_=>rfl
 |⟨a,b,c,d,e⟩::r,⟨a',b',c',d',e'⟩::s,h=>by obtain ⟨h1,h⟩:=Au h;obtain ⟨h2,h⟩:=Au h;obtain ⟨h3,h⟩:=Au h;obtain ⟨h4,h⟩:=Au h;obtain ⟨h5,h6⟩:=Au h;rw [AF h1,AF h2,AF h3,AF h4,ZA h5,fU h6]
 |[],_::_,h=>by simp [O8]at h
 |_::_,[],h=>by simp [O8]at h
def nN:∀{a b:BH},Tk a b=true->a=b
 |⟨a,b,c,d,e,f,g⟩,⟨a',b',c',d',e',f',g'⟩,h=>by
  simp only [Tk]at h
  grind [oB,jC,zd',fU,iL]
def eO:∀{a b:List (Bool×BH)},Rk a b=true->a=b
 |[],[],_=>rfl
 |(i,a)::r,(j,b)::s,h=>by obtain ⟨h1,h⟩:=Au h;obtain ⟨h2,h3⟩:=Au h;rw [eq_of_beq h1,nN h2,eO h3]
 |[],_::_,h=>by simp [Rk]at h
 |_::_,[],h=>by simp [Rk]at h
def zM:∀{a b:FT},fq a b=true->a=b
 |⟨a,b,c⟩,⟨a',b',c'⟩,h=>by obtain ⟨h1,h⟩:=Au h;obtain ⟨h2,h3⟩:=Au h;rw [AF h1,nN h2,eO h3]
def yV {a b:XOp} (h:WA a b=true):a=b:=by
 unfold WA at h;split at h<;>first
  |cases h;done
  |rfl
  |(try simp only [Bool.and_eq_true,AH,beq_iff_eq]at h
    first
     |(obtain ⟨h1,h2,h3,h4⟩:=h;rw [h1,AF h2,h3,h4])
     |(obtain ⟨h1,h2,h3,h4⟩:=h;rw [AF h1,AF h2,AF h3,AF h4])
     |(obtain ⟨h1,h2,h3⟩:=h;rw [AF h1,h2,h3])
     |(obtain ⟨h1,h2,h3⟩:=h;rw [AF h1,AF h2,AF h3])
     |(obtain ⟨h1,h2,h3⟩:=h;rw [AF h1,AF h2,Fv h3])
     |(obtain ⟨h1,h2⟩:=h;rw [AF h1,AF h2])
     |rw [h]
     |rw [AF h])
def ux {a b:Dl} (h:Xz a b=true):a=b:=by
 unfold Xz at h;split at h<;>first|cases h;done|(obtain ⟨h1,h2⟩:=Au h;rw [AF h1,AF h2])|rw [AF h]
end
omit [Gl]in
mutual
theorem Jx:∀{a b:VT},Em a b=true->a=b
 | .bad,_,h=>by simp [Em]at h
 | .done v,b,h=>by cases b<;>simp only [Em]at h<;>first|cases h;done|rw [Dz h]
 | .ite i a1 a2,b,h=>by
   cases b<;>simp only [Em]at h<;>first|cases h;done|skip
   obtain ⟨h1,h⟩:=Au h;obtain ⟨h2,h3⟩:=Au h;rw [AF h1,Jx h2,Jx h3]
 | .lt o l n m t,b,h=>by
   cases b<;>simp only [Em]at h<;>first|cases h;done|skip
   obtain ⟨h1,h⟩:=Au h;obtain ⟨h2,h⟩:=Au h;obtain ⟨h3,h⟩:=Au h;obtain ⟨h4,h5⟩:=Au h;rw [yV h1,Fv h2,AF h3,ZA h4,Jx h5]
 | .call f l n sh t,b,h=>by
   cases b<;>simp only [Em]at h<;>first|cases h;done|skip
   obtain ⟨h1,h⟩:=Au h;obtain ⟨h2,h⟩:=Au h;obtain ⟨h3,h⟩:=Au h;obtain ⟨h4,h5⟩:=Au h;rw [AF h1,Fv h2,AF h3,mB h4,Jx h5]
 | .loop n j hv bs,b,h=>by
   cases b<;>simp only [Em]at h<;>first|cases h;done|skip
   obtain ⟨h1,h⟩:=Au h;obtain ⟨h2,h⟩:=Au h;obtain ⟨h3,h4⟩:=Au h;rw [AF h1,AF h2,Fv h3,ar h4]
 | .again l j hv,b,h=>by
   cases b<;>simp only [Em]at h<;>first|cases h;done|skip
   grind [zd',Fv]
 | .chk c t,b,h=>by
   cases b<;>simp only [Em]at h<;>first|cases h;done|skip
   obtain ⟨h1,h2⟩:=Au h;rw [ux h1,Jx h2]
 | .callF f ft hv n bs,b,h=>by
   cases b<;>simp only [Em]at h<;>first|cases h;done|skip
   obtain ⟨h1,h⟩:=Au h;obtain ⟨h2,h⟩:=Au h;obtain ⟨h3,h⟩:=Au h;obtain ⟨h4,h5⟩:=Au h;rw [AF h1,zM h2,Fv h3,AF h4,ar h5]
 | .both a1 a2,b,h=>by
   cases b<;>simp only [Em]at h<;>first|cases h;done|skip
   obtain ⟨h1,h2⟩:=Au h;rw [Jx h1,Jx h2]
theorem ar:∀{a b:Hp},OG a b=true->a=b
 | .nil,b,h=>by
   grind [OG]
 | .cons n t r,b,h=>by
   cases b<;>simp only [OG]at h<;>first|cases h;done|skip
   obtain ⟨h1,h⟩:=Au h;obtain ⟨h2,h3⟩:=Au h;rw [AF h1,Jx h2,ar h3]
end
def yJ {L:BG} {Y:Sy} {a b:VT} (h:AC P Q L Y (YY a b)):AC P Q L Y a/\AC P Q L Y b:=by
 grind [YY,Jx,AC]
def ob {L:BG} {Y:Sy} {f:Gk->VT}:∀{l:List Gk} {x:Gk},AC P Q L Y (VZ f x l)->∀y,y∈x::l->AC P Q L Y (f y)
 |[],x,h,y,hy=>by simp_all [VZ]
 |z::r,x,h,y,hy=>by have h:=yJ h;rcases List.mem_cons.1 hy with rfl|hy;exact h.1;exact ob h.2 y hy
def Xu {all:List Oper} {m:Nat} {T:Tm}:∀{l:List Gk} {q:MV},QW P all m T l=some q->q.x∈l/\Sg P T q.x.o=some q.a/\TB all m q.x.i q.x.o all 0=true
 |[],q,h=>by cases h
 |x::r,q,h=>by unfold QW at h;split at h;rename_i a ha;split at h;rename_i hf;cases h;exact ⟨zh',ha,hf⟩;obtain ⟨h1,h2⟩:=Xu h;exact ⟨zj' _ h1,h2⟩;obtain ⟨h1,h2⟩:=Xu h;exact ⟨zj' _ h1,h2⟩
def X2 (hm:P.follows .mixedOrders=true) (hc:Cj P (CL P fuel)) {Af:Array Oper} {X:VX->VT} {K:VS->VT} (hs:P9 Af.toList=true) (hd:SV N Af.toList=true) (hN:N<=512) {L0:BG} {n0:Nat} {Y0:Sy} {B:World} {pr:Nat->Prop} {E0:Ag}:
  ∀(k m:Nat) (S:VS) (Y:Sy) (L:BG),L.length=S.lv->Av P c S.n Y->L0 <+: L->n0<=S.n->AR n0 Y0 Y->AC P Q L Y (LP P N fuel I c Af.toList (Od Af.toList X) K k m S)->
   ∀(f:Nat) (listed:Array Bool) (E:Ag) (a:Act) (w:World),listed.size=Af.size->listed.toList.countP (· ==false)<=f->(∀j,listed.getD j false=AW m j)->E0.leF c.k E->E.At Y->St P B pr N E S.T S.H S.D a w->
    wpAny P .any Af (Bp P B pr N c.k E0 (DH (kV P Q c L0 n0 Y0 K) (XB Af.toList (xV P Q c L0 n0 Y0 X)))) f listed a w
 |0,m,S,Y,L,_,_,_,_,_,h=>by exact h.elim
 |k+1,m,S,Y,L,hL,hf,hpre,hn0,hext,h=>by
  intro f listed E a w hsz hcnt hl hle hy st;have hd512:∀o∈Af.toList,∀d,o.dst=some d->d<512:=λo ho d hdst=>zl' (ae hd o ho d hdst) hN;have hmem:∀i,i∈Region.ready .any Af listed->∃x:Gk,x.i=i/\x∈Ii m Af.toList 0/\Af[i]? =some x.o:=λi hi=>by
   obtain ⟨h1,o,h2,h3⟩:=mem_ready.1 hi;have hlt:i<Af.size:=(Array.getElem?_eq_some_iff.1 h2).1;have hg:listed.getD i false=false:=by
    grind
   refine ⟨⟨i,o⟩,rfl,bw.2 ⟨i,(Cu i).symm,by grind,by grind,λe he hb=>by grind⟩,h2⟩
  have hrdy:∀x:Gk,x∈Ii m Af.toList 0->x.i∈Region.ready .any Af listed/\Af[x.i]? =some x.o/\∃hlt:x.i<listed.size,listed[x.i]=false:=λx hx=>(by obtain ⟨j,h1,h2,h3,h4⟩:=bw.1 hx;rw [Nat.zero_add]at h1;subst h1;have ho:Af[x.i]? =some x.o:=(by grind);have hlt:x.i<Af.size:=(Array.getElem?_eq_some_iff.1 ho).1;have hg:listed.getD x.i false=false:=(by grind);simp_all [mem_ready]);have Db:∀x:Gk,x.i<listed.size->∀j,(listed.setIfInBounds x.i true).getD j false=AW (Lu m x.i) j:=λx hlt j=>by
   have:=congrFun (Pb (listed:=listed) (i:=x.i) hlt) j;rw [this];unfold plus Lu;rw [aP,cE]
   grind
  unfold LP at h;split at h
  .rename_i AE;have hr0:Region.ready .any Af listed=[]:=by simp_all [List.eq_nil_iff_forall_not_mem]
   refine wpAny_done hr0 ?_ f;exact ⟨Y,.norm S.T S.H S.D,⟨S.n,S.lv,L,hpre,hL,hn0,hext,hf,h⟩,E,hle,hy,rfl,st⟩
  .rename_i x0 r0 hcons;obtain ⟨hr1,ho1,hlt1,hg1⟩:=hrdy x0 (by grind);obtain ⟨f',rfl⟩:∃f',f=f'+1:=by have:=VP hlt1 hg1;exact ⟨f-1,by omega⟩
   split at h
   .rename_i q hq;obtain ⟨q1,q2,q3⟩:=Xu hq;rw [←hcons]at q1;obtain ⟨hr2,ho2,hlt2,hg2⟩:=hrdy q.x q1;split at h
    .rename_i u hu;obtain ⟨v,hv1,hv2⟩:=yr (Af:=Af) q2 st.t;have hmo:q.x.o∈Af.toList:=by
      grind
     refine wpAny_first ho2 (λj o cs b ho=>lz hs j o cs b (by grind)) (λch a w hp=>uK hmo (λd hdst=>ae hd _ hmo d hdst) hp) f' listed a w (λj oj hj hji hun hno=>?_) hr2 hv1 ?_
     .refine zm (dG q3 j oj (by grind) (by omega) ?_ hno)
      grind
     .refine X2 hm hc hs hd hN k (Lu m q.x.i) ⟨u S.T q.a,S.H,S.n,S.lv,S.D⟩ Y L hL hf hpre hn0 hext h f' _ E _ w (by grind) ?_ (Db q.x hlt2) hle hy ⟨st.t.put hu hv2,st.r,?_⟩
      .grind
      have:(a.put q.x.o.dst v).defers=a.defers:=(by unfold Act.put;split<;>rfl);rw [this];exact st.d
    exact h.elim
   .have h:=ob h;refine wpAny_all (rs:=Region.ready .any Af listed) rfl (λAE=>by grind) λi hi=>?_;obtain ⟨x,rfl,hx,ho⟩:=hmem i hi;obtain ⟨_,_,hlt,hg⟩:=hrdy x hx;have hx':=h x (by grind);have hw:=UU Af [x.o] Y S.T S.H S.D _ _ (Sp hm hc [x.o] S Y hL hf hx') B pr E a w hy st;have next:∀(a:Act) (w:World),Bp P B pr N c.k E (DH (kV P Q c L S.n Y λS'=>LP P N fuel I c Af.toList (Od Af.toList X) K k (Lu m x.i) S') (xV P Q c L S.n Y (Od Af.toList X))) .normal a w->
      wpAny P .any Af (Bp P B pr N c.k E0 (DH (kV P Q c L0 n0 Y0 K) (XB Af.toList (xV P Q c L0 n0 Y0 X)))) f' (listed.setIfInBounds x.i true) a w:=by
     intro a w hq;obtain ⟨Y',r,g1,E',g2,g3,g4⟩:=hq;cases r with
     |norm T H D=>
      obtain ⟨n',lv,L',p1,p2,p3,p4,p5,p6⟩:=g1;refine X2 hm hc hs hd hN k (Lu m x.i) ⟨T,H,n',lv,D⟩ Y' L' p2 p5 (hpre.trans p1) (ze' hn0 p3) (hext.trans p4 hn0) p6 f' _ E' a w (by grind) ?_ (Db x hlt) (hle.trans g2) g3 g4.2
      grind
     |exit i T H D=>cases g4.1
     |ret T H D=>cases g4.1
     |pan v T H D=>grind
    have outs:∀(e:Exit) (a:Act) (w:World),e≠ .normal->Bp P B pr N c.k E (DH (kV P Q c L S.n Y λS'=>LP P N fuel I c Af.toList (Od Af.toList X) K k (Lu m x.i) S') (xV P Q c L S.n Y (Od Af.toList X))) e a w->
      Bp P B pr N c.k E0 (DH (kV P Q c L0 n0 Y0 K) (XB Af.toList (xV P Q c L0 n0 Y0 X))) e a w:=by
     intro e a w he hq;obtain ⟨Y',r,g1,E',g2,g3,g4⟩:=hq;cases r with
     |norm T H D=>grind
     |exit i T H D=>have g1':xV P Q c L S.n Y X Y' (.exit i T H D):=g1;exact ⟨Y',.exit i T H D,Jz hpre hn0 hext g1',E',hle.trans g2,g3,g4⟩
     |ret T H D=>have g1':xV P Q c L S.n Y X Y' (.ret T H D):=g1;exact ⟨Y',.ret T H D,Jz hpre hn0 hext g1',E',hle.trans g2,g3,g4⟩
     |pan v T H D=>
      have g1':xV P Q c L S.n Y X Y' (.pan v (HY Af.toList T) H D):=g1;obtain ⟨u,g5,g6,st'⟩:=g4;refine ⟨Y',.pan v (HY Af.toList T) H D,⟨λo ho d hdst=>TP _ _ d hd512 (.inl ⟨o,ho,hdst⟩),Jz hpre hn0 hext g1'⟩,E',hle.trans g2,g3,u,g5,g6,⟨st'.t.size,st'.t.le,λt ht=>?_,st'.t.gl⟩,st'.r,st'.d⟩;rcases XZ Af.toList T t ht hd512 with e|e;rw [e];exact st'.t.con t ht
      grind [Ac]
    unfold wpOp;simp only [ho];unfold wpList at hw;split
    .rename_i hwt;rw [Ad hwt]at hw;rcases hw with hw|⟨_,a',w',hw⟩
     .grind [Oper.wp_mono3,wpList]
     .obtain ⟨Y',r,g1,E',g2,g3,g4⟩:=hw
      grind
    simp_all [wpList]
def gm (hm:P.follows .mixedOrders=true) (hc:Cj P (CL P fuel)) {L:BG} {Af:Array Oper} {id:Nat} {S:VS} {Y:Sy} {X:VX->VT} {K:VS->VT} (hL:L.length=S.lv) (hf:Av P c S.n Y) (h:AC P Q L Y (VN P N fuel I c Af.toList S X K)):
  ∀(B:World) (pr:Nat->Prop) (E:Ag) (a:Act) (w:World),E.At Y->St P B pr N E S.T S.H S.D a w->(Code.region id Af true).wp P (Bp P B pr N c.k E (DH (kV P Q c L S.n Y K) (xV P Q c L S.n Y X))) a w:=by
 intro B pr E a w hy st;unfold VN at h;split at h
 .rename_i hb;obtain ⟨h1,h2⟩:=Au hb;obtain ⟨h2,h3⟩:=Au h2;have hempty:∀j,(Array.replicate Af.size false).getD j false=false:=λj=>by rw [Array.getD_eq_getD_getElem?,Array.getElem?_replicate];split<;>rfl
  refine Code.wp_mono (λe a w hq=>?_) (wp_region_any hm (X2 (B:=B) (pr:=pr) (E0:=E) (L0:=L) (n0:=S.n) (Y0:=Y) hm hc h1 h2 (by simpa using h3) _ 0 S Y L hL hf (zb' L) (za' _) (AR.refl _ _) h Af.size _ E a _ (by simp) ?_ (λj=>by rw [hempty,ic]) (Ag.leF_refl _ E) hy ⟨st.t,st.r.drawn _,st.d⟩));obtain ⟨Y',r,g1,g2⟩:=hq;exact ⟨Y',r,pU g1,g2⟩
  grind
 exact h.elim
end
end
theorem na:∀n m:Nat,(Ae n m).length=m
 |_,0=>rfl
 |n,m+1=>by simp only [Ae,List.length_cons,na (Nat.succ n) m]
def iF:∀{n m j:Nat} {a:AV},(Ae n m)[j]? =some a->j<m/\a=.sym (n+j)
 |n,0,j,a,h=>by simp [Ae]at h
 |n,m+1,0,a,h=>by
  grind [Ae]
 |n,m+1,j+1,a,h=>by
  simp only [Ae,List.getElem?_cons_succ]at h;obtain ⟨h1,h2⟩:=iF h
  grind
def uT {B:World} {pr:Nat->Prop} {E:Ag} {H:AHeap} {w:World} (hr:As B pr E H w) {id i n0 len sz:Nat} {cs:List AV} (hk:H.get id=some (.syl i)) (hi:E.sy i=some (.vsl len sz cs)) (hs:∀(j:Nat) (a:AV),cs[j]? =some a->E.sy (n0+j)=some a):
  As B pr E (H.set id (.cells (Ae n0 cs.length))) w:=by
 refine hr.setTo hk λown h=>?_;rcases h with ⟨_,hv⟩|⟨b,o,h1,h2,len',sz',cs',h3,h4,arr,t,h5,h6,h7,h8⟩
 .have hv:E.sy i=some .nsl:=hv
  grind
 rw [hi]at h3;cases h3;refine .inr ⟨b,o,h1,h2,arr,t,h5,h6,by rw [na];exact h7,λj a ha=>?_⟩;obtain ⟨hj,rfl⟩:=iF ha;simp_all [Ac]
def xJ {B:World} {pr:Nat->Prop} {E:Ag} {H:AHeap} {w:World} (hr:As B pr E H w) {id:Nat} {cs ds:List AV} (hk:H.get id=some (.cells cs)) (hl:ds.length=cs.length) (hc:∀(j:Nat) (a:AV),ds[j]? =some a->∃b,cs[j]? =some b/\∀v,Ac E b v->Ac E a v):
  As B pr E (H.set id (.cells ds)) w:=by
 refine hr.setTo hk λown h=>?_;rcases h with ⟨_,hv⟩|⟨b,o,h1,h2,arr,t,h5,h6,h7,h8⟩;exact hv.elim
 .refine .inr ⟨b,o,h1,h2,arr,t,h5,h6,by grind,λj a ha=>?_⟩
  grind
theorem wu {E:Ag} {id sz i len:Nat} {cs:List AV} (hi:E.sy i=some (.vsl len sz cs)) {v:Value} (h:Ac E (.slx id sz i) v):Ac E (.sl id 0 len sz none) v:=by
 grind [Ac]
mutual
theorem ZX {E:Ag} {id sz i len:Nat} {cs:List AV} (hi:E.sy i=some (.vsl len sz cs)):∀(a:AV) (v:Value),Ac E a v->Ac E (Lo id sz i len a) v
 | .slx id' z j,v,h=>by
   unfold Lo;split
   .grind [zd',wu]
   exact h
 | .agg l,v,h=>by simp only [Lo,Ac]at h⊢;obtain ⟨vs,h1,h2⟩:=h;exact ⟨vs,h1,aO hi l vs h2⟩
 | .tup l,v,h=>by simp only [Lo,Ac]at h⊢;obtain ⟨vs,h1,h2⟩:=h;exact ⟨vs,h1,aO hi l vs h2⟩
 | .opq,v,h=>h
 | .bool _,v,h=>h
 | .int _ _,v,h=>h
 | .flt _ _,v,h=>h
 | .nan _,v,h=>h
 | .str _,v,h=>h
 | .nptr,v,h=>h
 | .ptr _ _,v,h=>h
 | .vptr _,v,h=>h
 | .nsl,v,h=>h
 | .sl ..,v,h=>h
 | .vsl ..,v,h=>h
 | .nmap,v,h=>h
 | .map _,v,h=>h
 | .nfn,v,h=>h
 | .fn _ _,v,h=>h
 | .nif,v,h=>h
 | .iface _ _,v,h=>h
 | .sym _,v,h=>h
 | .ptx ..,v,h=>h
theorem aO {E:Ag} {id sz i len:Nat} {cs:List AV} (hi:E.sy i=some (.vsl len sz cs)):∀(l:List AV) (vs:List Value),Ah E l vs->Ah E (Hc id sz i len l) vs
 |[],vs,h=>h
 |a::r,vs,h=>by simp only [Hc,Ah]at h⊢;obtain ⟨v,q,h1,h2,h3⟩:=h;exact ⟨v,q,h1,ZX hi a v h2,aO hi r q h3⟩
end
def mb {id sz i len:Nat}:∀(l:List AV) (j:Nat) (a:AV),(Hc id sz i len l)[j]? =some a->∃b,l[j]? =some b/\a=Lo id sz i len b
 |[],j,a,h=>by simp [Hc]at h
 |b::r,0,a,h=>by
  simp only [Hc,List.getElem?_cons_zero,A6]at h
  grind
 |b::r,j+1,a,h=>by simp only [Hc,List.getElem?_cons_succ]at h;exact mb r j a h
theorem bZ {id sz i len:Nat}:∀l:List AV,(Hc id sz i len l).length=l.length
 |[]=>rfl
 |b::r=>by simp only [Hc,List.length_cons,bZ r]
def ju {B:World} {pr:Nat->Prop} {E:Ag} {w:World} {id sz i len:Nat} {cs:List AV} (hi:E.sy i=some (.vsl len sz cs)) {H:AHeap} (hr:As B pr E H w):∀l:List Nat,As B pr E (NR id sz i len H l) w
 |[]=>hr
 |q::r=>by
  have ih:=ju (id:=id) hi hr r;unfold NR;split
  .rename_i l hk;refine xJ ih hk (bZ l) λj a ha=>?_;obtain ⟨b,hb,rfl⟩:=mb _ _ _ ha
   grind [ZX]
  exact ih
def sU {P:Program} {i len sz:Nat} {Y:Sy} {cs:List AV} (h:(XOp.opn len sz).run P (An Y.v [.sym i])=some (.agg cs)):Y.v i=some (.vsl len sz cs)/\cs.length=len*sz:=by
 have h:(match Ar Y.v (.sym i)with
  | .vsl n z cs=>match Nat.beq n len&&(Nat.beq z sz&&Nat.beq (Bs cs) (Nat.mul len sz))with
    |true=>some (AV.agg cs)
    |false=>none
  |_=>none)=some (AV.agg cs):=h
 cases hy:Y.v i with
 |none=>grind [Ar]
 |some a=>
  simp only [Ar,hy]at h;split at h
  .split at h
   .rename_i hb;obtain ⟨e1,hb⟩:=Au hb;obtain ⟨e2,e3⟩:=Au hb;have e1:=zd' e1;have e2:=zd' e2;have e3:=zd' e3;rw [BW]at e3
    grind
   cases h
  cases h
variable [Gl]
section
variable {P:Program} {N:Nat} {Q:AV->Prop} {fuel:Nat} {I:C3 P fuel} {c:VC}
def Xx (P:Program) (N:Nat) (Q:AV->Prop) (c:VC) (b:Code) (bS:VS->(VS->VT)->VT) (X:VX->VT):Prop:=
 ∀(S:VS) (K:VS->VT) (Y:Sy) (L:BG),L.length=S.lv->Av P c S.n Y->AC P Q L Y (bS S K)->Cc P N c.k b Y S.T S.H S.D (kV P Q c L S.n Y K) (xV P Q c L S.n Y X)
def rf {b:Code} {bS:VS->(VS->VT)->VT} {X:VX->VT} {K:KP} (hb:Xx P N Q c b bS X) (m:Nat) (S:VS) (Y:Sy) (L:BG) (hL:L.length=S.lv) (hf:Av P c S.n Y)
  (h:AC P Q L Y (S4 bS m S)):Cc P N c.k (.loop b) Y S.T S.H S.D K (xV P Q c L S.n Y X):=by
 refine ⟨{ p:Nat×Sy×VS×BG // L <+: p.2.2.2/\p.2.2.2.length=p.2.2.1.lv/\S.n<=p.2.2.1.n/\AR S.n Y p.2.1/\Av P c p.2.2.1.n p.2.1/\AC P Q p.2.2.2 p.2.1 (S4 bS p.1 p.2.2.1) },λp=>⟨p.1.2.1,p.1.2.2.1.T,p.1.2.2.1.H,p.1.2.2.1.D⟩,
  λp=>p.1.1,⟨(m,Y,S,L),zb' L,hL,za' _,AR.refl _ _,hf,h⟩,A1.refl _ _ _ _ _ _ _,λp=>?_⟩
 obtain ⟨⟨m,Y',S',L'⟩,q1,q2,q3,q4,q5,q6⟩:=p;cases m with
 |zero=>exact q6.elim
 |succ m=>refine Fs b (λY2 T2 H2 D2 hk=>?_) (λY2 r hx=>Jz q1 q3 q4 hx) _ _ _ _ (hb S' _ Y' L' q2 q5 q6);obtain ⟨n',lv,L2,g1,g2,g3,g4,g5,g6⟩:=hk;exact ⟨⟨(m,Y2,⟨T2,H2,n',lv,D2⟩,L2),q1.trans g1,g2,ze' q3 g3,q4.trans g4 q3,g5,g6⟩,zo' m,A1.refl _ _ _ _ _ _ _⟩
omit [Gl]in
def UG {n k:Nat}:∀{l:List BH} {j0:Nat} {S:VS} {r:MA},Nc n k l j0 S=some r->∃i tp,l[i]? =some tp/\r.j=j0+i/\r.l=(H6 tp S).l/\Oq n k tp (H6 tp S).S=some r.m
 |[],j0,S,r,h=>by cases h
 |tp::q,j0,S,r,h=>by
  unfold Nc at h;split at h;obtain ⟨i,tp',h1,h2,h3⟩:=UG h;exact ⟨i+1,tp',by grind,by omega,h3⟩;simp only at h;split at h
  .cases h
   grind
  obtain ⟨i,tp',h1,h2,h3⟩:=UG h;exact ⟨i+1,tp',by grind,by omega,h3⟩
def mX_ {k:Nat} {tp:BH} {S:VS} {Y:Sy} (hs:∀i q,(i,q)∈(H6 tp S).l->(Dl.same i q).ok Y):A1 P N k Y S.T S.H S.D Y (H6 tp S).S.T (H6 tp S).S.H (H6 tp S).S.D/\(H6 tp S).S.D=S.D:=by
 have h1:A1 P N k Y S.T S.H S.D Y (Jo tp S).S.T (Jo tp S).S.H (Jo tp S).S.D/\(Jo tp S).S.D=S.D:=by
  have hs1:∀i q,(i,q)∈(Jo tp S).l->(Dl.same i q).ok Y:=λi q h=>hs i q (QO.2 (.inl h));unfold Jo at hs1⊢;generalize V5 S.T tp.slots=l at hs1⊢;cases l with
  |nil=>exact ⟨A1.refl _ _ _ _ _ _ _,rfl⟩
  |cons a r=>obtain ⟨h1,_,_,h4⟩:=eV (P:=P) (N:=N) (k:=k) hs1;exact ⟨h1.1,h4⟩
 have hfr:B5 Y (Jo tp S).S (TO tp (Jo tp S).S).S:=WN λi q h=>hs i q (QO.2 (.inr h));exact ⟨h1.1.trans (hfr.weak k),hfr.D.trans h1.2⟩
def Ta {k n lv:Nat} {tp:BH} {S:VS} {m:MT} {Y0 Y:Sy} (hm:Oq n k tp (H6 tp S).S=some m) (hs:∀i q,(i,q)∈(H6 tp S).l->(Dl.same i q).ok Y) (hnn:∀i,i∈m.nn->(Dl.nn i).ok Y) (hf:AA Y0 n) (hx:AR n Y0 Y) (hok:Ak (An Y.v m.hv)=true):
  (An Y.v m.hv).length=tp.nv/\A1 P N k Y S.T S.H S.D (Y0.puts n (An Y.v m.hv)) (tp.inst n lv).T (tp.inst n lv).H []:=by
 obtain ⟨h1,h2⟩:=vy (N:=N) (P:=P) (lv:=lv) hm hf hx hok hnn;exact ⟨h1,A1.trans (mX_ hs).1 h2⟩
def pV_ (own:Bool) (l:List Oper) (S:VS) (Y:Sy):A1 P N c.k Y S.T S.H S.D Y (IC own l S).T (IC own l S).H (IC own l S).D/\(IC own l S).n=S.n/\(IC own l S).lv=S.lv:=by unfold IC;split;exact ⟨A1.refl _ _ _ _ _ _ _,rfl,rfl⟩;exact ⟨Uk _,rfl,rfl⟩
def fK {Inv:Nat->List AV->Prop} {μ:Nat->List AV->Nat} {L:BG} {n lvl:Nat} {Y:Sy} {bS:VS->(VS->VT)->VT} {tps:List BH} {k:Nat}:∀(l:List BH) (j0:Nat),Wo P Q Inv μ L n j0 Y (WJ bS n k lvl tps l)->
  ∀i tp,l[i]? =some tp->∀vs,vs.length=tp.nv->Inv (j0+i) vs->AC P Q (L++[λj' vs'=>Inv j' vs'/\μ j' vs'<μ (j0+i) vs]) (Y.puts n vs) (bS (tp.inst n (Nat.succ lvl)) (W4 n k lvl tps))
 |[],j0,h,i,tp,hi=>by simp at hi
 |t::r,j0,h,i,tp,hi=>by
  obtain ⟨h1,h2⟩:=h;cases i with
  |zero=>simp at hi;subst hi;exact h1
  |succ i=>have:=fK r (j0+1) h2 i tp (by simpa using hi);rw [show j0+(i+1)=j0+1+i by omega];exact this
def xb {b:Code} {bS:VS->(VS->VT)->VT} {X:VX->VT} {K:KP} {tps:List BH} (hb:Xx P N Q c b bS X) (S:VS) (Y:Sy) (L:BG) (hL:L.length=S.lv) (hf:Av P c S.n Y)
  (h:AC P Q L Y (az c.k bS tps S)):Cc P N c.k (.loop b) Y S.T S.H S.D K (xV P Q c L S.n Y X):=by
 unfold az at h;split at h
 case h_2=>exact h.elim
 rename_i r hm;obtain ⟨hs0,h⟩:=Oo h;obtain ⟨hn0,h⟩:=Tw h;obtain ⟨Inv,μ,hok,hinv,hbs⟩:=h;obtain ⟨i,tp,hi,hj,hl,hmt⟩:=UG hm;have hj:r.j=i:=by omega
 rw [hj]at hinv;rw [hl]at hs0;have hw:=Ta (N:=N) (P:=P) (lv:=Nat.succ S.lv) hmt hs0 hn0 hf.1 (AR.refl _ _) (hok _ _ hinv)
 refine ⟨{ p:Nat×List AV×BH // tps[p.1]? =some p.2.2/\p.2.1.length=p.2.2.nv/\Inv p.1 p.2.1 },λp=>⟨Y.puts S.n p.1.2.1,(p.1.2.2.inst S.n (Nat.succ S.lv)).T,(p.1.2.2.inst S.n (Nat.succ S.lv)).H,[]⟩,λp=>μ p.1.1 p.1.2.1,
  ⟨(i,An Y.v r.m.hv,tp),hi,hw.1,hinv⟩,hw.2,λp=>?_⟩
 obtain ⟨⟨j1,vs,tp1⟩,q1,q2,q3⟩:=p;have hb1:=fK tps 0 hbs j1 tp1 q1 vs q2 (by grind);have hgood:Av P c (tp1.inst S.n (Nat.succ S.lv)).n (Y.puts S.n vs):=by show Av P c (S.n+tp1.nv) _;rw [←q2];exact hf.puts vs
 have hext:AR S.n Y (Y.puts S.n vs):=AR.puts vs _ (za' _);have hpre:∀R:Nat->List AV->Prop,L <+: L++[R]:=λR=>List.prefix_append _ _;have hnle:S.n<=(tp1.inst S.n (Nat.succ S.lv)).n:=zf' _ _;refine Fs b (λY2 T2 H2 D2 hk=>?_) (λY2 r hx=>Jz (hpre _) hnle hext hx) _ _ _ _ (hb _ _ _ _ (by rw [List.length_append,hL];rfl) hgood hb1);obtain ⟨n',lv,L2,g1,g2,g3,g4,g5,g6⟩:=hk;unfold W4 at g6;split at g6
 .rename_i r2 hm2;obtain ⟨hs2,g6⟩:=Oo g6;obtain ⟨hn2,g6⟩:=Tw g6;obtain ⟨R,r1,r2'⟩:=g6;obtain ⟨i2,tp2,k1,k2,kl,k3⟩:=UG hm2;have k2:r2.j=i2:=(by omega);rw [k2]at r2';rw [kl]at hs2;have hR:R=λj' vs'=>Inv j' vs'/\μ j' vs'<μ (0+j1) vs:=by
   obtain ⟨t,rfl⟩:=g1
   grind
  rw [hR]at r2';have hx2:AR S.n Y Y2:=hext.trans g4 hnle;have hw2:=Ta (N:=N) (P:=P) (lv:=Nat.succ S.lv) k3 hs2 hn2 hf.1 hx2 (hok _ _ r2'.1);exact ⟨⟨(i2,An Y2.v r2.m.hv,tp2),k1,hw2.1,r2'.1⟩,by grind,hw2.2⟩
 exact g6.elim
def oo_ {N k:Nat} {S:VS} {Y:Sy} {t:TA} {i:Nat} {cs:List AV} (hf:AA Y S.n) (hk:S.H.get t.id=some (.syl i)) (hi:Y.v i=some (.vsl t.j t.sz cs)) (hl:cs.length=t.j*t.sz):
  A1 P N k Y S.T S.H S.D (Y.puts S.n cs) (Mg t i S).T (Mg t i S).H (Mg t i S).D:=by
 intro B pr E a w hy st;obtain ⟨p1,p2,p3,p4⟩:=hf.puts cs;have hat:=F7 cs hf;have hv:∀i a,E.sy i=some a->(Y.puts S.n cs).v i=some a:=λi a ha=>by rw [hy.v]at ha;grind
 have hls:∀i l,E.syl i=some l->(Y.puts S.n cs).l i=some l:=λi l ha=>by rw [hy.l]at ha;grind
 have hlo:∀i,i<64->(Y.puts S.n cs).v i=E.sy i:=λi hi=>by rw [hy.v];exact p4 i hi
 have st1:=st.with hv hls hlo;have hi1:(E.with (Y.puts S.n cs)).sy i=some (.vsl t.j t.sz cs):=p2 _ _ hi;have hrow:=uT (n0:=S.n) st1.r hk hi1 (λj a ha=>hat j a ha);rw [hl]at hrow;refine ⟨E.with (Y.puts S.n cs),Ag.with_leF k hlo,⟨rfl,rfl,hy.res⟩,⟨⟨st1.t.size,st1.t.le,λq hq=>?_,st1.t.gl⟩,ju hi1 hrow [0,1,2,3],st1.d⟩⟩;show Ac _ (Ao (BZ (Lo t.id t.sz i t.j) S.T) q) _;rw [E8];exact ZX hi1 _ _ (st1.t.con q hq)
def Xh {N k:Nat} {L:BG} {kt:VS->VT}:∀(l:List TA) (S:VS) (Y:Sy),Av P c S.n Y->AC P Q L Y (Rw l S kt)->
  ∃S' Y',A1 P N k Y S.T S.H S.D Y' S'.T S'.H S'.D/\S'.lv=S.lv/\S.n<=S'.n/\AR S.n Y Y'/\Av P c S'.n Y'/\AC P Q L Y' (kt S')
 |[],S,Y,hf,h=>⟨S,Y,A1.refl _ _ _ _ _ _ _,rfl,za' _,AR.refl _ _,hf,h⟩
 |t::r,S,Y,hf,h=>by
  unfold Rw at h;split at h
  .rename_i i hk;obtain ⟨cs,h1,h2,h3,h4⟩:=h;obtain ⟨q1,q2⟩:=sU h1;have hg:Av P c (Mg t i S).n (Y.puts S.n cs):=by obtain ⟨p1,p2,p3,p4⟩:=hf.1.puts cs;refine ⟨?_,hf.2.sub p2 p4⟩;rw [q2]at p1;exact p1
   obtain ⟨S',Y',w1,w2,w3,w4,w5,w6⟩:=Xh r (Mg t i S) (Y.puts S.n cs) hg h4;have hle:S.n<=(Mg t i S).n:=zf' _ _;exact ⟨S',Y',(oo_ hf.1 hk q1 q2).trans w1,w2,ze' hle w3,(AR.puts cs _ (za' _)).trans w4 hle,w5,w6⟩
  exact Xh r S Y hf h
def xH {N k:Nat} (t o:Nat) (S:VS) (Y:Sy):A1 P N k Y S.T S.H S.D Y (Lr t o S).T (Lr t o S).H (Lr t o S).D/\(Lr t o S).n=S.n/\(Lr t o S).lv=S.lv:=by unfold Lr;split;split;split;exact ⟨dJ _ _,rfl,rfl⟩;exact ⟨A1.refl _ _ _ _ _ _ _,rfl,rfl⟩;exact ⟨A1.refl _ _ _ _ _ _ _,rfl,rfl⟩;exact ⟨Uk _,rfl,rfl⟩
def n7 {N k:Nat}:∀(l:List (Nat×Nat)) (S:VS) (Y:Sy),A1 P N k Y S.T S.H S.D Y (KL S l).T (KL S l).H (KL S l).D/\(KL S l).n=S.n/\(KL S l).lv=S.lv
 |[],S,Y=>⟨A1.refl _ _ _ _ _ _ _,rfl,rfl⟩
 |(t,o)::r,S,Y=>by obtain ⟨a1,a2,a3⟩:=xH (N:=N) (k:=k) t o S Y;obtain ⟨b1,b2,b3⟩:=n7 (N:=N) (k:=k) r (Lr t o S) Y;exact ⟨a1.trans b1,b2.trans a2,b3.trans a3⟩
def xg {N k rid:Nat} {L:BG} {kt:VS->VT} {Af:List Oper} {S:VS} {Y:Sy} (hf:Av P c S.n Y) (h:AC P Q L Y (bK c rid Af S kt)):
  AC P Q L Y (kt S)\/(Af≠[]/\∃S' Y',A1 P N k Y S.T S.H S.D Y' S'.T S'.H S'.D/\S'.lv=S.lv/\S.n<=S'.n/\AR S.n Y Y'/\Av P c S'.n Y'/\AC P Q L Y' (kt S')):=by
 unfold bK at h;split at h;exact .inl h
 .split at h;rename_i tp _ _;obtain ⟨w1,w2,w3⟩:=n7 (P:=P) (N:=N) (k:=k) tp.fix S Y;obtain ⟨S',Y',v1,v2,v3,v4,v5,v6⟩:=Xh (N:=N) (k:=k) _ (KL S tp.fix) Y (by rw [w2];exact hf) h;rw [w2]at v3 v4;rw [w3]at v2;exact .inr ⟨by simp,S',Y',w1.trans v1,v2,v3,v4,v5,v6⟩
  grind
def oa_ {N k id:Nat} {Af:Array Oper} {draw:Bool} {Y Y':Sy} {T T':Tm} {H H':AHeap} {D D':Bj} {K:KP} {X:XP} (hne:Af.toList≠[]) (hw:A1 P N k Y T H D Y' T' H' D') (h:Cc P N k (.region id Af draw) Y' T' H' D' K X):
  Cc P N k (.region id Af draw) Y T H D K X:=by
 unfold Cc at h⊢;cases draw with
 |false=>
  cases ho:Af.toList with
  |nil=>grind
  |cons o r=>rw [ho]at h;obtain ⟨Y1,T1,H1,D1,h1,h2⟩:=h;exact ⟨Y1,T1,H1,D1,hw.trans h1,h2⟩
 |true=>
  rcases h with ⟨Y1,T1,H1,D1,h1,h2⟩|h;exact .inl ⟨Y1,T1,H1,D1,hw.trans h1,h2⟩
  .refine .inr λB pr E a w hy st=>?_;obtain ⟨E1,hle,hy1,st1⟩:=hw B pr E a w hy st
   grind [Code.wp_mono,Bp.le]
theorem YR (hm:P.follows .mixedOrders=true) (hc:Cj P (CL P fuel)) {id:Nat} {any:Bool} {Af:Array Oper} {draw:Bool} {S:VS} {K:VS->VT} {X:VX->VT} {Y:Sy} {L:BG} (hL:L.length=S.lv) (hf:Av P c S.n Y) (h:AC P Q L Y (Rl P N fuel I c any Af draw S K X)):
  Cc P N c.k (.region id Af draw) Y S.T S.H S.D (kV P Q c L S.n Y K) (xV P Q c L S.n Y X):=by
 cases draw with
 |false=>grind [Rl,Cc,Sp]
 |true=>
  unfold Rl at h;simp only at h;split at h;rename_i r hd;split at h;exact .inl ⟨Y,S.T,S.H,S.D,A1.refl _ _ _ _ _ _ _,CL P fuel,_,hc,hd,S.n,S.lv,L,zb' L,hL,za' _,AR.refl _ _,hf,h⟩;exact h.elim
  .have dr:AC P Q L Y (Re P N fuel I c Af.toList (IC c.own Af.toList S) X K)->∀B pr E a w,E.At Y->St P B pr N E S.T S.H S.D a w->(Code.region id Af true).wp P (Bp P B pr N c.k E (DH (kV P Q c L S.n Y K) (xV P Q c L S.n Y X))) a w:=by
     intro h;obtain ⟨w1,w2,w3⟩:=pV_ (P:=P) (N:=N) (c:=c) c.own Af.toList S Y;intro B pr E a w hy st;obtain ⟨E1,hle,hy1,st1⟩:=w1 B pr E a w hy st;have key:=sb_ (id:=id) (S:=IC c.own Af.toList S) hm hc (by omega) (by grind) h B pr E1 a w hy1 st1
     grind [Code.wp_mono,Bp.le]
   refine .inr ?_;split at h;split at h;exact dr h;exact gm hm hc hL hf h;split at h;exact gm hm hc hL hf h;exact dr h
def Hf (hm:P.follows .mixedOrders=true) (hc:Cj P (CL P fuel)):∀(cd:Code) (bid:Nat) (S:VS) (K:VS->VT) (X:VX->VT) (Y:Sy) (L:BG),L.length=S.lv->Av P c S.n Y->AC P Q L Y (ER P N fuel I c bid cd S K X)->
  Cc P N c.k cd Y S.T S.H S.D (kV P Q c L S.n Y K) (xV P Q c L S.n Y X)
 | .skip,bid,S,K,X,Y,L,hL,hf,h=>by exact ⟨S.n,S.lv,L,zb' L,hL,za' _,AR.refl _ _,hf,h⟩
 | .label _,bid,S,K,X,Y,L,hL,hf,h=>by exact ⟨S.n,S.lv,L,zb' L,hL,za' _,AR.refl _ _,hf,h⟩
 | .exit id,bid,S,K,X,Y,L,hL,hf,h=>by exact ⟨S.n,S.lv,L,zb' L,hL,za' _,AR.refl _ _,hf,h⟩
 | .ret,bid,S,K,X,Y,L,hL,hf,h=>by exact ⟨S.n,S.lv,L,zb' L,hL,za' _,AR.refl _ _,hf,h⟩
 | .region id Af draw,bid,S,K,X,Y,L,hL,hf,h=>by
   rcases xg (N:=N) (k:=c.k) hf h with h|⟨hne,S',Y',w1,w2,w3,w4,w5,w6⟩
   .grind [YR]
   refine oa_ hne w1 (Fs _ (λ_ _ _ _ hk=>SZ (zb' L) w3 w4 hk) (λ_ _ hx=>Jz (zb' L) w3 w4 hx) _ _ _ _ (YR hm hc (by omega) w5 w6))
 | .seq a b,bid,S,K,X,Y,L,hL,hf,h=>by unfold ER at h;unfold Cc;refine Fs a (λY' T' H' D' hk=>?_) (λ_ _ h=>h) _ _ _ _ (Hf hm hc a bid S _ X Y L hL hf h);obtain ⟨n',lv,L',g1,g2,g3,g4,g5,g6⟩:=hk;exact Fs b (λ_ _ _ _ hk=>SZ g1 g3 g4 hk) (λ_ _ hx=>Jz g1 g3 g4 hx) _ _ _ _ (Hf hm hc b bid ⟨T',H',n',lv,D'⟩ K X Y' L' g2 g5 g6)
 | .cond cd a b,bid,S,K,X,Y,L,hL,hf,h=>by unfold ER at h;split at h;rename_i t ht;refine ⟨Y,S.T,S.H,S.D,A1.refl _ _ _ _ _ _ _,t,ht,λe=>?_,λe=>?_⟩;subst e;exact Hf hm hc a bid S K X Y L hL hf h;subst e;exact Hf hm hc b bid S K X Y L hL hf h;split at h;rename_i i hi;obtain ⟨t,ht,h1,h2⟩:=h;refine ⟨Y,(S.know i t).T,(S.know i t).H,(S.know i t).D,UX ht S.x S.D,t,WB hi S.x rfl t,λe=>?_,λe=>?_⟩;subst e;exact Hf hm hc a bid (S.know i true) K X Y L hL hf (h1 rfl);subst e;exact Hf hm hc b bid (S.know i false) K X Y L hL hf (h2 rfl);exact h.elim
 | .block id b,bid,S,K,X,Y,L,hL,hf,h=>by
   refine Fs b (λ_ _ _ _ h=>h) (λY' r hx=>?_) _ _ _ _ (Hf hm hc b id S K (ZK id K X) Y L hL hf h);cases r with
   |norm T H D=>exact hx.elim
   |pan v T H D=>exact hx
   |ret T H D=>exact hx
   |exit id' T H D=>
    obtain ⟨n,lv,L',g1,g2,g3,g4,g5,h'⟩:=hx;unfold ZK at h';simp only at h';cases hb:Nat.beq id' id with
    |true=>rw [hb]at h';exact ⟨λ_=>⟨n,lv,L',g1,g2,g3,g4,g5,h'⟩,λe=>absurd (zd' hb) e⟩
    |false=>rw [hb]at h';refine ⟨λe=>?_,λ_=>⟨n,lv,L',g1,g2,g3,g4,g5,h'⟩⟩;simp_all
 | .loop b,bid,S,K,X,Y,L,hL,hf,h=>by unfold ER at h;have hb:Xx P N Q c b (λS K=>ER P N fuel I c bid b S K X) X:=λS K Y L hL hf h=>Hf hm hc b bid S K X Y L hL hf h;split at h;exact xb hb S Y L hL hf h;exact rf hb fuel S Y L hL hf h
 | .scope _,bid,S,K,X,Y,L,hL,hf,h=>by exact h.elim
 | .goto _,bid,S,K,X,Y,L,hL,hf,h=>by exact h.elim
 | .refuse _,bid,S,K,X,Y,L,hL,hf,h=>by exact h.elim
 | .rangeFunc _ _ _ _,bid,S,K,X,Y,L,hL,hf,h=>by exact h.elim
def E5 (P:Program) (Q:AV->Prop) (c:VC) (N:Nat) (B:World) (pr:Nat->Prop) (K R:VS->Option AV->VT) (L:BG) (n:Nat) (Y:Sy) (E:Ag) (c₀:Frame) (cs:List Frame) (e:Exit) (a:Act) (cs':List Frame) (w:World):Prop:=
 ∃(Y':Sy) (S':VS) (u':Option AV) (m':FrameMode) (E':Ag) (L':BG),(L <+: L'/\L'.length=S'.lv/\n<=S'.n/\AR n Y Y'/\Av P c S'.n Y'/\S'.D=[])/\E.leF c.k E'/\E'.At Y'/\cs'={ c₀ with mode:=m' }::cs/\Bd E' u' m'/\St P B pr N E' S'.T S'.H [] a w/\
  ((e=.normal/\AC P Q L' Y' (K S' u'))\/(e=.ret/\AC P Q L' Y' (R S' u')))
theorem E5.le {B:World} {pr:Nat->Prop} {K R:VS->Option AV->VT} {L L0:BG} {n n0:Nat} {Y Y0:Sy} {E E0:Ag} {c₀:Frame} {cs cs':List Frame} {e:Exit} {a:Act} {w:World} (hL:L0 <+: L) (hn:n0<=n) (hx:AR n0 Y0 Y) (hE:E0.leF c.k E) (h:E5 P Q c N B pr K R L n Y E c₀ cs e a cs' w):E5 P Q c N B pr K R L0 n0 Y0 E0 c₀ cs e a cs' w:=by obtain ⟨Y',S',u',m',E',L',⟨h1,h2,h3,h4,h5⟩,h6,h7⟩:=h;exact ⟨Y',S',u',m',E',L',⟨hL.trans h1,h2,ze' hn h3,hx.trans h4 hn,h5⟩,hE.trans h6,h7⟩
omit [Gl]in
def Bd.none {E E':Ag} {m:FrameMode} (h:Bd E none m):Bd E' none m:=h
def Lp (hm:P.follows .mixedOrders=true) (hc:Cj P (CL P fuel)) (B:World) (pr:Nat->Prop) (c₀:Frame) (cs:List Frame):∀(cd:Code) (S:VS) (u:Option AV) (K R:VS->Option AV->VT) (Y:Sy) (L:BG),L.length=S.lv->Av P c S.n Y->S.D=[]->AC P Q L Y (Ij P N fuel I c cd S u K R)->
  ∀E a w m,E.At Y->St P B pr N E S.T S.H [] a w->Bd E u m->cd.wpS P (E5 P Q c N B pr K R L S.n Y E c₀ cs) a ({ c₀ with mode:=m }::cs) w
 | .skip,S,u,K,R,Y,L,hL,hf,hD,h,E,a,w,m,hy,st,hmo=>by exact wpS_of_wp (wp_skip ⟨Y,S,u,m,E,L,⟨zb' L,hL,za' _,AR.refl _ _,hf,hD⟩,Ag.leF_refl _ _,hy,rfl,hmo,st,.inl ⟨rfl,h⟩⟩)
 | .ret,S,u,K,R,Y,L,hL,hf,hD,h,E,a,w,m,hy,st,hmo=>by exact wpS_of_wp (wp_ret ⟨Y,S,u,m,E,L,⟨zb' L,hL,za' _,AR.refl _ _,hf,hD⟩,Ag.leF_refl _ _,hy,rfl,hmo,st,.inr ⟨rfl,h⟩⟩)
 | .region id Af draw,S,u,K,R,Y,L,hL,hf,hD,h,E,a,w,m,hy,st,hmo=>by
   unfold Ij at h;split at h;split at h;exact h.elim;split at h;rename_i r hr;split at h;rename_i T' H' u';refine wpS_region ?_;have:=YG hc Af c₀ cs Af.toList 0 (by simp) S.T S.H u _ hr E a w m st hmo;rw [List.range_eq_range'];have h2:wpOpsS P Af (D8 P B pr N E c₀ cs (.norm T' H' u')) (List.range' 0 Af.size) a ({ c₀ with mode:=m }::cs) w:=(by omega);refine J9 (λe a cs' w hq=>?_) _ _ _ _ h2;obtain ⟨E',m',q1,q2,rfl,q3,q4⟩:=hq;exact ⟨Y,⟨T',H',S.n,S.lv,[]⟩,u',m',E',L,⟨zb' L,hL,za' _,AR.refl _ _,hf,rfl⟩,q1.leF _,hy.le q1,q2,q3,q4,.inl ⟨rfl,h⟩⟩;exact h.elim;exact h.elim
   .rename_i hb;have hu:u=none:=by
     cases u with
     |none=>rfl
     |some v=>cases hb
    subst hu;have hw:=YR (N:=N) (id:=id) hm hc hL hf h;rw [hD]at hw;refine wpS_of_wp (Code.wp_mono (λe a w hq=>?_) (Kl hm _ _ _ _ _ _ _ hw B pr E a w hy st));obtain ⟨Y',r,hr,E',q1,q2,q3⟩:=hq;cases r with
    |norm T' H' D'=>
     obtain ⟨n',lv,L',g1,g2,g3,g4,g5,g6⟩:=hr;obtain ⟨rfl,st'⟩:=q3;cases D' with
     |nil=>exact ⟨Y',⟨T',H',n',lv,[]⟩,none,m,E',L',⟨g1,g2,g3,g4,g5,rfl⟩,q1,q2,rfl,hmo,st',.inl ⟨rfl,g6⟩⟩
     |cons d D'=>exact g6.elim
    |exit id T' H' D'=>obtain ⟨n',lv,L',g1,g2,g3,g4,g5,g6⟩:=hr;exact g6.elim
    |ret T' H' D'=>obtain ⟨n',lv,L',g1,g2,g3,g4,g5,g6⟩:=hr;exact g6.elim
    |pan v T' H' D'=>obtain ⟨n',lv,L',g1,g2,g3,g4,g5,g6⟩:=hr;exact g6.elim
 | .seq x y,S,u,K,R,Y,L,hL,hf,hD,h,E,a,w,m,hy,st,hmo=>by refine wpS_seq (Code.wpS_mono (λe a cs' w hq=>?_) (Lp hm hc B pr c₀ cs x S u _ R Y L hL hf hD h E a w m hy st hmo));obtain ⟨Y',S',u',m',E',L',⟨h1,h2,h3,h4,h5,h6⟩,q1,q2,rfl,q3,q4,q5⟩:=hq;rcases q5 with ⟨rfl,q5⟩|⟨rfl,q5⟩;exact Code.wpS_mono (λe a cs' w hq=>E5.le h1 h3 h4 q1 hq) (Lp hm hc B pr c₀ cs y S' u' K R Y' L' h2 h5 h6 q5 E' a w m' q2 q4 q3);exact ⟨Y',S',u',m',E',L',⟨h1,h2,h3,h4,h5,h6⟩,q1,q2,rfl,q3,q4,.inr ⟨rfl,q5⟩⟩
 | .cond cd x y,S,u,K,R,Y,L,hL,hf,hD,h,E,a,w,m,hy,st,hmo=>by
   unfold Ij at h;split at h
   .rename_i t ht;have hl:=st.t.look cd;rw [ht]at hl;refine wpS_cond (t:=t) (by simpa [Ac]using hl) ?_;cases t with
    |true=>exact Lp hm hc B pr c₀ cs x S u K R Y L hL hf hD h E a w m hy st hmo
    |false=>exact Lp hm hc B pr c₀ cs y S u K R Y L hL hf hD h E a w m hy st hmo
   .split at h
    .rename_i i hi;obtain ⟨t,ht,h1,h2⟩:=h;have st1:St P B pr N E (S.know i t).T (S.know i t).H [] a w:=⟨⟨st.t.size,st.t.le,λq hq=>by show Ac E (Ao (BZ (Gt i t) S.T) q) _;rw [E8];exact aV (by rw [hy.v];exact ht) (st.t.con q hq),st.t.gl⟩,st.r,st.d⟩;have hl:=st1.t.look cd;rw [show look (S.know i t).T cd=.bool t from WB hi S.x rfl t]at hl;refine wpS_cond (t:=t) (by grind [Ac]) ?_;cases t with
     |true=>exact Lp hm hc B pr c₀ cs x (S.know i true) u K R Y L hL hf hD (h1 rfl) E a w m hy st1 hmo
     |false=>exact Lp hm hc B pr c₀ cs y (S.know i false) u K R Y L hL hf hD (h2 rfl) E a w m hy st1 hmo
    exact h.elim
 | .block id b,S,u,K,R,Y,L,hL,hf,hD,h,E,a,w,m,hy,st,hmo=>by
   refine jt (Lp hm hc B pr c₀ cs b S u K R Y L hL hf hD h E a w m hy st hmo) λe a cs' w hq=>?_;obtain ⟨Y',S',u',m',E',L',_,_,_,_,_,_,q5⟩:=hq
   grind
 | .exit _,S,u,K,R,Y,L,hL,hf,hD,h,E,a,w,m,hy,st,hmo=>by exact h.elim
 | .label _,S,u,K,R,Y,L,hL,hf,hD,h,E,a,w,m,hy,st,hmo=>by exact h.elim
 | .loop _,S,u,K,R,Y,L,hL,hf,hD,h,E,a,w,m,hy,st,hmo=>by exact h.elim
 | .scope _,S,u,K,R,Y,L,hL,hf,hD,h,E,a,w,m,hy,st,hmo=>by exact h.elim
 | .goto _,S,u,K,R,Y,L,hL,hf,hD,h,E,a,w,m,hy,st,hmo=>by exact h.elim
 | .refuse _,S,u,K,R,Y,L,hL,hf,hD,h,E,a,w,m,hy,st,hmo=>by exact h.elim
 | .rangeFunc _ _ _ _,S,u,K,R,Y,L,hL,hf,hD,h,E,a,w,m,hy,st,hmo=>by exact h.elim
def du (hm:P.follows .mixedOrders=true) (hc:Cj P (CL P fuel)) {fn:Func} {fin:A5->Nat->Nat->VT} {Q':Sy->A5->Prop} {B:World} {pr:Nat->Prop} {tmps:Array Value}:∀(D:Bj) (T:Tm) (H:AHeap) (n lv:Nat) (u:Option AV) (Y:Sy) (L:BG),L.length=lv->Av P c n Y->AC P Q L Y (Mq P fuel I c fn.results.toList fin D T H n lv u)->
  (∀r n' lv' L' Y',L <+: L'->L'.length=lv'->n<=n'->AR n Y Y'->Av P c n' Y'->AC P Q L' Y' (fin r n' lv')->Q' Y' r)->
  ∀E w ds m,E.At Y->Bf E N T tmps->As B pr E H w->Ca P E D ds->BP E u m->Leaves P fn tmps (λe w'=>∃Y r,Q' Y r/\Sq c.k B pr E Y r e w') ds m w
 |[],T,H,n,lv,u,Y,L,hL,hf,h,hfin,E,w,ds,m,hy,ht,hr,hd,hmo=>by unfold Mq at h;split at h;rename_i r hl;have hq:=hfin r n lv L Y (zb' L) hL (za' _) (AR.refl _ _) hf h;refine Leaves.mono (λe w ⟨E',g1,g2⟩=>⟨Y,r,hq,E',g1.leF _,hy.le g1,g2⟩) _ _ _ (N8 hc (λN=>US hm hc N) [] H u r hl E w ds m ht hr hd hmo);exact h.elim
 |(f,ag)::D,T,H,n,lv,u,Y,L,hL,hf,h,hfin,E,w,ds,m,hy,ht,hr,hd,hmo=>by
  obtain ⟨vs,ds',rfl,h2,h3,h4⟩:=hd;unfold Mq at h;split at h
  case h_2=>exact h.elim
  rename_i fd hfd;split at h
  case h_2=>exact h.elim
  rename_i cd hb;split at h
  case h_2=>exact h.elim
  rename_i hle;obtain ⟨a1,hle⟩:=Au hle;obtain ⟨a2,hle⟩:=Au hle;obtain ⟨a3,a4⟩:=Au hle;have a1:ag.length<=fd.ntmps:=(by grind [BW,zg']);have a2:fd.ntmps<=512:=(by simp_all);have a4:c.k<=H.next:=Nat.le_of_ble_eq_true a4;refine ⟨hmo.ne_run,.func f,#[],f,⟨vs⟩,rfl,by simp [invoke,Xj h3],CallsD.mono (λe m' w' hq=>?_) (callsD_of_wpS (R:=λe m' w'=>∃(v:Value) (E':Ag) (u':Option AV) (Y':Sy) (S':VS) (L':BG),e=.returned v/\(L <+: L'/\L'.length=S'.lv/\n<=S'.n/\AR n Y Y'/\Av P c S'.n Y')/\E.leF H.next E'/\E'.At Y'/\Bd E' u' m'/\As B pr E' S'.H w'/\AC P Q L' Y' (Mq P fuel I c fn.results.toList fin D (BZ (D3 H.next n) T) S'.H S'.n S'.lv u')) hfd hb λc₀ cs hmode=>?_)⟩;obtain ⟨v,E',u',Y',S',L',rfl,⟨g1,g2,g3,g4,g5⟩,g6,g7,g8,g9,g10⟩:=hq;have hkeep:C9 H.next n E E':=⟨g6.phi,g6.sz,g6.imm,λi hi=>by rw [g7.v,hy.v];exact g4 i hi⟩;have ht':Bf E' N (BZ (D3 H.next n) T) tmps:=⟨ht.size,ht.le,λt hN=>by rw [E8];exact gh hkeep (ou (ht.con t hN)),ht.gl.leF g6⟩;have hlek:E.leF c.k E':=⟨λi x hi=>g6.phi i x (zl' hi a4),g6.sz,g6.imm,g6.bim,g6.sy⟩;have ih:=du hm hc (fn:=fn) (Q':=Q') (B:=B) (pr:=pr) (tmps:=tmps) D (BZ (D3 H.next n) T) S'.H S'.n S'.lv u' Y' L' g2 g5 g10 (λr n' lv' L2 Y2 k1 k2 k3 k4 k5 k6=>hfin r n' lv' L2 Y2 (g1.trans k1) k2 (ze' g3 k3) (g4.trans k4 g3) k5 k6) E' w' ds' (Go.settle m') g7 ht' g9 (ZP hkeep a3 h4) g8.settle;exact Leaves.mono (λe w ⟨Y2,r,k1,E2,k2,k3⟩=>⟨Y2,r,k1,E2,hlek.trans k2,k3⟩) _ _ _ ih
  .have st:St P B pr fd.ntmps E (C6 ag 0 B6) H [] { tmps:=(⟨vs⟩:Array Value)++Array.replicate (fd.ntmps-(⟨vs⟩:Array Value).size) undef,defers:=[] } w:=
     ⟨UY ht.gl h2 a1 a2,hr,rfl⟩
   have hc₀:c₀={ c₀ with mode:=m }:=(by rw [←hmode]);have hrun:=Lp (N:=fd.ntmps) (c:=⟨c.fc,c.cs,[],H.next,c.own,c.fs⟩) (I:=I) hm hc B pr c₀ cs cd ⟨C6 ag 0 B6,H,n,lv,[]⟩ u _ _ Y L hL hf rfl h E _ w m hy st hmo.in;rw [←hc₀]at hrun;refine Code.wpS_mono (λe a cs' w' hq=>?_) hrun;obtain ⟨Y',S',u',m',E',L',⟨g1,g2,g3,g4,g5,g6⟩,q1,q2,rfl,q3,q4,q5⟩:=hq;have key:AC P Q L' Y' (match Hv P S'.T S'.H fd.results.toList with
     |some _=>Mq P fuel I c fn.results.toList fin D (BZ (D3 H.next n) T) S'.H S'.n S'.lv u'
     |none=>.bad):=by
    grind
   split at key;rename_i l hl;obtain ⟨v,r1,r2⟩:=VL q4.r q4.t hl;rcases q5 with ⟨rfl,_⟩|⟨rfl,_⟩;exact ⟨q4.d,m',rfl,v,r1,v,E',u',Y',S',L',rfl,⟨g1,g2,g3,g4,g5⟩,q1,q2,q3,q4.r,key⟩;exact ⟨q4.d,m',rfl,v,r1,v,E',u',Y',S',L',rfl,⟨g1,g2,g3,g4,g5⟩,q1,q2,q3,q4.r,key⟩;exact key.elim
def Up (hm:P.follows .mixedOrders=true) (hc:Cj P (CL P fuel)) {fn:Func} {fin:A5->Nat->Nat->VT} {Q':Sy->A5->Prop} {u:Option AV} {S:VS} {Y:Sy} {L:BG} (hL:L.length=S.lv) (hf:Av P c S.n Y) (h:AC P Q L Y (PR P fuel I c fn.results.toList fin u S))
  (hfin:∀r n' lv' L' Y',L <+: L'->L'.length=lv'->S.n<=n'->AR S.n Y Y'->Av P c n' Y'->AC P Q L' Y' (fin r n' lv')->Q' Y' r):I6 P c.k fn Q' Y S.T S.H S.D u:=by
 unfold PR at h;split at h;rename_i r hl;exact .inl ⟨CL P fuel,fuel,r,hc,hl,hfin r S.n S.lv L Y (zb' L) hL (za' _) (AR.refl _ _) hf h⟩;exact .inr λB pr E w tmps ds m hy ht hr hd hmo=>du hm hc S.D S.T S.H S.n S.lv u Y L hL hf h hfin E w ds m hy ht hr hd hmo
def to_ (hm:P.follows .mixedOrders=true) (hc:Cj P (CL P fuel)) {f:FuncId} {ag:List AV} {n:Nat} {Y:Sy} (hf:Av P c n Y) (h:AC P Q [] Y (Xo P fuel I c f ag n)):A0 P c.k Y f ag H0 (Vz Q):=by
 unfold Xo at h;split at h
 .rename_i fn hfn;split at h
  .rename_i cd hb;split at h
   .rename_i hle;obtain ⟨h1,h2⟩:=Au hle;have h1:ag.length<=fn.ntmps:=(by grind [BW,zg']);have h2:fn.ntmps<=512:=(by simp_all);have fin:∀u L Y' S,L.length=S.lv->Av P c S.n Y'->AC P Q L Y' (Ul P fuel I c fn.results.toList u S)->I6 P c.k fn (Vz Q) Y' S.T S.H S.D u:=by
     intro u L Y' S hL hg h;refine Up hm hc hL hg h λr n' lv' L' Y' _ _ _ _ _ h=>?_;cases r with
     |pan a H=>exact (show False from h).elim
     |ret a H=>unfold nL mG at h;simp only at h;split at h;rename_i v hv;split at h;rename_i hs;exact ⟨a,H,v,100,rfl,hv,hs,h⟩;exact h.elim;exact h.elim
    refine UQ hm hfn hb ⟨h1,h2,Fs cd (λY' T' H' D' hk=>?_) (λY' r hx=>?_) _ _ _ _ (Hf hm hc cd 0 ⟨C6 ag 0 B6,H0,n,0,[]⟩ _ _ Y [] rfl hf h)⟩
    .obtain ⟨n',lv,L',_,q2,_,_,q5,h'⟩:=hk
     grind
    .cases r with
     |norm T H D=>exact hx.elim
     |pan v T H D=>obtain ⟨n',lv,L',_,q2,_,_,q5,h'⟩:=hx;exact fin (some v) L' Y' ⟨T,H,n',lv,D⟩ q2 q5 h'
     |exit id T H D=>obtain ⟨n',lv,L',_,_,_,_,_,h'⟩:=hx;exact h'.elim
     |ret T H D=>obtain ⟨n',lv,L',_,q2,_,_,q5,h'⟩:=hx;exact fin none L' Y' ⟨T,H,n',lv,D⟩ q2 q5 h'
   exact h.elim
  exact h.elim
 exact h.elim
def A0.low {k:Nat} {Y:Sy} {f:FuncId} {ag:List AV} {H:AHeap} {R:Sy->A5->Prop} (h:A0 P k Y f ag H R):A0 P 0 Y f ag H R:=λB pr E w vs hy hg hr hcon=>
 Calls.mono (h B pr E w vs hy hg hr hcon) λe w' he=>by obtain ⟨Y',r,h1,E',h2,h3⟩:=he;exact ⟨Y',r,h1,E',⟨λ_ _ hi=>absurd hi (zi' _),h2.sz,h2.imm,h2.bim,h2.sy⟩,h3⟩
def QF (R:Nat->List AV->Prop) (a:AV):Prop:=∃j ws,a=.tup (.int .i64 (.ofNat j)::ws)/\Ak ws=true/\R j ws
def Ol {ft:FT} {R:Nat->List AV->Prop} {L:BG} {Y0 Y:Sy} {n:Nat} {b:Bool} {S:VS} {a:AV} (hT:S.T=D9 AP 0 a) (hD:S.D=[]) (hf:AA Y0 n) (hx:AR n Y0 Y):∀(l:List (Bool×BH)) (j0:Nat),(∀j q,l[j]? =some q->ft.exs[j0+j]? =some q)->AC P (QF R) L Y (N0 n ft.k b S l j0)->
  ∃j ws tp,ft.exs[j]? =some (b,tp)/\R j ws/\Ak ws=true/\ws.length=tp.nv/\∀N,A1 P N ft.k Y S.T S.H [] (Y0.puts n ws) (Fq n tp.slots) (tp.heap n) []
 |[],j0,_,h=>h.elim
 |(b',tp)::r,j0,hl,h=>by unfold N0 at h;simp only at h;split at h;exact Ol hT hD hf hx r (j0+1) (λj q hj=>by rw [show j0+1+j=j0+(j+1) by omega];exact hl (j+1) q (by grind)) h;rename_i hb;have hb:b=b':=(by grind);subst hb;split at h;rename_i m hm;obtain ⟨hs,h⟩:=Oo h;obtain ⟨hn,h⟩:=Tw h;obtain ⟨j,ws,e,hok,hR⟩:=h;simp only [Ar,An,AV.tup.injEq,List.cons.injEq,AV.int.injEq,true_and]at e;obtain ⟨e1,e2⟩:=e;have e1:j0=j:=(by cases e1;rfl);subst e1;rw [←e2]at hok hR;refine ⟨j0,An Y.v m.hv,tp,hl 0 _ rfl,hR,hok,?_,λN=>?_⟩;exact (Ta (P:=P) (N:=0) (lv:=0) hm hs hn hf hx hok).1;have:=(Ta (P:=P) (N:=N) (lv:=0) hm hs hn hf hx hok).2;rw [hD]at this;exact this;exact Ol hT hD hf hx r (j0+1) (λj q hj=>by rw [show j0+1+j=j0+(j+1) by omega];exact hl (j+1) q (by grind)) h
def Da (P:Program) (ft:FT) (R:Nat->List AV->Prop) (Y0:Sy) (Y:Sy) (r:A5):Prop:=
 ∃b a H j ws tp,r=(match b with
  |true=>.pan a H
  |false=>.ret a H)/\ft.exs[j]? =some (b,tp)/\R j ws/\Ak ws=true/\ws.length=tp.nv/\∀N,A1 P N ft.k Y (D9 AP 0 a) H [] (Y0.puts (Nat.add 64 ft.ent.nv) ws) (Fq (Nat.add 64 ft.ent.nv) tp.slots) (tp.heap (Nat.add 64 ft.ent.nv)) []
def Da.call {ft:FT} {R:Nat->List AV->Prop} {Y0:Sy} {f:FuncId} {ag:List AV} {H:AHeap} (h:A0 P ft.k Y0 f ag H (Da P ft R Y0)):A0 P ft.k Y0 f ag H (Oi ft (Nat.add 64 ft.ent.nv) Y0 R):=λB pr E w vs hy hg hr hcon=>
 Calls.mono (h B pr E w vs hy hg hr hcon) λe w' he=>by
  obtain ⟨Y',r,⟨b,a,H',j,ws,tp,rfl,h1,h2,h3,h4,hw⟩,E',hle,hy',hres⟩:=he;have hend:∃u,e=(match b with
    |true=>.panicked [{ v:=u,recovered:=false }]
    |false=>.returned u)/\Ac E' a u/\As B pr E' H' w':=by
   grind
  obtain ⟨u,he,hcu,hr'⟩:=hend;have hgl:BQ E':=hg.leF hle
  let ac:Act:={ tmps:= #[u],defers:=[] }
  have st:St P B pr 1 E' (D9 AP 0 a) H' [] ac w':=⟨⟨rfl,by omega,λt ht=>by
   by_cases e:0=t;subst e;exact hcu
   grind [Fm,K2,Ac],hgl⟩,hr',rfl⟩
  obtain ⟨E2,hle2,hy2,st2⟩:=hw 1 B pr E' ac w' hy' st;have hcu2:=st2.t.con 0 (by omega);refine ⟨_,_,⟨j,ws,b,tp,h1,h2,h3,h4,rfl,rfl⟩,E2,hle.trans hle2,hy2,?_⟩;cases b with
  |true=>exact ⟨u,he,hcu2,st2.r⟩
  |false=>exact ⟨u,he,hcu2,st2.r⟩
def xO (hm:P.follows .mixedOrders=true) (hc:Cj P (CL P fuel)) {f:FuncId} {ft:FT} {R:Nat->List AV->Prop} {Y:Sy} (hf:Av P c (Nat.add 64 ft.ent.nv) Y) (h:AC P (QF R) [] Y (YC P fuel I c f ft)):
  A0 P ft.k Y f (CB 64 (DE ft.ent.slots)) (ft.ent.heap 64) (Oi ft (Nat.add 64 ft.ent.nv) Y R):=by
 unfold YC at h;split at h
 .rename_i fn hfn;split at h
  .rename_i cd hb;split at h
   .rename_i hle;obtain ⟨h1,hle⟩:=Au hle;obtain ⟨h2,h3⟩:=Au hle;have h1:(CB 64 (DE ft.ent.slots)).length<=fn.ntmps:=(by grind [BW,T4,zg']);have h2:fn.ntmps<=512:=(by simp_all);have h3:=zd' h3;have fin:∀u L Y' S,L.length=S.lv->Av P c S.n Y'->Nat.add 64 ft.ent.nv<=S.n->AR (Nat.add 64 ft.ent.nv) Y Y'->AC P (QF R) L Y' (Nz P fuel I c fn.results.toList ft u S)->I6 P c.k fn (Da P ft R Y) Y' S.T S.H S.D u:=by
     intro u L Y' S hL hg hn hx h;refine Up hm hc hL hg h λr n' lv' L' Y2 _ _ _ hx2 _ h=>?_;have hx:=hx.trans hx2 hn;cases r with
     |ret a H=>obtain ⟨j,ws,tp,q1,q2,q3,q4,q5⟩:=Ol (a:=a) rfl rfl hf.1 hx ft.exs 0 (λj q hj=>by grind) h;exact ⟨false,a,H,j,ws,tp,rfl,q1,q2,q3,q4,q5⟩
     |pan a H=>obtain ⟨j,ws,tp,q1,q2,q3,q4,q5⟩:=Ol (a:=a) rfl rfl hf.1 hx ft.exs 0 (λj q hj=>by grind) h;exact ⟨true,a,H,j,ws,tp,rfl,q1,q2,q3,q4,q5⟩
    refine Da.call ?_;rw [←h3];refine UQ hm hfn hb ⟨h1,h2,Fs cd (λY' T' H' D' hk=>?_) (λY' r hx=>?_) _ _ _ _ (Hf hm hc cd 0 ⟨C6 (CB 64 (DE ft.ent.slots)) 0 B6,ft.ent.heap 64,Nat.add 64 ft.ent.nv,0,[]⟩ _ _ Y [] rfl hf h)⟩
    .obtain ⟨n',lv,L',_,q2,q3,hx,q5,h'⟩:=hk
     grind
    .cases r with
     |norm T H D=>exact hx.elim
     |pan v T H D=>obtain ⟨n',lv,L',_,q2,q3,hx,q5,h'⟩:=hx;exact fin (some v) L' Y' ⟨T,H,n',lv,D⟩ q2 q5 q3 hx h'
     |exit id T H D=>obtain ⟨n',lv,L',_,_,_,_,_,h'⟩:=hx;exact h'.elim
     |ret T H D=>obtain ⟨n',lv,L',_,q2,q3,hx,q5,h'⟩:=hx;exact fin none L' Y' ⟨T,H,n',lv,D⟩ q2 q5 q3 hx h'
   exact h.elim
  exact h.elim
 exact h.elim
def sR (hm:P.follows .mixedOrders=true) (hc:Cj P (CL P fuel)) {g:FuncId} {ag:List AV} {H:AHeap} {n lv:Nat} {ret pan:AV->AHeap->Nat->Nat->VT} {L:List (Nat->List AV->Prop)} {Y:Sy} (hL:L.length=lv) (hf:AA Y n/\Br P c.fc Y)
  (h:AC P Q L Y (Yz P fuel I c g ag H n lv ret pan)):A0 P H.next Y g ag H (aC P Q c.fc L n Y ret pan):=by
 unfold Yz at h;split at h
 .rename_i fn hfn;split at h
  .rename_i cd hb;split at h
   .rename_i hle;obtain ⟨h1,h2⟩:=Au hle;have h1:ag.length<=fn.ntmps:=(by grind [BW,zg']);have h2:fn.ntmps<=512:=(by simp_all);have fin:∀u L' Y' (S:VS),L <+: L'->L'.length=S.lv->n<=S.n->AR n Y Y'->(AA Y' S.n/\Br P c.fc Y')->AC P Q L' Y' (TU P fuel I ⟨c.fc,c.cs,[],H.next,c.own,c.fs⟩ fn.results.toList ret pan u S)->I6 P H.next fn (aC P Q c.fc L n Y ret pan) Y' S.T S.H S.D u:=by
     intro u L' Y' S hp hl hn hx hg h;refine Up (c:=⟨c.fc,c.cs,[],H.next,c.own,c.fs⟩) hm hc hl hg h λr n' lv' L2 Y2 k1 k2 k3 k4 k5 h=>?_;refine ⟨n',lv',L2,hp.trans k1,k2,ze' hn k3,hx.trans k4 hn,k5,?_⟩;cases r with
     |ret a H=>exact h
     |pan a H=>exact h
    refine UQ hm hfn hb ⟨h1,h2,Fs cd (λY' T' H' D' hk=>?_) (λY' r hx=>?_) _ _ _ _ (Hf (c:=⟨c.fc,c.cs,[],H.next,c.own,c.fs⟩) hm hc cd 0 ⟨C6 ag 0 B6,H,n,lv,[]⟩ _ _ Y L hL hf h)⟩;obtain ⟨n',lv',L',q1,q2,q3,q4,q5,q6⟩:=hk;exact fin none L' Y' ⟨T',H',n',lv',D'⟩ q1 q2 q3 q4 q5 q6
    .cases r with
     |norm T H D=>exact hx.elim
     |pan v T H D=>obtain ⟨n',lv',L',q1,q2,q3,q4,q5,q6⟩:=hx;exact fin (some v) L' Y' ⟨T,H,n',lv',D⟩ q1 q2 q3 q4 q5 q6
     |exit id T H D=>obtain ⟨n',lv',L',_,_,_,_,_,q6⟩:=hx;exact (show False from q6).elim
     |ret T H D=>obtain ⟨n',lv',L',q1,q2,q3,q4,q5,q6⟩:=hx;exact fin none L' Y' ⟨T,H,n',lv',D⟩ q1 q2 q3 q4 q5 q6
   exact (show False from h).elim
  exact (show False from h).elim
 exact (show False from h).elim
end
def L5 (P:Program) (fuel:Nat):Nat->C3 P fuel
 |0=>vn P fuel
 |d+1=>⟨λc g ag H n lv ret pan=>Yz P fuel (L5 P fuel d) c g ag H n lv ret pan,λhm hc hL hf h=>sR hm hc hL hf h⟩
def Wb (P:Program) (fuel:Nat) (c:VC) (f:FuncId) (ft:FT):VT:=YC P fuel (L5 P fuel 12) c f ft
def Tt (P:Program) (fuel:Nat) (c:VC) (f:FuncId) (ag:List AV) (n:Nat):VT:=Xo P fuel (L5 P fuel 12) c f ag n
def lI {P:Program} {Q:AV->Prop} {fuel:Nat} {c:VC} (hm:P.follows .mixedOrders=true) (hc:Cj P (CL P fuel)) {f:FuncId} {ag:List AV} {n:Nat} {Y:Sy} (hf:Av P c n Y) (h:AC P Q [] Y (Tt P fuel c f ag n)):A0 P c.k Y f ag H0 (Vz Q):=to_ hm hc hf h
def vu {P:Program} {fuel:Nat} {c:VC} (hm:P.follows .mixedOrders=true) (hc:Cj P (CL P fuel)) {f:FuncId} {ft:FT} {R:Nat->List AV->Prop} {Y:Sy} (hf:Av P c (Nat.add 64 ft.ent.nv) Y) (h:AC P (QF R) [] Y (Wb P fuel c f ft)):A0 P ft.k Y f (CB 64 (DE ft.ent.slots)) (ft.ent.heap 64) (Oi ft (Nat.add 64 ft.ent.nv) Y R):=xO hm hc hf h
end Go.Sx
