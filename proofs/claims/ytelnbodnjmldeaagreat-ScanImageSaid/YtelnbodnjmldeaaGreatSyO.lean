/-
  Regions whose order is open, with symbols.
-/
import Derived.Test.YtelnbodnjmldeaaGreatSyY
import Derived.Test.YtelnbodnjmldeaaGreatSyH
import Derived.Test.YtelnbodnjmldeaaGreatSyS
set_option linter.all false
open Nat renaming le_refl→za',le_succ→zc',eq_of_beq_eq_true→zd',le_trans→ze',le_add_right→zf',ble_eq→zg',not_lt_zero→zi',lt_or_ge→zk',lt_of_lt_of_le→zl',blt_eq→zm',zero_le→zn',lt_succ_self→zo'
open List renaming prefix_refl→zb',mem_cons_self→zh',mem_cons_of_mem→zj'
namespace Go.Sx
theorem O4 (T:Tm) {t:Nat} (ht:t<512):∀(rd:List Nat) (R:Tm),An (BO T rd R) t=if t∈rd then An T t else An R t
 |[],R=>by rfl
 |d::r,R=>by
  unfold BO;split
  .rename_i hb;have hd:d<512:=(by simpa [Nat.blt_eq]using hb);rw [O4 T ht r];by_cases e:d=t
   .subst e;rw [Gw R hd];by_cases hm:d∈r<;>simp [hm]
   rw [Fi R ht hd e];have e':t≠d:=λh=>e h.symm;simp [e']
  .rename_i hb;have hd:¬d<512:=λh=>by have:Nat.blt d 512=true:=(by simpa [Nat.blt_eq]using h);rw [hb]at this;cases this
   rw [O4 T ht r];have e':t≠d:=λh=>(by omega);simp [e']
mutual
theorem jL {n:Nat} {s s':Nat->Option AV} (hs:∀k,k<n->s k=s' k):∀{a:AV},Ii n a=true->Ap s a=Ap s' a
 | .opq,_=>rfl
 | .bool _,_=>rfl
 | .int _ _,_=>rfl
 | .flt _ _,_=>rfl
 | .nan _,_=>rfl
 | .str _,_=>rfl
 | .nptr,_=>rfl
 | .ptr _ _,_=>rfl
 | .vptr cs,h=>by simp only [Ii]at h;simp only [Ap,EX hs h]
 | .nsl,_=>rfl
 | .sl ..,_=>rfl
 | .vsl _ _ cs,h=>by simp only [Ii]at h;simp only [Ap,EX hs h]
 | .nmap,_=>rfl
 | .map _,_=>rfl
 | .nfn,_=>rfl
 | .fn _ cs,h=>by simp only [Ii]at h;simp only [Ap,EX hs h]
 | .nif,_=>rfl
 | .iface _ a,h=>by simp only [Ii]at h;simp only [Ap,jL hs h]
 | .agg cs,h=>by simp only [Ii]at h;simp only [Ap,EX hs h]
 | .tup cs,h=>by simp only [Ii]at h;simp only [Ap,EX hs h]
 | .sym i,h=>by
   grind [Ii,zm',Ap]
 | .slx ..,_=>rfl
 | .ptx ..,_=>rfl
theorem EX {n:Nat} {s s':Nat->Option AV} (hs:∀k,k<n->s k=s' k):∀{l:List AV},CM n l=true->Am s l=Am s' l
 |[],_=>rfl
 |a::r,h=>by obtain ⟨h1,h2⟩:=Aq h;simp only [Am,jL hs h1,EX hs h2]
end
variable [Gl]
section
variable {P:Program} {N:Nat} {Q:AV->Prop} {c:VC}
def fR {s:Nat->Option AV} {m:Nat} {H:AHeap} {R:Tm} {o:Oper} {q:AV} (h:Ev (A0 P o) R H=some q):BI P s m N H R o q:=λB pr E a w hE ht hr C X hC=>by obtain ⟨E',n,v,w',h1,h2,h3,h4,h5⟩:=Ej (lE h) hr ht;have:=hC E' v w' h3 h4 h5;unfold Oper.wp;rw [h1];rcases h2 with rfl|⟨rfl,rfl⟩;exact this;exact this
def tP {s:Nat->Option AV} {m:Nat} {H:AHeap} {R:Tm} {o:Oper} {q:AV} (h:WB P R o=some q):BI P s m N H R o q:=λB pr E a w hE ht hr C X hC=>by
 unfold WB at h;split at h
 case h_2=>cases h
 rename_i t n ps ho;split at h
 case h_2=>cases h
 rename_i r hr0;obtain ⟨h1,h2⟩:=V0 (E:=E) (ρ:=look R) (σ:=a.eval) (λx=>ht.look x) ps.toList;have e:(ps.map λp=>(p.1,a.eval p.2)).toList=ps.toList.map λp=>(p.1,a.eval p.2):=by simp
 obtain ⟨e',sz,cs,arr,hroom,rfl,hlen,hc,hrun⟩:=jj (E:=E) (vparts:=ps.map λp=>(p.1,a.eval p.2)) (by grind) (by grind) hr0;simp only at h;split at h
 case h_2=>cases h
 rename_i cs' hcs;split at h
 case h_2=>cases h
 cases h;have hcs':cs'=cs:=by
  grind [AHeap.get_push_same,A8]
 subst hcs';obtain ⟨i1,i2⟩:=hr.new_imm (arr:=arr) (t:=e') (fr:=(0,0)) (vs:=arr.toList) (λi v hv=>by grind);have:=hC _ (.slice (some ⟨w.heap.size,0,none⟩) n n) _ i1 i2 (by exact ⟨w.heap.size,0,arr.toList,n,rfl,za' _,hc.sub i1.1,λi v hv=>by grind⟩);unfold Oper.wp;have hx:(execOp a.eval o).run P w=.ok (.value (.slice (some ⟨w.heap.size,0,none⟩) n n)) (w.alloc (.cells arr e')):=by
  grind [execOp,Sem.run_bind,Result.andThen_ok,Sem.run_pure]
 rw [hx];exact this
def xu {Y:Sy} {n:Nat} (hf:AA Y n) {H:AHeap} {R:Tm} {o:Oper} {g:FuncId} {ag:List AV} {sh:List (Option Nat)} {v:AV} {vs:List AV} (hst:(A0 P o).run R H=some (.call g ag)) (hso:Bi ag=true) (hlt:CM n ag=true)
  (hp:HR P g (Am Y.v ag) v) (hfl:Ls sh v=some vs) (hok:Ak vs=true):BI P (Y.puts n vs).v (n+FJ sh) N H R o (Id n sh):=λB pr E a w hE ht hr C X hC=>by
 obtain ⟨us,g1,g2⟩:=Ej hst hr ht;have hlen:=Xl hfl;have hden:Am E.sy ag=Am Y.v ag:=EX (λk hk=>(hE k (by omega)).trans (AM.puts vs n (za' n) k hk)) hlt;have hcon:Ah E (Am Y.v ag) us:=by rw [←hden];exact (JU hso g2).con
 unfold Oper.wp;rw [g1];refine Calls.mono (hp H B pr E w us ht.gl hr hcon) λe w' he=>?_;obtain ⟨E',hle,u',rfl,h1,h2⟩:=he;exact hC E' u' w' hle h2 (kf (E:=E') (E':=E') (λ_ _ _ h=>h) hfl hok h1 λi a ha=>by
  rw [hle.1.2.2.2.1,hE (n+i) (by grind)]
  grind [Gj])
def oF {Y:Sy} {n:Nat} {H:AHeap} {R:Tm} {o:Oper} {op:XOp} {ag:List AV} {r:AV} (hl:FI R o=some (op,ag)) (hso:Bi ag=true) (hlt:CM n ag=true) (hr:op.run P (Am Y.v ag)=some r) (hok:okC r=true):
  BI P (Y.put n r).v (n+1) N H R o (.sym n):=λB pr E a w hE ht hrel C X hC=>by
 have hden:Am E.sy ag=Am Y.v ag:=EX (λk hk=>(hE k (by omega)).trans (Sy.put_ne _ _ (by omega))) hlt;obtain ⟨E',nx,v,w',h1,h2,h3,h4,h5⟩:=Yn hl hso (r:=r) (by rw [hden];exact hr) hrel ht;have:=hC E' v w' h3 h4 (by refine ⟨r,?_,Fn hok,Jk hok h5⟩;rw [h3.1.2.2.2.1,hE n (by omega)];exact Sy.put_same _ _ _);unfold Oper.wp;rw [h1];rcases h2 with rfl|⟨rfl,rfl⟩;exact this;exact this
def yq {Y:Sy} {n:Nat} {H:AHeap} {R:Tm} {o:Oper} {op:XOp} {ag:List AV} {r:AV} (hl:M8 R H o=some (op,ag)) (hlt:CM n ag=true) (hr:op.run P (Am Y.v ag)=some r) (hok:okC r=true):
  BI P (Y.put n r).v (n+1) N H R o (.sym n):=λB pr E a w hE ht hrel C X hC=>by
 have hden:Am E.sy ag=Am Y.v ag:=EX (λk hk=>(hE k (by omega)).trans (Sy.put_ne _ _ (by omega))) hlt;obtain ⟨E',nx,v,w',h1,h2,h3,h4,h5⟩:=js hrel (λx=>ht.look x) hl (r:=r) (by rw [hden];exact hr);have:=hC E' v w' h3 h4 (by refine ⟨r,?_,Fn hok,Jk hok h5⟩;rw [h3.1.2.2.2.1,hE n (by omega)];exact Sy.put_same _ _ _);unfold Oper.wp;rw [h1];rcases h2 with rfl|⟨rfl,rfl⟩;exact this;exact this
def oc_ {Y:Sy} {n:Nat} (hf:AA Y n) {H:AHeap} {R:Tm} {o:Oper} {op:XOp} {ag cs:List AV} (hl:FI R o=some (op,ag)) (hso:Bi ag=true) (hlt:CM n ag=true) (hr:op.run P (Am Y.v ag)=some (.agg cs)) (hok:Ak cs=true):
  BI P (Y.puts n cs).v (n+cs.length) N H R o (.agg (Af n cs.length)):=λB pr E a w hE ht hrel C X hC=>by
 have hden:Am E.sy ag=Am Y.v ag:=EX (λk hk=>(hE k (by omega)).trans (AM.puts cs n (za' n) k hk)) hlt;obtain ⟨E',nx,v,w',h1,h2,h3,h4,h5⟩:=Yn hl hso (r:=.agg cs) (by rw [hden];exact hr) hrel ht;have:=hC E' v w' h3 h4 (by
  obtain ⟨vs,rfl,hL⟩:=h5;refine ⟨vs,rfl,NQ n cs vs hok (λi a ha=>?_) (GJ hok hL)⟩;rw [h3.1.2.2.2.1,hE (n+i) (by grind)]
  grind [Gj])
 unfold Oper.wp;rw [h1];rcases h2 with rfl|⟨rfl,rfl⟩;exact this;exact this
def tY {s:Nat->Option AV} {m:Nat} {H:AHeap} {R:Tm} {o:Oper} {q:AV} (h:QJ P R o=some q):BI P s m N H R o q:=λB pr E a w hE ht hr C X hC=>by obtain ⟨v,h1,h2⟩:=pw hr (λx=>ht.look x) h;unfold Oper.wp;rw [h1];exact hC E v w (Ag.le_refl E) hr h2
def xj {Y:Sy} {n id sz:Nat} {H:AHeap} {R:Tm} {o:Oper} {op:XOp} {ag:List AV} {r:AV} (hl:Nd P R o=some (op,ag,id,sz)) (hlt:CM n ag=true) (hr:op.run P (Am Y.v ag)=some r):
  BI P (Y.put n r).v (n+1) N H R o (.ptx id n sz 0):=λB pr E a w hE ht hrel C X hC=>by
 have hden:Am E.sy ag=Am Y.v ag:=EX (λk hk=>(hE k (by omega)).trans (Sy.put_ne _ _ (by omega))) hlt;obtain ⟨q,E',v,w',rfl,h1,h2,h3,h4⟩:=l8 hrel (λx=>ht.look x) hl (by rw [hden];exact hr);unfold Oper.wp;rw [h1];refine hC E' v w' h2 h3 ((ML (k:=.i64) ?_).2 (by omega));rw [h2.1.2.2.2.1,hE n (by omega)];exact Sy.put_same _ _ _
def wA {Y:Sy} {n:Nat} {H:AHeap} {R:Tm} {o:Oper} {op:XOp} {ag:List AV} {r:AV} (hl:Pc R H o=some (op,ag)) (hlt:CM n ag=true) (hr:op.run P (Am Y.v ag)=some r) (hok:okC r=true):
  BI P (Y.put n r).v (n+1) N H R o (.sym n):=λB pr E a w hE ht hrel C X hC=>by
 have hden:Am E.sy ag=Am Y.v ag:=EX (λk hk=>(hE k (by omega)).trans (Sy.put_ne _ _ (by omega))) hlt;obtain ⟨v,h1,h2⟩:=XN hrel (λx=>ht.look x) hl (by rw [hden];exact hr);unfold Oper.wp;rw [h1];refine hC E v w (Ag.le_refl E) hrel ?_;exact ⟨r,by rw [hE n (by omega)];exact Sy.put_same _ _ _,Fn hok,Jk hok h2⟩
def xh {Y:Sy} {n:Nat} (hf:AA Y n) {H:AHeap} {R:Tm} {o:Oper} {op:XOp} {ag cs:List AV} (hl:Pc R H o=some (op,ag)) (hlt:CM n ag=true) (hr:op.run P (Am Y.v ag)=some (.agg cs)) (hok:Ak cs=true):
  BI P (Y.puts n cs).v (n+cs.length) N H R o (.agg (Af n cs.length)):=λB pr E a w hE ht hrel C X hC=>by
 have hden:Am E.sy ag=Am Y.v ag:=EX (λk hk=>(hE k (by omega)).trans (AM.puts cs n (za' n) k hk)) hlt;obtain ⟨v,h1,h2⟩:=XN hrel (λx=>ht.look x) hl (by rw [hden];exact hr);unfold Oper.wp;rw [h1];refine hC E v w (Ag.le_refl E) hrel ?_;obtain ⟨vs,rfl,hL⟩:=h2;refine ⟨vs,rfl,NQ n cs vs hok (λi a ha=>?_) (GJ hok hL)⟩;rw [hE (n+i) (by grind)]
 grind [Gj]
def zA {Y:Sy} {n:Nat} {H:AHeap} {R:Tm} {o:Oper} {op:XOp} {ag:List AV} {r:AV} (hl:Fa R o=some (op,ag)) (hlt:CM n ag=true) (hr:op.run P (Am Y.v ag)=some r) (hok:okC r=true):
  BI P (Y.put n r).v (n+1) N H R o (.sym n):=λB pr E a w hE ht hrel C X hC=>by
 have hden:Am E.sy ag=Am Y.v ag:=EX (λk hk=>(hE k (by omega)).trans (Sy.put_ne _ _ (by omega))) hlt;obtain ⟨E',nx,v,w',h1,h2,h3,h4,h5⟩:=eT hl (by rw [hden];exact hr) ht hrel;have:=hC E' v w' h3 h4 (by refine ⟨r,?_,Fn hok,Jk hok h5⟩;rw [h3.1.2.2.2.1,hE n (by omega)];exact Sy.put_same _ _ _);unfold Oper.wp;rw [h1];rcases h2 with rfl|⟨rfl,rfl⟩;exact this;exact this
def G8 (Y:Sy) (n:Nat) (Tr T:Tm):Prop:=∀t,t<512->∀(E:Ag) (v:Value),Iy Y.v n E->Ac E (An Tr t) v->Ac E (An T t) v
omit [Gl]in
def G8.know {Y:Sy} {n:Nat} {Tr T:Tm} (h:G8 Y n Tr T) (hf:AA Y n) {i:Nat} {b:Bool} (hb:Y.v i=some (.bool b)):G8 Y n Tr (B1 (GG i b) T):=λt ht E v hE hc=>by
 rw [EW];have hi:i<n:=by rcases zk' i n with h|h;exact h;rw [hf.2 i h]at hb;cases hb
 exact WF ((hE i hi).trans hb) (h t ht E v hE hc)
omit [Gl]in
theorem G8.put {Y Y':Sy} {n n':Nat} {Tr T:Tm} (h:G8 Y n Tr T) (hx:AM n Y Y') (hn:n<=n') {d:Option Nat} {u:Tm->AV->Tm} (hu:CP N d=.mk u) (q:AV):G8 Y' n' (u Tr q) (u T q):=λt ht E v hE hc=>by
 obtain ⟨p1,p2⟩:=Pp hu Tr q ht;obtain ⟨q1,q2⟩:=Pp hu T q ht;by_cases e:d=some t
 .grind
 rw [p2 e]at hc;rw [q2 e];exact h t ht E v (λk hk=>(hE k (by omega)).trans (hx k hk)) hc
structure J9 (P:Program) (N:Nat) (Q:AV->Prop) (c:VC) (L:BD) (Ae:List Oper) (l0:List SI) (n0 nx:Nat) (x:SI) (gs:List GW) (ps:List (Nat×List Nat)) (u:Tm->AV->Tm) (Tr:Tm) (S:VS) (Y:Sy) (next:VS->VT) (Y':Sy) (S1 S':VS) (q:AV) (e:Cs):Prop where
 good:Au P c S'.n Y'
 n:S.n<=S'.n
 ext:AM S.n Y Y'
 lv:S'.lv=S.lv
 d:S'.D=S.D
 l:Y'.l=Y.l
 sim:G8 Y S.n Tr S1.T
 t:S'.T=u S1.T q
 ok:AB P Q L Y' (next S')
 ev:(C4 x=false/\e=.off/\q=.tup []/\CT Ae x (BO S1.T x.rd AK)=some false/\S'.H=S.H)\/(e=.val q/\CT Ae x (BO S1.T x.rd AK)=some true/\
  ((Cq x=true/\Vw x.bef (Ha x (BO S.T x.rd AK)) ps=true/\Lh P Y'.v S'.n N S.H S'.H (BO S1.T x.rd AK) x.o q/\
      ∀ids,apart (Ha x (BO S.T x.rd AK)) ids=true->∀id k,Bx id ids=true->S.H.get id=some k->S'.H.get id=some k)\/
   (C4 x=true/\S'.H=S.H/\∃k,O8 P x nx=some (q,k))\/
   (C4 x=false/\Cq x=false/\NI x.bef (JA x S.T) l0 0 n0=true/\QD x.bef (JA x S.T) gs=true/\S'.H=S.H/\BI P Y'.v S'.n N (NU x S gs) (BO S1.T x.rd AK) x.o q)))
def pZ {s:Nat->Option AV} {m:Nat} {H H':AHeap} {R:Tm} {o:Oper} {q:AV} (h:(A0 P o).run R H=some (.val q H')):Lh P s m N H H' R o q:=λB pr E a w hE ht hr C X hC=>by obtain ⟨E',n,v,w',h1,h2,h3,h4,h5⟩:=Ej h hr ht;have:=hC E' v w' h3 h4 h5;unfold Oper.wp;rw [h1];rcases h2 with rfl|⟨rfl,rfl⟩;exact this;exact this
def tz {Y:Sy} {n id:Nat} {H:AHeap} {R:Tm} {o:Oper} {op:XOp} {ag:List AV} {r:AV} (hl:JE R H o=some (op,ag,id)) (hlt:CM n ag=true) (hr:op.run P (Am Y.v ag)=some r) (hok:okC r=true):
  Lh P (Y.put n r).v (n+1) N H (H.set id (.syl n)) R o (.tup []):=λB pr E a w hE ht hrel C X hC=>by
 have hden:Am E.sy ag=Am Y.v ag:=EX (λk hk=>(hE k (by omega)).trans (Sy.put_ne _ _ (by omega))) hlt;obtain ⟨w',h1,h2⟩:=mX (n:=n) hrel (λx=>ht.look x) hl (by rw [hden];exact hr) hok (by rw [hE n (by omega)];exact Sy.put_same _ _ _);unfold Oper.wp;rw [h1];exact hC E undef w' (Ag.le_refl E) h2 (GQ E)
omit [Gl]in
def TJ {n i:Nat} {ag:List AV} (h:HQ ag=some i) (hlt:CM n ag=true):i<n:=by
 unfold HQ at h;split at h
 .split at h<;>simp_all [CM,Ii]
 cases h
def rP_ {Y:Sy} {n id sz:Nat} {H:AHeap} {R:Tm} {o:Oper} {op:XOp} {ag:List AV} {r:AV} (hl:J8 P R H o=some (id,sz,op,ag)) (hpos:LR ag=true\/∃i,HQ ag=some i/\IP Y.v i) (hlt:CM n ag=true) (hr:op.run P (Am Y.v ag)=some r) (hok:okC r=true):
  Lh P (Y.put n r).v (n+1) N H ((H.erase id).push (.syl n)) R o (.slx H.next sz n):=λB pr E a w hE ht hrel C X hC=>by
 have hden:Am E.sy ag=Am Y.v ag:=EX (λk hk=>(hE k (by omega)).trans (Sy.put_ne _ _ (by omega))) hlt;obtain ⟨_,E',v,w',h1,h2,h3,h4⟩:=vZ (E:=E) hl hok (hpos.imp (λh=>h) λ⟨i,hi,h⟩=>⟨i,hi,by
  have hin:i<n:=TJ hi hlt;unfold IP;rw [(hE i (by omega)).trans (Sy.put_ne _ _ (by omega))];exact h⟩) (by grind) (by rw [hE n (by omega)];exact Sy.put_same _ _ _) ht hrel
 unfold Oper.wp;rw [h1];exact hC E' v w' h2 h3 h4
def lX {Y:Sy} {n m id sz:Nat} {H:AHeap} {R:Tm} {o:Oper} {op:XOp} {ag:List AV} {r:AV} (hl:Hu P R H o=some (id,sz,op,ag)) (hpos:LR ag=true\/∃i,HQ ag=some i/\IP Y.v i) (hlt:CM m ag=true) (hmn:m<=n) (hr:op.run P (Am Y.v ag)=some r) (hok:okC r=true):
  Lh P (Y.put n r).v (n+1) N H ((H.erase id).push (.syl n)) R o (.slx H.next sz n):=λB pr E a w hE ht hrel C X hC=>by
 have hden:Am E.sy ag=Am Y.v ag:=EX (λk hk=>(hE k (by omega)).trans (Sy.put_ne _ _ (by omega))) hlt;obtain ⟨E',v,w',h1,h2,h3,h4⟩:=wu (E:=E) hl hok (hpos.imp (λh=>h) λ⟨i,hi,h⟩=>⟨i,hi,by
  have hin:i<m:=TJ hi hlt;unfold IP;rw [(hE i (by omega)).trans (Sy.put_ne _ _ (by omega))];exact h⟩) (by grind) (by rw [hE n (by omega)];exact Sy.put_same _ _ _) ht hrel
 unfold Oper.wp;rw [h1];exact hC E' v w' h2 h3 h4
def ui {Y:Sy} {n m id sz i:Nat} {H:AHeap} {R:Tm} {o:Oper} {op:XOp} {ag:List AV} (hl:Hu P R H o=some (id,sz,op,ag)) (hi:HQ ag=some i) (he:Oj Y.v i) (hlt:CM m ag=true) (hmn:m<=n):
  Lh P Y.v n N H H R o (KY R o):=λB pr E a w hE ht hrel C X hC=>by
 obtain ⟨E',v,w',h1,h2,h3,h4⟩:=zj (E:=E) hl hi (by have hin:i<m:=TJ hi hlt;unfold Oj;rw [hE i (by omega)];exact he) ht hrel;unfold Oper.wp;rw [h1];exact hC E' v w' h2 h3 h4
def ng {x:SI} {R:Tm} {H:AHeap} {id sz n:Nat} {op:XOp} {ag:List AV} (hap:OU x=true) (hl:Hu P R H x.o=some (id,sz,op,ag)) {ids:List Nat} (ha:apart (Ha x R) ids=true) {idr:Nat} {k:AZ} (hm:Bx idr ids=true) (hk:H.get idr=some k) (hnew:H.get H.next=none):
  ((H.erase id).push (.syl n)).get idr=some k:=by
 unfold Hu at hl;split at hl
 case h_2=>cases hl
 rename_i c ho;split at hl
 case h_2=>cases hl
 rename_i b hc;split at hl
 case h_2=>cases hl
 split at hl
 case h_2=>cases hl
 rename_i s x' t tx h1 h2;split at hl
 case h_2=>cases hl
 rename_i hroom;split at hl
 case h_2=>cases hl
 split at hl
 case h_2=>cases hl
 split at hl
 case h_2=>cases hl
 split at hl
 case h_2=>cases hl
 split at hl
 case h_2=>cases hl
 split at hl
 case h_2=>cases hl
 rename_i id' sd hh;have hM:Gx x=false:=by unfold Gx;rw [ho]
 unfold Ha at ha;rw [hM]at ha;unfold Nt at ha;rw [ho]at ha;simp only [hap,h1]at ha;have hne:id'≠idr:=λe=>by
  grind [N1,apart]
 obtain ⟨r1,r2,r3⟩:=Ao.room hroom;have e1:((H.erase id').push (.syl n)).get idr=(H.erase id').get idr:=AHeap.get_push_ne (H.erase id') r2 (λe=>by have e':H.next=idr:=e;grind) _
 grind [AHeap.get_erase_ne]
def zw {s:Nat->Option AV} {m N:Nat} {H:AHeap} {R:Tm} {o:Oper} {q:AV} (h:BI P s m N H R o q):Lh P s m N H H R o q:=λB pr E a w hE ht hr C Q hC=>h B pr E a w hE ht hr C Q hC
def ye {x:SI} {R:Tm} {H:AHeap} {id sz n:Nat} {op:XOp} {ag:List AV} (hap:OU x=true) (hl:J8 P R H x.o=some (id,sz,op,ag)) {ids:List Nat} (ha:apart (Ha x R) ids=true) {idr:Nat} {k:AZ} (hm:Bx idr ids=true) (hk:H.get idr=some k) (hnew:H.get H.next=none):
  ((H.erase id).push (.syl n)).get idr=some k:=by
 unfold J8 at hl;split at hl
 case h_2=>cases hl
 rename_i c ho;split at hl
 case h_2=>cases hl
 rename_i b hc;split at hl
 case h_2=>cases hl
 split at hl
 case h_2=>cases hl
 rename_i s x' t tx h1 h2;split at hl
 case h_2=>cases hl
 rename_i id' sz' i hs;split at hl
 case h_2=>cases hl
 split at hl
 case h_2=>cases hl
 rename_i hji;have hroom:=(Aq hji).2;have hid:id'=id:=by
  repeat' (split at hl<;>first|(cases hl;done)|skip)
  cases hl;rfl
 have hM:Gx x=false:=by unfold Gx;rw [ho]
 unfold Ha at ha;rw [hM]at ha;unfold Nt at ha;rw [ho]at ha;simp only [hap,h1,hs]at ha;have hne:id'≠idr:=λe=>by
  grind [apart]
 obtain ⟨r1,r2,r3⟩:=Ao.room hroom;have e1:((H.erase id').push (.syl n)).get idr=(H.erase id').get idr:=AHeap.get_push_ne (H.erase id') r2 (λe=>by have e':H.next=idr:=e;grind) _
 grind [AHeap.get_erase_ne]
def ti_ {x:SI} {R:Tm} (h:PU x R=false):Nt x R=.all:=by
 grind [Nt,PU]
omit [Gl]in
theorem WV {H:AHeap} (h:H.room=true):H.next<A8:=by
 unfold AHeap.room at h
 grind [zm',zg']
omit [Gl]in
theorem jP {H:AHeap} {cs:List AV} {a:AV} {H':AHeap} (h:HG H cs=some (a,H')) (hn:H.get H.next=none):∀id k,H.get id=some k->H'.get id=some k:=λid k hk=>by
 grind [HG,AHeap.get_push_ne,WV]
theorem qd {x:SI} (hx:Gx x=true) {R:Tm} {H H':AHeap} {a:AV} (h:(A0 P x.o).run R H=some (.val a H')) (hn:H.get H.next=none):∀id k,H.get id=some k->H'.get id=some k:=by
 unfold Gx at hx;unfold A0 at h;split at hx
 .grind [OC.run,NA,jP]
 .grind [OC.run,P0,jP]
 .rename_i t n parts ho;rw [ho]at h;simp only [OC.run]at h;split at h
  .rename_i a' H2 he;unfold Me at he;repeat' (split at he<;>try (cases he;done))
   grind [AHeap.get_push_ne,WV]
  cases h
 cases hx
omit [Gl]in
theorem wi {P:Program} {H H':AHeap} {t:TypeId} {id off j:Nat} {v a:AV} (h:FU P H t (.ptr id off) v=some (a,H')) (hne:id≠j):H'.get j=H.get j:=by
 unfold FU at h;split at h
 .simp only at h;split at h<;>grind [AHeap.get_set_ne,AHeap.get_lt]
 cases h
def s9 {x:SI} {R:Tm} {H H':AHeap} {a:AV} (h:(A0 P x.o).run R H=some (.val a H')) (hn:Gx x=true->H.get H.next=none) (hna:Gx x=false->PU x R=false) {ids:List Nat} (ht:apart (Ha x R) ids=true):∀id k,Bx id ids=true->H.get id=some k->H'.get id=some k:=by
 intro id k hid hk;unfold Ha at ht;split at ht
 .grind [qd]
 .rename_i hM;split at ht
  .rename_i t ad v ho;split at ht
   .rename_i id2 off hl;unfold A0 at h;rw [ho]at h;simp only [OC.run]at h;split at h
    .have hl':(BA ad).f R=.ptr id2 off:=hl
     grind [apart,wi]
    cases h
   .rename_i id2 j2 sz2 off2 hl;unfold A0 at h;rw [ho]at h;simp only [OC.run]at h;split at h
    .have hl':(BA ad).f R=.ptx id2 j2 sz2 off2:=hl
     grind [FU]
    cases h
   .simp only [apart]at ht
    grind [Bx]
  .rw [ti_ (hna hM)]at ht;simp only [apart]at ht
   grind [Bx]
def zR {L:BD} {Ae:List Oper} {l0:List SI} {n0 nx:Nat} {x:SI} {gs:List GW} {ps:List (Nat×List Nat)} {u:Tm->AV->Tm} {Tr:Tm} {S:VS} {Y:Sy} {next:VS->VT} (hf:Au P c S.n Y) (hsim:G8 Y S.n Tr S.T) (h:AB P Q L Y (Nc P c Ae l0 n0 nx x gs ps u next S)):
  ∃Y' S2 S' q e,J9 P N Q c L Ae l0 n0 nx x gs ps u Tr S Y next Y' S2 S' q e:=by
 unfold Nc at h;split at h
 case h_2=>exact h.elim
 rename_i t hg;split at h
 .refine ⟨Y,S,⟨u S.T (.tup []),S.H,S.n,S.lv,S.D⟩,.tup [],.off,hf,za' _,AM.refl _ _,rfl,rfl,rfl,hsim,rfl,h,.inl ⟨?_,rfl,rfl,hg,rfl⟩⟩
  grind [C4,CT,Dy]
 split at h;rename_i hal;split at h;rename_i p hp;exact ⟨Y,S,⟨u S.T p.1,S.H,S.n,S.lv,S.D⟩,p.1,.val p.1,hf,za' _,AM.refl _ _,rfl,rfl,rfl,hsim,rfl,h,.inr ⟨rfl,hg,.inr (.inl ⟨hal,rfl,p.2,hp⟩)⟩⟩;exact h.elim;rename_i hal;split at h
 .rename_i hw;split at h
  case h_2=>exact h.elim
  rename_i hokw;unfold fM at h;have happ:AB P Q L Y (QA P x u S next)->∃Y' S2 S' q e,J9 P N Q c L Ae l0 n0 nx x gs ps u Tr S Y next Y' S2 S' q e:=λh=>by
   unfold QA at h;split at h;exact h.elim;rename_i hap;split at h
   .rename_i id sz op ag hl;split at h
    case h_2=>exact h.elim
    rename_i hlt;split at h
    case h_2=>exact h.elim
    rename_i hnew;obtain ⟨hpos,r,hr,hok,ht⟩:(LR ag=true\/∃i,HQ ag=some i/\IP Y.v i)/\AB P Q L Y (.lt op ag S.n none (next ⟨u S.T (.slx S.H.next sz S.n),(S.H.erase id).push (.syl S.n),Nat.succ S.n,S.lv,S.D⟩)):=by
     split at h
     .grind
     split at h;rename_i i hi;exact ⟨.inr ⟨i,hi,h.1⟩,h.2⟩;exact h.elim
    exact ⟨Y.put S.n r,S,⟨u S.T (.slx S.H.next sz S.n),(S.H.erase id).push (.syl S.n),Nat.succ S.n,S.lv,S.D⟩,.slx S.H.next sz S.n,.val (.slx S.H.next sz S.n),hf.put r,zc' _,AM.put r (za' _),rfl,rfl,rfl,hsim,rfl,ht,.inr ⟨rfl,hg,.inl ⟨hw,hokw,rP_ hl hpos hlt hr hok,λids ha idr k hm hk=>ye hap hl ha hm hk hnew⟩⟩⟩
   split at h
   .rename_i id sz op ag hl;unfold cu at h;split at h
    case h_2=>exact h.elim
    rename_i hlt;split at h
    case h_2=>exact h.elim
    rename_i hnew;split at h;rename_i hp;obtain ⟨r,hr,hok,ht⟩:=h;exact ⟨Y.put S.n r,S,⟨u S.T (.slx S.H.next sz S.n),(S.H.erase id).push (.syl S.n),Nat.succ S.n,S.lv,S.D⟩,.slx S.H.next sz S.n,.val (.slx S.H.next sz S.n),hf.put r,zc' _,AM.put r (za' _),rfl,rfl,rfl,hsim,rfl,ht,.inr ⟨rfl,hg,.inl ⟨hw,hokw,lX hl (.inl hp) hlt (za' _) hr hok,λids ha idr k hm hk=>ng hap hl ha hm hk hnew⟩⟩⟩;split at h
    case h_2=>exact h.elim
    rename_i i hi;have hin:i<S.n:=TJ hi hlt;obtain ⟨b,hb,hbok,t,ht,htt,htf⟩:=h;have hbt:b=.bool t:=by
     grind [Sy.put_same]
    subst hbt;cases t with
    |true=>
     have he:Oj Y.v i:=by
      simp only [Am,Ap,XOp.run]at hb;cases hv:Y.v i with
      |none=>grind
      |some a=>
       rw [hv]at hb;cases a<;>first|(cases hb;done)|skip
       exact .inl hv;simp only [Option.getD_some,A2,AV.bool.injEq]at hb;have:=zd' hb;subst this;exact .inr ⟨_,_,hv⟩
     have he1:Oj (Y.put S.n (.bool true)).v i:=by
      grind [Oj,Sy.put_ne]
     exact ⟨Y.put S.n (.bool true),S,⟨u S.T (KY (BO S.T x.rd AK) x.o),S.H,Nat.succ S.n,S.lv,S.D⟩,KY (BO S.T x.rd AK) x.o,.val (KY (BO S.T x.rd AK) x.o),hf.put _,zc' _,AM.put _ (za' _),rfl,rfl,rfl,hsim,rfl,htt rfl,.inr ⟨rfl,hg,.inl ⟨hw,hokw,ui hl hi he1 hlt (zc' _),λids ha idr k hm hk=>hk⟩⟩⟩
    |false=>
     have he:IP Y.v i:=by
      simp only [Am,Ap,XOp.run]at hb;cases hv:Y.v i with
      |none=>grind
      |some a=>
       rw [hv]at hb;cases a<;>first|(cases hb;done)|skip
       .rename_i n z cs;cases n with
        |zero=>cases hb
        |succ n=>exact ⟨_,_,_,hv⟩
     have he1:IP (Y.put S.n (.bool false)).v i:=by
      grind [IP,Sy.put_ne]
     obtain ⟨r,hr,hok,ht⟩:=htf rfl;exact ⟨(Y.put S.n (.bool false)).put (Nat.succ S.n) r,S,⟨u S.T (.slx S.H.next sz (Nat.succ S.n)),(S.H.erase id).push (.syl (Nat.succ S.n)),Nat.succ (Nat.succ S.n),S.lv,S.D⟩,.slx S.H.next sz (Nat.succ S.n),.val (.slx S.H.next sz (Nat.succ S.n)),(hf.put _).put r,Nat.le_succ_of_le (zc' _),(AM.put _ (za' _)).trans (AM.put r (za' _)) (zc' _),rfl,rfl,rfl,hsim,rfl,ht,.inr ⟨rfl,hg,.inl ⟨hw,hokw,lX hl (.inr ⟨i,hi,he1⟩) hlt (zc' _) hr hok,λids ha idr k hm hk=>ng hap hl ha hm hk hnew⟩⟩⟩
   split at h
   case h_2=>exact h.elim
   rename_i op ag hl;split at h
   case h_2=>exact h.elim
   rename_i hb;obtain ⟨hso,hlt⟩:=Aq hb;split at h
   case h_2=>exact h.elim
   obtain ⟨r,hr,hok,ht⟩:=h;exact ⟨Y.put S.n r,S,⟨u S.T (.sym S.n),S.H,Nat.succ S.n,S.lv,S.D⟩,.sym S.n,.val (.sym S.n),hf.put r,zc' _,AM.put r (za' _),rfl,rfl,rfl,hsim,rfl,ht,.inr ⟨rfl,hg,.inl ⟨hw,hokw,zw (oF hl hso hlt hr hok),λids ha idr k hm hk=>hk⟩⟩⟩
  split at h
  case h_2=>
   split at h;exact happ h;split at h
   case h_2=>exact happ h
   rename_i op ag id hst;split at h
   case h_2=>exact h.elim
   rename_i hb;obtain ⟨hlt,hnm⟩:=Aq hb;obtain ⟨r,hr,hok,ht⟩:=h;refine ⟨Y.put S.n r,S,⟨u S.T (.tup []),S.H.set id (.syl S.n),Nat.succ S.n,S.lv,S.D⟩,.tup [],.val (.tup []),hf.put r,zc' _,AM.put r (za' _),rfl,rfl,rfl,hsim,rfl,ht,.inr ⟨rfl,hg,.inl ⟨hw,hokw,tz hst hlt hr hok,λids ha idr k hm hk=>?_⟩⟩⟩
   grind [Ha,JE,apart,AHeap.get_set_ne,AHeap.get_lt]
  rename_i r hr;split at h
  case h_2=>exact h.elim
  rename_i a H';have fin:(Gx x=true->S.H.get S.H.next=none)->(Gx x=false->PU x (BO S.T x.rd AK)=false)->AB P Q L Y (next ⟨u S.T a,H',S.n,S.lv,S.D⟩)->∃Y' S2 S' q e,J9 P N Q c L Ae l0 n0 nx x gs ps u Tr S Y next Y' S2 S' q e:=λhm hna h=>
   ⟨Y,S,⟨u S.T a,H',S.n,S.lv,S.D⟩,a,.val a,hf,za' _,AM.refl _ _,rfl,rfl,rfl,hsim,rfl,h,.inr ⟨rfl,hg,.inl ⟨hw,hokw,pZ hr,λids ha=>s9 hr hm hna ha⟩⟩⟩
  split at h
  .rename_i hm;split at h
   .grind
   exact h.elim
  grind
 .rename_i hw;split at h
  case h_2=>exact h.elim
  rename_i hokr;obtain ⟨hokr,hchk⟩:=Aq hokr;split at h;unfold jr at h;split at h;rename_i q hq;exact ⟨Y,S,⟨u S.T q,S.H,S.n,S.lv,S.D⟩,q,.val q,hf,za' _,AM.refl _ _,rfl,rfl,rfl,hsim,rfl,h,.inr ⟨rfl,hg,.inr (.inr ⟨hal,hw,hchk,hokr,rfl,tP hq⟩)⟩⟩;exact h.elim;unfold jq at h;split at h;rename_i q hq;exact ⟨Y,S,⟨u S.T q,S.H,S.n,S.lv,S.D⟩,q,.val q,hf,za' _,AM.refl _ _,rfl,rfl,rfl,hsim,rfl,h,.inr ⟨rfl,hg,.inr (.inr ⟨hal,hw,hchk,hokr,rfl,fR hq⟩)⟩⟩
  .split at h;rename_i t hown;unfold fY at hown;split at hown;cases hown;split at hown;rename_i q hq;cases hown;exact ⟨Y,S,⟨u S.T q,S.H,S.n,S.lv,S.D⟩,q,.val q,hf,za' _,AM.refl _ _,rfl,rfl,rfl,hsim,rfl,h,.inr ⟨rfl,hg,.inr (.inr ⟨hal,hw,hchk,hokr,rfl,tY hq⟩)⟩⟩;split at hown;rename_i op ag id sz hl;split at hown;rename_i hlt;cases hown;obtain ⟨r,hr,hok,ht⟩:=h;exact ⟨Y.put S.n r,S,⟨u S.T (.ptx id S.n sz 0),S.H,Nat.succ S.n,S.lv,S.D⟩,.ptx id S.n sz 0,.val (.ptx id S.n sz 0),hf.put r,zc' _,AM.put r (za' _),rfl,rfl,rfl,hsim,rfl,ht,.inr ⟨rfl,hg,.inr (.inr ⟨hal,hw,hchk,hokr,rfl,xj hl hlt hr⟩)⟩⟩;cases hown;split at hown;rename_i op ag hl;split at hown;rename_i hlt;split at hown;cases hown;obtain ⟨r,hr,hok,ht⟩:=h;exact ⟨Y.put S.n r,S,⟨u S.T (.sym S.n),S.H,Nat.succ S.n,S.lv,S.D⟩,.sym S.n,.val (.sym S.n),hf.put r,zc' _,AM.put r (za' _),rfl,rfl,rfl,hsim,rfl,ht,.inr ⟨rfl,hg,.inr (.inr ⟨hal,hw,hchk,hokr,rfl,wA hl hlt hr hok⟩)⟩⟩;cases hown;obtain ⟨cs,hr,hlen,hok,ht⟩:=h;subst hlen;exact ⟨Y.puts S.n cs,S,⟨u S.T (.agg (Af S.n cs.length)),S.H,Nat.add S.n cs.length,S.lv,S.D⟩,.agg (Af S.n cs.length),.val (.agg (Af S.n cs.length)),hf.puts cs,zf' _ _,AM.puts cs _ (za' _),rfl,rfl,(hf.1.puts cs).2.2.1,hsim,rfl,ht,.inr ⟨rfl,hg,.inr (.inr ⟨hal,hw,hchk,hokr,rfl,xh hf.1 hl hlt hr hok⟩)⟩⟩;cases hown;split at hown;rename_i op ag hl;split at hown;rename_i hlt;cases hown;obtain ⟨r,hr,hok,ht⟩:=h;exact ⟨Y.put S.n r,S,⟨u S.T (.sym S.n),S.H,Nat.succ S.n,S.lv,S.D⟩,.sym S.n,.val (.sym S.n),hf.put r,zc' _,AM.put r (za' _),rfl,rfl,rfl,hsim,rfl,ht,.inr ⟨rfl,hg,.inr (.inr ⟨hal,hw,hchk,hokr,rfl,zA hl hlt hr hok⟩)⟩⟩;cases hown;cases hown;split at h;rename_i r hst;split at h;split at h;rename_i sh hsh;split at h;rename_i hb;obtain ⟨hso,hlt⟩:=Aq hb;obtain ⟨v,vs,hp,hfl,hok,ht⟩:=h;have hlen:=Xl hfl;refine ⟨Y.puts S.n vs,S,⟨u S.T (Id S.n sh),S.H,Nat.add S.n (FJ sh),S.lv,S.D⟩,Id S.n sh,.val (Id S.n sh),?_,zf' _ _,AM.puts vs _ (za' _),rfl,rfl,(hf.1.puts vs).2.2.1,hsim,rfl,ht,.inr ⟨rfl,hg,.inr (.inr ⟨hal,hw,hchk,hokr,rfl,?_⟩)⟩⟩;rw [←hlen];exact hf.puts vs;exact xu hf.1 hst hso hlt hp hfl hok;exact h.elim;exact h.elim;exact h.elim
   .split at h
    .rename_i i a b hp;obtain ⟨t,ht,k1,k2⟩:=h;have val:∀t,Y.v i=some (.bool t)->AB P Q L Y (Vd P x (NU x S gs) u (S.know i t) next)->∃Y' S2 S' q e,J9 P N Q c L Ae l0 n0 nx x gs ps u Tr S Y next Y' S2 S' q e:=λt ht h=>by
      unfold Vd at h;split at h
      .rename_i q hq;have hg':CT Ae x (BO (S.know i t).T x.rd AK)=some true:=by
        unfold CT at hg⊢;split at hg;rfl
        .rename_i g hgc;have hi:Dy Ae x.o=.mk g:=hgc;have hgk:=iW hi (S:=⟨BO S.T x.rd AK,S.H,0⟩) hg i t;have hTe:∀tt,tt<512->An (BO (S.know i t).T x.rd AK) tt=An (B1 (GG i t) (BO S.T x.rd AK)) tt:=λtt htt=>by rw [EW,O4 _ htt,O4 _ htt];show (if tt∈x.rd then An (B1 (GG i t) S.T) tt else An AK tt)=_;rw [EW];split;rfl;rw [Ks];rfl
         unfold Dy at hi;split at hi;cases hi
         .split at hi
          .split at hi
           .rename_i d hd;split at hi
            .rename_i hd512;cases hi;have hd512:d<512:=(by simp_all);have hgk':Ei (An (B1 (GG i t) (BO S.T x.rd AK)) d) _=some true:=hgk;show Ei (An (BO (S.know i t).T x.rd AK) d) _=some true
             grind
            grind
           grind
          grind
       exact ⟨Y,S.know i t,⟨u (S.know i t).T q,S.H,S.n,S.lv,S.D⟩,q,.val q,hf,za' _,AM.refl _ _,rfl,rfl,rfl,hsim.know hf.1 ht,rfl,h,.inr ⟨rfl,hg',.inr (.inr ⟨hal,hw,hchk,hokr,rfl,fR hq⟩)⟩⟩
      exact h.elim
     cases t<;>grind
    split at h;rename_i op ag hl;split at h;rename_i hlt;obtain ⟨r,hr,hok,ht⟩:=h;exact ⟨Y.put S.n r,S,⟨u S.T (.sym S.n),S.H,Nat.succ S.n,S.lv,S.D⟩,.sym S.n,.val (.sym S.n),hf.put r,zc' _,AM.put r (za' _),rfl,rfl,rfl,hsim,rfl,ht,.inr ⟨rfl,hg,.inr (.inr ⟨hal,hw,hchk,hokr,rfl,yq hl hlt hr hok⟩)⟩⟩;exact h.elim;split at h;rename_i op ag hl;split at h;rename_i hb;obtain ⟨hso,hlt⟩:=Aq hb;split at h;obtain ⟨r,hr,hok,ht⟩:=h;exact ⟨Y.put S.n r,S,⟨u S.T (.sym S.n),S.H,Nat.succ S.n,S.lv,S.D⟩,.sym S.n,.val (.sym S.n),hf.put r,zc' _,AM.put r (za' _),rfl,rfl,rfl,hsim,rfl,ht,.inr ⟨rfl,hg,.inr (.inr ⟨hal,hw,hchk,hokr,rfl,oF hl hso hlt hr hok⟩)⟩⟩;obtain ⟨cs,hr,hlen,hok,ht⟩:=h;subst hlen;exact ⟨Y.puts S.n cs,S,⟨u S.T (.agg (Af S.n cs.length)),S.H,Nat.add S.n cs.length,S.lv,S.D⟩,.agg (Af S.n cs.length),.val (.agg (Af S.n cs.length)),hf.puts cs,zf' _ _,AM.puts cs _ (za' _),rfl,rfl,(hf.1.puts cs).2.2.1,hsim,rfl,ht,.inr ⟨rfl,hg,.inr (.inr ⟨hal,hw,hchk,hokr,rfl,oc_ hf.1 hl hso hlt hr hok⟩)⟩⟩;exact h.elim;exact h.elim
def GsOk (l:List SI) (b:Nat) (G:Nat->AHeap):Nat->List GW->Prop
 |i,[]=>∀j,j<i->¬Wr l b j
 |i,g::r=>Wr l b g.i/\g.i<i/\(∀j,g.i<j->j<i->¬Wr l b j)/\g.H=G g.i/\(∀ids,apart g.t ids=true->∀id k,Bx id ids=true->(G g.i).get id=some k->(G (g.i+1)).get id=some k)/\GsOk l b G g.i r
section
omit [Gl]
def GsOk.congr {l:List SI} {b:Nat} {G G':Nat->AHeap}:∀{gs:List GW} {i:Nat},(∀j,j<=i->G' j=G j)->GsOk l b G i gs->GsOk l b G' i gs
 |[],i,_,h=>h
 |g::r,i,hG,h=>by
  obtain ⟨h1,h2,h3,h4,h5,h6⟩:=h;refine ⟨h1,h2,h3,h4.trans (hG _ (by omega)).symm,λids ha id k hid hk=>?_,h6.congr λj hj=>hG j (by omega)⟩
  grind
def GsOk.keep {l:List SI} {b:Nat} {G:Nat->AHeap} {gs:List GW} {i:Nat} (h:GsOk l b G i gs) (hn:¬Wr l b i):GsOk l b G (i+1) gs:=by
 cases gs with
 |nil=>grind [Go.Sx.GsOk]
 |cons g r=>
  grind [Go.Sx.GsOk]
def eW {G:Nat->AHeap} {lo hi:Nat} (h:lo<=hi) (hk:∀j,lo<=j->j<hi->G (j+1)=G j):G hi=G lo:=by
 obtain ⟨n,rfl⟩:∃n,hi=lo+n:=⟨hi-lo,by omega⟩
 induction n<;>grind
def jB {l:List SI} {G:Nat->AHeap} {b bef:Nat} {ids:List Nat}:∀{gs:List GW} {i:Nat},GsOk l b G i gs->(∀j,j<i->¬Wr l b j->G (j+1)=G j)->QD bef ids gs=true->
  ∃lo,lo<=i/\PK bef (G i) gs=G lo/\(lo=0\/∃j,lo=j+1/\Wr l b j/\AO bef j=true)/\∀j,Wr l b j->lo<=j->j<i->∀id k,Bx id ids=true->(G j).get id=some k->(G (j+1)).get id=some k
 |[],i,h,hk,_=>⟨0,zn' _,eW (zn' _) λj _ hj=>hk j hj (h j hj),.inl rfl,λj hj _ hji=>absurd hj (h j hji)⟩
 |g::r,i,h,hk,hok=>by
  obtain ⟨h1,h2,h3,h4,h5,h6⟩:=h;unfold QD at hok;unfold PK;cases hbit:AO bef g.i with
  |true=>exact ⟨g.i+1,h2,eW h2 λj h7 h8=>hk j h8 (h3 j h7 h8),.inr ⟨g.i,rfl,h1,hbit⟩,λj hj h7 h8=>absurd hj (h3 j h7 h8)⟩
  |false=>
   rw [hbit]at hok;obtain ⟨k1,k2⟩:=Aq hok;obtain ⟨lo,g1,g2,g3,g4⟩:=jB (bef:=bef) (ids:=ids) h6 (λj hj=>hk j (by omega)) k2
   grind
def aV (H:AHeap):∀ids:List Nat,(HX H ids).next=0/\(HX H ids).hi=0
 |[]=>⟨rfl,rfl⟩
 |id::r=>by unfold HX;split;exact aV H r;exact aV H r
def Oi {H:AHeap}:∀{ids:List Nat} {id:Nat} {k:AZ},(HX H ids).get id=some k->Bx id ids=true/\H.get id=some k
 |[],id,k,h=>by
  grind [PV,HX]
 |a::r,id,k,h=>by unfold HX at h;unfold Bx;split at h;rename_i b hb;have ha:=AHeap.get_lt hb;by_cases e:a=id;subst e;rw [AHeap.get_set_same _ ha]at h;cases h;exact ⟨by rw [Nat.beq_refl],hb⟩;rw [AHeap.get_set_ne _ ha e]at h;obtain ⟨h1,h2⟩:=Oi h;exact ⟨by split<;>first|rfl|exact h1,h2⟩;obtain ⟨h1,h2⟩:=Oi h;exact ⟨by split<;>first|rfl|exact h1,h2⟩
end
def vQ_ (l:List SI) (KK:Nat->AHeap) (i:Nat) (ps:List (Nat×List Nat)):Prop:=∀j y,l[j]? =some y->j<i->Cq y=false->∃ids,(j,ids)∈ps/\∀id k,(KK j).get id=some k->Bx id ids=true
omit [Gl]in
theorem iL {bef:Nat} {t:Nu}:∀{ps:List (Nat×List Nat)} {j:Nat} {ids:List Nat},Vw bef t ps=true->(j,ids)∈ps->AO bef j=false->apart t ids=true
 |[],j,ids,_,h,_=>by cases h
 |(i,is)::r,j,ids,hok,h,hb=>by
  obtain ⟨k1,k2⟩:=Aq hok;rcases List.mem_cons.1 h with h|h
  .grind
  exact iL k2 h hb
def Ga (l:List SI) (i:Nat):Bool:=match l[i]? with
 |some x=>C4 x
 |none=>false
def Co (l:List SI) (n0 i:Nat):Nat:=n0+(l.take i).countP C4
omit [Gl]in
theorem gx {l:List SI} {n0 i:Nat} {x:SI} (h:l[i]? =some x):Co l n0 (i+1)=K3 x (Co l n0 i):=by
 grind [Co,K3,List.take_add_one]
omit [Gl]in
def aS {bef:Nat} {ids:List Nat}:∀{r:List SI} {i nx:Nat},NI bef ids r i nx=true->∀(k:Nat) (y:SI),r[k]? =some y->C4 y=true->AO bef (i+k)=true\/Bx (nx+(r.take k).countP C4) ids=false
 |[],i,nx,_,k,y,hk,_=>by simp at hk
 |z::r,i,nx,h,k,y,hk,hy=>by
  unfold NI at h;cases k with
  |zero=>
   grind
  |succ k=>
   cases hz:C4 z with
   |false=>
    rw [hz]at h;have:=aS h k y hk hy
    grind
   |true=>
    rw [hz]at h;obtain ⟨_,h2⟩:=Aq h;have:=aS h2 k y hk hy
    grind
def cQ {L:BD} {Ae:List Oper} {l:List SI} {b:Nat} (hbl:b<=l.length) {T0:Tm} {K:VS->VT} {n0:Nat}:∀(rest:List SI) (i nx:Nat) (gs:List GW) (ps:List (Nat×List Nat)) (S:VS) (Tr:Tm) (Y:Sy) (ev:Nat->Cs) (G KK:Nat->AHeap),(∀k,k<rest.length->rest[k]? =l[i+k]?)->i+rest.length=b->nx=Co l n0 i->(∀(j:Nat) (x:SI),l[j]? =some x->j<b->C4 x=true->∃q k,O8 P x (Co l n0 j)=some (q,k)/\(G 0).get (Co l n0 j)=some k)->Au P c S.n Y->G i=S.H->GsOk l b G i gs->vQ_ l KK i ps->
  (∀t,t<512->Sl l ev T0 (λj=>decide (j<i)) t (An Tr t))->G8 Y S.n Tr S.T->(∀j x,l[j]? =some x->j<i->DN P Y.v S.n N Ae l b ev T0 G KK (Ga l) (Co l n0) j x)->AB P Q L Y (LP P N c Ae (l.take b) n0 rest i nx gs ps S K)->
  ∃Y' S' Tr' ev' G' KK',Au P c S'.n Y'/\S.n<=S'.n/\AM S.n Y Y'/\S'.lv=S.lv/\S'.D=S.D/\G' b=S'.H/\(∀j,j<=i->G' j=G j)/\Y'.l=Y.l/\(∀t,t<512->Sl l ev' T0 (λj=>decide (j<b)) t (An Tr' t))/\G8 Y' S'.n Tr' S'.T/\(∀j x,l[j]? =some x->j<b->DN P Y'.v S'.n N Ae l b ev' T0 G' KK' (Ga l) (Co l n0) j x)/\AB P Q L Y' (K S')
 |[],i,nx,gs,ps,S,Tr,Y,ev,G,KK,hr,hi,hnx,hal0,hf,hH,hgs,hps,hsl,hsim,hF,h=>by subst hi;exact ⟨Y,S,Tr,ev,G,KK,hf,za' _,AM.refl _ _,rfl,rfl,hH,λ_ _=>rfl,rfl,hsl,hsim,hF,h⟩
 |x::r,i,nx,gs,ps,S,Tr,Y,ev,G,KK,hr,hi,hnx,hal0,hf,hH,hgs,hps,hsl,hsim,hF,h=>by
  have hx:l[i]? =some x:=(by have:=hr 0 (by simp);grind);have hib:i<b:=(by grind);unfold LP at h;split at h;exact h.elim;rename_i u hu;have fin:∀S1:VS,S1.n=S.n/\S1.lv=S.lv/\S1.H=S.H/\S1.D=S.D->G8 Y S.n Tr S1.T->AB P Q L Y (Nc P c Ae (l.take b) n0 nx x gs ps u (λS'=>LP P N c Ae (l.take b) n0 r (Nat.succ i) (K3 x nx) (RA x i S1 gs) (R0 x i S1 ps) S' K) S1)->
    ∃Y' S' Tr' ev' G' KK',Au P c S'.n Y'/\S.n<=S'.n/\AM S.n Y Y'/\S'.lv=S.lv/\S'.D=S.D/\G' b=S'.H/\(∀j,j<=i->G' j=G j)/\Y'.l=Y.l/\(∀t,t<512->Sl l ev' T0 (λj=>decide (j<b)) t (An Tr' t))/\G8 Y' S'.n Tr' S'.T/\(∀j x,l[j]? =some x->j<b->DN P Y'.v S'.n N Ae l b ev' T0 G' KK' (Ga l) (Co l n0) j x)/\AB P Q L Y' (K S'):=by
   intro S1 h1 hs1 hk;obtain ⟨e1,e2,e3,e4⟩:=h1;obtain ⟨Y1,S2,S3,q,e,d⟩:=zR (N:=N) (Tr:=Tr) (by grind) (by grind) hk;have dn:=d.n;have dext:=d.ext;rw [e1]at dn dext;have Gf:e.put=some q:=by rcases d.ev with ⟨_,rfl,rfl,_⟩|⟨rfl,_⟩<;>rfl
   let ev1:Nat->Cs:=λj=>if j=i then e else ev j
   let G1:Nat->AHeap:=λj=>if j=i+1 then S3.H else G j
   let K1:Nat->AHeap:=λj=>if j=i then NU x S1 gs else KK j
   have hev1:ev1 i=e:=Ad rfl;have hold:∀j,j<i->ev1 j=ev j:=λj hj=>Ab (by omega);have hG1:G1 (i+1)=S3.H:=Ad rfl;have hGold:∀j,j<=i->G1 j=G j:=λj hj=>Ab (by omega);have hK1:K1 i=NU x S1 gs:=Ad rfl;have hKold:∀j,j<i->K1 j=KK j:=λj hj=>Ab (by omega);have hGi:G i=S1.H:=hH.trans e3.symm;have hsl1:∀t a,Sl l ev T0 (λj=>decide (j<i)) t a->Sl l ev1 T0 (λj=>decide (j<i)) t a:=λt a h=>h.ev_congr λj hj=>hold j (by grind);have hgs1:GsOk l b G1 i gs:=hgs.congr hGold;have hpres:Cq x=true->∀ids,apart (Ha x (BO S1.T x.rd AK)) ids=true->∀id k,Bx id ids=true->S1.H.get id=some k->S3.H.get id=some k:=λhw ids ha id k hid hk=>(by rcases d.ev with ⟨_,_,_,_,h⟩|⟨_,_,⟨_,_,_,h⟩|⟨h,_⟩|⟨_,h,_⟩⟩<;>grind);obtain ⟨Y',S',Tr',ev',G',KK',g1,g2,g3,g4,gd,gG,gGo,g6,g7,g8,g9,g10⟩:=cQ hbl r (i+1) (K3 x nx) _ _ S3 (u Tr q) Y1 ev1 G1 K1 (λk hk=>by have:=hr (k+1) (by grind);grind) (by grind) (by grind [gx]) (λj y hy hj ha=>by grind) d.good hG1
    (by
      unfold RA;cases hw:Cq x with
      |false=>
       exact hgs1.keep λhwr=>by
        obtain ⟨y,hy,hy2,_⟩:=hwr
        grind
      |true=>refine ⟨⟨x,hx,hw,hib⟩,zo' i,λj h7 h8=>absurd (show i<j from h7) (by omega),?_,λids ha id k hid hk=>?_,hgs1⟩<;>grind)
    (by
      intro j y hy hj hw;unfold R0;by_cases ej:j=i;subst ej;rw [hx]at hy;cases hy;rw [hw];refine ⟨JA x S1.T,zh' ..,λid k hk=>?_⟩;rw [hK1]at hk;exact (Oi hk).1
      .obtain ⟨ids,q1,q2⟩:=hps j y hy (by omega) hw
       grind)
    (λt ht=>by
     show Sl l ev1 T0 _ t _;rw [kG];obtain ⟨p1,p2⟩:=Pp hu Tr q ht;by_cases ed:x.o.dst=some t
     .grind [Sl.put]
     .rw [p2 ed];refine (hsl1 t _ (hsl t ht)).keep λy hy hd=>?_
      grind)
    (by have:=d.sim.put d.ext d.n hu q;rw [d.t];exact this)
    (λj y hj hlt=>by
     by_cases ej:j=i
     .subst ej;rw [hx]at hj;cases hj;refine ⟨u,BO Tr x.rd AK,BO S2.T x.rd AK,hu,λt ht=>?_,λt ht E v hE hc=>?_,?_⟩
      .grind [O4,Ks]
      .rw [O4 _ ht]at hc⊢;split;rename_i hm;rw [Ad hm]at hc;exact d.sim t ht E v (λk hk=>(hE k (zl' hk d.n)).trans (d.ext k hk)) hc
       grind
      .rw [hev1,hG1,hGold j (Nat.le_refl _),hGi,hK1];have halj:Ga l j=C4 x:=(by unfold Ga;rw [hx]);rcases d.ev with ⟨hal,rfl,_,hg,e5⟩|⟨rfl,hg,⟨hw,hokw,hop,hm⟩|⟨hal,e5,k,hav⟩|⟨hal,hw,hchk,hokr,e5,hop⟩⟩
       .grind
       .refine .inr ⟨q,rfl,hg,.inl ⟨hw,hop,λj2 y2 hy2 hj2 hw2 hb2 id k hk=>?_⟩⟩;obtain ⟨ids,q1,q2⟩:=hps j2 y2 hy2 hj2 hw2
        grind [iL]
       .obtain ⟨q',k',h1,h2⟩:=hal0 j x hx hib hal;rw [←hnx,hav]at h1;cases h1;unfold O8 at hav;split at hav
        .rename_i t ho;split at hav
         .rename_i p hp;split at hav
          .refine .inr ⟨_,rfl,hg,.inr (.inl ⟨hal,e5,p.2,k,?_,?_,?_⟩)⟩<;>simp_all [A0,OC.run]
          cases hav
         cases hav
        cases hav
       .refine .inr ⟨q,rfl,hg,.inr (.inr ⟨hw,halj.trans hal,λj2 hj2 ha2 hb2=>?_,e5,?_,hop,?_⟩)⟩
        .have hyl:∃y2,l[j2]? =some y2:=⟨l[j2],by simp⟩;obtain ⟨y2,hy2⟩:=hyl;have hal2:C4 y2=true:=(by grind [Ga]);cases BS:(NU x S1 gs).get (Co l n0 j2)with
         |none=>rfl
         |some kk=>
          have hm:=(Oi BS).1;rcases aS hchk j2 y2 (by grind) hal2 with h|h
          .grind
          grind [Co]
        .obtain ⟨r1,r2⟩:=aV (PK x.bef S1.H gs) (JA x S1.T);show (HX _ _).hi<=(HX _ _).next
         omega
        .obtain ⟨lo,q1,q2,q3,q4⟩:=jB (bef:=x.bef) (ids:=JA x S1.T) hgs1 (λj2 hj2 hn=>by
           obtain ⟨y2,hy2⟩:∃y2,l[j2]? =some y2:=⟨l[j2],by simp⟩;have:=(hF j2 y2 hy2 hj2).keeps (by
            cases hw2:Cq y2 with
            |false=>rfl
            |true=>exact absurd ⟨y2,hy2,hw2,by omega⟩ hn)
           grind) hokr
         refine ⟨lo,λid k hk=>?_,q1,q3,λj2 hj2 h7 h8 id k hk=>q4 j2 hj2 h7 h8 id k (Oi hk).1⟩;have:=(Oi hk).2
         grind
     .exact (hF j y hj (by omega)).mono dext dn (λk hk=>hold k (by omega)) (λk hk=>hGold k (by omega)) (λk hk=>hKold k (by omega)))
    d.ok
   exact ⟨Y',S',Tr',ev',G',KK',g1,ze' dn g2,dext.trans g3 dn,g4.trans (d.lv.trans e2),gd.trans (d.d.trans e4),gG,λj hj=>(gGo j (by omega)).trans (hGold j hj),g6.trans d.l,g7,g8,g9,g10⟩
  split at h
  .rename_i k hg;obtain ⟨t,ht,h1,h2⟩:=h;cases t with
   |true=>exact fin (S.know k true) ⟨rfl,rfl,rfl,rfl⟩ (hsim.know hf.1 ht) (h1 rfl)
   |false=>exact fin (S.know k false) ⟨rfl,rfl,rfl,rfl⟩ (hsim.know hf.1 ht) (h2 rfl)
  exact fin S ⟨rfl,rfl,rfl,rfl⟩ hsim h
section
omit [Gl]
theorem md:∀(n:Nat) (l:List SI),GV n l=l.take n
 |0,_=>by rfl
 |_+1,[]=>by rfl
 |n+1,x::r=>by simp [GV,md n r]
theorem nt:∀(n:Nat) (l:List Oper),VU n l=l.drop n
 |0,_=>by rfl
 |_+1,[]=>by rfl
 |n+1,x::r=>by simp [VU,nt n r]
theorem eP {x:SI}:∀{n:Nat},aD x n=true->∀j,j<n->AO x.bef j=true
 |0,_,j,h=>absurd h (zi' _)
 |n+1,h,j,hj=>by obtain ⟨h1,h2⟩:=Aq h;rcases zk' j n with h|h;exact eP h2 j h;have:j=n:=(by omega);subst this;exact h1
def db:∀(l:List SI) (i:Nat),i<=Il l i/\Il l i<=i+l.length/\∀k x,l[k]? =some x->Il l i<=i+k->∀j,j<i+k->AO x.bef j=true
 |[],i=>⟨za' _,za' _,λk x hk=>by simp at hk⟩
 |y::r,i=>by
  obtain ⟨h1,h2,h3⟩:=db r (i+1);have rest:∀k x,r[k]? =some x->Il r (i+1)<=i+(k+1)->∀j,j<i+(k+1)->AO x.bef j=true:=λk x hk hle j hj=>h3 k x hk (by omega) j (by omega);unfold Il eJ;split
  .rename_i hb;obtain ⟨e1,e2⟩:=Aq hb;have e1:=zd' e1;refine ⟨za' _,by simp,λk x hk hle=>?_⟩;cases k<;>grind [eP,Il]
  .refine ⟨?_,?_,λk x hk hle=>?_⟩
   .grind
   .grind
   .cases k<;>grind
def jo {x:SI} {i:Nat}:∀{l:List SI},Xp x i l=true->∀(j:Nat) (y:SI),l[j]? =some y->Vs x i y=true
 |[],_,j,y,hj=>by simp at hj
 |z::r,h,j,y,hj=>by
  obtain ⟨h1,h2⟩:=Aq h;cases j with
  |zero=>simp at hj;subst hj;exact h1
  |succ j=>exact jo (l:=r) h2 j y (by simpa using hj)
def di:∀{l:List SI} {k:Nat},SO l k=true->∀(i j:Nat) (x y:SI),i<j->l[i]? =some x->l[j]? =some y->Vs x (k+i) y=true
 |[],k,_,i,j,x,y,hij,hi,hj=>by simp at hi
 |z::r,k,h,i,j,x,y,hij,hi,hj=>by
  obtain ⟨h1,h2⟩:=Aq h;cases j with
  |zero=>omega
  |succ j=>
   cases i with
   |zero=>simp at hi;subst hi;exact jo h1 j y (by simpa using hj)
   |succ i=>
    have:=di (k:=k+1) h2 i j x y (by omega) (by simpa using hi) (by simpa using hj)
    rwa [show k+1+i=k+(i+1) by omega]at this
def aC {bef:Nat}:∀{r:List SI} {i:Nat},OK bef r i=true->∀(k:Nat) (y:SI),r[k]? =some y->C4 y=true->AO bef (i+k)=true
 |[],i,_,k,y,hk,_=>by simp at hk
 |z::r,i,h,k,y,hk,hy=>by
  unfold OK at h;cases k with
  |zero=>
   grind
  |succ k=>
   rw [show i+(k+1)=i.succ+k by omega];cases hz:C4 z with
   |false=>rw [hz]at h;exact aC h k y hk hy
   |true=>rw [hz]at h;exact aC (Aq h).2 k y hk hy
def br {l0:List SI}:∀{r:List SI},Ng l0 r=true->∀(k:Nat) (x:SI),r[k]? =some x->Cq x=true->OK x.bef l0 0=true
 |[],_,k,x,hk,_=>by simp at hk
 |z::r,h,k,x,hk,hx=>by
  unfold Ng at h;cases k with
  |zero=>
   grind
  |succ k=>
   cases hz:Cq z with
   |false=>rw [hz]at h;exact br h k x hk hx
   |true=>rw [hz]at h;exact br (Aq h).2 k x hk hx
def ZH:∀{r:List SI} {H H2:AHeap},Rb P r H=some H2->H.next<=H2.next/\H2.hi=H.hi/\(∀id k,H.get id=some k->H2.get id=some k)/\
  (∀(i:Nat) (x:SI),r[i]? =some x->C4 x=true->Co r H.next i<H2.next/\Co r H.next i<H.hi/\Co r H.next i<A8/\∃q k,O8 P x (Co r H.next i)=some (q,k)/\H2.get (Co r H.next i)=some k)/\
  (∀id k,H2.get id=some k->(∀(i:Nat) (x:SI),r[i]? =some x->C4 x=true->id≠Co r H.next i)->H.get id=some k)
 |[],H,H2,h=>by cases h;simp
 |z::r,H,H2,h=>by
  unfold Rb at h;cases hz:C4 z with
  |false=>
   rw [hz]at h;obtain ⟨h1,h2,h3,h4,h5⟩:=ZH h;have he:∀i,Co (z::r) H.next (i+1)=Co r H.next i:=λi=>by grind [Co]
   grind
  |true=>
   rw [hz]at h;simp only at h;split at h;cases h;rename_i hfree;split at h;cases h;rename_i hroom;split at h
   case h_2=>cases h
   rename_i p hp;have htop:=WV hroom;have hlt:H.next<H.hi:=by simp_all [AHeap.room]
   obtain ⟨h1,h2,h3,h4,h5⟩:=ZH h;have hnx:(H.push p.2).next=H.next+1:=rfl
   have hhi:(H.push p.2).hi=H.hi:=rfl;have hps:(H.push p.2).get H.next=some p.2:=AHeap.get_push_same H htop _;have hpn:∀id,H.next≠id->(H.push p.2).get id=H.get id:=λid hne=>AHeap.get_push_ne H htop hne _;have he:∀i,Co (z::r) H.next (i+1)=Co r (H.push p.2).next i:=λi=>by grind [Co]
   have he0:Co (z::r) H.next 0=H.next:=by rfl
   grind
def yS {l:List SI} {n0 i j:Nat} (h:i<=j):Co l n0 i<=Co l n0 j:=by
 unfold Co;have:(l.take i).Sublist (l.take j):=by
  rw [show l.take i=(l.take j).take i by grind]
  grind
 grind
def zD {l:List SI} {n0 i j:Nat} (hi:Ga l i=true) (hj:Ga l j=true) (h:Co l n0 i=Co l n0 j):i=j:=by
 have key:∀a b,Ga l a=true->a<b->Co l n0 a<Co l n0 b:=λa b ha hab=>by
  unfold Ga at ha;split at ha
  .rename_i x hx;have h1:=gx (n0:=n0) hx;unfold K3 at h1;have h2:=yS (l:=l) (n0:=n0) (show a+1<=b by omega)
   grind
  cases ha
 rcases Nat.lt_trichotomy i j with h'|h'|h'<;>grind
end
def sa_ {fuel:Nat} {I:C8 P fuel} (hm:P.follows .mixedOrders=true) (hc:Ci P (CO P fuel)) {L:BD} {Ae:Array Oper} {id:Nat} {S:VS} {Y:Sy} {X:VX->VT} {K:VS->VT} (hL:L.length=S.lv) (hf:Au P c S.n Y) (h:AB P Q L Y (PI P N fuel I c Ae.toList S X K)):
  ∀(B:World) (pr:Nat->Prop) (E:Ag) (a:Act) (w:World),E.At Y->St P B pr N E S.T S.H S.D a w->(Code.region id Ae true).wp P (Bm P B pr N c.k E (DK (kV P Q c L S.n Y K) (xV P Q c L S.n Y X))) a w:=by
 intro B pr E a w hy st;unfold PI at h;split at h
 case h_2=>exact h.elim
 rename_i l n hpl;obtain ⟨hP,_⟩:=X2 hpl;simp only at h;split at h
 case h_2=>exact h.elim
 rename_i htwo;obtain ⟨htwo,hwrs⟩:=Aq htwo;split at h
 case h_2=>exact h.elim
 rename_i HH hHH;obtain ⟨_,hb2,hb3⟩:=db l 0;simp only [Cw]at hb2 hb3;rw [md]at htwo hwrs hHH h;simp only [nt]at h;generalize Il l 0=b at h hb2 hb3 htwo hwrs hHH;obtain ⟨a1,a2,a3,a4,a5⟩:=ZH hHH;have htk:∀i,i<b->(l.take b)[i]? =l[i]? :=λi hi=>List.getElem?_take_of_lt hi;have hid:∀i,i<b->Co (l.take b) S.H.next i=Co l S.H.next i:=λi hi=>by grind [Co]
 have halx:∀i x,l[i]? =some x->Ga l i=C4 x:=λi x hx=>by unfold Ga;rw [hx]
 have hxat:∀i,i<b->∃x,l[i]? =some x:=λi hi=>⟨l[i],by simp⟩
 have hA:Kl l b (Ga l) (Co l S.H.next) S.H HH:={
  nx:=a1
  hi:=a2
  rng:=λj hj ha=>by obtain ⟨x,hx⟩:=hxat j hj;obtain ⟨q1,q2,q3,_⟩:=a4 j x (by grind) (by grind);rw [hid j hj]at q1 q2 q3;exact ⟨zf' _ _,q1,q2,q3⟩
  inj:=λi j _ _ hi hj h=>zD hi hj h
  old:=a3
  new:=λid k hk hn=>a5 id k hk λi x hi hx=>by
   grind
  wr:=λi j x hx hi hw hj ha=>by
   obtain ⟨y,hy⟩:=hxat j hj;have:=aC (br hwrs i x (by grind) hw) j y (by grind) (by grind)
   grind
  is:=halx }
 have hat:∀k,k<(l.take b).length->(l.take b)[k]? =l[0+k]? :=λk hk=>by
  grind
 have h2:∀(i j:Nat) (x y:SI),i<j->j<b->l[i]? =some x->l[j]? =some y->Cq x=true->Cq y=true->AO y.bef i=true:=λi j x y hij hjb hi hj hwx hwy=>by have:=di (k:=0) htwo i j x y hij (by grind) (by grind);simp_all [Vs]
 obtain ⟨Y',S',Tr',ev',G',KK',g1,g2,g3,g4,gd,gG,gGo,g6,g7,g8,g9,g10⟩:=cQ (N:=N) (b:=b) hb2 (T0:=S.T) (n0:=S.H.next) (l.take b) 0 S.H.next [] [] ⟨S.T,HH,S.n,S.lv,S.D⟩ S.T Y (λ_=>.gone) (λ_=>HH) (λ_=>HH) hat (by grind) (by rfl)
  (λj x hx hj ha=>by
   obtain ⟨_,_,_,q,k,q4,q5⟩:=a4 j x (by grind) ha
   grind) hf rfl (λj hj=>absurd hj (zi' _)) (λj _ _ hj=>absurd hj (zi' _)) (λt ht=>.inl ⟨rfl,λj x _ hs=>by simp at hs⟩) (λt _ E v _ h=>h) (λj x _ hj=>absurd hj (zi' _)) h
 have hv:∀i x,E.sy i=some x->Y'.v i=some x:=λi x hx=>by
  rw [hy.v]at hx;have hi:i<S.n:=by rcases zk' i S.n with h|h;exact h;rw [hf.1.2 i h]at hx;cases hx
  rw [g3 i hi];exact hx
 have hll:∀i x,E.syl i=some x->Y'.l i=some x:=λi x hx=>by rw [g6,←hy.l];exact hx
 have hlo:∀i,i<64->Y'.v i=E.sy i:=λi hi=>by rw [hy.v];exact g3 i (by have:=hf.1.1;grind)
 have st1:=st.with hv hll hlo;have hy1:(E.with Y').At Y':=⟨rfl,rfl,hy.res⟩;refine zJ (s:=Y'.v) (m:=S'.n) (id:=id) (b:=b) (G:=G') hm hpl (λk _=>rfl) g9 h2 hb2 hb3 (Tf:=S'.T) (λt ht=>⟨_,g7 t ht,λE v hE hc=>g8 t ht E v hE hc⟩) (H00:=S.H) (al:=Ga l) (idf:=Co l S.H.next) (by grind) (λE' a w hle st'=>?_) st1;rw [gG,←gd]at st';have:=UL Ae (Ae.toList.drop b) Y' S'.T S'.H S'.D _ _ (Vy hm hc (Ae.toList.drop b) S' Y' (by grind) g1 g10) B pr E' a w (hy1.le hle) st';refine AU (λe a w hq=>?_) _ _ _ this;obtain ⟨Y2,r,hr,hq⟩:=hq;refine ⟨Y2,r,Xz (λ_ _ _ _ hk=>U6 (zb' L) g2 g3 hk) (λ_ _ hx=>JP (zb' L) g2 g3 hx) hr,hq.le ((Ag.with_leF c.k hlo).trans (hle.leF c.k))⟩
end
end Go.Sx
namespace Go.Sx
theorem Oper.wp_mono3 {P:Program} {o:Oper} {a:Act} {w:World} {K K':Act->World->Prop} {Q Q':Exit->Act->World->Prop} (h:∀a w,K a w->K' a w) (hq:∀e a w,e≠ .normal->Q e a w->Q' e a w)
  (hh:o.wp P a w K Q):o.wp P a w K' Q':=by
 unfold Oper.wp at*;generalize (execOp a.eval o).run P w=r at*;cases r with
 |ok n w'=>
  cases n<;>simp only [Oper.upon]at hh⊢<;>
   first|exact h _ _ hh|exact Calls.mono hh (λe w'' he=>by cases e<;>first|exact h _ _ he|exact hq _ _ _ (λe=>by cases e) he|exact he.imp λ_ hx=>hx.imp λ_ hy=>hq _ _ _ (λe=>by cases e) hy)|exact Rows.mono hh (λ_ _ he=>h _ _ he)
 |halt x w'=>cases x<;>simp only [Oper.upon]at hh⊢<;>first|exact hh|exact hq _ _ _ (λe=>by cases e) hh
theorem UY {m:Nat}:∀{l:List Edge},KO m l=true↔∀e∈l,Region.binds .any e=true->AO m e.on=true
 |[]=>by simp [KO]
 |e::r=>by
  unfold KO;rw [Xr];cases hb:Region.binds .any e with
  |true=>simp [UY (l:=r),hb]
  |false=>simp [UY (l:=r),hb]
def ZT {m:Nat}:∀{l:List Oper} {k:Nat} {x:Gr},x∈HY m l k↔∃j,x.i=k+j/\l[j]? =some x.o/\AO m x.i=false/\∀e∈x.o.after,Region.binds .any e=true->AO m e.on=true
 |[],k,x=>by simp [HY]
 |o::r,k,x=>by
  have ih:=ZT (m:=m) (l:=r) (k:=Nat.succ k) (x:=x);have key:(∃j,x.i=k+j/\(o::r)[j]? =some x.o/\AO m x.i=false/\∀e∈x.o.after,Region.binds .any e=true->AO m e.on=true)↔
    (x.i=k/\o=x.o/\AO m x.i=false/\∀e∈x.o.after,Region.binds .any e=true->AO m e.on=true)\/x∈HY m r (Nat.succ k):=by
   rw [ih];constructor
   .grind
   .rintro (⟨h1,h2,h3⟩|⟨j,h1,h2,h3⟩);simp_all
    exact ⟨j+1,by omega,by grind,h3⟩
  rw [key];have eq:HY m (o::r) k=(match not (AO m k)&&KO m o.after.toList with
   |true=>⟨k,o⟩::HY m r (Nat.succ k)
   |false=>HY m r (Nat.succ k)):=rfl
  rw [eq];cases hb:(not (AO m k)&&KO m o.after.toList)with
  |true=>
   simp only [CJ];have hb':AO m k=false/\∀e∈o.after,Region.binds .any e=true->AO m e.on=true:=by simp_all [UY]
   constructor
   .grind
   .rintro (⟨h1,h2,h3⟩|h)
    .obtain ⟨i,o'⟩:=x
     grind
    grind
  |false=>
   grind [UY]
theorem nY {i:Nat}:∀{l:List Edge},SX i l=true->∃e∈l,Region.binds .any e=true/\e.on=i
 |[],h=>by cases h
 |e::r,h=>by unfold SX at h;split at h<;>simp_all [Xr,nY]
theorem dm {t:Nat}:∀{l:List Operand},Operand.tmp t∈l->t∈Jx l
 |[],h=>by simp at h
 |x::r,h=>by
  rcases List.mem_cons.1 h with h|h;subst h;unfold Jx;exact zh'
  .have ih:=dm h;cases x<;>unfold Jx<;>first|exact zj' _ ih|exact ih
def xc {t:Nat} {l:List Nat} (h:Bx t l=false):t∉l:=by grind [Vq]
def yT {Ae:Array Oper} {o:Oper} {d:Nat} (h:d∈o.looksAt Ae):d∈JF Ae.toList o:=by
 unfold JF;rcases List.mem_append.1 h with h|h
 .grind [dm]
 .split at h
  .grind [XK]
  simp at h
def qG {Ae:Array Oper} {x y:Oper} (h:Es Ae.toList x y=true):x.apart Ae y=true:=by
 unfold Es at h;unfold Oper.apart;have key:∀(o:Oper) (d:Nat),Bx d (JF Ae.toList o)=false->(o.looksAt Ae).contains d=false:=λo d hm=>by
  cases hc:(o.looksAt Ae).contains d with
  |false=>rfl
  |true=>exact absurd (yT (by grind)) (xc hm)
 cases hx:x.dst with
 |none=>
  grind
 |some d=>
  cases hy:y.dst with
  |none=>
   grind
  |some e=>
   simp only [hx,hy,Bool.and_eq_true,Bool.not_eq_true']at h⊢;obtain ⟨⟨h1,h2⟩,h3⟩:=h;have:d≠e:=λhde=>by simp_all
   grind
def lQ {all:List Oper} {m i:Nat} {x:Oper}:∀{l:List Oper} {k:Nat},Vt all m i x l k=true->∀(j:Nat) (y:Oper),l[j]? =some y->k+j≠i->AO m (k+j)=false->(∀e∈y.after,Region.binds .any e=true->e.on≠i)->Es all x y=true
 |[],k,h,j,y,hj,_,_,_=>by simp at hj
 |o::r,k,h,j,y,hj,h1,h2,h3=>by
  obtain ⟨h,hr⟩:=Aq h;cases j with
  |zero=>
   grind [zd',nY]
  |succ j=>exact lQ hr j y (by simpa using hj) (by rw [show Nat.succ k+j=k+(j+1) by omega];exact h1) (by rw [show Nat.succ k+j=k+(j+1) by omega];exact h2) h3
def cC:∀{l:List Oper},Rv l=true->∀(j:Nat) (o:Oper) cs b,l[j]? =some o->o.op≠ .select cs b
 |[],h,j,o,cs,b,hj,_=>by simp at hj
 |x::r,h,j,o,cs,b,hj,ho=>by
  unfold Rv at h;cases j with
  |zero=>simp at hj;subst hj;rw [ho]at h;cases h
  |succ j=>split at h;cases h;exact cC h j o cs b (by simpa using hj) ho
def aK {N:Nat}:∀{l:List Oper},Vf N l=true->∀o∈l,∀d,o.dst=some d->d<N
 |[],h,o,ho,_,_=>by simp at ho
 |x::r,h,o,ho,d,hd=>by
  obtain ⟨h1,h2⟩:=Aq h;rcases List.mem_cons.1 ho with rfl|ho;simp_all
  exact aK h2 o ho d hd
def ZU:∀(l:List Oper) (T:Tm) (t:Nat),t<512->(∀o∈l,∀d,o.dst=some d->d<512)->An (Iu l T) t=An T t\/An (Iu l T) t=.opq
 |[],T,t,_,_=>.inl rfl
 |o::r,T,t,ht,hd=>by
  have hr:∀o∈r,∀d,o.dst=some d->d<512:=λo ho=>hd o (zj' _ ho);unfold Iu;cases ho:o.dst with
  |none=>exact ZU r T t ht hr
  |some d=>have hd':=hd o zh' d ho;simp only;rcases ZU r (Ea T d .opq) t ht hr with h|h;by_cases e:d=t;subst e;rw [Gw T ht]at h;exact .inr h;rw [Fi T ht hd' e]at h;exact .inl h;exact .inr h
def Su:∀(l:List Oper) (T:Tm) (d:Nat),(∀o∈l,∀d,o.dst=some d->d<512)->((∃o∈l,o.dst=some d)\/(d<512/\An T d=.opq))->An (Iu l T) d=.opq
 |[],T,d,_,h=>by simp_all [Iu]
 |o::r,T,d,hd,h=>by
  have hr:∀o∈r,∀d,o.dst=some d->d<512:=λo ho=>hd o (zj' _ ho);unfold Iu;cases ho:o.dst with
  |none=>
   refine Su r T d hr ?_
   grind
  |some e=>
   have he:=hd o zh' e ho;by_cases hde:e=d;subst hde;exact Su r _ e hr (.inr ⟨he,Gw T he _⟩)
   .refine Su r _ d hr ?_;rcases h with ⟨o',h1,h2⟩|h
    .grind
    grind [Fi]
section
variable [Gl]
def rL {P:Program} {Ae:Array Oper} {N:Nat} {E:Ag} {T:Tm} {a:Act} {o:Oper} {q:AV} (h:Vu P T o=some q) (ht:Bc E N T a.tmps):
  ∃v,Yields P Ae o v a/\Ac E q v:=by
 obtain ⟨dst,op,type,pos,after,guard⟩:=o;unfold Vu at h;cases guard with
 |some g=>cases h
 |none=>
  simp only at h;split at h;rename_i x;cases h;exact ⟨a.eval x,.inl ⟨rfl,λw=>by rfl⟩,ht.look x⟩;rename_i x;split at h;rename_i id off hx;cases h;have hc:=ht.look x;rw [hx]at hc;have hc':=hc;obtain ⟨b,o,h1,h2⟩:=hc;exact ⟨a.eval x,.inl ⟨rfl,λw=>by simp [execOp,h2]⟩,hc'⟩;cases h
  .rename_i s x f;split at h
   .rename_i id off hx;have hc:=ht.look x;rw [hx]at hc;unfold GZ at h;split at h
    .rename_i fields hd;split at h
     .rename_i fl hfl;split at h;split at h;cases h;cases h;obtain ⟨b,o,hφ,h2⟩:=hc;refine ⟨.pointer (some ⟨b,o+(off+fl.offset),none⟩),.inl ⟨rfl,λw=>?_⟩,by simp only [Ac];grind⟩;simp_all [execOp,Instr.fieldAt,run_underlying,Instr.sureAddr,fieldPlace,DP,Addr.add_lit]
      cases h
     cases h
    cases h
   cases h
  rename_i x i;split at h;rename_i cs hx;have hc:=ht.look x;rw [hx]at hc;obtain ⟨vs,h2,hL⟩:=hc;rw [Pz]at h;obtain ⟨u,hu,hcu⟩:=hL.at i q h;exact ⟨u,.inl ⟨rfl,λw=>by simp [execOp,h2,Instr.extract,hu]⟩,hcu⟩;cases h;cases h
def XB (Ae:List Oper) (X:XP):XP:=λY r=>match r with
 | .pan v T H D=>(∀o∈Ae,∀d,o.dst=some d->An T d=.opq)/\X Y (.pan v T H D)
 |r=>X Y r
omit [Gl]in
def va {Ae:List Oper} {K:KP} {X:XP} {Y:Sy} {r:A3} (h:DK K (XB Ae X) Y r):DK K X Y r:=by
 cases r with
 |pan v T H D=>exact h.2
 |norm T H D=>exact h
 |exit i T H D=>exact h
 |ret T H D=>exact h
section
variable {P:Program} {N:Nat} {Q:AV->Prop} {fuel:Nat} {I:C8 P fuel} {c:VC}
def wP {B:World} {pr:Nat->Prop} {k:Nat} {E:Ag} {Ae:Array Oper} {K:KP} {X:XP} {o:Oper} (ho:o∈Ae.toList) (hd:∀d,o.dst=some d->d<N) {v:Value} {ch:List PanicEntry} {a:Act} {w:World}
  (h:Bm P B pr N k E (DK K (XB Ae.toList X)) (.panic ch) (a.put o.dst v) w):Bm P B pr N k E (DK K (XB Ae.toList X)) (.panic ch) a w:=by
 obtain ⟨Y,r,h1,E',h2,h3,h4⟩:=h;cases r with
 |norm T H D=>cases h4.1
 |exit i T H D=>cases h4.1
 |ret T H D=>cases h4.1
 |pan u T H D=>
  obtain ⟨u',h5,h6,st⟩:=h4;refine ⟨Y,.pan u T H D,h1,E',h2,h3,u',h5,h6,?_,st.r,?_⟩
  .refine ⟨?_,st.t.le,λt ht=>?_,st.t.gl⟩
   .have:=st.t.size;cases hdst:o.dst<;>grind [Act.put]
   .have:=st.t.con t ht;cases hdst:o.dst with
    |none=>rw [hdst]at this;exact this
    |some d=>by_cases e:t=d;subst e;rw [h1.1 o ho t hdst];simp [Ac];simp_all [Act.put,Ne.symm]
  .have:=st.d;cases hdst:o.dst with
   |none=>rw [hdst]at this;exact this
   |some d=>rw [hdst]at this;exact this
section
omit [Gl]
theorem da:∀{a b:List (Nat×AV)},QE a b=true->a=b
 |[],[],_=>rfl
 |(i,a)::r,(j,b)::s,h=>by obtain ⟨h1,h⟩:=Aq h;obtain ⟨h2,h3⟩:=Aq h;rw [AE h1,Dx h2,da h3]
 |[],_::_,h=>by simp [QE]at h
 |_::_,[],h=>by simp [QE]at h
theorem i4:∀{a b:List (Nat×List AV)},P9 a b=true->a=b
 |[],[],_=>rfl
 |(i,a)::r,(j,b)::s,h=>by obtain ⟨h1,h⟩:=Aq h;obtain ⟨h2,h3⟩:=Aq h;rw [AE h1,FD h2,i4 h3]
 |[],_::_,h=>by simp [P9]at h
 |_::_,[],h=>by simp [P9]at h
def W4:∀{a b:Option Nat},L6 a b=true->a=b
 |none,none,_=>rfl
 |some a,some b,h=>by grind [L6,zd']
 |none,some _,h=>by simp [L6]at h
 |some _,none,h=>by simp [L6]at h
def iC:∀{a b:List (Option Nat)},Rw a b=true->a=b
 |[],[],_=>rfl
 |a::r,b::s,h=>by obtain ⟨h1,h2⟩:=Aq h;rw [W4 h1,iC h2]
 |[],_::_,h=>by simp [Rw]at h
 |_::_,[],h=>by simp [Rw]at h
theorem dI:∀{a b:List (Nat×Nat)},NL a b=true->a=b
 |[],[],_=>rfl
 |(i,a)::r,(j,b)::s,h=>by obtain ⟨h1,h⟩:=Aq h;obtain ⟨h2,h3⟩:=Aq h;rw [AE h1,AE h2,dI h3]
 |[],_::_,h=>by simp [NL]at h
 |_::_,[],h=>by simp [NL]at h
theorem iw:∀{a b:List TA},Ri a b=true->a=b
 |[],[],_=>rfl
 |⟨a,b,c,d,e⟩::r,⟨a',b',c',d',e'⟩::s,h=>by obtain ⟨h1,h⟩:=Aq h;obtain ⟨h2,h⟩:=Aq h;obtain ⟨h3,h⟩:=Aq h;obtain ⟨h4,h⟩:=Aq h;obtain ⟨h5,h6⟩:=Aq h;rw [AE h1,AE h2,AE h3,AE h4,W4 h5,iw h6]
 |[],_::_,h=>by simp [Ri]at h
 |_::_,[],h=>by simp [Ri]at h
def nJ:∀{a b:BE},Ud a b=true->a=b
 |⟨a,b,c,d,e,f,g⟩,⟨a',b',c',d',e',f',g'⟩,h=>by
  simp only [Ud]at h
  grind [da,i4,zd',iw,dI]
def nK:∀{a b:List (Bool×BE)},RR a b=true->a=b
 |[],[],_=>rfl
 |(i,a)::r,(j,b)::s,h=>by obtain ⟨h1,h⟩:=Aq h;obtain ⟨h2,h3⟩:=Aq h;rw [eq_of_beq h1,nJ h2,nK h3]
 |[],_::_,h=>by simp [RR]at h
 |_::_,[],h=>by simp [RR]at h
def sE_:∀{a b:FT},mE a b=true->a=b
 |⟨a,b,c⟩,⟨a',b',c'⟩,h=>by obtain ⟨h1,h⟩:=Aq h;obtain ⟨h2,h3⟩:=Aq h;rw [AE h1,nJ h2,nK h3]
def uk {a b:XOp} (h:WE a b=true):a=b:=by
 unfold WE at h;split at h<;>first
  |cases h;done
  |rfl
  |(try simp only [Bool.and_eq_true,AJ,beq_iff_eq]at h
    first
     |(obtain ⟨h1,h2,h3,h4⟩:=h;rw [h1,AE h2,h3,h4])
     |(obtain ⟨h1,h2,h3,h4⟩:=h;rw [AE h1,AE h2,AE h3,AE h4])
     |(obtain ⟨h1,h2,h3⟩:=h;rw [AE h1,h2,h3])
     |(obtain ⟨h1,h2,h3⟩:=h;rw [AE h1,AE h2,AE h3])
     |(obtain ⟨h1,h2,h3⟩:=h;rw [AE h1,AE h2,FD h3])
     |(obtain ⟨h1,h2⟩:=h;rw [AE h1,AE h2])
     |rw [h]
     |rw [AE h])
def qX_ {a b:DF} (h:W3 a b=true):a=b:=by
 unfold W3 at h;split at h<;>first|cases h;done|(obtain ⟨h1,h2⟩:=Aq h;rw [AE h1,AE h2])|rw [AE h]
end
omit [Gl]in
mutual
theorem JT:∀{a b:VT},Ek a b=true->a=b
 | .bad,_,h=>by simp [Ek]at h
 | .done v,b,h=>by cases b<;>simp only [Ek]at h<;>first|cases h;done|rw [Dx h]
 | .ite i a1 a2,b,h=>by
   cases b<;>simp only [Ek]at h<;>first|cases h;done|skip
   obtain ⟨h1,h⟩:=Aq h;obtain ⟨h2,h3⟩:=Aq h;rw [AE h1,JT h2,JT h3]
 | .lt o l n m t,b,h=>by
   cases b<;>simp only [Ek]at h<;>first|cases h;done|skip
   obtain ⟨h1,h⟩:=Aq h;obtain ⟨h2,h⟩:=Aq h;obtain ⟨h3,h⟩:=Aq h;obtain ⟨h4,h5⟩:=Aq h;rw [uk h1,FD h2,AE h3,W4 h4,JT h5]
 | .call f l n sh t,b,h=>by
   cases b<;>simp only [Ek]at h<;>first|cases h;done|skip
   obtain ⟨h1,h⟩:=Aq h;obtain ⟨h2,h⟩:=Aq h;obtain ⟨h3,h⟩:=Aq h;obtain ⟨h4,h5⟩:=Aq h;rw [AE h1,FD h2,AE h3,iC h4,JT h5]
 | .loop n j hv bs,b,h=>by
   cases b<;>simp only [Ek]at h<;>first|cases h;done|skip
   obtain ⟨h1,h⟩:=Aq h;obtain ⟨h2,h⟩:=Aq h;obtain ⟨h3,h4⟩:=Aq h;rw [AE h1,AE h2,FD h3,Yi h4]
 | .again l j hv,b,h=>by
   cases b<;>simp only [Ek]at h<;>first|cases h;done|skip
   grind [zd',FD]
 | .chk c t,b,h=>by
   cases b<;>simp only [Ek]at h<;>first|cases h;done|skip
   obtain ⟨h1,h2⟩:=Aq h;rw [qX_ h1,JT h2]
 | .callF f ft hv n bs,b,h=>by
   cases b<;>simp only [Ek]at h<;>first|cases h;done|skip
   obtain ⟨h1,h⟩:=Aq h;obtain ⟨h2,h⟩:=Aq h;obtain ⟨h3,h⟩:=Aq h;obtain ⟨h4,h5⟩:=Aq h;rw [AE h1,sE_ h2,FD h3,AE h4,Yi h5]
 | .both a1 a2,b,h=>by
   cases b<;>simp only [Ek]at h<;>first|cases h;done|skip
   obtain ⟨h1,h2⟩:=Aq h;rw [JT h1,JT h2]
theorem Yi:∀{a b:GY},NC a b=true->a=b
 | .nil,b,h=>by
   grind [NC]
 | .cons n t r,b,h=>by
   cases b<;>simp only [NC]at h<;>first|cases h;done|skip
   obtain ⟨h1,h⟩:=Aq h;obtain ⟨h2,h3⟩:=Aq h;rw [AE h1,JT h2,Yi h3]
end
def xZ {L:BD} {Y:Sy} {a b:VT} (h:AB P Q L Y (Yq a b)):AB P Q L Y a/\AB P Q L Y b:=by
 grind [Yq,JT,AB]
def j6 {L:BD} {Y:Sy} {f:Gr->VT}:∀{l:List Gr} {x:Gr},AB P Q L Y (SW f x l)->∀y,y∈x::l->AB P Q L Y (f y)
 |[],x,h,y,hy=>by simp_all [SW]
 |z::r,x,h,y,hy=>by have h:=xZ h;rcases List.mem_cons.1 hy with rfl|hy;exact h.1;exact j6 h.2 y hy
def az {all:List Oper} {m:Nat} {T:Tm}:∀{l:List Gr} {q:MV},PD P all m T l=some q->q.x∈l/\Vu P T q.x.o=some q.a/\Vt all m q.x.i q.x.o all 0=true
 |[],q,h=>by cases h
 |x::r,q,h=>by unfold PD at h;split at h;rename_i a ha;split at h;rename_i hf;cases h;exact ⟨zh',ha,hf⟩;obtain ⟨h1,h2⟩:=az h;exact ⟨zj' _ h1,h2⟩;obtain ⟨h1,h2⟩:=az h;exact ⟨zj' _ h1,h2⟩
def au (hm:P.follows .mixedOrders=true) (hc:Ci P (CO P fuel)) {Ae:Array Oper} {X:VX->VT} {K:VS->VT} (hs:Rv Ae.toList=true) (hd:Vf N Ae.toList=true) (hN:N<=512) {L0:BD} {n0:Nat} {Y0:Sy} {B:World} {pr:Nat->Prop} {E0:Ag}:
  ∀(k m:Nat) (S:VS) (Y:Sy) (L:BD),L.length=S.lv->Au P c S.n Y->L0 <+: L->n0<=S.n->AM n0 Y0 Y->AB P Q L Y (Mh P N fuel I c Ae.toList (N3 Ae.toList X) K k m S)->
   ∀(f:Nat) (listed:Array Bool) (E:Ag) (a:Act) (w:World),listed.size=Ae.size->listed.toList.countP (· ==false)<=f->(∀j,listed.getD j false=AO m j)->E0.leF c.k E->E.At Y->St P B pr N E S.T S.H S.D a w->
    wpAny P .any Ae (Bm P B pr N c.k E0 (DK (kV P Q c L0 n0 Y0 K) (XB Ae.toList (xV P Q c L0 n0 Y0 X)))) f listed a w
 |0,m,S,Y,L,_,_,_,_,_,h=>by exact h.elim
 |k+1,m,S,Y,L,hL,hf,hpre,hn0,hext,h=>by
  intro f listed E a w hsz hcnt hl hle hy st;have hd512:∀o∈Ae.toList,∀d,o.dst=some d->d<512:=λo ho d hdst=>zl' (aK hd o ho d hdst) hN;have hmem:∀i,i∈Region.ready .any Ae listed->∃x:Gr,x.i=i/\x∈HY m Ae.toList 0/\Ae[i]? =some x.o:=λi hi=>by
   obtain ⟨h1,o,h2,h3⟩:=mem_ready.1 hi;have hlt:i<Ae.size:=(Array.getElem?_eq_some_iff.1 h2).1;have hg:listed.getD i false=false:=by
    grind
   refine ⟨⟨i,o⟩,rfl,ZT.2 ⟨i,(Cw i).symm,by grind,by grind,λe he hb=>by grind⟩,h2⟩
  have hrdy:∀x:Gr,x∈HY m Ae.toList 0->x.i∈Region.ready .any Ae listed/\Ae[x.i]? =some x.o/\∃hlt:x.i<listed.size,listed[x.i]=false:=λx hx=>(by obtain ⟨j,h1,h2,h3,h4⟩:=ZT.1 hx;rw [Nat.zero_add]at h1;subst h1;have ho:Ae[x.i]? =some x.o:=(by grind);have hlt:x.i<Ae.size:=(Array.getElem?_eq_some_iff.1 ho).1;have hg:listed.getD x.i false=false:=(by grind);simp_all [mem_ready]);have Df:∀x:Gr,x.i<listed.size->∀j,(listed.setIfInBounds x.i true).getD j false=AO (Lu m x.i) j:=λx hlt j=>by
   have:=congrFun (R9 (listed:=listed) (i:=x.i) hlt) j;rw [this];unfold plus Lu;rw [W9,fo]
   grind
  unfold Mh at h;split at h
  .rename_i AD;have hr0:Region.ready .any Ae listed=[]:=by simp_all [List.eq_nil_iff_forall_not_mem]
   refine wpAny_done hr0 ?_ f;exact ⟨Y,.norm S.T S.H S.D,⟨S.n,S.lv,L,hpre,hL,hn0,hext,hf,h⟩,E,hle,hy,rfl,st⟩
  .rename_i x0 r0 hcons;obtain ⟨hr1,ho1,hlt1,hg1⟩:=hrdy x0 (by grind);obtain ⟨f',rfl⟩:∃f',f=f'+1:=by have:=UO hlt1 hg1;exact ⟨f-1,by omega⟩
   split at h
   .rename_i q hq;obtain ⟨q1,q2,q3⟩:=az hq;rw [←hcons]at q1;obtain ⟨hr2,ho2,hlt2,hg2⟩:=hrdy q.x q1;split at h
    .rename_i u hu;obtain ⟨v,hv1,hv2⟩:=rL (Ae:=Ae) q2 st.t;have hmo:q.x.o∈Ae.toList:=by
      grind
     refine wpAny_first ho2 (λj o cs b ho=>cC hs j o cs b (by grind)) (λch a w hp=>wP hmo (λd hdst=>aK hd _ hmo d hdst) hp) f' listed a w (λj oj hj hji hun hno=>?_) hr2 hv1 ?_
     .refine qG (lQ q3 j oj (by grind) (by omega) ?_ hno)
      grind
     .refine au hm hc hs hd hN k (Lu m q.x.i) ⟨u S.T q.a,S.H,S.n,S.lv,S.D⟩ Y L hL hf hpre hn0 hext h f' _ E _ w (by grind) ?_ (Df q.x hlt2) hle hy ⟨st.t.put hu hv2,st.r,?_⟩
      .grind
      have:(a.put q.x.o.dst v).defers=a.defers:=(by unfold Act.put;split<;>rfl);rw [this];exact st.d
    exact h.elim
   .have h:=j6 h;refine wpAny_all (rs:=Region.ready .any Ae listed) rfl (λAD=>by grind) λi hi=>?_;obtain ⟨x,rfl,hx,ho⟩:=hmem i hi;obtain ⟨_,_,hlt,hg⟩:=hrdy x hx;have hx':=h x (by grind);have hw:=UL Ae [x.o] Y S.T S.H S.D _ _ (Vy hm hc [x.o] S Y hL hf hx') B pr E a w hy st;have next:∀(a:Act) (w:World),Bm P B pr N c.k E (DK (kV P Q c L S.n Y λS'=>Mh P N fuel I c Ae.toList (N3 Ae.toList X) K k (Lu m x.i) S') (xV P Q c L S.n Y (N3 Ae.toList X))) .normal a w->
      wpAny P .any Ae (Bm P B pr N c.k E0 (DK (kV P Q c L0 n0 Y0 K) (XB Ae.toList (xV P Q c L0 n0 Y0 X)))) f' (listed.setIfInBounds x.i true) a w:=by
     intro a w hq;obtain ⟨Y',r,g1,E',g2,g3,g4⟩:=hq;cases r with
     |norm T H D=>
      obtain ⟨n',lv,L',p1,p2,p3,p4,p5,p6⟩:=g1;refine au hm hc hs hd hN k (Lu m x.i) ⟨T,H,n',lv,D⟩ Y' L' p2 p5 (hpre.trans p1) (ze' hn0 p3) (hext.trans p4 hn0) p6 f' _ E' a w (by grind) ?_ (Df x hlt) (hle.trans g2) g3 g4.2
      grind
     |exit i T H D=>cases g4.1
     |ret T H D=>cases g4.1
     |pan v T H D=>grind
    have outs:∀(e:Exit) (a:Act) (w:World),e≠ .normal->Bm P B pr N c.k E (DK (kV P Q c L S.n Y λS'=>Mh P N fuel I c Ae.toList (N3 Ae.toList X) K k (Lu m x.i) S') (xV P Q c L S.n Y (N3 Ae.toList X))) e a w->
      Bm P B pr N c.k E0 (DK (kV P Q c L0 n0 Y0 K) (XB Ae.toList (xV P Q c L0 n0 Y0 X))) e a w:=by
     intro e a w he hq;obtain ⟨Y',r,g1,E',g2,g3,g4⟩:=hq;cases r with
     |norm T H D=>grind
     |exit i T H D=>have g1':xV P Q c L S.n Y X Y' (.exit i T H D):=g1;exact ⟨Y',.exit i T H D,JP hpre hn0 hext g1',E',hle.trans g2,g3,g4⟩
     |ret T H D=>have g1':xV P Q c L S.n Y X Y' (.ret T H D):=g1;exact ⟨Y',.ret T H D,JP hpre hn0 hext g1',E',hle.trans g2,g3,g4⟩
     |pan v T H D=>
      have g1':xV P Q c L S.n Y X Y' (.pan v (Iu Ae.toList T) H D):=g1;obtain ⟨u,g5,g6,st'⟩:=g4;refine ⟨Y',.pan v (Iu Ae.toList T) H D,⟨λo ho d hdst=>Su _ _ d hd512 (.inl ⟨o,ho,hdst⟩),JP hpre hn0 hext g1'⟩,E',hle.trans g2,g3,u,g5,g6,⟨st'.t.size,st'.t.le,λt ht=>?_,st'.t.gl⟩,st'.r,st'.d⟩;rcases ZU Ae.toList T t ht hd512 with e|e;rw [e];exact st'.t.con t ht
      grind [Ac]
    unfold wpOp;simp only [ho];unfold wpList at hw;split
    .rename_i hwt;rw [Ad hwt]at hw;rcases hw with hw|⟨_,a',w',hw⟩
     .grind [Oper.wp_mono3,wpList]
     .obtain ⟨Y',r,g1,E',g2,g3,g4⟩:=hw
      grind
    simp_all [wpList]
def oD (hm:P.follows .mixedOrders=true) (hc:Ci P (CO P fuel)) {L:BD} {Ae:Array Oper} {id:Nat} {S:VS} {Y:Sy} {X:VX->VT} {K:VS->VT} (hL:L.length=S.lv) (hf:Au P c S.n Y) (h:AB P Q L Y (Up P N fuel I c Ae.toList S X K)):
  ∀(B:World) (pr:Nat->Prop) (E:Ag) (a:Act) (w:World),E.At Y->St P B pr N E S.T S.H S.D a w->(Code.region id Ae true).wp P (Bm P B pr N c.k E (DK (kV P Q c L S.n Y K) (xV P Q c L S.n Y X))) a w:=by
 intro B pr E a w hy st;unfold Up at h;split at h
 .rename_i hb;obtain ⟨h1,h2⟩:=Aq hb;obtain ⟨h2,h3⟩:=Aq h2;have hempty:∀j,(Array.replicate Ae.size false).getD j false=false:=λj=>by rw [Array.getD_eq_getD_getElem?,Array.getElem?_replicate];split<;>rfl
  refine Code.wp_mono (λe a w hq=>?_) (wp_region_any hm (au (B:=B) (pr:=pr) (E0:=E) (L0:=L) (n0:=S.n) (Y0:=Y) hm hc h1 h2 (by simpa using h3) _ 0 S Y L hL hf (zb' L) (za' _) (AM.refl _ _) h Ae.size _ E a _ (by simp) ?_ (λj=>by rw [hempty,o8]) (Ag.leF_refl _ E) hy ⟨st.t,st.r.drawn _,st.d⟩));obtain ⟨Y',r,g1,g2⟩:=hq;exact ⟨Y',r,va g1,g2⟩
  grind
 exact h.elim
end
end
theorem np:∀n m:Nat,(Af n m).length=m
 |_,0=>rfl
 |n,m+1=>by simp only [Af,List.length_cons,np (Nat.succ n) m]
def pN:∀{n m j:Nat} {a:AV},(Af n m)[j]? =some a->j<m/\a=.sym (n+j)
 |n,0,j,a,h=>by simp [Af]at h
 |n,m+1,0,a,h=>by
  grind [Af]
 |n,m+1,j+1,a,h=>by
  simp only [Af,List.getElem?_cons_succ]at h;obtain ⟨h1,h2⟩:=pN h
  grind
def rD_ {B:World} {pr:Nat->Prop} {E:Ag} {H:AHeap} {w:World} (hr:Ao B pr E H w) {id i n0 len sz:Nat} {cs:List AV} (hk:H.get id=some (.syl i)) (hi:E.sy i=some (.vsl len sz cs)) (hs:∀(j:Nat) (a:AV),cs[j]? =some a->E.sy (n0+j)=some a):
  Ao B pr E (H.set id (.cells (Af n0 cs.length))) w:=by
 refine hr.setTo hk λown h=>?_;rcases h with ⟨_,hv⟩|⟨b,o,h1,h2,len',sz',cs',h3,h4,arr,t,h5,h6,h7,h8⟩
 .have hv:E.sy i=some .nsl:=hv
  grind
 rw [hi]at h3;cases h3;refine .inr ⟨b,o,h1,h2,arr,t,h5,h6,by rw [np];exact h7,λj a ha=>?_⟩;obtain ⟨hj,rfl⟩:=pN ha;simp_all [Ac]
def yH {B:World} {pr:Nat->Prop} {E:Ag} {H:AHeap} {w:World} (hr:Ao B pr E H w) {id:Nat} {cs ds:List AV} (hk:H.get id=some (.cells cs)) (hl:ds.length=cs.length) (hc:∀(j:Nat) (a:AV),ds[j]? =some a->∃b,cs[j]? =some b/\∀v,Ac E b v->Ac E a v):
  Ao B pr E (H.set id (.cells ds)) w:=by
 refine hr.setTo hk λown h=>?_;rcases h with ⟨_,hv⟩|⟨b,o,h1,h2,arr,t,h5,h6,h7,h8⟩;exact hv.elim
 .refine .inr ⟨b,o,h1,h2,arr,t,h5,h6,by grind,λj a ha=>?_⟩
  grind
theorem w0 {E:Ag} {id sz i len:Nat} {cs:List AV} (hi:E.sy i=some (.vsl len sz cs)) {v:Value} (h:Ac E (.slx id sz i) v):Ac E (.sl id 0 len sz none) v:=by
 grind [Ac]
mutual
theorem Yt {E:Ag} {id sz i len:Nat} {cs:List AV} (hi:E.sy i=some (.vsl len sz cs)):∀(a:AV) (v:Value),Ac E a v->Ac E (Le id sz i len a) v
 | .slx id' z j,v,h=>by
   unfold Le;split
   .grind [zd',w0]
   exact h
 | .agg l,v,h=>by simp only [Le,Ac]at h⊢;obtain ⟨vs,h1,h2⟩:=h;exact ⟨vs,h1,bG hi l vs h2⟩
 | .tup l,v,h=>by simp only [Le,Ac]at h⊢;obtain ⟨vs,h1,h2⟩:=h;exact ⟨vs,h1,bG hi l vs h2⟩
 | .opq,v,h=>h
 | .bool _,v,h=>h
 | .int _ _,v,h=>h
 | .flt _ _,v,h=>h
 | .nan _,v,h=>h
 | .str _,v,h=>h
 | .nptr,v,h=>h
 | .ptr _ _,v,h=>h
 | .vptr _,v,h=>h
 | .nsl,v,h=>h
 | .sl ..,v,h=>h
 | .vsl ..,v,h=>h
 | .nmap,v,h=>h
 | .map _,v,h=>h
 | .nfn,v,h=>h
 | .fn _ _,v,h=>h
 | .nif,v,h=>h
 | .iface _ _,v,h=>h
 | .sym _,v,h=>h
 | .ptx ..,v,h=>h
theorem bG {E:Ag} {id sz i len:Nat} {cs:List AV} (hi:E.sy i=some (.vsl len sz cs)):∀(l:List AV) (vs:List Value),Ah E l vs->Ah E (Ho id sz i len l) vs
 |[],vs,h=>h
 |a::r,vs,h=>by simp only [Ho,Ah]at h⊢;obtain ⟨v,q,h1,h2,h3⟩:=h;exact ⟨v,q,h1,Yt hi a v h2,bG hi r q h3⟩
end
def kq {id sz i len:Nat}:∀(l:List AV) (j:Nat) (a:AV),(Ho id sz i len l)[j]? =some a->∃b,l[j]? =some b/\a=Le id sz i len b
 |[],j,a,h=>by simp [Ho]at h
 |b::r,0,a,h=>by
  simp only [Ho,List.getElem?_cons_zero,A2]at h
  grind
 |b::r,j+1,a,h=>by simp only [Ho,List.getElem?_cons_succ]at h;exact kq r j a h
theorem fA {id sz i len:Nat}:∀l:List AV,(Ho id sz i len l).length=l.length
 |[]=>rfl
 |b::r=>by simp only [Ho,List.length_cons,fA r]
def jY {B:World} {pr:Nat->Prop} {E:Ag} {w:World} {id sz i len:Nat} {cs:List AV} (hi:E.sy i=some (.vsl len sz cs)) {H:AHeap} (hr:Ao B pr E H w):∀l:List Nat,Ao B pr E (N7 id sz i len H l) w
 |[]=>hr
 |q::r=>by
  have ih:=jY (id:=id) hi hr r;unfold N7;split
  .rename_i l hk;refine yH ih hk (fA l) λj a ha=>?_;obtain ⟨b,hb,rfl⟩:=kq _ _ _ ha
   grind [Yt]
  exact ih
def tq {P:Program} {i len sz:Nat} {Y:Sy} {cs:List AV} (h:(XOp.opn len sz).run P (Am Y.v [.sym i])=some (.agg cs)):Y.v i=some (.vsl len sz cs)/\cs.length=len*sz:=by
 have h:(match Ap Y.v (.sym i)with
  | .vsl n z cs=>match Nat.beq n len&&(Nat.beq z sz&&Nat.beq (Bp cs) (Nat.mul len sz))with
    |true=>some (AV.agg cs)
    |false=>none
  |_=>none)=some (AV.agg cs):=h
 cases hy:Y.v i with
 |none=>grind [Ap]
 |some a=>
  simp only [Ap,hy]at h;split at h
  .split at h
   .rename_i hb;obtain ⟨e1,hb⟩:=Aq hb;obtain ⟨e2,e3⟩:=Aq hb;have e1:=zd' e1;have e2:=zd' e2;have e3:=zd' e3;rw [BW]at e3
    grind
   cases h
  cases h
variable [Gl]
section
variable {P:Program} {N:Nat} {Q:AV->Prop} {fuel:Nat} {I:C8 P fuel} {c:VC}
def Wx (P:Program) (N:Nat) (Q:AV->Prop) (c:VC) (b:Code) (bS:VS->(VS->VT)->VT) (X:VX->VT):Prop:=
 ∀(S:VS) (K:VS->VT) (Y:Sy) (L:BD),L.length=S.lv->Au P c S.n Y->AB P Q L Y (bS S K)->Ca P N c.k b Y S.T S.H S.D (kV P Q c L S.n Y K) (xV P Q c L S.n Y X)
def uQ {b:Code} {bS:VS->(VS->VT)->VT} {X:VX->VT} {K:KP} (hb:Wx P N Q c b bS X) (m:Nat) (S:VS) (Y:Sy) (L:BD) (hL:L.length=S.lv) (hf:Au P c S.n Y)
  (h:AB P Q L Y (VY bS m S)):Ca P N c.k (.loop b) Y S.T S.H S.D K (xV P Q c L S.n Y X):=by
 refine ⟨{ p:Nat×Sy×VS×BD // L <+: p.2.2.2/\p.2.2.2.length=p.2.2.1.lv/\S.n<=p.2.2.1.n/\AM S.n Y p.2.1/\Au P c p.2.2.1.n p.2.1/\AB P Q p.2.2.2 p.2.1 (VY bS p.1 p.2.2.1) },λp=>⟨p.1.2.1,p.1.2.2.1.T,p.1.2.2.1.H,p.1.2.2.1.D⟩,
  λp=>p.1.1,⟨(m,Y,S,L),zb' L,hL,za' _,AM.refl _ _,hf,h⟩,AY.refl _ _ _ _ _ _ _,λp=>?_⟩
 obtain ⟨⟨m,Y',S',L'⟩,q1,q2,q3,q4,q5,q6⟩:=p;cases m with
 |zero=>exact q6.elim
 |succ m=>refine Fu b (λY2 T2 H2 D2 hk=>?_) (λY2 r hx=>JP q1 q3 q4 hx) _ _ _ _ (hb S' _ Y' L' q2 q5 q6);obtain ⟨n',lv,L2,g1,g2,g3,g4,g5,g6⟩:=hk;exact ⟨⟨(m,Y2,⟨T2,H2,n',lv,D2⟩,L2),q1.trans g1,g2,ze' q3 g3,q4.trans g4 q3,g5,g6⟩,zo' m,AY.refl _ _ _ _ _ _ _⟩
omit [Gl]in
def VQ {n k:Nat}:∀{l:List BE} {j0:Nat} {S:VS} {r:MA},NK n k l j0 S=some r->∃i tp,l[i]? =some tp/\r.j=j0+i/\r.l=(Ij tp S).l/\Oc n k tp (Ij tp S).S=some r.m
 |[],j0,S,r,h=>by cases h
 |tp::q,j0,S,r,h=>by
  unfold NK at h;split at h;obtain ⟨i,tp',h1,h2,h3⟩:=VQ h;exact ⟨i+1,tp',by grind,by omega,h3⟩;simp only at h;split at h
  .cases h
   grind
  obtain ⟨i,tp',h1,h2,h3⟩:=VQ h;exact ⟨i+1,tp',by grind,by omega,h3⟩
def vl {k:Nat} {tp:BE} {S:VS} {Y:Sy} (hs:∀i q,(i,q)∈(Ij tp S).l->(DF.same i q).ok Y):AY P N k Y S.T S.H S.D Y (Ij tp S).S.T (Ij tp S).S.H (Ij tp S).S.D/\(Ij tp S).S.D=S.D:=by
 have h1:AY P N k Y S.T S.H S.D Y (Ke tp S).S.T (Ke tp S).S.H (Ke tp S).S.D/\(Ke tp S).S.D=S.D:=by
  have hs1:∀i q,(i,q)∈(Ke tp S).l->(DF.same i q).ok Y:=λi q h=>hs i q (Ry.2 (.inl h));unfold Ke at hs1⊢;generalize SC S.T tp.slots=l at hs1⊢;cases l with
  |nil=>exact ⟨AY.refl _ _ _ _ _ _ _,rfl⟩
  |cons a r=>obtain ⟨h1,_,_,h4⟩:=dq (P:=P) (N:=N) (k:=k) hs1;exact ⟨h1.1,h4⟩
 have hfr:B5 Y (Ke tp S).S (ST tp (Ke tp S).S).S:=Xj λi q h=>hs i q (Ry.2 (.inr h));exact ⟨h1.1.trans (hfr.weak k),hfr.D.trans h1.2⟩
def TN {k n lv:Nat} {tp:BE} {S:VS} {m:MT} {Y0 Y:Sy} (hm:Oc n k tp (Ij tp S).S=some m) (hs:∀i q,(i,q)∈(Ij tp S).l->(DF.same i q).ok Y) (hnn:∀i,i∈m.nn->(DF.nn i).ok Y) (hf:AA Y0 n) (hx:AM n Y0 Y) (hok:Ak (Am Y.v m.hv)=true):
  (Am Y.v m.hv).length=tp.nv/\AY P N k Y S.T S.H S.D (Y0.puts n (Am Y.v m.hv)) (tp.inst n lv).T (tp.inst n lv).H []:=by
 obtain ⟨h1,h2⟩:=wD (N:=N) (P:=P) (lv:=lv) hm hf hx hok hnn;exact ⟨h1,AY.trans (vl hs).1 h2⟩
def xl (own:Bool) (l:List Oper) (S:VS) (Y:Sy):AY P N c.k Y S.T S.H S.D Y (Jj own l S).T (Jj own l S).H (Jj own l S).D/\(Jj own l S).n=S.n/\(Jj own l S).lv=S.lv:=by unfold Jj;split;exact ⟨AY.refl _ _ _ _ _ _ _,rfl,rfl⟩;exact ⟨Tj _,rfl,rfl⟩
def io {Inv:Nat->List AV->Prop} {μ:Nat->List AV->Nat} {L:BD} {n lvl:Nat} {Y:Sy} {bS:VS->(VS->VT)->VT} {tps:List BE} {k:Nat}:∀(l:List BE) (j0:Nat),Yf P Q Inv μ L n j0 Y (XV bS n k lvl tps l)->
  ∀i tp,l[i]? =some tp->∀vs,vs.length=tp.nv->Inv (j0+i) vs->AB P Q (L++[λj' vs'=>Inv j' vs'/\μ j' vs'<μ (j0+i) vs]) (Y.puts n vs) (bS (tp.inst n (Nat.succ lvl)) (X7 n k lvl tps))
 |[],j0,h,i,tp,hi=>by simp at hi
 |t::r,j0,h,i,tp,hi=>by
  obtain ⟨h1,h2⟩:=h;cases i with
  |zero=>simp at hi;subst hi;exact h1
  |succ i=>have:=io r (j0+1) h2 i tp (by simpa using hi);rw [show j0+(i+1)=j0+1+i by omega];exact this
def ts_ {b:Code} {bS:VS->(VS->VT)->VT} {X:VX->VT} {K:KP} {tps:List BE} (hb:Wx P N Q c b bS X) (S:VS) (Y:Sy) (L:BD) (hL:L.length=S.lv) (hf:Au P c S.n Y)
  (h:AB P Q L Y (Y5 c.k bS tps S)):Ca P N c.k (.loop b) Y S.T S.H S.D K (xV P Q c L S.n Y X):=by
 unfold Y5 at h;split at h
 case h_2=>exact h.elim
 rename_i r hm;obtain ⟨hs0,h⟩:=Oe h;obtain ⟨hn0,h⟩:=Ts h;obtain ⟨Inv,μ,hok,hinv,hbs⟩:=h;obtain ⟨i,tp,hi,hj,hl,hmt⟩:=VQ hm;have hj:r.j=i:=by omega
 rw [hj]at hinv;rw [hl]at hs0;have hw:=TN (N:=N) (P:=P) (lv:=Nat.succ S.lv) hmt hs0 hn0 hf.1 (AM.refl _ _) (hok _ _ hinv)
 refine ⟨{ p:Nat×List AV×BE // tps[p.1]? =some p.2.2/\p.2.1.length=p.2.2.nv/\Inv p.1 p.2.1 },λp=>⟨Y.puts S.n p.1.2.1,(p.1.2.2.inst S.n (Nat.succ S.lv)).T,(p.1.2.2.inst S.n (Nat.succ S.lv)).H,[]⟩,λp=>μ p.1.1 p.1.2.1,
  ⟨(i,Am Y.v r.m.hv,tp),hi,hw.1,hinv⟩,hw.2,λp=>?_⟩
 obtain ⟨⟨j1,vs,tp1⟩,q1,q2,q3⟩:=p;have hb1:=io tps 0 hbs j1 tp1 q1 vs q2 (by grind);have hgood:Au P c (tp1.inst S.n (Nat.succ S.lv)).n (Y.puts S.n vs):=by show Au P c (S.n+tp1.nv) _;rw [←q2];exact hf.puts vs
 have hext:AM S.n Y (Y.puts S.n vs):=AM.puts vs _ (za' _);have hpre:∀R:Nat->List AV->Prop,L <+: L++[R]:=λR=>List.prefix_append _ _;have hnle:S.n<=(tp1.inst S.n (Nat.succ S.lv)).n:=zf' _ _;refine Fu b (λY2 T2 H2 D2 hk=>?_) (λY2 r hx=>JP (hpre _) hnle hext hx) _ _ _ _ (hb _ _ _ _ (by rw [List.length_append,hL];rfl) hgood hb1);obtain ⟨n',lv,L2,g1,g2,g3,g4,g5,g6⟩:=hk;unfold X7 at g6;split at g6
 .rename_i r2 hm2;obtain ⟨hs2,g6⟩:=Oe g6;obtain ⟨hn2,g6⟩:=Ts g6;obtain ⟨R,r1,r2'⟩:=g6;obtain ⟨i2,tp2,k1,k2,kl,k3⟩:=VQ hm2;have k2:r2.j=i2:=(by omega);rw [k2]at r2';rw [kl]at hs2;have hR:R=λj' vs'=>Inv j' vs'/\μ j' vs'<μ (0+j1) vs:=by
   obtain ⟨t,rfl⟩:=g1
   grind
  rw [hR]at r2';have hx2:AM S.n Y Y2:=hext.trans g4 hnle;have hw2:=TN (N:=N) (P:=P) (lv:=Nat.succ S.lv) k3 hs2 hn2 hf.1 hx2 (hok _ _ r2'.1);exact ⟨⟨(i2,Am Y2.v r2.m.hv,tp2),k1,hw2.1,r2'.1⟩,by grind,hw2.2⟩
 exact g6.elim
def rA {N k:Nat} {S:VS} {Y:Sy} {t:TA} {i:Nat} {cs:List AV} (hf:AA Y S.n) (hk:S.H.get t.id=some (.syl i)) (hi:Y.v i=some (.vsl t.j t.sz cs)) (hl:cs.length=t.j*t.sz):
  AY P N k Y S.T S.H S.D (Y.puts S.n cs) (LY t i S).T (LY t i S).H (LY t i S).D:=by
 intro B pr E a w hy st;obtain ⟨p1,p2,p3,p4⟩:=hf.puts cs;have hat:=Gj cs hf;have hv:∀i a,E.sy i=some a->(Y.puts S.n cs).v i=some a:=λi a ha=>by rw [hy.v]at ha;grind
 have hls:∀i l,E.syl i=some l->(Y.puts S.n cs).l i=some l:=λi l ha=>by rw [hy.l]at ha;grind
 have hlo:∀i,i<64->(Y.puts S.n cs).v i=E.sy i:=λi hi=>by rw [hy.v];exact p4 i hi
 have st1:=st.with hv hls hlo;have hi1:(E.with (Y.puts S.n cs)).sy i=some (.vsl t.j t.sz cs):=p2 _ _ hi;have hrow:=rD_ (n0:=S.n) st1.r hk hi1 (λj a ha=>hat j a ha);rw [hl]at hrow;refine ⟨E.with (Y.puts S.n cs),Ag.with_leF k hlo,⟨rfl,rfl,hy.res⟩,⟨⟨st1.t.size,st1.t.le,λq hq=>?_,st1.t.gl⟩,jY hi1 hrow [0,1,2,3],st1.d⟩⟩;show Ac _ (An (B1 (Le t.id t.sz i t.j) S.T) q) _;rw [EW];exact Yt hi1 _ _ (st1.t.con q hq)
def XR {N k:Nat} {L:BD} {kt:VS->VT}:∀(l:List TA) (S:VS) (Y:Sy),Au P c S.n Y->AB P Q L Y (QT l S kt)->
  ∃S' Y',AY P N k Y S.T S.H S.D Y' S'.T S'.H S'.D/\S'.lv=S.lv/\S.n<=S'.n/\AM S.n Y Y'/\Au P c S'.n Y'/\AB P Q L Y' (kt S')
 |[],S,Y,hf,h=>⟨S,Y,AY.refl _ _ _ _ _ _ _,rfl,za' _,AM.refl _ _,hf,h⟩
 |t::r,S,Y,hf,h=>by
  unfold QT at h;split at h
  .rename_i i hk;obtain ⟨cs,h1,h2,h3,h4⟩:=h;obtain ⟨q1,q2⟩:=tq h1;have hg:Au P c (LY t i S).n (Y.puts S.n cs):=by obtain ⟨p1,p2,p3,p4⟩:=hf.1.puts cs;refine ⟨?_,hf.2.sub p2 p4⟩;rw [q2]at p1;exact p1
   obtain ⟨S',Y',w1,w2,w3,w4,w5,w6⟩:=XR r (LY t i S) (Y.puts S.n cs) hg h4;have hle:S.n<=(LY t i S).n:=zf' _ _;exact ⟨S',Y',(rA hf.1 hk q1 q2).trans w1,w2,ze' hle w3,(AM.puts cs _ (za' _)).trans w4 hle,w5,w6⟩
  exact XR r S Y hf h
def um {N k:Nat} (t o:Nat) (S:VS) (Y:Sy):AY P N k Y S.T S.H S.D Y (Lt t o S).T (Lt t o S).H (Lt t o S).D/\(Lt t o S).n=S.n/\(Lt t o S).lv=S.lv:=by unfold Lt;split;split;split;exact ⟨cH _ _,rfl,rfl⟩;exact ⟨AY.refl _ _ _ _ _ _ _,rfl,rfl⟩;exact ⟨AY.refl _ _ _ _ _ _ _,rfl,rfl⟩;exact ⟨Tj _,rfl,rfl⟩
def nF {N k:Nat}:∀(l:List (Nat×Nat)) (S:VS) (Y:Sy),AY P N k Y S.T S.H S.D Y (KZ S l).T (KZ S l).H (KZ S l).D/\(KZ S l).n=S.n/\(KZ S l).lv=S.lv
 |[],S,Y=>⟨AY.refl _ _ _ _ _ _ _,rfl,rfl⟩
 |(t,o)::r,S,Y=>by obtain ⟨a1,a2,a3⟩:=um (N:=N) (k:=k) t o S Y;obtain ⟨b1,b2,b3⟩:=nF (N:=N) (k:=k) r (Lt t o S) Y;exact ⟨a1.trans b1,b2.trans a2,b3.trans a3⟩
def xz {N k rid:Nat} {L:BD} {kt:VS->VT} {Ae:List Oper} {S:VS} {Y:Sy} (hf:Au P c S.n Y) (h:AB P Q L Y (XH c rid Ae S kt)):
  AB P Q L Y (kt S)\/(Ae≠[]/\∃S' Y',AY P N k Y S.T S.H S.D Y' S'.T S'.H S'.D/\S'.lv=S.lv/\S.n<=S'.n/\AM S.n Y Y'/\Au P c S'.n Y'/\AB P Q L Y' (kt S')):=by
 unfold XH at h;split at h;exact .inl h
 .split at h;rename_i tp _ _;obtain ⟨w1,w2,w3⟩:=nF (P:=P) (N:=N) (k:=k) tp.fix S Y;obtain ⟨S',Y',v1,v2,v3,v4,v5,v6⟩:=XR (N:=N) (k:=k) _ (KZ S tp.fix) Y (by rw [w2];exact hf) h;rw [w2]at v3 v4;rw [w3]at v2;exact .inr ⟨by simp,S',Y',w1.trans v1,v2,v3,v4,v5,v6⟩
  grind
def ut {N k id:Nat} {Ae:Array Oper} {draw:Bool} {Y Y':Sy} {T T':Tm} {H H':AHeap} {D D':Bg} {K:KP} {X:XP} (hne:Ae.toList≠[]) (hw:AY P N k Y T H D Y' T' H' D') (h:Ca P N k (.region id Ae draw) Y' T' H' D' K X):
  Ca P N k (.region id Ae draw) Y T H D K X:=by
 unfold Ca at h⊢;cases draw with
 |false=>
  cases ho:Ae.toList with
  |nil=>grind
  |cons o r=>rw [ho]at h;obtain ⟨Y1,T1,H1,D1,h1,h2⟩:=h;exact ⟨Y1,T1,H1,D1,hw.trans h1,h2⟩
 |true=>
  rcases h with ⟨Y1,T1,H1,D1,h1,h2⟩|h;exact .inl ⟨Y1,T1,H1,D1,hw.trans h1,h2⟩
  .refine .inr λB pr E a w hy st=>?_;obtain ⟨E1,hle,hy1,st1⟩:=hw B pr E a w hy st
   grind [Code.wp_mono,Bm.le]
theorem ZK (hm:P.follows .mixedOrders=true) (hc:Ci P (CO P fuel)) {id:Nat} {any:Bool} {Ae:Array Oper} {draw:Bool} {S:VS} {K:VS->VT} {X:VX->VT} {Y:Sy} {L:BD} (hL:L.length=S.lv) (hf:Au P c S.n Y) (h:AB P Q L Y (PQ P N fuel I c any Ae draw S K X)):
  Ca P N c.k (.region id Ae draw) Y S.T S.H S.D (kV P Q c L S.n Y K) (xV P Q c L S.n Y X):=by
 cases draw with
 |false=>grind [PQ,Ca,Vy]
 |true=>
  unfold PQ at h;simp only at h;split at h;rename_i r hd;split at h;exact .inl ⟨Y,S.T,S.H,S.D,AY.refl _ _ _ _ _ _ _,CO P fuel,_,hc,hd,S.n,S.lv,L,zb' L,hL,za' _,AM.refl _ _,hf,h⟩;exact h.elim
  .have dr:AB P Q L Y (PI P N fuel I c Ae.toList (Jj c.own Ae.toList S) X K)->∀B pr E a w,E.At Y->St P B pr N E S.T S.H S.D a w->(Code.region id Ae true).wp P (Bm P B pr N c.k E (DK (kV P Q c L S.n Y K) (xV P Q c L S.n Y X))) a w:=by
     intro h;obtain ⟨w1,w2,w3⟩:=xl (P:=P) (N:=N) (c:=c) c.own Ae.toList S Y;intro B pr E a w hy st;obtain ⟨E1,hle,hy1,st1⟩:=w1 B pr E a w hy st;have key:=sa_ (id:=id) (S:=Jj c.own Ae.toList S) hm hc (by omega) (by grind) h B pr E1 a w hy1 st1
     grind [Code.wp_mono,Bm.le]
   refine .inr ?_;split at h;split at h;exact dr h;exact oD hm hc hL hf h;split at h;exact oD hm hc hL hf h;exact dr h
def HA (hm:P.follows .mixedOrders=true) (hc:Ci P (CO P fuel)):∀(cd:Code) (bid:Nat) (S:VS) (K:VS->VT) (X:VX->VT) (Y:Sy) (L:BD),L.length=S.lv->Au P c S.n Y->AB P Q L Y (EN P N fuel I c bid cd S K X)->
  Ca P N c.k cd Y S.T S.H S.D (kV P Q c L S.n Y K) (xV P Q c L S.n Y X)
 | .skip,bid,S,K,X,Y,L,hL,hf,h=>by exact ⟨S.n,S.lv,L,zb' L,hL,za' _,AM.refl _ _,hf,h⟩
 | .label _,bid,S,K,X,Y,L,hL,hf,h=>by exact ⟨S.n,S.lv,L,zb' L,hL,za' _,AM.refl _ _,hf,h⟩
 | .exit id,bid,S,K,X,Y,L,hL,hf,h=>by exact ⟨S.n,S.lv,L,zb' L,hL,za' _,AM.refl _ _,hf,h⟩
 | .ret,bid,S,K,X,Y,L,hL,hf,h=>by exact ⟨S.n,S.lv,L,zb' L,hL,za' _,AM.refl _ _,hf,h⟩
 | .region id Ae draw,bid,S,K,X,Y,L,hL,hf,h=>by
   rcases xz (N:=N) (k:=c.k) hf h with h|⟨hne,S',Y',w1,w2,w3,w4,w5,w6⟩
   .grind [ZK]
   refine ut hne w1 (Fu _ (λ_ _ _ _ hk=>U6 (zb' L) w3 w4 hk) (λ_ _ hx=>JP (zb' L) w3 w4 hx) _ _ _ _ (ZK hm hc (by omega) w5 w6))
 | .seq a b,bid,S,K,X,Y,L,hL,hf,h=>by unfold EN at h;unfold Ca;refine Fu a (λY' T' H' D' hk=>?_) (λ_ _ h=>h) _ _ _ _ (HA hm hc a bid S _ X Y L hL hf h);obtain ⟨n',lv,L',g1,g2,g3,g4,g5,g6⟩:=hk;exact Fu b (λ_ _ _ _ hk=>U6 g1 g3 g4 hk) (λ_ _ hx=>JP g1 g3 g4 hx) _ _ _ _ (HA hm hc b bid ⟨T',H',n',lv,D'⟩ K X Y' L' g2 g5 g6)
 | .cond cd a b,bid,S,K,X,Y,L,hL,hf,h=>by unfold EN at h;split at h;rename_i t ht;refine ⟨Y,S.T,S.H,S.D,AY.refl _ _ _ _ _ _ _,t,ht,λe=>?_,λe=>?_⟩;subst e;exact HA hm hc a bid S K X Y L hL hf h;subst e;exact HA hm hc b bid S K X Y L hL hf h;split at h;rename_i i hi;obtain ⟨t,ht,h1,h2⟩:=h;refine ⟨Y,(S.know i t).T,(S.know i t).H,(S.know i t).D,VG ht S.x S.D,t,YK hi S.x rfl t,λe=>?_,λe=>?_⟩;subst e;exact HA hm hc a bid (S.know i true) K X Y L hL hf (h1 rfl);subst e;exact HA hm hc b bid (S.know i false) K X Y L hL hf (h2 rfl);exact h.elim
 | .block id b,bid,S,K,X,Y,L,hL,hf,h=>by
   refine Fu b (λ_ _ _ _ h=>h) (λY' r hx=>?_) _ _ _ _ (HA hm hc b id S K (X5 id K X) Y L hL hf h);cases r with
   |norm T H D=>exact hx.elim
   |pan v T H D=>exact hx
   |ret T H D=>exact hx
   |exit id' T H D=>
    obtain ⟨n,lv,L',g1,g2,g3,g4,g5,h'⟩:=hx;unfold X5 at h';simp only at h';cases hb:Nat.beq id' id with
    |true=>rw [hb]at h';exact ⟨λ_=>⟨n,lv,L',g1,g2,g3,g4,g5,h'⟩,λe=>absurd (zd' hb) e⟩
    |false=>rw [hb]at h';refine ⟨λe=>?_,λ_=>⟨n,lv,L',g1,g2,g3,g4,g5,h'⟩⟩;simp_all
 | .loop b,bid,S,K,X,Y,L,hL,hf,h=>by unfold EN at h;have hb:Wx P N Q c b (λS K=>EN P N fuel I c bid b S K X) X:=λS K Y L hL hf h=>HA hm hc b bid S K X Y L hL hf h;split at h;exact ts_ hb S Y L hL hf h;exact uQ hb fuel S Y L hL hf h
 | .scope _,bid,S,K,X,Y,L,hL,hf,h=>by exact h.elim
 | .goto _,bid,S,K,X,Y,L,hL,hf,h=>by exact h.elim
 | .refuse _,bid,S,K,X,Y,L,hL,hf,h=>by exact h.elim
 | .rangeFunc _ _ _ _,bid,S,K,X,Y,L,hL,hf,h=>by exact h.elim
def EZ (P:Program) (Q:AV->Prop) (c:VC) (N:Nat) (B:World) (pr:Nat->Prop) (K R:VS->Option AV->VT) (L:BD) (n:Nat) (Y:Sy) (E:Ag) (c₀:Frame) (cs:List Frame) (e:Exit) (a:Act) (cs':List Frame) (w:World):Prop:=
 ∃(Y':Sy) (S':VS) (u':Option AV) (m':FrameMode) (E':Ag) (L':BD),(L <+: L'/\L'.length=S'.lv/\n<=S'.n/\AM n Y Y'/\Au P c S'.n Y'/\S'.D=[])/\E.leF c.k E'/\E'.At Y'/\cs'={ c₀ with mode:=m' }::cs/\Bd E' u' m'/\St P B pr N E' S'.T S'.H [] a w/\
  ((e=.normal/\AB P Q L' Y' (K S' u'))\/(e=.ret/\AB P Q L' Y' (R S' u')))
theorem EZ.le {B:World} {pr:Nat->Prop} {K R:VS->Option AV->VT} {L L0:BD} {n n0:Nat} {Y Y0:Sy} {E E0:Ag} {c₀:Frame} {cs cs':List Frame} {e:Exit} {a:Act} {w:World} (hL:L0 <+: L) (hn:n0<=n) (hx:AM n0 Y0 Y) (hE:E0.leF c.k E) (h:EZ P Q c N B pr K R L n Y E c₀ cs e a cs' w):EZ P Q c N B pr K R L0 n0 Y0 E0 c₀ cs e a cs' w:=by obtain ⟨Y',S',u',m',E',L',⟨h1,h2,h3,h4,h5⟩,h6,h7⟩:=h;exact ⟨Y',S',u',m',E',L',⟨hL.trans h1,h2,ze' hn h3,hx.trans h4 hn,h5⟩,hE.trans h6,h7⟩
omit [Gl]in
def Bd.none {E E':Ag} {m:FrameMode} (h:Bd E none m):Bd E' none m:=h
def Kw (hm:P.follows .mixedOrders=true) (hc:Ci P (CO P fuel)) (B:World) (pr:Nat->Prop) (c₀:Frame) (cs:List Frame):∀(cd:Code) (S:VS) (u:Option AV) (K R:VS->Option AV->VT) (Y:Sy) (L:BD),L.length=S.lv->Au P c S.n Y->S.D=[]->AB P Q L Y (HU P N fuel I c cd S u K R)->
  ∀E a w m,E.At Y->St P B pr N E S.T S.H [] a w->Bd E u m->cd.wpS P (EZ P Q c N B pr K R L S.n Y E c₀ cs) a ({ c₀ with mode:=m }::cs) w
 | .skip,S,u,K,R,Y,L,hL,hf,hD,h,E,a,w,m,hy,st,hmo=>by exact wpS_of_wp (wp_skip ⟨Y,S,u,m,E,L,⟨zb' L,hL,za' _,AM.refl _ _,hf,hD⟩,Ag.leF_refl _ _,hy,rfl,hmo,st,.inl ⟨rfl,h⟩⟩)
 | .ret,S,u,K,R,Y,L,hL,hf,hD,h,E,a,w,m,hy,st,hmo=>by exact wpS_of_wp (wp_ret ⟨Y,S,u,m,E,L,⟨zb' L,hL,za' _,AM.refl _ _,hf,hD⟩,Ag.leF_refl _ _,hy,rfl,hmo,st,.inr ⟨rfl,h⟩⟩)
 | .region id Ae draw,S,u,K,R,Y,L,hL,hf,hD,h,E,a,w,m,hy,st,hmo=>by
   unfold HU at h;split at h;split at h;exact h.elim;split at h;rename_i r hr;split at h;rename_i T' H' u';refine wpS_region ?_;have:=Y7 hc Ae c₀ cs Ae.toList 0 (by simp) S.T S.H u _ hr E a w m st hmo;rw [List.range_eq_range'];have h2:wpOpsS P Ae (D7 P B pr N E c₀ cs (.norm T' H' u')) (List.range' 0 Ae.size) a ({ c₀ with mode:=m }::cs) w:=(by omega);refine J5 (λe a cs' w hq=>?_) _ _ _ _ h2;obtain ⟨E',m',q1,q2,rfl,q3,q4⟩:=hq;exact ⟨Y,⟨T',H',S.n,S.lv,[]⟩,u',m',E',L,⟨zb' L,hL,za' _,AM.refl _ _,hf,rfl⟩,q1.leF _,hy.le q1,q2,q3,q4,.inl ⟨rfl,h⟩⟩;exact h.elim;exact h.elim
   .rename_i hb;have hu:u=none:=by
     cases u with
     |none=>rfl
     |some v=>cases hb
    subst hu;have hw:=ZK (N:=N) (id:=id) hm hc hL hf h;rw [hD]at hw;refine wpS_of_wp (Code.wp_mono (λe a w hq=>?_) (Kq hm _ _ _ _ _ _ _ hw B pr E a w hy st));obtain ⟨Y',r,hr,E',q1,q2,q3⟩:=hq;cases r with
    |norm T' H' D'=>
     obtain ⟨n',lv,L',g1,g2,g3,g4,g5,g6⟩:=hr;obtain ⟨rfl,st'⟩:=q3;cases D' with
     |nil=>exact ⟨Y',⟨T',H',n',lv,[]⟩,none,m,E',L',⟨g1,g2,g3,g4,g5,rfl⟩,q1,q2,rfl,hmo,st',.inl ⟨rfl,g6⟩⟩
     |cons d D'=>exact g6.elim
    |exit id T' H' D'=>obtain ⟨n',lv,L',g1,g2,g3,g4,g5,g6⟩:=hr;exact g6.elim
    |ret T' H' D'=>obtain ⟨n',lv,L',g1,g2,g3,g4,g5,g6⟩:=hr;exact g6.elim
    |pan v T' H' D'=>obtain ⟨n',lv,L',g1,g2,g3,g4,g5,g6⟩:=hr;exact g6.elim
 | .seq x y,S,u,K,R,Y,L,hL,hf,hD,h,E,a,w,m,hy,st,hmo=>by refine wpS_seq (Code.wpS_mono (λe a cs' w hq=>?_) (Kw hm hc B pr c₀ cs x S u _ R Y L hL hf hD h E a w m hy st hmo));obtain ⟨Y',S',u',m',E',L',⟨h1,h2,h3,h4,h5,h6⟩,q1,q2,rfl,q3,q4,q5⟩:=hq;rcases q5 with ⟨rfl,q5⟩|⟨rfl,q5⟩;exact Code.wpS_mono (λe a cs' w hq=>EZ.le h1 h3 h4 q1 hq) (Kw hm hc B pr c₀ cs y S' u' K R Y' L' h2 h5 h6 q5 E' a w m' q2 q4 q3);exact ⟨Y',S',u',m',E',L',⟨h1,h2,h3,h4,h5,h6⟩,q1,q2,rfl,q3,q4,.inr ⟨rfl,q5⟩⟩
 | .cond cd x y,S,u,K,R,Y,L,hL,hf,hD,h,E,a,w,m,hy,st,hmo=>by
   unfold HU at h;split at h
   .rename_i t ht;have hl:=st.t.look cd;rw [ht]at hl;refine wpS_cond (t:=t) (by simpa [Ac]using hl) ?_;cases t with
    |true=>exact Kw hm hc B pr c₀ cs x S u K R Y L hL hf hD h E a w m hy st hmo
    |false=>exact Kw hm hc B pr c₀ cs y S u K R Y L hL hf hD h E a w m hy st hmo
   .split at h
    .rename_i i hi;obtain ⟨t,ht,h1,h2⟩:=h;have st1:St P B pr N E (S.know i t).T (S.know i t).H [] a w:=⟨⟨st.t.size,st.t.le,λq hq=>by show Ac E (An (B1 (GG i t) S.T) q) _;rw [EW];exact WF (by rw [hy.v];exact ht) (st.t.con q hq),st.t.gl⟩,st.r,st.d⟩;have hl:=st1.t.look cd;rw [show look (S.know i t).T cd=.bool t from YK hi S.x rfl t]at hl;refine wpS_cond (t:=t) (by grind [Ac]) ?_;cases t with
     |true=>exact Kw hm hc B pr c₀ cs x (S.know i true) u K R Y L hL hf hD (h1 rfl) E a w m hy st1 hmo
     |false=>exact Kw hm hc B pr c₀ cs y (S.know i false) u K R Y L hL hf hD (h2 rfl) E a w m hy st1 hmo
    exact h.elim
 | .block id b,S,u,K,R,Y,L,hL,hf,hD,h,E,a,w,m,hy,st,hmo=>by
   refine lw (Kw hm hc B pr c₀ cs b S u K R Y L hL hf hD h E a w m hy st hmo) λe a cs' w hq=>?_;obtain ⟨Y',S',u',m',E',L',_,_,_,_,_,_,q5⟩:=hq
   grind
 | .exit _,S,u,K,R,Y,L,hL,hf,hD,h,E,a,w,m,hy,st,hmo=>by exact h.elim
 | .label _,S,u,K,R,Y,L,hL,hf,hD,h,E,a,w,m,hy,st,hmo=>by exact h.elim
 | .loop _,S,u,K,R,Y,L,hL,hf,hD,h,E,a,w,m,hy,st,hmo=>by exact h.elim
 | .scope _,S,u,K,R,Y,L,hL,hf,hD,h,E,a,w,m,hy,st,hmo=>by exact h.elim
 | .goto _,S,u,K,R,Y,L,hL,hf,hD,h,E,a,w,m,hy,st,hmo=>by exact h.elim
 | .refuse _,S,u,K,R,Y,L,hL,hf,hD,h,E,a,w,m,hy,st,hmo=>by exact h.elim
 | .rangeFunc _ _ _ _,S,u,K,R,Y,L,hL,hf,hD,h,E,a,w,m,hy,st,hmo=>by exact h.elim
def pO (hm:P.follows .mixedOrders=true) (hc:Ci P (CO P fuel)) {fn:Func} {fin:A1->Nat->Nat->VT} {Q':Sy->A1->Prop} {B:World} {pr:Nat->Prop} {tmps:Array Value}:∀(D:Bg) (T:Tm) (H:AHeap) (n lv:Nat) (u:Option AV) (Y:Sy) (L:BD),L.length=lv->Au P c n Y->AB P Q L Y (Mu P fuel I c fn.results.toList fin D T H n lv u)->
  (∀r n' lv' L' Y',L <+: L'->L'.length=lv'->n<=n'->AM n Y Y'->Au P c n' Y'->AB P Q L' Y' (fin r n' lv')->Q' Y' r)->
  ∀E w ds m,E.At Y->Bc E N T tmps->Ao B pr E H w->Ce P E D ds->BL E u m->Leaves P fn tmps (λe w'=>∃Y r,Q' Y r/\Ti c.k B pr E Y r e w') ds m w
 |[],T,H,n,lv,u,Y,L,hL,hf,h,hfin,E,w,ds,m,hy,ht,hr,hd,hmo=>by unfold Mu at h;split at h;rename_i r hl;have hq:=hfin r n lv L Y (zb' L) hL (za' _) (AM.refl _ _) hf h;refine Leaves.mono (λe w ⟨E',g1,g2⟩=>⟨Y,r,hq,E',g1.leF _,hy.le g1,g2⟩) _ _ _ (Nn hc (λN=>UP hm hc N) [] H u r hl E w ds m ht hr hd hmo);exact h.elim
 |(f,ag)::D,T,H,n,lv,u,Y,L,hL,hf,h,hfin,E,w,ds,m,hy,ht,hr,hd,hmo=>by
  obtain ⟨vs,ds',rfl,h2,h3,h4⟩:=hd;unfold Mu at h;split at h
  case h_2=>exact h.elim
  rename_i fd hfd;split at h
  case h_2=>exact h.elim
  rename_i cd hb;split at h
  case h_2=>exact h.elim
  rename_i hle;obtain ⟨a1,hle⟩:=Aq hle;obtain ⟨a2,hle⟩:=Aq hle;obtain ⟨a3,a4⟩:=Aq hle;have a1:ag.length<=fd.ntmps:=(by grind [BW,zg']);have a2:fd.ntmps<=512:=(by simp_all);have a4:c.k<=H.next:=Nat.le_of_ble_eq_true a4;refine ⟨hmo.ne_run,.func f,#[],f,⟨vs⟩,rfl,by simp [invoke,bp h3],CallsD.mono (λe m' w' hq=>?_) (callsD_of_wpS (R:=λe m' w'=>∃(v:Value) (E':Ag) (u':Option AV) (Y':Sy) (S':VS) (L':BD),e=.returned v/\(L <+: L'/\L'.length=S'.lv/\n<=S'.n/\AM n Y Y'/\Au P c S'.n Y')/\E.leF H.next E'/\E'.At Y'/\Bd E' u' m'/\Ao B pr E' S'.H w'/\AB P Q L' Y' (Mu P fuel I c fn.results.toList fin D (B1 (DY H.next n) T) S'.H S'.n S'.lv u')) hfd hb λc₀ cs hmode=>?_)⟩;obtain ⟨v,E',u',Y',S',L',rfl,⟨g1,g2,g3,g4,g5⟩,g6,g7,g8,g9,g10⟩:=hq;have hkeep:De H.next n E E':=⟨g6.phi,g6.sz,g6.imm,λi hi=>by rw [g7.v,hy.v];exact g4 i hi⟩;have ht':Bc E' N (B1 (DY H.next n) T) tmps:=⟨ht.size,ht.le,λt hN=>by rw [EW];exact fi hkeep (mn (ht.con t hN)),ht.gl.leF g6⟩;have hlek:E.leF c.k E':=⟨λi x hi=>g6.phi i x (zl' hi a4),g6.sz,g6.imm,g6.bim,g6.sy⟩;have ih:=pO hm hc (fn:=fn) (Q':=Q') (B:=B) (pr:=pr) (tmps:=tmps) D (B1 (DY H.next n) T) S'.H S'.n S'.lv u' Y' L' g2 g5 g10 (λr n' lv' L2 Y2 k1 k2 k3 k4 k5 k6=>hfin r n' lv' L2 Y2 (g1.trans k1) k2 (ze' g3 k3) (g4.trans k4 g3) k5 k6) E' w' ds' (Go.settle m') g7 ht' g9 (Ys hkeep a3 h4) g8.settle;exact Leaves.mono (λe w ⟨Y2,r,k1,E2,k2,k3⟩=>⟨Y2,r,k1,E2,hlek.trans k2,k3⟩) _ _ _ ih
  .have st:St P B pr fd.ntmps E (Dc ag 0 B4) H [] { tmps:=(⟨vs⟩:Array Value)++Array.replicate (fd.ntmps-(⟨vs⟩:Array Value).size) undef,defers:=[] } w:=
     ⟨Ug ht.gl h2 a1 a2,hr,rfl⟩
   have hc₀:c₀={ c₀ with mode:=m }:=(by rw [←hmode]);have hrun:=Kw (N:=fd.ntmps) (c:=⟨c.fc,c.cs,[],H.next,c.own,c.fs⟩) (I:=I) hm hc B pr c₀ cs cd ⟨Dc ag 0 B4,H,n,lv,[]⟩ u _ _ Y L hL hf rfl h E _ w m hy st hmo.in;rw [←hc₀]at hrun;refine Code.wpS_mono (λe a cs' w' hq=>?_) hrun;obtain ⟨Y',S',u',m',E',L',⟨g1,g2,g3,g4,g5,g6⟩,q1,q2,rfl,q3,q4,q5⟩:=hq;have key:AB P Q L' Y' (match G9 P S'.T S'.H fd.results.toList with
     |some _=>Mu P fuel I c fn.results.toList fin D (B1 (DY H.next n) T) S'.H S'.n S'.lv u'
     |none=>.bad):=by
    grind
   split at key;rename_i l hl;obtain ⟨v,r1,r2⟩:=VH q4.r q4.t hl;rcases q5 with ⟨rfl,_⟩|⟨rfl,_⟩;exact ⟨q4.d,m',rfl,v,r1,v,E',u',Y',S',L',rfl,⟨g1,g2,g3,g4,g5⟩,q1,q2,q3,q4.r,key⟩;exact ⟨q4.d,m',rfl,v,r1,v,E',u',Y',S',L',rfl,⟨g1,g2,g3,g4,g5⟩,q1,q2,q3,q4.r,key⟩;exact key.elim
def V1 (hm:P.follows .mixedOrders=true) (hc:Ci P (CO P fuel)) {fn:Func} {fin:A1->Nat->Nat->VT} {Q':Sy->A1->Prop} {u:Option AV} {S:VS} {Y:Sy} {L:BD} (hL:L.length=S.lv) (hf:Au P c S.n Y) (h:AB P Q L Y (PW P fuel I c fn.results.toList fin u S))
  (hfin:∀r n' lv' L' Y',L <+: L'->L'.length=lv'->S.n<=n'->AM S.n Y Y'->Au P c n' Y'->AB P Q L' Y' (fin r n' lv')->Q' Y' r):Jo P c.k fn Q' Y S.T S.H S.D u:=by
 unfold PW at h;split at h;rename_i r hl;exact .inl ⟨CO P fuel,fuel,r,hc,hl,hfin r S.n S.lv L Y (zb' L) hL (za' _) (AM.refl _ _) hf h⟩;exact .inr λB pr E w tmps ds m hy ht hr hd hmo=>pO hm hc S.D S.T S.H S.n S.lv u Y L hL hf h hfin E w ds m hy ht hr hd hmo
def rW (hm:P.follows .mixedOrders=true) (hc:Ci P (CO P fuel)) {f:FuncId} {ag:List AV} {n:Nat} {Y:Sy} (hf:Au P c n Y) (h:AB P Q [] Y (Yv P fuel I c f ag n)):AW P c.k Y f ag H0 (UI Q):=by
 unfold Yv at h;split at h
 .rename_i fn hfn;split at h
  .rename_i cd hb;split at h
   .rename_i hle;obtain ⟨h1,h2⟩:=Aq hle;have h1:ag.length<=fn.ntmps:=(by grind [BW,zg']);have h2:fn.ntmps<=512:=(by simp_all);have fin:∀u L Y' S,L.length=S.lv->Au P c S.n Y'->AB P Q L Y' (VJ P fuel I c fn.results.toList u S)->Jo P c.k fn (UI Q) Y' S.T S.H S.D u:=by
     intro u L Y' S hL hg h;refine V1 hm hc hL hg h λr n' lv' L' Y' _ _ _ _ _ h=>?_;cases r with
     |pan a H=>exact (show False from h).elim
     |ret a H=>unfold gR pA at h;simp only at h;split at h;rename_i v hv;split at h;rename_i hs;exact ⟨a,H,v,100,rfl,hv,hs,h⟩;exact h.elim;exact h.elim
    refine SV hm hfn hb ⟨h1,h2,Fu cd (λY' T' H' D' hk=>?_) (λY' r hx=>?_) _ _ _ _ (HA hm hc cd 0 ⟨Dc ag 0 B4,H0,n,0,[]⟩ _ _ Y [] rfl hf h)⟩
    .obtain ⟨n',lv,L',_,q2,_,_,q5,h'⟩:=hk
     grind
    .cases r with
     |norm T H D=>exact hx.elim
     |pan v T H D=>obtain ⟨n',lv,L',_,q2,_,_,q5,h'⟩:=hx;exact fin (some v) L' Y' ⟨T,H,n',lv,D⟩ q2 q5 h'
     |exit id T H D=>obtain ⟨n',lv,L',_,_,_,_,_,h'⟩:=hx;exact h'.elim
     |ret T H D=>obtain ⟨n',lv,L',_,q2,_,_,q5,h'⟩:=hx;exact fin none L' Y' ⟨T,H,n',lv,D⟩ q2 q5 h'
   exact h.elim
  exact h.elim
 exact h.elim
def AW.low {k:Nat} {Y:Sy} {f:FuncId} {ag:List AV} {H:AHeap} {R:Sy->A1->Prop} (h:AW P k Y f ag H R):AW P 0 Y f ag H R:=λB pr E w vs hy hg hr hcon=>
 Calls.mono (h B pr E w vs hy hg hr hcon) λe w' he=>by obtain ⟨Y',r,h1,E',h2,h3⟩:=he;exact ⟨Y',r,h1,E',⟨λ_ _ hi=>absurd hi (zi' _),h2.sz,h2.imm,h2.bim,h2.sy⟩,h3⟩
def QF (R:Nat->List AV->Prop) (a:AV):Prop:=∃j ws,a=.tup (.int .i64 (.ofNat j)::ws)/\Ak ws=true/\R j ws
def Nh {ft:FT} {R:Nat->List AV->Prop} {L:BD} {Y0 Y:Sy} {n:Nat} {b:Bool} {S:VS} {a:AV} (hT:S.T=Ea AK 0 a) (hD:S.D=[]) (hf:AA Y0 n) (hx:AM n Y0 Y):∀(l:List (Bool×BE)) (j0:Nat),(∀j q,l[j]? =some q->ft.exs[j0+j]? =some q)->AB P (QF R) L Y (O9 n ft.k b S l j0)->
  ∃j ws tp,ft.exs[j]? =some (b,tp)/\R j ws/\Ak ws=true/\ws.length=tp.nv/\∀N,AY P N ft.k Y S.T S.H [] (Y0.puts n ws) (Fx n tp.slots) (tp.heap n) []
 |[],j0,_,h=>h.elim
 |(b',tp)::r,j0,hl,h=>by unfold O9 at h;simp only at h;split at h;exact Nh hT hD hf hx r (j0+1) (λj q hj=>by rw [show j0+1+j=j0+(j+1) by omega];exact hl (j+1) q (by grind)) h;rename_i hb;have hb:b=b':=(by grind);subst hb;split at h;rename_i m hm;obtain ⟨hs,h⟩:=Oe h;obtain ⟨hn,h⟩:=Ts h;obtain ⟨j,ws,e,hok,hR⟩:=h;simp only [Ap,Am,AV.tup.injEq,List.cons.injEq,AV.int.injEq,true_and]at e;obtain ⟨e1,e2⟩:=e;have e1:j0=j:=(by cases e1;rfl);subst e1;rw [←e2]at hok hR;refine ⟨j0,Am Y.v m.hv,tp,hl 0 _ rfl,hR,hok,?_,λN=>?_⟩;exact (TN (P:=P) (N:=0) (lv:=0) hm hs hn hf hx hok).1;have:=(TN (P:=P) (N:=N) (lv:=0) hm hs hn hf hx hok).2;rw [hD]at this;exact this;exact Nh hT hD hf hx r (j0+1) (λj q hj=>by rw [show j0+1+j=j0+(j+1) by omega];exact hl (j+1) q (by grind)) h
def Dg (P:Program) (ft:FT) (R:Nat->List AV->Prop) (Y0:Sy) (Y:Sy) (r:A1):Prop:=
 ∃b a H j ws tp,r=(match b with
  |true=>.pan a H
  |false=>.ret a H)/\ft.exs[j]? =some (b,tp)/\R j ws/\Ak ws=true/\ws.length=tp.nv/\∀N,AY P N ft.k Y (Ea AK 0 a) H [] (Y0.puts (Nat.add 64 ft.ent.nv) ws) (Fx (Nat.add 64 ft.ent.nv) tp.slots) (tp.heap (Nat.add 64 ft.ent.nv)) []
def Dg.call {ft:FT} {R:Nat->List AV->Prop} {Y0:Sy} {f:FuncId} {ag:List AV} {H:AHeap} (h:AW P ft.k Y0 f ag H (Dg P ft R Y0)):AW P ft.k Y0 f ag H (Ny ft (Nat.add 64 ft.ent.nv) Y0 R):=λB pr E w vs hy hg hr hcon=>
 Calls.mono (h B pr E w vs hy hg hr hcon) λe w' he=>by
  obtain ⟨Y',r,⟨b,a,H',j,ws,tp,rfl,h1,h2,h3,h4,hw⟩,E',hle,hy',hres⟩:=he;have hend:∃u,e=(match b with
    |true=>.panicked [{ v:=u,recovered:=false }]
    |false=>.returned u)/\Ac E' a u/\Ao B pr E' H' w':=by
   grind
  obtain ⟨u,he,hcu,hr'⟩:=hend;have hgl:BM E':=hg.leF hle
  let ac:Act:={ tmps:= #[u],defers:=[] }
  have st:St P B pr 1 E' (Ea AK 0 a) H' [] ac w':=⟨⟨rfl,by omega,λt ht=>by
   by_cases e:0=t;subst e;exact hcu
   grind [Fi,Ks,Ac],hgl⟩,hr',rfl⟩
  obtain ⟨E2,hle2,hy2,st2⟩:=hw 1 B pr E' ac w' hy' st;have hcu2:=st2.t.con 0 (by omega);refine ⟨_,_,⟨j,ws,b,tp,h1,h2,h3,h4,rfl,rfl⟩,E2,hle.trans hle2,hy2,?_⟩;cases b with
  |true=>exact ⟨u,he,hcu2,st2.r⟩
  |false=>exact ⟨u,he,hcu2,st2.r⟩
def sd_ (hm:P.follows .mixedOrders=true) (hc:Ci P (CO P fuel)) {f:FuncId} {ft:FT} {R:Nat->List AV->Prop} {Y:Sy} (hf:Au P c (Nat.add 64 ft.ent.nv) Y) (h:AB P (QF R) [] Y (Wv P fuel I c f ft)):
  AW P ft.k Y f (CE 64 (DB ft.ent.slots)) (ft.ent.heap 64) (Ny ft (Nat.add 64 ft.ent.nv) Y R):=by
 unfold Wv at h;split at h
 .rename_i fn hfn;split at h
  .rename_i cd hb;split at h
   .rename_i hle;obtain ⟨h1,hle⟩:=Aq hle;obtain ⟨h2,h3⟩:=Aq hle;have h1:(CE 64 (DB ft.ent.slots)).length<=fn.ntmps:=(by grind [BW,SH,zg']);have h2:fn.ntmps<=512:=(by simp_all);have h3:=zd' h3;have fin:∀u L Y' S,L.length=S.lv->Au P c S.n Y'->Nat.add 64 ft.ent.nv<=S.n->AM (Nat.add 64 ft.ent.nv) Y Y'->AB P (QF R) L Y' (Pg P fuel I c fn.results.toList ft u S)->Jo P c.k fn (Dg P ft R Y) Y' S.T S.H S.D u:=by
     intro u L Y' S hL hg hn hx h;refine V1 hm hc hL hg h λr n' lv' L' Y2 _ _ _ hx2 _ h=>?_;have hx:=hx.trans hx2 hn;cases r with
     |ret a H=>obtain ⟨j,ws,tp,q1,q2,q3,q4,q5⟩:=Nh (a:=a) rfl rfl hf.1 hx ft.exs 0 (λj q hj=>by grind) h;exact ⟨false,a,H,j,ws,tp,rfl,q1,q2,q3,q4,q5⟩
     |pan a H=>obtain ⟨j,ws,tp,q1,q2,q3,q4,q5⟩:=Nh (a:=a) rfl rfl hf.1 hx ft.exs 0 (λj q hj=>by grind) h;exact ⟨true,a,H,j,ws,tp,rfl,q1,q2,q3,q4,q5⟩
    refine Dg.call ?_;rw [←h3];refine SV hm hfn hb ⟨h1,h2,Fu cd (λY' T' H' D' hk=>?_) (λY' r hx=>?_) _ _ _ _ (HA hm hc cd 0 ⟨Dc (CE 64 (DB ft.ent.slots)) 0 B4,ft.ent.heap 64,Nat.add 64 ft.ent.nv,0,[]⟩ _ _ Y [] rfl hf h)⟩
    .obtain ⟨n',lv,L',_,q2,q3,hx,q5,h'⟩:=hk
     grind
    .cases r with
     |norm T H D=>exact hx.elim
     |pan v T H D=>obtain ⟨n',lv,L',_,q2,q3,hx,q5,h'⟩:=hx;exact fin (some v) L' Y' ⟨T,H,n',lv,D⟩ q2 q5 q3 hx h'
     |exit id T H D=>obtain ⟨n',lv,L',_,_,_,_,_,h'⟩:=hx;exact h'.elim
     |ret T H D=>obtain ⟨n',lv,L',_,q2,q3,hx,q5,h'⟩:=hx;exact fin none L' Y' ⟨T,H,n',lv,D⟩ q2 q5 q3 hx h'
   exact h.elim
  exact h.elim
 exact h.elim
def tC (hm:P.follows .mixedOrders=true) (hc:Ci P (CO P fuel)) {g:FuncId} {ag:List AV} {H:AHeap} {n lv:Nat} {ret pan:AV->AHeap->Nat->Nat->VT} {L:List (Nat->List AV->Prop)} {Y:Sy} (hL:L.length=lv) (hf:AA Y n/\Br P c.fc Y)
  (h:AB P Q L Y (Wt P fuel I c g ag H n lv ret pan)):AW P H.next Y g ag H (WK P Q c.fc L n Y ret pan):=by
 unfold Wt at h;split at h
 .rename_i fn hfn;split at h
  .rename_i cd hb;split at h
   .rename_i hle;obtain ⟨h1,h2⟩:=Aq hle;have h1:ag.length<=fn.ntmps:=(by grind [BW,zg']);have h2:fn.ntmps<=512:=(by simp_all);have fin:∀u L' Y' (S:VS),L <+: L'->L'.length=S.lv->n<=S.n->AM n Y Y'->(AA Y' S.n/\Br P c.fc Y')->AB P Q L' Y' (Wf P fuel I ⟨c.fc,c.cs,[],H.next,c.own,c.fs⟩ fn.results.toList ret pan u S)->Jo P H.next fn (WK P Q c.fc L n Y ret pan) Y' S.T S.H S.D u:=by
     intro u L' Y' S hp hl hn hx hg h;refine V1 (c:=⟨c.fc,c.cs,[],H.next,c.own,c.fs⟩) hm hc hl hg h λr n' lv' L2 Y2 k1 k2 k3 k4 k5 h=>?_;refine ⟨n',lv',L2,hp.trans k1,k2,ze' hn k3,hx.trans k4 hn,k5,?_⟩;cases r with
     |ret a H=>exact h
     |pan a H=>exact h
    refine SV hm hfn hb ⟨h1,h2,Fu cd (λY' T' H' D' hk=>?_) (λY' r hx=>?_) _ _ _ _ (HA (c:=⟨c.fc,c.cs,[],H.next,c.own,c.fs⟩) hm hc cd 0 ⟨Dc ag 0 B4,H,n,lv,[]⟩ _ _ Y L hL hf h)⟩;obtain ⟨n',lv',L',q1,q2,q3,q4,q5,q6⟩:=hk;exact fin none L' Y' ⟨T',H',n',lv',D'⟩ q1 q2 q3 q4 q5 q6
    .cases r with
     |norm T H D=>exact hx.elim
     |pan v T H D=>obtain ⟨n',lv',L',q1,q2,q3,q4,q5,q6⟩:=hx;exact fin (some v) L' Y' ⟨T,H,n',lv',D⟩ q1 q2 q3 q4 q5 q6
     |exit id T H D=>obtain ⟨n',lv',L',_,_,_,_,_,q6⟩:=hx;exact (show False from q6).elim
     |ret T H D=>obtain ⟨n',lv',L',q1,q2,q3,q4,q5,q6⟩:=hx;exact fin none L' Y' ⟨T,H,n',lv',D⟩ q1 q2 q3 q4 q5 q6
   exact (show False from h).elim
  exact (show False from h).elim
 exact (show False from h).elim
end
def MM (P:Program) (fuel:Nat):Nat->C8 P fuel
 |0=>ug P fuel
 |d+1=>⟨λc g ag H n lv ret pan=>Wt P fuel (MM P fuel d) c g ag H n lv ret pan,λhm hc hL hf h=>tC hm hc hL hf h⟩
def Vz (P:Program) (fuel:Nat) (c:VC) (f:FuncId) (ft:FT):VT:=Wv P fuel (MM P fuel 12) c f ft
def TD (P:Program) (fuel:Nat) (c:VC) (f:FuncId) (ag:List AV) (n:Nat):VT:=Yv P fuel (MM P fuel 12) c f ag n
def ec {P:Program} {Q:AV->Prop} {fuel:Nat} {c:VC} (hm:P.follows .mixedOrders=true) (hc:Ci P (CO P fuel)) {f:FuncId} {ag:List AV} {n:Nat} {Y:Sy} (hf:Au P c n Y) (h:AB P Q [] Y (TD P fuel c f ag n)):AW P c.k Y f ag H0 (UI Q):=rW hm hc hf h
def wy {P:Program} {fuel:Nat} {c:VC} (hm:P.follows .mixedOrders=true) (hc:Ci P (CO P fuel)) {f:FuncId} {ft:FT} {R:Nat->List AV->Prop} {Y:Sy} (hf:Au P c (Nat.add 64 ft.ent.nv) Y) (h:AB P (QF R) [] Y (Vz P fuel c f ft)):AW P ft.k Y f (CE 64 (DB ft.ent.slots)) (ft.ent.heap 64) (Ny ft (Nat.add 64 ft.ent.nv) Y R):=sd_ hm hc hf h
end Go.Sx
