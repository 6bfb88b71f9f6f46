/-
  A call of a function that takes rows, in a heap that holds them.
-/
import Derived.Test.YtelnbodnjmldeaaGreatSyH
set_option linter.all false
open Nat renaming le_refl→za',lt_or_ge→zb',le_succ→zc',blt_eq→zd',eq_of_beq_eq_true→ze',le_add_right→zh',lt_of_lt_of_le→zj',le_of_ble_eq_true→zk'
open List renaming mem_cons_self→zf',mem_cons_of_mem→zg',prefix_refl→zi'
namespace Go.Sx
theorem cg:∀(n:Nat) (l:List Nat),SB n l=l[n]?
 |n,[]=>by cases n<;>rfl
 |0,a::r=>rfl
 |n+1,a::r=>by simp [SB,cg n r]
theorem fg:∀(l:List Nat) (a:Nat),LA.snoc l a=l++[a]
 |[],a=>rfl
 |x::r,a=>by simp [LA.snoc,fg r a]
def lN {m:MR}:∀{k:Nat} {l:List Nat},LA m k=some l->l.length=k/\∀i,i<k->∃a,l[i]? =some a/\M2 m i=some a
 |0,l,h=>by cases h;simp
 |k+1,l,h=>by
  unfold LA at h;split at h
  case h_2=>cases h
  rename_i l' hl;split at h
  case h_2=>cases h
  rename_i a ha;cases h;obtain ⟨h1,h2⟩:=lN hl;rw [fg];refine ⟨by simp [h1],λi hi=>?_⟩;rcases zb' i k with hlt|hge;obtain ⟨b,q1,q2⟩:=h2 i hlt;exact ⟨b,by rw [List.getElem?_append_left (by omega)];exact q1,q2⟩;have:i=k:=(by omega);subst this;exact ⟨a,by rw [List.getElem?_append_right (by omega),h1];simp,ha⟩
theorem ku {H:AHeap}:∀{l:List Nat},UW H l=true->∀(i:Nat) (a:Nat),l[i]? =some a->∃k,H.get a=some k
 |[],_,i,a,hi=>by simp at hi
 |b::r,h,i,a,hi=>by
  obtain ⟨h1,h2⟩:=Aq h;cases i with
  |zero=>simp at hi;subst hi;exact Option.isSome_iff_exists.1 h1
  |succ i=>exact ku h2 i a (by simpa using hi)
theorem WZ:∀{l:List (Nat×Nat)} {acc:List Nat} {a:Nat},a∈O6 l acc↔(∃i,(i,a)∈l)\/a∈acc
 |[],acc,a=>by simp [O6]
 |(j,b)::r,acc,a=>by
  simp only [O6,CJ,WZ (l:=r)];constructor
  .rintro (rfl|⟨i,hi⟩|h)<;>grind
  grind
theorem SA:∀{l:List DA} {acc:List Nat} {a:Nat},a∈Mf l acc↔(∃d,d∈l/\d.act=some a)\/a∈acc
 |[],acc,a=>by simp [Mf]
 |d::r,acc,a=>by
  unfold Mf;split
  .simp only [CJ,SA (l:=r)]
   grind
  .rw [SA (l:=r)]
   grind
def lY:∀{l:List (Nat×Nat)} {acc:List (Nat×Nat)} {i j:Nat},(i,j)∈cb l acc->(j,i)∈l\/(i,j)∈acc
 |[],acc,i,j,h=>.inr h
 |(a,b)::r,acc,i,j,h=>by rcases List.mem_cons.1 h with h|h;cases h;exact .inl (zf' ..);exact (lY (l:=r) h).imp (zg' _) id
def bm:∀{l:List DA} {acc:List (Nat×Nat)} {i j:Nat},(i,j)∈P4 l acc->(∃d,d∈l/\d.act=some i)\/(i,j)∈acc
 |[],acc,i,j,h=>.inr h
 |d::r,acc,i,j,h=>by unfold P4 at h;split at h;rename_i q hq;rcases List.mem_cons.1 h with h|h;cases h;exact .inl ⟨d,zf' ..,hq⟩;exact (bm (l:=r) h).imp (λ⟨x,h1,h2⟩=>⟨x,zg' _ h1,h2⟩) id;exact (bm (l:=r) h).imp (λ⟨x,h1,h2⟩=>⟨x,zg' _ h1,h2⟩) id
def MR.act (m:MR):List Nat:=Mf m.ds (O6 m.rn [])
theorem vU {m:MR} {i j:Nat} (h:BQ m.inv i=some j):i∈m.act:=by
 rw [MR.act,SA];rcases bm (Hg h)with h|h;exact .inl h
 .rcases lY h with h|h<;>grind [WZ]
theorem ur {m:MR} {i a:Nat} (h:M2 m i=some a):a∈m.act:=by
 rw [MR.act,SA];unfold M2 at h;split at h;rename_i b hb;cases h;exact .inr (WZ.2 (.inl ⟨i,Hg hb⟩))
 grind [Ji]
structure Eo (hv:List AV) (n:Nat) (r:Nat->Nat) (E1 E2:Ag):Prop where
 φ:∀i x,i<A8->E1.φ i=some x->E2.φ (r i)=some x
 sz:∀b n,E1.sz b=some n->E2.sz b=some n
 imm:∀b o v,E1.imm b o=some v->E2.imm b o=some v
 sy:∀i a,E1.sy i=some a->E2.sy (Hf hv n i)=some a
 cst:∀i a x,E1.sy i=some a->¬i<64->Dd (i-64) hv=some x->okC x=true->x=a
theorem Um {hv:List AV} {n:Nat} {r:Nat->Nat} {E1 E:Ag} (h:Eo hv n r E1 E) {a:AV} {v:Value} (hc:Al E1 a v):Al E a v:=JL h.imm hc
def N8 {i:Nat} (h:Nat.blt i A8=true):i<A8:=by simp_all
mutual
theorem Tw {hv:List AV} {n:Nat} {r:Nat->Nat} {E1 E:Ag} (h:Eo hv n r E1 E):∀{a:AV} {v:Value},HS a=true->Ac E1 a v->Ac E (D9 hv n r a) v
 | .opq,_,_,hc=>by simp [D9,Ac]
 | .bool _,_,_,hc=>by grind [D9,Ac]
 | .int _ _,_,_,hc=>by grind [D9,Ac]
 | .flt _ _,_,_,hc=>by grind [D9,Ac]
 | .nan _,_,_,hc=>by grind [D9,Ac]
 | .str _,_,_,hc=>by grind [D9,Ac]
 | .nptr,_,_,hc=>by grind [D9,Ac]
 | .nsl,_,_,hc=>by grind [D9,Ac]
 | .nmap,_,_,hc=>by grind [D9,Ac]
 | .nfn,_,_,hc=>by grind [D9,Ac]
 | .nif,_,_,hc=>by grind [D9,Ac]
 | .ptr id off,v,ht,hc=>by obtain ⟨b,o,h1,h2⟩:=hc;exact ⟨b,o,h.φ _ _ (N8 ht) h1,h2⟩
 | .sl id off len sz cap,v,ht,hc=>by obtain ⟨b,o,n,c,off',h1,h2,h3⟩:=hc;exact ⟨b,o,n,c,off',h.φ _ _ (N8 ht) h1,h.sz _ _ h2,h3⟩
 | .map id,v,ht,hc=>by obtain ⟨b,h1,h2⟩:=hc;exact ⟨b,h.φ _ _ (N8 ht) h1,h2⟩
 | .slx id sz i,v,ht,hc=>by obtain ⟨a,h1,h2⟩:=hc;refine ⟨a,h.sy _ _ h1,h2.imp (λh=>h) λh2=>?_⟩;obtain ⟨len,cs,e,b,o,n,c,off',k1,k2,k3⟩:=h2;exact ⟨len,cs,e,b,o,n,c,off',h.φ _ _ (N8 ht) k1,h.sz _ _ k2,k3⟩
 | .ptx id j sz off,v,ht,hc=>by obtain ⟨k,n,h1,b,o,h2,h3⟩:=hc;exact ⟨k,n,h.sy _ _ h1,b,o,h.φ _ _ (N8 ht) h2,h3⟩
 | .vptr cs,v,ht,hc=>by obtain ⟨b,o,vs,h1,h2,h3⟩:=hc;exact ⟨b,o,vs,h1,Ni h ht h2,λi v hv=>h.imm _ _ _ (h3 i v hv)⟩
 | .vsl len sz cs,v,ht,hc=>by obtain ⟨b,o,vs,c,h1,h2,h3,h4⟩:=hc;exact ⟨b,o,vs,c,h1,h2,Ni h ht h3,λi v hv=>h.imm _ _ _ (h4 i v hv)⟩
 | .fn f cs,v,ht,hc=>by simp only [HS]at ht;simp only [D9,Ac]at hc⊢;obtain ⟨vs,h1,h2⟩:=hc;exact ⟨vs,h1,Ni h ht h2⟩
 | .iface t a,v,ht,hc=>by simp only [HS]at ht;simp only [D9,Ac]at hc⊢;obtain ⟨u,h1,h2⟩:=hc;exact ⟨u,h1,Tw h ht h2⟩
 | .agg cs,v,ht,hc=>by simp only [HS]at ht;simp only [D9,Ac]at hc⊢;obtain ⟨vs,h1,h2⟩:=hc;exact ⟨vs,h1,Ni h ht h2⟩
 | .tup cs,v,ht,hc=>by simp only [HS]at ht;simp only [D9,Ac]at hc⊢;obtain ⟨vs,h1,h2⟩:=hc;exact ⟨vs,h1,Ni h ht h2⟩
 | .sym i,v,_,hc=>by
   obtain ⟨a,h1,h2,h3⟩:=hc;have key:Ac E (.sym (Hf hv n i)) v:=(by exact ⟨a,h.sy _ _ h1,h2,Um h h3⟩);simp only [D9];unfold lI;split
   .grind [Hf]
   .rename_i hb;have hlt:¬i<64:=λhlt=>by
     grind [zd']
    split;rename_i x hx;split;rename_i hok;have:=h.cst i a x h1 hlt hx hok;subst this;exact (Um h h3).con;exact key;exact key
theorem Ni {hv:List AV} {n:Nat} {r:Nat->Nat} {E1 E:Ag} (h:Eo hv n r E1 E):∀{as:List AV} {vs:List Value},HD as=true->Ah E1 as vs->Ah E (Fz hv n r as) vs
 |[],_,_,hc=>by grind [Fz,Ah]
 |a::as,vs,ht,hc=>by obtain ⟨t1,t2⟩:=Aq ht;simp only [Fz,Ah]at hc⊢;obtain ⟨v,t,h1,h2,h3⟩:=hc;exact ⟨v,t,h1,Tw h t1 h2,Ni h t2 h3⟩
end
theorem iM (hv:List AV) (n:Nat) (r:Nat->Nat):∀(cs:List AV) (i:Nat),(Fz hv n r cs)[i]? =cs[i]?.map (D9 hv n r)
 |[],i=>by simp [Fz]
 |a::cs,0=>by simp [Fz]
 |a::cs,i+1=>by simpa [Fz]using iM hv n r cs i
theorem iY (hv:List AV) (n:Nat) (r:Nat->Nat):∀cs:List AV,(Fz hv n r cs).length=cs.length
 |[]=>rfl
 |a::cs=>by simp [Fz,iY hv n r cs]
def kp:∀{cs:List AV},HD cs=true->∀(i:Nat) (a:AV),cs[i]? =some a->HS a=true
 |[],_,i,a,h=>by simp at h
 |b::r,ht,i,a,h=>by
  obtain ⟨t1,t2⟩:=Aq ht;cases i with
  |zero=>simp at h;subst h;exact t1
  |succ i=>exact kp t2 i a (by simpa using h)
def eE:AZ->Prop
 | .cells cs=>HD cs=true
 |_=>True
def sq {hv:List AV} {n:Nat} {r:Nat->Nat} {E1 E:Ag} (h:Eo hv n r E1 E) {w:World} {b o:Nat} {k k':AZ} (ht:eE k) (hm:Rg hv n r k=some k') (hk:BlkAt E1 w b o k):BlkAt E w b o k':=by
 cases k with
 |cells cs=>
  cases hm;obtain ⟨arr,t,h1,h2,h3,h4⟩:=hk;refine ⟨arr,t,h1,h.sz _ _ h2,by rw [iY];exact h3,λi a ha=>?_⟩;rw [iM]at ha;cases hc:cs[i]? with
  |none=>grind
  |some a'=>rw [hc]at ha;cases ha;obtain ⟨v,hv',hcon⟩:=h4 i a' hc;exact ⟨v,hv',Tw h (kp ht i a' hc) hcon⟩
 |syl j=>
  cases hm;obtain ⟨len,sz,cs,h0,hlen,arr,t,h1,h2,h3,h4⟩:=hk;refine ⟨len,sz,cs,h.sy _ _ h0,hlen,arr,t,h1,h.sz _ _ h2,h3,λi a ha=>?_⟩
  grind [Um]
 |mpl j=>cases hm;obtain ⟨h0,n,cs,h1,es',clock,h2,h3,h4⟩:=hk;exact ⟨h0,n,cs,h.sy _ _ h1,es',clock,h2,h3,h4.imp λ_ _ hc=>Um h hc⟩
 |map es c=>cases hm
 |fz cs=>cases hm
def tE {hv:List AV} {n:Nat} {r:Nat->Nat} {E1 E:Ag} (h:Eo hv n r E1 E) {k k':AZ} (hm:Rg hv n r k=some k') (hk:C0 E1 k):C0 E k':=by
 cases k with
 |syl j=>cases hm;exact h.sy _ _ hk
 |cells cs=>exact hk.elim
 |mpl j=>exact hk.elim
 |map es c=>cases hm
 |fz cs=>cases hm
def VZ {hv:List AV} {n:Nat} {r:Nat->Nat} {F base:AHeap} (hr:∀id k,F.get id=some k->r id<A8):∀(ids:List Nat) (x:Nat) (kk:AZ),(JJ hv n r F base ids).get x=some kk->(∃id k,x=r id/\F.get id=some k/\Rg hv n r k=some kk)\/base.get x=some kk
 |[],x,kk,h=>.inr h
 |id::l,x,kk,h=>by
  unfold JJ at h;split at h
  .rename_i k hk;split at h
   .rename_i k' hk';by_cases e:r id=x
    .subst e;rw [AHeap.get_set_same _ (hr id k hk)]at h
     grind
    rw [AHeap.get_set_ne _ (hr id k hk) e]at h;exact VZ hr l x kk h
   exact VZ hr l x kk h
  exact VZ hr l x kk h
def eL {hv:List AV} {n:Nat} {r:Nat->Nat} {F base:AHeap}:∀(ids:List Nat),(JJ hv n r F base ids).next=base.next/\(JJ hv n r F base ids).hi=base.hi
 |[]=>⟨rfl,rfl⟩
 |id::l=>by have:=eL (hv:=hv) (n:=n) (r:=r) (F:=F) (base:=base) l;unfold JJ;split;split;exact this;exact this;exact this
theorem M7:∀{ms:List (Nat×Nat)} {acc:List Nat} {id:Nat},id∈N0 ms acc↔(∃j,(id,j)∈ms)\/id∈acc
 |[],acc,id=>by simp [N0]
 |(i,j)::r,acc,id=>by
  simp only [N0,CJ,M7 (ms:=r)];constructor
  .rintro (rfl|⟨q,h⟩|h)<;>grind
  grind
theorem iN:∀{rows:List (Nat×List AV)} {id:Nat},id∈R8 rows↔∃cs,(id,cs)∈rows
 |[],id=>by simp [R8]
 |(i,c)::r,id=>by
  simp only [R8,CJ,iN (rows:=r)];constructor
  .rintro (rfl|⟨q,h⟩)<;>grind
  grind
theorem QW:∀{ts:List TA} {l:List Nat} {id:Nat},id∈HI ts l↔(∃t,t∈ts/\t.id=id)\/id∈l
 |[],l,id=>by simp [HI]
 |t::r,l,id=>by
  simp only [HI,CJ,QW (ts:=r)]
  grind
def km:∀{l:List Nat},OP l=true->∀id,id∈l->id<A8
 |[],_,id,h=>by cases h
 |i::r,ht,id,h=>by obtain ⟨t1,t2⟩:=Aq ht;rcases List.mem_cons.1 h with rfl|h;exact N8 t1;exact km t2 id h
def cq {n:Nat}:∀{rows:List (Nat×List AV)},OM n rows=true->∀id cs,(id,cs)∈rows->HD (CE n cs)=true
 |[],_,id,cs,h=>by cases h
 |(i,c)::r,ht,id,cs,h=>by obtain ⟨t1,t2⟩:=Aq ht;rcases List.mem_cons.1 h with h|h;cases h;exact t1;exact cq t2 id cs h
def kU {n:Nat} {H0:AHeap}:∀{ts:List TA},(∀t,t∈ts->t.id<A8)->∀id k,(Lq n H0 ts).get id=some k->(∃j,k=.syl j)\/H0.get id=some k
 |[],_,id,k,hk=>.inr hk
 |t::r,hlt,id,k,hk=>by
  have ht:=hlt t (zf' ..);unfold Lq at hk;by_cases e:t.id=id
  .subst e;rw [AHeap.get_set_same _ ht]at hk
   grind
  rw [AHeap.get_set_ne _ ht e]at hk;exact kU (λd hd=>hlt d (zg' _ hd)) id k hk
def zL {tp:BE} {n:Nat} (hr:OM n tp.rows=true) (hN:OP (HI tp.acc tp.ids)=true):∀id k,(tp.heap n).get id=some k->eE k:=by intro id k hk;have hid:∀i,i∈HI tp.acc tp.ids->i<A8:=km hN;have h1:∀a b,(a,b)∈tp.fix->a<A8:=λa b h=>hid a (QW.2 (.inr (M7.2 (.inl ⟨b,h⟩))));have h2:∀a b,(a,b)∈tp.maps->a<A8:=λa b h=>hid a (QW.2 (.inr (M7.2 (.inr (M7.2 (.inl ⟨b,h⟩))))));have h3:∀a b,(a,b)∈tp.rows->a<A8:=λa b h=>hid a (QW.2 (.inr (M7.2 (.inr (M7.2 (.inr (iN.2 ⟨b,h⟩)))))));have h4:∀t,t∈tp.acc->t.id<A8:=λt h=>hid _ (QW.2 (.inl ⟨t,h,rfl⟩));rcases aM tp.fix h1 id k hk with ⟨j,_,rfl⟩|hk;trivial;rcases XY tp.maps h2 id k hk with ⟨j,_,rfl⟩|hk;trivial;rcases kU h4 id k hk with ⟨j,rfl⟩|hk;trivial;obtain ⟨cs,h5,rfl⟩:=WA tp.rows h3 id k hk;exact cq hr id cs h5
def jZ {n:Nat}:∀{slots:List (Nat×AV)} {i:Nat},QV i slots=true->∀j a,(CE n (DB slots))[j]? =some a->i+j<512/\An (Fx n slots) (i+j)=a
 |[],i,_,j,a,h=>by simp [DB,CE]at h
 |(q,b)::r,i,hs,j,a,h=>by
  obtain ⟨e1,hs⟩:=Aq hs;obtain ⟨e2,hs3⟩:=Aq hs;have e1:=ze' e1;subst e1;have e2:i<512:=(by simp_all);simp only [DB,CE]at h;show _/\An (Ea (Fx n r) i (DG n b)) (i+j)=a;cases j with
  |zero=>
   grind [Gw]
  |succ j=>
   obtain ⟨h1,h2⟩:=jZ (i:=i+1) hs3 j a (by simpa using h)
   grind [Fi]
def Xs:∀{Y:Sy} {n:Nat} (l:List AV),AA Y n->∀(i:Nat) (a:AV),(Y.puts n l).v i=some a->Y.v i=some a\/∃q,i=n+q/\l[q]? =some a
 |Y,n,[],_,i,a,h=>.inl h
 |Y,n,b::r,hf,i,a,h=>by
  rcases Xs (Y:=Y.put n b) (n:=n+1) r (hf.put b) i a h with h|⟨q,e,h⟩
  .by_cases e:i=n
   .subst e;rw [Sy.put_same]at h;grind
   grind [Sy.put_ne]
  exact .inr ⟨q+1,by omega,by simpa using h⟩
def jd {i:Nat} (h:64<=i):Nat.blt i 64=false:=by
 grind [zd']
variable [Gl]
def sY {P:Program} {f:FuncId} {ft:FT} {T1:Tm} {S:VS} {m:MR} {low:List Nat} {Y:Sy} {Q:Nat->List AV->Prop} {nargs:Nat} (hm:NS 64 ft.ent T1 S.H=some m) (hlow:LA m ft.k=some low) (hroom:Ul ft.k (64+ft.ent.nv) S.H ft.exs=true) (hhi:S.H.hi<=A8)
  (hna:nargs=(DB ft.ent.slots).length) (hsl:QV 0 ft.ent.slots=true) (BS:UW S.H low=true) (hF:CF P f ft (Am Y.v m.hv) Q) (hok:Ak (Am Y.v m.hv)=true) (hf:AA Y S.n)
  {B:World} {pr:Nat->Prop} {E:Ag} {w:World} {us:List Value} (hy:E.At Y) (hg:BM E) (hr:Ao B pr E S.H w) (hus:us.length=nargs) (hc:∀t,t<512->Ac E (An T1 t) ((⟨us⟩:Array Value).getD t undef)) (kk:Nat):
  Calls P f ⟨us⟩ w λe w'=>∃j ws b tp E2 v,ft.exs[j]? =some (b,tp)/\Q j ws/\Ak ws=true/\ws.length=tp.nv/\(∀i x,E.sy i=some x->((Y.puts S.n (Am Y.v m.hv)).puts (S.n+ft.ent.nv) ws).v i=some x)/\
   (E.with ((Y.puts S.n (Am Y.v m.hv)).puts (S.n+ft.ent.nv) ws)).sub E2/\E.leF kk E2/\E2.At ((Y.puts S.n (Am Y.v m.hv)).puts (S.n+ft.ent.nv) ws)/\Ao B pr E2 (HL ft m low S tp) w'/\Ac E2 (KD ft m low S tp) v/\
   e=(match b with
    |true=>.panicked [{ v:=v,recovered:=false }]
    |false=>.returned v):=by
 obtain ⟨own,g1,g2,g3,g4⟩:∃own:Nat->Option Nat,(∀id k,S.H.get id=some k->Bz E w own id k)/\(∀b,pr b->own b=none)/\(∀b o v,E.imm b o=some v->own b=none)/\∀b,¬b<w.heap.size->own b=none:=by obtain ⟨own,g1,g2,g3⟩:=hr.own;refine ⟨λb=>if b<w.heap.size then own b else none,λid k hk=>?_,λb hb=>?_,λb o v hi=>?_,λb hb=>Ab hb⟩;exact (g1 id k hk).imp (λ_ h=>h) (λh=>h) λb o h1 h2 h3=>⟨(Ad h3.lt).trans h2,h3⟩;all_goals grind
 have hvd0:∀id,E.vd id->E.φ id=none/\¬(S.H.next<=id/\id<S.H.hi):=λid h=>hr.resv id (hr.vds id h);generalize hvs:Am Y.v m.hv=vs at*;have hvs':Am E.sy m.hv=vs:=by rw [hy.v];exact hvs
 have hvlen:vs.length=ft.ent.nv:=hF.1
 let Yg:Sy:=⟨λi=>if i<64 then Y.v i else none,Y.l⟩
 have hfg:AA Yg 64:=⟨za' _,λi hi=>Ab (by omega)⟩;have hmc:=ja (w:=w) (own:=own) (Y0:=Yg) hm hfg (λi hi=>by rw [hy.v];grind) (by grind) g1 (λid h=>(hvd0 id h).1) E.imm;rw [hvs']at hmc;obtain ⟨p1,p2,p3,p4⟩:=hfg.puts vs;generalize hE1:Va m E (Yg.puts 64 vs) E.imm=E1 at hmc;have e1sz:E1.sz=E.sz:=by rw [←hE1];rfl
 have e1imm:E1.imm=E.imm:=by rw [←hE1];rfl
 have e1bim:E1.bim=E.imm:=by rw [←hE1];rfl
 have e1sy:E1.sy=(Yg.puts 64 vs).v:=by rw [←hE1];rfl
 have e1syl:E1.syl=(Yg.puts 64 vs).l:=by rw [←hE1];rfl
 have e1res:E1.res=E1.vd:=by rw [←hE1];rfl
 have e1low:∀i,i<64->E1.sy i=E.sy i:=λi hi=>by rw [e1sy,p4 i hi,hy.v];grind
 obtain ⟨hn1,hn2⟩:=BE.heap_next ft.ent 64
 let pr':Nat->Prop:=λb=>b<w.heap.size/\Hl m own b=none
 have hrel1:Ao w pr' E1 (ft.ent.heap 64) w:={
  own:=⟨Hl m own,hmc.rows,λb hb=>hb.2,λb o v hv=>by unfold Hl;rw [g3 b o v (by grind)]⟩
  imm:=by rw [e1imm];exact hr.imm
  ib:=λb o v _ hv=>by grind
  fresh:=λid h1 _=>hmc.fresh id (hn1▸h1)
  resv:=λid hi=>by
   rw [e1res]at hi;obtain ⟨h1,h2⟩:=hmc.vd id hi
   grind
  vds:=λid h=>by grind
  szs:=by rw [e1sz];exact hr.szs
  prot:=λb hb=>⟨hb.1,rfl⟩
  size:=za' _
  os:=rfl
  output:=rfl }
 have hgl1:BM E1:=⟨λg=>MX (E:=E) (E':=E1) (λ_ _ _ h=>by grind) (λi a hi hx=>by grind) (Gl.nr g) (hg.1 g),Gl.gtm _ _ e1low hg.2⟩;have hcl:Ah E1 (CE 64 (DB ft.ent.slots)) us:=by have hs:=hmc.slots ⟨us⟩ hc;refine Ah.of_at (by rw [SH,hus,hna]) λi a v h1 h2=>?_;obtain ⟨h3,h4⟩:=jZ hsl i a h1;rw [Nat.zero_add]at h3 h4;have:=hs i h3;simp_all
 refine Calls.mono (hF.2 Yg hfg w pr' E1 w us ⟨e1sy,e1syl,λid h=>by grind⟩ hgl1 hrel1 hcl) λe w' he=>?_;obtain ⟨Y1,r1,⟨j,ws,b,tp,hj,hQ,hokw,hlw,rfl,rfl⟩,E1',hle1,hy1,hres⟩:=he;have hrm:ft.k<=tp.next/\S.H.next+(tp.next-ft.k)<S.H.hi/\HS (An (Fx (64+ft.ent.nv) tp.slots) 0)=true/\OM (64+ft.ent.nv) tp.rows=true/\OP (HI tp.acc tp.ids)=true:=by
  have:∀(l:List (Bool×BE)) (j:Nat),Ul ft.k (64+ft.ent.nv) S.H l=true->l[j]? =some (b,tp)->ft.k<=tp.next/\S.H.next+(tp.next-ft.k)<S.H.hi/\HS (An (Fx (64+ft.ent.nv) tp.slots) 0)=true/\OM (64+ft.ent.nv) tp.rows=true/\OP (HI tp.acc tp.ids)=true:=by
   intro l
   induction l with
   |nil=>simp
   |cons q r ih=>
    intro j h hj;obtain ⟨q1,h⟩:=Aq h;obtain ⟨q2,h⟩:=Aq h;obtain ⟨q3,h⟩:=Aq h;obtain ⟨q4,h⟩:=Aq h;obtain ⟨q5,h⟩:=Aq h;cases j with
    |zero=>simp_all
    |succ j=>grind
  grind
 obtain ⟨hk,hnx,htv,htr,htn⟩:=hrm;have hend:∃u,e=(match b with
       |true=>.panicked [{ v:=u,recovered:=false }]
       |false=>.returned u)/\Ac E1' (An (Fx (64+ft.ent.nv) tp.slots) 0) u/\Ao w pr' E1' (tp.heap (64+ft.ent.nv)) w':=by
  grind
 obtain ⟨u,he,hcu,hr1'⟩:=hend;obtain ⟨lw1,lw2⟩:=lN hlow
 let nx:=S.H.next
 let r:Nat->Nat:=Rz low ft.k nx
 have rlow:∀i,i<ft.k->∃a k,r i=a/\M2 m i=some a/\S.H.get a=some k:=λi hi=>by
  grind [ku,Rz,cg]
 have rnew:∀i,ft.k<=i->r i=nx+(i-ft.k):=λi hi=>by
  grind [Rz,cg]
 have hold:∀a k,S.H.get a=some k->¬(nx<=a/\a<S.H.hi):=λa k hk hx=>by
  rcases g1 a k hk with ⟨h1,_⟩|⟨b,o,h1,_⟩
  .grind
  rw [hr.fresh a hx.1 hx.2]at h1;cases h1
 have rinj:∀i j,i<tp.next->j<tp.next->r i=r j->i=j:=λi j hi hj e=>by
  rcases zb' i ft.k with h1|h1
  .obtain ⟨a,ka,ra,la,ga⟩:=rlow i h1;rcases zb' j ft.k with h2|h2
   .refine hmc.inj i j a ?_ ?_<;>grind [M2]
   grind
  .rcases zb' j ft.k with h2|h2<;>grind
 have e1φ:∀i,i<ft.k->E1.φ i=E.φ (r i):=λi hi=>by
  obtain ⟨a,ka,ra,la,ga⟩:=rlow i hi;rw [ra,←hE1];show (match CR m.ds i with
   |some d=>match Ja (Ap E.sy d.x)with
    |true=>none
    |false=>match d.act with
     |some i=>E.φ i
     |none=>none
   |none=>match BQ m.rn i with
    |some a=>E.φ a
    |none=>none)=_
  unfold M2 at la;split at la;rename_i q hq;cases la;rw [hmc.rnA i a hq,hq]
  .split at la
   .rename_i d hd;rw [hd];simp only [la];cases hnl:Ja (Ap E.sy d.x)with
    |true=>exact (hmc.accN d a (Ji hd).1 la hnl).symm
    |false=>rfl
   cases la
 have e1lt:∀i x,i<A8->E1'.φ i=some x->i<tp.next:=λi x hi hx=>by rcases zb' i tp.next with h|h;exact h;obtain ⟨a1,a2⟩:=BE.heap_next tp (64+ft.ent.nv);rw [hr1'.fresh i (by omega) (by omega)]at hx;cases hx
 generalize hYy:(Y.puts S.n vs).puts (S.n+ft.ent.nv) ws=Y' at*;have hfn:=hf.puts vs;rw [hvlen]at hfn;obtain ⟨f1,f2,f3,f4⟩:=hfn;obtain ⟨f5,f6,f7,f8⟩:=f1.puts ws;rw [hYy]at f5 f6 f7 f8;have hYv:∀i x,E.sy i=some x->Y'.v i=some x:=λi x hx=>f6 i x (f2 i x (by rw [←hy.v];exact hx));have hYl:∀i l,E.syl i=some l->Y'.l i=some l:=λi l hx=>by rw [f7,f3,←hy.l];exact hx
 have hYlo:∀i,i<64->Y'.v i=E.sy i:=λi hi=>by grind
 have e1'sy:E1'.sy=((Yg.puts 64 vs).puts (64+ft.ent.nv) ws).v:=hy1.v;have p1':AA (Yg.puts 64 vs) (64+ft.ent.nv):=by grind
 have hvo:∀i a,vs[i]? =some a->okC a=true:=λi a ha=>J1 hok a (List.mem_of_getElem? ha);have hhv:m.hv.length=ft.ent.nv:=by
  have:=congrArg List.length hvs
  grind [Ld]
 have hat:∀i a,E1'.sy i=some a->(i<64/\Y.v i=some a)\/(∃q,i=64+q/\vs[q]? =some a)\/∃q,i=64+ft.ent.nv+q/\ws[q]? =some a:=λi a ha=>by
  rw [e1'sy]at ha;rcases Xs ws p1' i a ha with ha|⟨q,e,hq⟩
  .rcases Xs vs hfg i a ha with ha|⟨q,e,hq⟩<;>grind
  grind
 have hvq:∀q x,m.hv[q]? =some x->vs[q]? =some (Ap Y.v x):=λq x hx=>by rw [←hvs];exact Pw Y.v m.hv q x hx
 classical
 let φ2:Nat->Option (Nat×Nat):=λi=>match E.φ i with
  |some x=>some x
  |none=>if hx:∃j,j<tp.next/\i=r j then E1'.φ (Classical.choose hx)else none
 have hφ2:∀j,j<tp.next->(∀x,E.φ (r j)=some x->E1'.φ j=some x)->φ2 (r j)=E1'.φ j:=λj hj hx=>by
  show (match E.φ (r j)with
   |some x=>some x
   |none=>if hx:∃j',j'<tp.next/\r j=r j' then E1'.φ (Classical.choose hx)else none)=_
  cases hE:E.φ (r j)with
  |some x=>grind
  |none=>
   have hex:∃j',j'<tp.next/\r j=r j':=⟨j,hj,rfl⟩
   grind
 have hφk:∀j,j<tp.next->∀x,E.φ (r j)=some x->E1'.φ j=some x:=λj hj x hx=>by rcases zb' j ft.k with h|h;exact hle1.phi j x h ((e1φ j h).trans hx);rw [rnew j h,hr.fresh _ (by omega) (by omega)]at hx;cases hx
 let vd2:Nat->Prop:=λid=>(E.vd id/\id∉m.act)\/∃j,j<tp.next/\id=r j/\E1'.vd j
 let E2:Ag:=⟨φ2,E1'.sz,E1'.imm,vd2,E.bim,Y'.v,Y'.l,vd2⟩
 have hmov:Eo m.hv S.n r E1' E2:={
  φ:=λi x hi hx=>by
   grind
  sz:=λ_ _ h=>h
  imm:=λ_ _ _ h=>h
  sy:=λi a ha=>by
   rcases hat i a ha with ⟨hi,ha⟩|⟨q,rfl,hq⟩|⟨q,rfl,hq⟩
   .grind [Hf,zd']
   .have hb:Nat.blt (64+q) 64=false:=jd (by omega);have hsub:Nat.sub (64+q) 64=q:=(by simp);have hdef:Y'.v (S.n+q)=some a:=f6 _ _ (Gj vs hf q a hq);unfold Hf;rw [hb];simp only [hsub,LZ];split
    .rename_i s hs;have:=hvq q _ hs;rw [hq]at this;cases hs':Y.v s with
     |none=>simp only [Ap,hs']at this;cases this;have:=hvo q _ hq;cases this
     |some y=>
      grind [Ap]
    exact hdef
   .have hb:Nat.blt (64+ft.ent.nv+q) 64=false:=jd (by omega);have hdef:Y'.v (S.n+ft.ent.nv+q)=some a:=(by rw [←hYy];exact Gj ws f1 q a hq);unfold Hf;rw [hb]
    grind [LZ]
  cst:=λi a x ha hi hx hxo=>by rw [LZ]at hx;rcases hat i a ha with ⟨hi',_⟩|⟨q,rfl,hq⟩|⟨q,rfl,hq⟩;omega;all_goals grind [UT] }
 have hsub:(E.with Y').sub E2:=⟨λi x hx=>by
  have hx:E.φ i=some x:=hx
  grind,λb n hb=>hle1.sz b n (by rw [e1sz];exact hb),λb o v hb=>hle1.imm b o v (by rw [e1imm];exact hb),rfl,rfl⟩
 obtain ⟨n1,n2⟩:=BE.heap_next tp (64+ft.ent.nv);obtain ⟨own1,o1,o2,o3⟩:=hr1'.own;have hbim1:E1'.bim=E.imm:=hle1.bim.trans e1bim;have hres1:∀id,E1'.vd id->E1'.φ id=none:=λid h=>(hr1'.resv id (hr1'.vds id h)).1;have hpr:∀b,pr b->pr' b:=λb hb=>⟨zj' (hr.prot b hb).1 hr.size,by grind [Hl]⟩;have hfree:∀b id,b<w.heap.size->own b=some id->id∉m.act->pr' b:=λb id hb ho hn=>⟨hb,by
  unfold Hl;rw [ho];cases hf:BQ m.inv id<;>grind [BQ,id,absurd,vU]⟩
 have himm1:∀b o v,pr' b->E1'.imm b o=some v->E.imm b o=some v:=λb o v hb hv=>by rw [←hbim1];exact hr1'.ib b o v hb hv
 let own2:Nat->Option Nat:=λb=>match own1 b with
  |some j=>some (r j)
  |none=>match own b with
   |some id=>if id∈m.act then none else some id
   |none=>none
 refine ⟨j,ws,b,tp,E2,u,hj,hQ,hokw,hlw,?_⟩;rw [hYy];refine ⟨hYv,hsub,⟨λi x _ hx=>hsub.1 i x hx,λb n hb=>hsub.2.1 b n hb,λb o v hb=>hsub.2.2.1 b o v hb,rfl,hYlo⟩,⟨rfl,rfl,λ_ h=>h⟩,?_,Tw hmov htv hcu,he⟩;have hbase:∀id k,(GA S.H m.act).get id=some k->S.H.get id=some k/\id∉m.act:=λid k h=>VE m.act id k h;have hrt:∀j k,(tp.heap (64+ft.ent.nv)).get j=some k->r j<A8:=λj k hjk=>by
  have hjl:=AHeap.get_lt hjk;rcases zb' j ft.k with h1|h1;obtain ⟨a,ka,ra,la,ga⟩:=rlow j h1;rw [ra];exact AHeap.get_lt ga
  .rw [rnew j h1];have hjn:j<tp.next:=by
    rcases o1 j k hjk with ⟨q1,_⟩|⟨bb,oo,q1,_⟩;rcases zb' j tp.next with h|h;exact h;exact absurd ⟨by omega,by omega⟩ (hr1'.resv j (hr1'.vds j q1)).2
    grind
   omega
 have hH2:∀id kk,(HL ft m low S tp).get id=some kk->(∃j k,id=r j/\(tp.heap (64+ft.ent.nv)).get j=some k/\Rg m.hv S.n r k=some kk)\/(S.H.get id=some kk/\id∉m.act):=λid kk h=>by rcases VZ (r:=r) hrt _ id kk h with h|h;exact .inl h;refine .inr (hbase id kk ?_);exact h
 obtain ⟨m1,m2⟩:=eL (hv:=m.hv) (n:=S.n) (r:=r) (F:=tp.heap (64+ft.ent.nv)) (base:=(⟨(GA S.H m.act).tr,Nat.add S.H.next (Nat.sub tp.next ft.k),(GA S.H m.act).hi⟩:AHeap)) (HI tp.acc tp.ids);have hnext:(HL ft m low S tp).next=nx+(tp.next-ft.k):=m1
 have hhi2:(HL ft m low S tp).hi=S.H.hi:=m2.trans (Ou m.act).2;have hnotr:∀id,E.φ id=none->(∀j,j<tp.next->id≠r j)->φ2 id=none:=λid h1 h2=>by
  grind
 refine { own:=⟨own2,λid kk hkk=>?_,λb hb=>?_,λb o v hv=>?_⟩,imm:=hr1'.imm,ib:=λb o v hb hv=>hr.ib b o v hb (himm1 b o v (hpr b hb) hv),fresh:=λid h1 h2=>?_,resv:=λid hi=>?_,vds:=λ_ h=>h,szs:=hr1'.szs,prot:=λb hb=>⟨(hr.prot b hb).1,(hr1'.prot b (hpr b hb)).2.trans (hr.prot b hb).2⟩,size:=Nat.le_trans hr.size hr1'.size,os:=hr1'.os.trans hr.os,output:=hr1'.output.trans hr.output }
 .rcases hH2 id kk hkk with ⟨j,k,rfl,hjk,hmv⟩|⟨hk,hna⟩;have hjl:=AHeap.get_lt hjk;have htb:=zL htr htn j k hjk;rcases o1 j k hjk with ⟨q1,q2⟩|⟨bb,oo,q1,q2,q3⟩;have hjn:j<tp.next:=(by rcases zb' j tp.next with h|h;exact h;exact absurd ⟨by omega,by omega⟩ (hr1'.resv j (hr1'.vds j q1)).2);exact .inl ⟨.inr ⟨j,hjn,rfl,q1⟩,tE hmov hmv q2⟩;exact .inr ⟨bb,oo,hmov.φ j _ hjl q1,by grind,sq hmov htb hmv q3⟩
  .rcases g1 id kk hk with ⟨q1,q2⟩|⟨bb,oo,q1,q2,q3⟩;exact .inl ⟨.inl ⟨q1,hna⟩,q2.sub λi hi=>hYv i _ hi⟩
   .have hp:=hfree bb id q3.lt q2 hna;refine .inr ⟨bb,oo,hsub.1 id _ q1,?_,?_⟩
    .grind
    .have h1:Bz (E.with Y') w (λ_=>some id) id kk:=Bz.withS (.inr ⟨bb,oo,q1,rfl,q3⟩) hYv hYl;rcases h1 with ⟨x1,x2⟩|⟨b2,o2',x1,_,x3⟩
     .have:E.φ id=none:=(hvd0 id x1).1
      grind
     have x1:E.φ id=some (b2,o2'):=x1;rw [q1]at x1;cases x1;exact x3.sub hsub (hr1'.prot bb hp).2
 .grind
 .show (match own1 b with
    |some j=>some (r j)
    |none=>match own b with
     |some id=>if id∈m.act then none else some id
     |none=>none)=none
  grind
 .rw [hnext]at h1;rw [hhi2]at h2;refine hnotr id (hr.fresh id (by omega) h2) λj hj e=>?_
  grind
 .rcases hi with ⟨q1,q2⟩|⟨j,hj,rfl,q1⟩
  .obtain ⟨a1,a2⟩:=hvd0 id q1;refine ⟨hnotr id a1 λj hj e=>?_,λhx=>a2 ⟨by omega,by omega⟩⟩;rcases zb' j ft.k with h|h
   .grind [ur]
   grind
  grind
end Go.Sx
namespace Go.Sx
structure De (k n:Nat) (E E':Ag):Prop where
 phi:∀id x,id<k->E.φ id=some x->E'.φ id=some x
 sz:∀b m,E.sz b=some m->E'.sz b=some m
 imm:∀b o v,E.imm b o=some v->E'.imm b o=some v
 sy:∀i,i<n->E'.sy i=E.sy i
def De.immAt {k n:Nat} {E E':Ag} (h:De k n E E') {b o:Nat} {vs:List Value} (hi:B0 E b o vs):B0 E' b o vs:=λi v hv=>h.imm _ _ _ (hi i v hv)
mutual
theorem XC {k n:Nat} {E E':Ag} (h:De k n E E'):∀(a:AV) (v:Value),Hb k n a=true->Ac E a v->Ac E' a v
 | .opq,v,_,hc=>by simp [Ac]
 | .bool _,v,_,hc=>by grind [Ac]
 | .int _ _,v,_,hc=>by grind [Ac]
 | .flt _ _,v,_,hc=>by grind [Ac]
 | .nan _,v,_,hc=>by grind [Ac]
 | .str _,v,_,hc=>by grind [Ac]
 | .nptr,v,_,hc=>by grind [Ac]
 | .nsl,v,_,hc=>by grind [Ac]
 | .nmap,v,_,hc=>by grind [Ac]
 | .nfn,v,_,hc=>by grind [Ac]
 | .nif,v,_,hc=>by grind [Ac]
 | .ptr id off,v,hk,hc=>by have hk:id<k:=(by grind [Hb,zd']);obtain ⟨b,o,h1,h2⟩:=hc;exact ⟨b,o,h.phi _ _ hk h1,h2⟩
 | .vptr cs,v,hk,hc=>by obtain ⟨b,o,vs,h1,h2,h3⟩:=hc;exact ⟨b,o,vs,h1,LV h cs vs hk h2,h.immAt h3⟩
 | .sl id off len sz cap,v,hk,hc=>by have hk:id<k:=(by grind [Hb,zd']);obtain ⟨b,o,n,c,off',h1,h2,h3⟩:=hc;exact ⟨b,o,n,c,off',h.phi _ _ hk h1,h.sz _ _ h2,h3⟩
 | .vsl a z cs,v,hk,hc=>by obtain ⟨b,o,vs,c,h1,h2,h3,h4⟩:=hc;exact ⟨b,o,vs,c,h1,h2,LV h cs vs hk h3,h.immAt h4⟩
 | .map id,v,hk,hc=>by have hk:id<k:=(by grind [Hb,zd']);obtain ⟨b,h1,h2⟩:=hc;exact ⟨b,h.phi _ _ hk h1,h2⟩
 | .fn f cap,v,hk,hc=>by simp only [Hb]at hk;simp only [Ac]at hc⊢;obtain ⟨vs,h1,h2⟩:=hc;exact ⟨vs,h1,LV h cap vs hk h2⟩
 | .iface t a,v,hk,hc=>by simp only [Hb]at hk;simp only [Ac]at hc⊢;obtain ⟨u,h1,h2⟩:=hc;exact ⟨u,h1,XC h a u hk h2⟩
 | .agg cs,v,hk,hc=>by simp only [Hb]at hk;simp only [Ac]at hc⊢;obtain ⟨vs,h1,h2⟩:=hc;exact ⟨vs,h1,LV h cs vs hk h2⟩
 | .tup cs,v,hk,hc=>by simp only [Hb]at hk;simp only [Ac]at hc⊢;obtain ⟨vs,h1,h2⟩:=hc;exact ⟨vs,h1,LV h cs vs hk h2⟩
 | .sym i,v,hk,hc=>by have hk:i<n:=(by grind [Hb,zd']);obtain ⟨a,h1,h2,h3⟩:=hc;exact ⟨a,by rw [h.sy i hk];exact h1,h2,JL (E:=E) (E':=E') h.imm h3⟩
 | .slx id sz i,v,hk,hc=>by obtain ⟨hk1,hk2⟩:=Aq hk;have hk1:id<k:=(by simp_all);have hk2:i<n:=(by simp_all);obtain ⟨a,h0,hc⟩:=hc;exact ⟨a,by rw [h.sy i hk2];exact h0,hc.imp_right λ⟨len,cs,e,b,o,n,c,off',h1,h2,h3⟩=>⟨len,cs,e,b,o,n,c,off',h.phi _ _ hk1 h1,h.sz _ _ h2,h3⟩⟩
 | .ptx id j sz off,v,hk,hc=>by obtain ⟨hk1,hk2⟩:=Aq hk;have hk1:id<k:=(by simp_all);have hk2:j<n:=(by simp_all);obtain ⟨q,m,h0,b,o,h1,h2⟩:=hc;exact ⟨q,m,by rw [h.sy j hk2];exact h0,b,o,h.phi _ _ hk1 h1,h2⟩
theorem LV {k n:Nat} {E E':Ag} (h:De k n E E'):∀(l:List AV) (vs:List Value),KH k n l=true->Ah E l vs->Ah E' l vs
 |[],vs,_,hc=>hc
 |a::r,vs,hk,hc=>by obtain ⟨k1,k2⟩:=Aq hk;simp only [Ah]at hc⊢;obtain ⟨v,q,h1,h2,h3⟩:=hc;exact ⟨v,q,h1,XC h a v k1 h2,LV h r q k2 h3⟩
end
def mn {k n:Nat} {E:Ag} {a:AV} {v:Value} (h:Ac E a v):Ac E (DY k n a) v:=by
 grind [DY,Ac]
theorem fi {k n:Nat} {E E':Ag} (h:De k n E E') {a:AV} {v:Value} (hc:Ac E (DY k n a) v):Ac E' (DY k n a) v:=by
 grind [DY,XC,Ac]
def Ys {P:Program} {k n:Nat} {E E':Ag} (h:De k n E E'):∀{D:Bg} {ds:List Deferred},TL k n D=true->Ce P E D ds->Ce P E' D ds
 |[],ds,_,hd=>hd
 |(f,ag)::D,ds,hk,hd=>by obtain ⟨k1,k2⟩:=Aq hk;obtain ⟨vs,r,h1,h2,h3,h4⟩:=hd;exact ⟨vs,r,h1,LV h ag vs k1 h2,h3,Ys h k2 h4⟩
theorem T9:∀{sh:List (Option Nat)} {l vs:List AV},flat sh l=some vs->vs.length=FJ sh
 |[],[],vs,h=>by cases h;rfl
 |none::s,a::r,vs,h=>by unfold flat at h;split at h;rename_i l' hl;cases h;simp only [List.length_cons,FJ,T9 hl];cases h
 |some m::s,.agg cs::r,vs,h=>by simp only [flat]at h;split at h;rename_i hd;have hd:cs.length=m:=AR hd;split at h;rename_i l' hl;cases h;simp only [Ax,FJ,T9 hl,hd];rfl;cases h;cases h
 |[],_::_,vs,h=>by cases h
 |none::_,[],vs,h=>by cases h
 |some _::_,[],vs,h=>by cases h
 |some m::s,.opq::r,vs,h=>by cases h
 |some m::s,.bool _::r,vs,h=>by cases h
 |some m::s,.int _ _::r,vs,h=>by cases h
 |some m::s,.flt _ _::r,vs,h=>by cases h
 |some m::s,.nan _::r,vs,h=>by cases h
 |some m::s,.str _::r,vs,h=>by cases h
 |some m::s,.nptr::r,vs,h=>by cases h
 |some m::s,.ptr _ _::r,vs,h=>by cases h
 |some m::s,.vptr _::r,vs,h=>by cases h
 |some m::s,.nsl::r,vs,h=>by cases h
 |some m::s,.sl .. ::r,vs,h=>by cases h
 |some m::s,.vsl .. ::r,vs,h=>by cases h
 |some m::s,.nmap::r,vs,h=>by cases h
 |some m::s,.map _::r,vs,h=>by cases h
 |some m::s,.nfn::r,vs,h=>by cases h
 |some m::s,.fn .. ::r,vs,h=>by cases h
 |some m::s,.nif::r,vs,h=>by cases h
 |some m::s,.iface .. ::r,vs,h=>by cases h
 |some m::s,.tup _::r,vs,h=>by cases h
 |some m::s,.sym _::r,vs,h=>by cases h
 |some m::s,.slx .. ::r,vs,h=>by cases h
 |some m::s,.ptx .. ::r,vs,h=>by cases h
def Xl {sh:List (Option Nat)} {v:AV} {vs:List AV} (h:Ls sh v=some vs):vs.length=FJ sh:=by
 unfold Ls at h
 grind [T9]
def aT:∀{a b:List AV},Ak (a++b)=true->Ak a=true/\Ak b=true
 |[],b,h=>⟨rfl,h⟩
 |x::r,b,h=>by rw [List.cons_append,CL]at h;obtain ⟨h1,h2⟩:=Aq h;obtain ⟨h3,h4⟩:=aT h2;exact ⟨by rw [CL,h1,h3];rfl,h4⟩
def QY {E E':Ag} (him:∀b o v,E.imm b o=some v->E'.imm b o=some v):∀(sh:List (Option Nat)) (n:Nat) (l vs:List AV) (us:List Value),flat sh l=some vs->Ak vs=true->Ah E l us->
  (∀i a,vs[i]? =some a->E'.sy (n+i)=some a)->Ah E' (Fr n sh) us
 |[],n,l,vs,us,h,hok,hc,hs=>by
  cases l with
  |nil=>grind [Fr,Ah]
  |cons a r=>cases h
 |none::s,n,l,vs,us,h,hok,hc,hs=>by
  cases l with
  |nil=>cases h
  |cons a r=>
   unfold flat at h;split at h
   .rename_i l' hl;cases h;rw [CL]at hok;obtain ⟨k1,k2⟩:=Aq hok;obtain ⟨u,q,rfl,c1,c2⟩:=hc;refine ⟨u,q,rfl,?_,QY him s (n+1) r l' q hl k2 c2 λi b hb=>?_⟩;exact ⟨a,by simpa using hs 0 a rfl,Fn k1,JL him (Jk k1 c1)⟩
    .have:=hs (i+1) b (by grind)
     grind
   cases h
 |some m::s,n,l,vs,us,h,hok,hc,hs=>by
  cases l with
  |nil=>cases h
  |cons a r=>
   have ha:∃cs,a=.agg cs:=(by cases a<;>first|exact ⟨_,rfl⟩|(cases h));obtain ⟨cs,rfl⟩:=ha;simp only [flat]at h;split at h
   .rename_i hd;have hd:cs.length=m:=AR hd;subst hd;split at h
    .rename_i l' hl;cases h;obtain ⟨k1,k2⟩:=aT hok;obtain ⟨u,q,rfl,c1,c2⟩:=hc;refine ⟨u,q,rfl,?_,QY him s (n+cs.length) r l' q hl k2 c2 λi b hb=>?_⟩
     .obtain ⟨ws,rfl,c3⟩:=c1;refine ⟨ws,rfl,NQ n cs ws k1 (λi b hb=>hs i b ?_) (I4 him (GJ k1 c3))⟩
      grind
     .have:=hs (cs.length+i) b (by grind)
      grind
    cases h
   cases h
def kf {E E':Ag} (him:∀b o v,E.imm b o=some v->E'.imm b o=some v) {sh:List (Option Nat)} {n:Nat} {v:AV} {vs:List AV} {u:Value} (h:Ls sh v=some vs) (hok:Ak vs=true) (hc:Ac E v u)
  (hs:∀i a,vs[i]? =some a->E'.sy (n+i)=some a):Ac E' (Id n sh) u:=by
 have tup:∀(sh:List (Option Nat)) (l:List AV),v=.tup l->flat sh l=some vs->Ac E' (.tup (Fr n sh)) u:=λsh l e hfl=>by subst e;obtain ⟨us,rfl,c⟩:=hc;have:=QY him sh n l vs us hfl hok c hs;simp only [Ac];grind
 have isT:∀sh:List (Option Nat),(∀s,sh≠[s])->Ls sh v=some vs->∃l,v=.tup l/\flat sh l=some vs:=λsh hne h=>by
  unfold Ls at h
  grind
 match sh,h with
 |[],h=>obtain ⟨l,e,h⟩:=isT [] (λs e=>by cases e) h;exact tup [] l e h
 |[none],h=>have:=QY him [none] n [v] vs [u] h hok (Ah.cons hc (Ah.nil E)) hs;obtain ⟨w,r,e,c,rfl⟩:=this;cases e;exact c
 |[some m],h=>have:=QY him [some m] n [v] vs [u] h hok (Ah.cons hc (Ah.nil E)) hs;obtain ⟨w,r,e,c,rfl⟩:=this;cases e;exact c
 |a::b::r,h=>obtain ⟨l,e,h⟩:=isT (a::b::r) (λs e=>by cases e) h;exact tup (a::b::r) l e h
mutual
theorem Xm {E:Ag} {Y:Sy} (hy:E.sy=Y.v) {id i k:Nat} (hs:(DF.same i k).ok Y):∀{a:AV} {v:Value},Ac E a v->Ac E (Fv id i k a) v
 | .slx a z j,v,hc=>by
   unfold Fv;split
   .rename_i hb;have e:=ze' (Aq hb).2;simp only [Ac]at hc⊢;rcases hs with ⟨e1,e2⟩|⟨n,z',cs,ds,e1,e2⟩<;>grind
   exact hc
 | .vptr cs,v,hc=>by simp only [Fv,Ac]at hc⊢;obtain ⟨b,o,vs,h1,h2,h3⟩:=hc;exact ⟨b,o,vs,h1,OT hy hs h2,h3⟩
 | .vsl n z cs,v,hc=>by obtain ⟨b,o,vs,c,h1,h2,h3,h4⟩:=hc;exact ⟨b,o,vs,c,h1,h2,OT hy hs h3,h4⟩
 | .fn f cs,v,hc=>by simp only [Fv,Ac]at hc⊢;obtain ⟨vs,h1,h2⟩:=hc;exact ⟨vs,h1,OT hy hs h2⟩
 | .iface t a,v,hc=>by simp only [Fv,Ac]at hc⊢;obtain ⟨u,h1,h2⟩:=hc;exact ⟨u,h1,Xm hy hs h2⟩
 | .agg cs,v,hc=>by simp only [Fv,Ac]at hc⊢;obtain ⟨vs,h1,h2⟩:=hc;exact ⟨vs,h1,OT hy hs h2⟩
 | .tup cs,v,hc=>by simp only [Fv,Ac]at hc⊢;obtain ⟨vs,h1,h2⟩:=hc;exact ⟨vs,h1,OT hy hs h2⟩
 | .opq,_,hc=>hc
 | .bool _,_,hc=>hc
 | .int _ _,_,hc=>hc
 | .flt _ _,_,hc=>hc
 | .nan _,_,hc=>hc
 | .str _,_,hc=>hc
 | .nptr,_,hc=>hc
 | .ptr _ _,_,hc=>hc
 | .nsl,_,hc=>hc
 | .sl ..,_,hc=>hc
 | .nmap,_,hc=>hc
 | .map _,_,hc=>hc
 | .nfn,_,hc=>hc
 | .nif,_,hc=>hc
 | .sym _,_,hc=>hc
 | .ptx ..,_,hc=>hc
theorem OT {E:Ag} {Y:Sy} (hy:E.sy=Y.v) {id i k:Nat} (hs:(DF.same i k).ok Y):∀{as:List AV} {vs:List Value},Ah E as vs->Ah E (JY id i k as) vs
 |[],_,hc=>hc
 |a::as,vs,hc=>by simp only [JY,Ah]at hc⊢;obtain ⟨v,t,h1,h2,h3⟩:=hc;exact ⟨v,t,h1,Xm hy hs h2,OT hy hs h3⟩
end
variable [Gl]
section
variable {P:Program} {N:Nat} {Q:AV->Prop} {fuel:Nat} {I:C8 P fuel} {c:VC}
abbrev BD:=List (Nat->List AV->Prop)
def Au (P:Program) (c:VC) (n:Nat) (Y:Sy):Prop:=AA Y n/\Br P c.fc Y
def kV (P:Program) (Q:AV->Prop) (c:VC) (L0:BD) (n0:Nat) (Y0:Sy) (K:VS->VT):KP:=λY T H D=>∃(n lv:Nat) (L:BD),L0 <+: L/\L.length=lv/\n0<=n/\AM n0 Y0 Y/\Au P c n Y/\AB P Q L Y (K ⟨T,H,n,lv,D⟩)
def xV (P:Program) (Q:AV->Prop) (c:VC) (L0:BD) (n0:Nat) (Y0:Sy) (X:VX->VT):XP:=λY r=>match r with
 | .exit id T H D=>∃(n lv:Nat) (L:BD),L0 <+: L/\L.length=lv/\n0<=n/\AM n0 Y0 Y/\Au P c n Y/\AB P Q L Y (X (.exit id ⟨T,H,n,lv,D⟩))
 | .ret T H D=>∃(n lv:Nat) (L:BD),L0 <+: L/\L.length=lv/\n0<=n/\AM n0 Y0 Y/\Au P c n Y/\AB P Q L Y (X (.ret ⟨T,H,n,lv,D⟩))
 | .pan v T H D=>∃(n lv:Nat) (L:BD),L0 <+: L/\L.length=lv/\n0<=n/\AM n0 Y0 Y/\Au P c n Y/\AB P Q L Y (X (.pan v ⟨T,H,n,lv,D⟩))
 |_=>False
def U6 {L0 L1:BD} {n0 n1:Nat} {Y0 Y1:Sy} {K:VS->VT} (hL:L0 <+: L1) (hn:n0<=n1) (hx:AM n0 Y0 Y1) {Y:Sy} {T:Tm} {H:AHeap} {D:Bg} (h:kV P Q c L1 n1 Y1 K Y T H D):kV P Q c L0 n0 Y0 K Y T H D:=by obtain ⟨n,lv,L,h1,h2,h3,h4,h5,h6⟩:=h;exact ⟨n,lv,L,hL.trans h1,h2,by omega,hx.trans h4 hn,h5,h6⟩
def JP {L0 L1:BD} {n0 n1:Nat} {Y0 Y1:Sy} {X:VX->VT} (hL:L0 <+: L1) (hn:n0<=n1) (hx:AM n0 Y0 Y1) {Y:Sy} {r:A3} (h:xV P Q c L1 n1 Y1 X Y r):xV P Q c L0 n0 Y0 X Y r:=by
 cases r with
 |exit id T H D=>obtain ⟨n,lv,L,h1,h2,h3,h4,h5,h6⟩:=h;exact ⟨n,lv,L,hL.trans h1,h2,by omega,hx.trans h4 hn,h5,h6⟩
 |ret T H D=>obtain ⟨n,lv,L,h1,h2,h3,h4,h5,h6⟩:=h;exact ⟨n,lv,L,hL.trans h1,h2,by omega,hx.trans h4 hn,h5,h6⟩
 |norm T H D=>exact h.elim
 |pan v T H D=>obtain ⟨n,lv,L,h1,h2,h3,h4,h5,h6⟩:=h;exact ⟨n,lv,L,hL.trans h1,h2,by omega,hx.trans h4 hn,h5,h6⟩
theorem Au.put {n:Nat} {Y:Sy} (h:Au P c n Y) (a:AV):Au P c (n+1) (Y.put n a):=⟨h.1.put a,h.2.sub (h.1.sub_put a) (h.1.low a)⟩
theorem Au.puts {n:Nat} {Y:Sy} (h:Au P c n Y) (l:List AV):Au P c (n+l.length) (Y.puts n l):=by obtain ⟨h1,h2,h3,h4⟩:=h.1.puts l;exact ⟨h1,h.2.sub h2 h4⟩
def Nx (P:Program) (Q:AV->Prop) (c:VC) (L:BD) (S:VS) (Y:Sy) (kt:VS->VT) (next:KP):Prop:=
 ∀Y' (S':VS),S'.lv=S.lv->S.n<=S'.n->AM S.n Y Y'->Au P c S'.n Y'->AB P Q L Y' (kt S')->next Y' S'.T S'.H S'.D
def Nq (P:Program) (Q:AV->Prop) (c:VC) (L:BD) (S:VS) (Y:Sy) (Xv:VX->VT) (X:XP):Prop:=
 ∀Y' (S':VS) v,S'.lv=S.lv->S.n<=S'.n->AM S.n Y Y'->Au P c S'.n Y'->AB P Q L Y' (Xv (.pan v S'))->X Y' (.pan v S'.T S'.H S'.D)
def jD {o:Oper} {op:XOp} {ag:List AV} {S:VS} {Y:Sy} {L:BD} (hf:Au P c S.n Y) (hl:FI S.T o=some (op,ag)) (hs:Bi ag=true) {u:Tm->AV->Tm} {next:KP} {m:Option Nat} {t:VT}
  (ht:AB P Q L Y (.lt op ag S.n m t)) (hn:∀Y' x n',S.n<=n'->AM S.n Y Y'->Au P c n' Y'->AB P Q L Y' t->(m=none->x=.sym S.n/\n'=Nat.succ S.n)->(∀j,m=some j->x=.agg (Af S.n j)/\n'=Nat.add S.n j)->next Y' (u S.T x) S.H S.D):
  Gg P N c.k o u Y S.T S.H S.D next:=by
 cases m with
 |none=>obtain ⟨r,hr,hok,htree⟩:=ht;refine ⟨Y.put S.n r,.sym S.n,S.H,hn _ _ _ (zc' _) (AM.put r (za' _)) (hf.put r) htree (λ_=>⟨rfl,rfl⟩) (λj e=>by cases e),λB pr E a w hy st=>?_⟩;obtain ⟨E',n,v,w',h1,h2,h3,st',h5⟩:=XW hl hs hr hy st;have hy':=hy.le h3;have hv:∀i x,E'.sy i=some x->(Y.put S.n r).v i=some x:=λi x hx=>hf.1.sub_put r i x (by rw [←hy'.v];exact hx);have hll:∀i l,E'.syl i=some l->(Y.put S.n r).l i=some l:=λi l hx=>(by rw [hy'.l]at hx;exact hx);have hlo:∀i,i<64->(Y.put S.n r).v i=E'.sy i:=λi hi=>(by rw [hy'.v];exact hf.1.low r i hi);refine ⟨E'.with (Y.put S.n r),n,v,w',h1,h2,(h3.leF c.k).trans (Ag.with_leF c.k hlo),⟨rfl,rfl,hy'.res⟩,st'.with hv hll hlo,?_⟩;exact ⟨r,Sy.put_same _ _ _,Fn hok,(Jk hok h5).with⟩
 |some j=>obtain ⟨cs,hr,hlen,hok,htree⟩:=ht;obtain ⟨f1,f2,f3,f4⟩:=hf.1.puts cs;refine ⟨Y.puts S.n cs,.agg (Af S.n j),S.H,hn _ _ (Nat.add S.n j) (zh' _ _) (AM.puts cs _ (za' _)) (by rw [←hlen];exact hf.puts cs) htree (λe=>by cases e) (λj' e=>by grind),λB pr E a w hy st=>?_⟩;obtain ⟨E',n,v,w',h1,h2,h3,st',h5⟩:=XW hl hs hr hy st;have hy':=hy.le h3;have hv:∀i x,E'.sy i=some x->(Y.puts S.n cs).v i=some x:=λi x hx=>f2 i x (by rw [←hy'.v];exact hx);have hll:∀i l,E'.syl i=some l->(Y.puts S.n cs).l i=some l:=λi l hx=>(by rw [f3];rw [hy'.l]at hx;exact hx);have hlo:∀i,i<64->(Y.puts S.n cs).v i=E'.sy i:=λi hi=>(by rw [hy'.v];exact f4 i hi);refine ⟨E'.with (Y.puts S.n cs),n,v,w',h1,h2,(h3.leF c.k).trans (Ag.with_leF c.k hlo),⟨rfl,rfl,hy'.res⟩,st'.with hv hll hlo,?_⟩;obtain ⟨vs,rfl,hL⟩:=h5;refine ⟨vs,rfl,?_⟩;rw [←hlen];exact NQ S.n cs vs hok (λi a ha=>Gj cs hf.1 i a ha) (I4 (E:=E') (E':=E'.with (Y.puts S.n cs)) (λ_ _ _ h=>h) (GJ hok hL))
def AL (P:Program) (N k:Nat) (Y:Sy) (S S':VS):Prop:=AY P N k Y S.T S.H S.D Y S'.T S'.H S'.D/\∀(all:List Oper) (o:Oper) (g:Tm->Option Bool) (t:Bool),Dy all o=.mk g->g S.T=some t->g S'.T=some t
theorem AL.refl (P:Program) (N k:Nat) (Y:Sy) (S:VS):AL P N k Y S S:=⟨AY.refl _ _ _ _ _ _ _,λ_ _ _ _ _ h=>h⟩
def AL.know {P:Program} {N k:Nat} {Y:Sy} {i:Nat} {b:Bool} (hb:Y.v i=some (.bool b)) (S:VS):AL P N k Y S (S.know i b):=⟨VG hb S.x S.D,λ_ _ _ _ hg h=>iW hg (S:=S.x) h i b⟩
omit [Gl]in
def wd {all:List Oper} {o:Oper} {g:Tm->Option Bool} (hg:Dy all o=.mk g) {T:Tm} {t:Bool} (h:g T=some t) (F:AHeap):g (B1 (frz F) T)=some t:=by
 unfold Dy at hg;split at hg;cases hg
 .rename_i j want hgu;split at hg
  .split at hg
   .rename_i d hd;split at hg
    .cases hg;have e:(DD d).f (B1 (frz F) T)=frz F ((DD d).f T):=EW _ _ _;show Ei ((DD d).f (B1 (frz F) T)) want=some t;have h:Ei ((DD d).f T) want=some t:=h;rw [e];generalize (DD d).f T=x at h⊢;cases x with
     |tup cs=>cases cs<;>first|exact h|(simp [Ei]at h)
     |_=>first|exact h|(simp [Ei]at h)
    grind
   grind
  grind
def AL.frz {P:Program} {N k:Nat} {Y:Sy} (S:VS) (ag:List AV):AL P N k Y S (Ee S ag):=⟨Tj _,λ_ _ _ _ hg h=>wd hg h _⟩
def lS {o:Oper} {u:Tm->AV->Tm} {S S1:VS} {Y:Sy} {L:BD} {kt:VS->VT} {next:KP} (hnext:Nx P Q c L S Y kt next) (hn1:S1.n=S.n) (hl1:S1.lv=S.lv) (hd1:S1.D=S.D) (hf:Au P c S.n Y) {g:FuncId} {ag:List AV} {sh:List (Option Nat)}
  (hso:Bi ag=true) (hst:(A0 P o).run S1.T S1.H=some (.call g ag)) (h:AB P Q L Y (.call g ag S.n sh (kt ⟨u S1.T (Id S.n sh),S1.H,Nat.add S.n (FJ sh),S.lv,S.D⟩))):R1 P N c.k o u Y S1.T S1.H S1.D next:=by
 rw [←hd1]at h;obtain ⟨v,vs,hp,hfl,hok,ht⟩:=h;obtain ⟨f1,f2,f3,f4⟩:=hf.1.puts vs;have hlen:=Xl hfl;refine ⟨g,ag,Y.puts S.n vs,Id S.n sh,hst,?_,λB pr E a w us hy st hcon=>?_⟩;refine hnext (Y.puts S.n vs) ⟨u S1.T (Id S.n sh),S1.H,Nat.add S.n (FJ sh),S.lv,S1.D⟩ rfl (zh' _ _) (AM.puts vs _ (za' _)) ?_ ht;rw [←hlen];exact hf.puts vs;have hcon':Ah E (Am Y.v ag) us:=(by have:=JU hso hcon;rw [hy.v]at this;exact this.con);refine Calls.mono (hp S1.H B pr E w us st.t.gl st.r hcon') λe w' he=>?_;obtain ⟨E',hle,u',rfl,h1,h2⟩:=he;have hy':=hy.le hle;have st':St P B pr N E' S1.T S1.H S1.D a w':=⟨st.t.mono hle,h2,st.d.mono hle⟩;have hv:∀i x,E'.sy i=some x->(Y.puts S.n vs).v i=some x:=λi x hx=>f2 i x (by rw [←hy'.v];exact hx);have hll:∀i l,E'.syl i=some l->(Y.puts S.n vs).l i=some l:=λi l hx=>(by rw [f3];rw [hy'.l]at hx;exact hx);have hlo:∀i,i<64->(Y.puts S.n vs).v i=E'.sy i:=λi hi=>(by rw [hy'.v];exact f4 i hi);refine ⟨E'.with (Y.puts S.n vs),u',rfl,(hle.leF c.k).trans (Ag.with_leF c.k hlo),⟨rfl,rfl,hy'.res⟩,st'.with hv hll hlo,?_⟩;exact kf (E:=E') (E':=E'.with (Y.puts S.n vs)) (λ_ _ _ h=>h) hfl hok h1 λi a ha=>Gj vs hf.1 i a ha
section
omit [Gl]
theorem Wa {H:AHeap} {x a':AV} {i k:Nat} (h:bX H x=some (i,k,a')) {E:Ag} {Y:Sy} (hy:E.sy=Y.v) (hs:(DF.same i k).ok Y) {v:Value} (hc:Ac E x v):Ac E a' v:=by
 unfold bX at h;split at h
 case h_2=>cases h
 split at h
 case h_2=>cases h
 split at h;cases h;cases h;simp only [Ac]at hc⊢;rcases hs with ⟨e1,e2⟩|⟨n,z',cs,ds,e1,e2⟩<;>grind
def pJ (x:AV):∀(o:Nat) (cs:List AV) (i:Nat) (b:AV),(EP o x cs)[i]? =some b->cs[i]? =some b\/(i=o/\b=x/\∃y,cs[i]? =some y)
 |_,[],i,b,h=>by simp [EP]at h
 |0,y::r,0,b,h=>by simp [EP]at h;grind
 |0,y::r,i+1,b,h=>by grind [EP]
 |o+1,y::r,0,b,h=>by grind [EP]
 |o+1,y::r,i+1,b,h=>by simp only [EP,List.getElem?_cons_succ]at h⊢;exact (pJ x o r i b h).imp id λ⟨h1,h2⟩=>⟨by omega,h2⟩
theorem ew (x:AV):∀(o:Nat) (cs:List AV),(EP o x cs).length=cs.length
 |0,[]=>rfl
 |o+1,[]=>rfl
 |0,y::r=>rfl
 |o+1,y::r=>by simp [EP,ew x o r]
theorem Pz:∀(o:Nat) (cs:List AV),Kz o cs=cs[o]?
 |o,[]=>by cases o<;>rfl
 |0,y::r=>rfl
 |o+1,y::r=>by simp [Kz,Pz o r]
end
structure B5 (Y:Sy) (S S':VS):Prop where
 n:S'.n=S.n
 lv:S'.lv=S.lv
 D:S'.D=S.D
 next:S'.H.next=S.H.next/\S'.H.hi=S.H.hi
 t:∀(E:Ag) (tmps:Nat->Value),E.sy=Y.v->(∀t,t<512->Ac E (An S.T t) (tmps t))->∀t,t<512->Ac E (An S'.T t) (tmps t)
 r:∀(B:World) (pr:Nat->Prop) (E:Ag) (w:World),E.sy=Y.v->Ao B pr E S.H w->Ao B pr E S'.H w
section
omit [Gl]
theorem B5.refl (Y:Sy) (S:VS):B5 Y S S:=⟨rfl,rfl,rfl,⟨rfl,rfl⟩,λ_ _ _ h=>h,λ_ _ _ _ _ h=>h⟩
theorem B5.trans {Y:Sy} {S S' S'':VS} (h:B5 Y S S') (h':B5 Y S' S''):B5 Y S S'':=
 ⟨h'.n.trans h.n,h'.lv.trans h.lv,h'.D.trans h.D,⟨h'.next.1.trans h.next.1,h'.next.2.trans h.next.2⟩,λE tm e hc=>h'.t E tm e (h.t E tm e hc),λB pr E w e hr=>h'.r B pr E w e (h.r B pr E w e hr)⟩
theorem KT {E:Ag} {a a':AV} (h:∀v,Ac E a v->Ac E a' v):∀(o:Nat) (cs:List AV) (vs:List Value),cs[o]? =some a->Ah E cs vs->Ah E (EP o a' cs) vs
 |o,[],vs,h1,_=>by simp at h1
 |0,b::r,vs,h1,hc=>by
  grind [EP,Ah]
 |o+1,b::r,vs,h1,hc=>by simp only [List.getElem?_cons_succ]at h1;simp only [EP,Ah]at hc⊢;obtain ⟨v,q,h2,h3,h4⟩:=hc;exact ⟨v,q,h2,h3,KT h o r q h1 h4⟩
def pR_ {rn:List (Nat×Nat)} {t:TA} {S:VS} {Y:Sy} (h:∀i k,(i,k)∈(Sr rn t S).l->(DF.same i k).ok Y):B5 Y S (Sr rn t S).S:=by
 unfold Sr at h⊢;split at h;exact B5.refl Y S;rename_i a ha;split at h;exact B5.refl Y S;rename_i i k a' hst;split at h
 .rename_i hoff;split at h
  .rename_i hb;have hlt:t.loc<512:=(by simp_all);have hloc:An S.T t.loc=a:=by
    grind [OE]
   refine ⟨rfl,rfl,rfl,⟨rfl,rfl⟩,λE tm e hc q hq=>?_,λ_ _ _ _ _ h=>h⟩
   grind [Gw,Wa,Fi]
  exact B5.refl Y S
 .rename_i o hoff;split at h
  .rename_i r hr;split at h
   .rename_i cs hk;have hs:=h i k (zf' ..);have hcell:cs[o]? =some a:=by
     grind [OE,Pz]
    refine ⟨rfl,rfl,rfl,⟨rfl,rfl⟩,λ_ _ _ h=>h,λB pr E w e hrel=>?_⟩;refine hrel.setTo hk λown hrow=>?_;rcases hrow with ⟨_,hv⟩|⟨b,oo,q1,q2,arr,tt,q3,q4,q5,q6⟩;exact hv.elim
    .refine .inr ⟨b,oo,q1,q2,arr,tt,q3,q4,by rw [ew];exact q5,λq x hx=>?_⟩;rcases pJ a' o cs q x hx with hx|⟨rfl,rfl,_⟩<;>grind [Wa]
   exact B5.refl Y S
  .rename_i hr;unfold OE at ha;rw [hoff]at ha;simp only [hr]at ha;generalize Nat.sub t.loc 600=m at*;split at h
   .rename_i cs hk;split at h
    .rename_i hb;have hlt:m<512:=(by simp_all);have hcell:cs[o]? =some a:=by
      grind [Pz]
     refine ⟨rfl,rfl,rfl,⟨rfl,rfl⟩,λE tm e hc q hq=>?_,λ_ _ _ _ _ h=>h⟩
     grind [Ac,Gw,KT,Wa,Fi]
    exact B5.refl Y S
   .rename_i cs hk;split at h
    .rename_i hb;have hlt:m<512:=(by simp_all);have hcell:cs[o]? =some a:=by
      grind [Pz]
     refine ⟨rfl,rfl,rfl,⟨rfl,rfl⟩,λE tm e hc q hq=>?_,λ_ _ _ _ _ h=>h⟩
     grind [Ac,Gw,KT,Wa,Fi]
    exact B5.refl Y S
   exact B5.refl Y S
theorem Ry {x:Nat×Nat}:∀{a b:List (Nat×Nat)},x∈Kg.appP a b↔x∈a\/x∈b
 |[],b=>by simp [Kg.appP]
 |y::r,b=>by simp [Kg.appP,Ry (a:=r),or_assoc]
def Xj {rn:List (Nat×Nat)} {Y:Sy}:∀{ts:List TA} {S:VS},(∀i k,(i,k)∈(Kg rn ts S).l->(DF.same i k).ok Y)->B5 Y S (Kg rn ts S).S
 |[],S,_=>B5.refl Y S
 |t::r,S,h=>by unfold Kg at h⊢;simp only at h⊢;exact (pR_ λi k hik=>h i k (Ry.2 (.inl hik))).trans (Xj λi k hik=>h i k (Ry.2 (.inr hik)))
end
def B5.weak {Y:Sy} {S S':VS} (h:B5 Y S S') (k:Nat):AY P N k Y S.T S.H S.D Y S'.T S'.H S'.D:=λB pr E a w hy st=>
 ⟨E,Ag.leF_refl k E,hy,⟨st.t.size,st.t.le,h.t E _ hy.v st.t.con,st.t.gl⟩,h.r B pr E w hy.v st.r,by rw [h.D];exact st.d⟩
def i5 {k:Nat} {Y:Sy}:∀{q:List SR} {S:VS},(∀i j,(i,j)∈bA q->(DF.same i j).ok Y)->AY P N k Y S.T S.H S.D Y (Jh q S).T (Jh q S).H (Jh q S).D/\(Jh q S).n=S.n/\(Jh q S).lv=S.lv/\(Jh q S).D=S.D
 |[],S,_=>⟨AY.refl _ _ _ _ _ _ _,rfl,rfl,rfl⟩
 |q::r,S,h=>by obtain ⟨h1,h2,h3,h4⟩:=i5 (k:=k) (q:=r) (S:=⟨B1 (Fv q.id q.i q.k) S.T,S.H,S.n,S.lv,S.D⟩) λi j hm=>h i j (zg' _ hm);refine ⟨AY.trans (λB pr E a w hy st=>⟨E,Ag.leF_refl k E,hy,⟨⟨st.t.size,st.t.le,λt ht=>?_,st.t.gl⟩,st.r,st.d⟩⟩) h1,h2,h3,h4⟩;rw [EW];exact Xm hy.v (h q.i q.k (zf' ..)) (st.t.con t ht)
omit [Gl]in
def u6 {all:List Oper} {o:Oper} {g:Tm->Option Bool} (hg:Dy all o=.mk g) {T:Tm} {t:Bool} (h:g T=some t) (id i k:Nat):g (B1 (Fv id i k) T)=some t:=by
 unfold Dy at hg;split at hg;cases hg
 .rename_i j want hgu;split at hg
  .split at hg
   .rename_i d hd;split at hg
    .cases hg;have e:(DD d).f (B1 (Fv id i k) T)=Fv id i k ((DD d).f T):=EW _ _ _;show Ei ((DD d).f (B1 (Fv id i k) T)) want=some t;have h:Ei ((DD d).f T) want=some t:=h;rw [e];generalize (DD d).f T=x at h⊢;cases x with
     |tup cs=>cases cs<;>first|exact h|(simp [Ei]at h)
     |_=>first|exact h|(simp [Ei]at h)
    grind
   grind
  grind
omit [Gl]in
def nk {all:List Oper} {o:Oper} {g:Tm->Option Bool} (hg:Dy all o=.mk g) {t:Bool}:∀{q:List SR} {S:VS},g S.T=some t->g (Jh q S).T=some t
 |[],S,h=>h
 |q::r,S,h=>nk (q:=r) hg (S:=⟨B1 (Fv q.id q.i q.k) S.T,S.H,S.n,S.lv,S.D⟩) (u6 hg h q.id q.i q.k)
theorem dq {k:Nat} {Y:Sy} {S:VS} {l:List AV} (h:∀i j,(i,j)∈(Ky S l).l->(DF.same i j).ok Y):AL P N k Y S (Ky S l).S/\(Ky S l).S.n=S.n/\(Ky S l).S.lv=S.lv/\(Ky S l).S.D=S.D:=by
 unfold Ky at h⊢;generalize hq:ON S.H l=q at h⊢;cases q with
 |nil=>exact ⟨AL.frz S l,rfl,rfl,rfl⟩
 |cons a r=>obtain ⟨h1,h2,h3,h4⟩:=i5 (P:=P) (N:=N) (k:=k) (S:=S) h;have h5:=AL.frz (P:=P) (N:=N) (k:=k) (Y:=Y) (Jh (a::r) S) (ZP (a::r) l);exact ⟨⟨h1.trans h5.1,λall o g t hg ht=>h5.2 all o g t hg (nk hg ht)⟩,h2,h3,h4⟩
theorem Oe {L:BD} {Y:Sy} {t:VT}:∀{l:List (Nat×Nat)},AB P Q L Y (M4 l t)->(∀i k,(i,k)∈l->(DF.same i k).ok Y)/\AB P Q L Y t
 |[],h=>⟨(λ_ _ h=>by cases h),h⟩
 |(i,k)::r,h=>by obtain ⟨h1,h2⟩:=h;obtain ⟨h3,h4⟩:=Oe (l:=r) h2;refine ⟨λi' k' hm=>?_,h4⟩;rcases List.mem_cons.1 hm with e|hm;cases e;exact h1;exact h3 i' k' hm
def Ts {L:BD} {Y:Sy} {t:VT}:∀{l:List Nat},AB P Q L Y (PH l t)->(∀i,i∈l->(DF.nn i).ok Y)/\AB P Q L Y t
 |[],h=>⟨(λ_ h=>by cases h),h⟩
 |i::r,h=>by obtain ⟨h1,h2⟩:=h;obtain ⟨h3,h4⟩:=Ts (l:=r) h2;refine ⟨λi' hm=>?_,h4⟩;rcases List.mem_cons.1 hm with e|hm;cases e;exact h1;exact h3 i' hm
omit [Gl]in
def li {E:Ag} {f:Nat->Value}:∀(ag:List AV) (i:Nat) (T:Tm),i+ag.length<=512->(∀t,t<512->Ac E (An T t) (f t))->(∀j a,ag[j]? =some a->Ac E a (f (i+j)))->∀t,t<512->Ac E (An (Dc ag i T) t) (f t)
 |[],i,T,_,h,_=>h
 |a::r,i,T,hl,h,ha=>by
  simp only [List.length_cons]at hl;refine li r (i+1) _ (by omega) (λt ht=>?_) λj b hb=>?_
  .by_cases e:i=t;subst e;rw [Gw _ ht];exact ha 0 a rfl
   grind [Fi]
  .have:=ha (j+1) b (by grind)
   grind
omit [Gl]in
def du:∀{l:List (Nat×AV)} {i:Nat},i<=512->QV i l=true->i+(DB l).length<=512
 |[],i,hi,_=>hi
 |(j,a)::r,i,hi,h=>by
  obtain ⟨_,h⟩:=Aq h;obtain ⟨h1,h2⟩:=Aq h;have h1:i<512:=(by simp_all);have:=du (l:=r) (i:=i+1) h1 h2
  grind [DB]
def XE {ft:FT} {m:MR} {low:List Nat} {u:Tm->AV->Tm} {S:VS} {Xv:VX->VT} {kt:VS->VT} {R:Nat->List AV->Prop} {L:BD} {Y:Sy} {n:Nat} {b:Bool} {tp:BE}:∀(l:List (Bool×BE)) (j0:Nat),QG P Q R L Y n j0 (aB ft m low u S Xv kt l)->∀j,l[j]? =some (b,tp)->∀ws,R (j0+j) ws->
  AB P Q L (Y.puts n ws) (match b with
   |false=>kt ⟨u S.T (KD ft m low S tp),HL ft m low S tp,M6 ft S tp,S.lv,S.D⟩
   |true=>Xv (.pan (KD ft m low S tp) ⟨S.T,HL ft m low S tp,M6 ft S tp,S.lv,S.D⟩))
 |[],j0,_,j,hj,_,_=>by simp at hj
 |(b',tp')::r,j0,h,j,hj,ws,hw=>by
  obtain ⟨h1,h2⟩:=h;cases j with
  |zero=>
   grind
  |succ j=>exact XE r (j0+1) h2 j (by simpa using hj) ws (by rw [show j0+1+j=j0+(j+1) by omega];exact hw)
theorem mB {o:Oper} {u:Tm->AV->Tm} {S S1:VS} {Y:Sy} {L:BD} {kt:VS->VT} {next:KP} {Xv:VX->VT} {X:XP} (hnext:Nx P Q c L S Y kt next) (hX:Nq P Q c L S Y Xv X) (hn1:S1.n=S.n) (hl1:S1.lv=S.lv) (hf:Au P c S.n Y) {g:FuncId} {ft:FT} {ag:List AV}
  (hst:(A0 P o).run S1.T S1.H=some (.call g ag)) (h:AB P Q L Y (UB g ft u S1 ag Xv kt)):MZ P N c.k o u Y S1.T S1.H S1.D next X:=by
 unfold UB at h;simp only at h;generalize hfr:ST ft.ent ⟨Dc ag 0 AK,S1.H,S1.n,S1.lv,[]⟩=f at h;split at h;exact h.elim;rename_i m hm;split at h;exact h.elim;rename_i low hlow;split at h
 case h_2=>exact h.elim
 rename_i hb;obtain ⟨b1,hb⟩:=Aq hb;obtain ⟨b2,hb⟩:=Aq hb;obtain ⟨b3,hb⟩:=Aq hb;obtain ⟨b4,b5⟩:=Aq hb;have b2:=zk' b2;have b3:=ze' b3;rw [BW,BW]at b3;obtain ⟨hs1,h⟩:=Oe h;have hfo:B5 Y ⟨Dc ag 0 AK,S1.H,S1.n,S1.lv,[]⟩ f.S:=by rw [←hfr];exact Xj (by rw [←hfr]at hs1;exact hs1)
 obtain ⟨R,hF,hok,hbr⟩:=h
 let S2:VS:=⟨S1.T,f.S.H,S1.n,S1.lv,S1.D⟩
 have hf1:AA Y S1.n:=by rw [hn1];exact hf.1
 have hvlen:(Am Y.v m.hv).length=ft.ent.nv:=hF.1;refine ⟨g,ag,λY' b r H'=>∃j ws tp,ft.exs[j]? =some (b,tp)/\R j ws/\Ak ws=true/\ws.length=tp.nv/\Y'=(Y.puts S1.n (Am Y.v m.hv)).puts (S1.n+ft.ent.nv) ws/\r=KD ft m low S2 tp/\H'=HL ft m low S2 tp,hst,?_,?_,λB pr E a w us hy st hcon=>?_⟩;rintro Y' r H' ⟨j,ws,tp,h1,h2,h3,h4,rfl,rfl,rfl⟩;have hv:=XE ft.exs 0 hbr j h1 ws (by grind);refine hnext _ ⟨u S1.T (KD ft m low S2 tp),HL ft m low S2 tp,M6 ft S2 tp,S1.lv,S1.D⟩ hl1 ?_ ?_ ?_ hv;show S.n<=S1.n+ft.ent.nv+tp.nv;omega;rw [←hn1];exact (AM.puts _ _ (za' _)).trans (AM.puts ws _ (za' _)) (zh' _ _);have hg1:Au P c (S1.n+ft.ent.nv) (Y.puts S1.n (Am Y.v m.hv)):=(by rw [←hvlen,hn1];exact hf.puts _);show Au P c (S1.n+ft.ent.nv+tp.nv) _;rw [←h4];exact hg1.puts ws;rintro Y' v H' ⟨j,ws,tp,h1,h2,h3,h4,rfl,rfl,rfl⟩;have hv:=XE ft.exs 0 hbr j h1 ws (by grind);refine hX _ ⟨S1.T,HL ft m low S2 tp,M6 ft S2 tp,S1.lv,S1.D⟩ (KD ft m low S2 tp) hl1 ?_ ?_ ?_ hv;show S.n<=S1.n+ft.ent.nv+tp.nv;omega;rw [←hn1];exact (AM.puts _ _ (za' _)).trans (AM.puts ws _ (za' _)) (zh' _ _);have hg1:Au P c (S1.n+ft.ent.nv) (Y.puts S1.n (Am Y.v m.hv)):=(by rw [←hvlen,hn1];exact hf.puts _);show Au P c (S1.n+ft.ent.nv+tp.nv) _;rw [←h4];exact hg1.puts ws;have hlen:us.length=ag.length:=hcon.length;have hl512:ag.length<=512:=(by have:=du (Nat.zero_le _) b4;omega);have hcT:∀t,t<512->Ac E (An (Dc ag 0 AK) t) ((⟨us⟩:Array Value).getD t undef):=li ag 0 AK (by omega) (λt _=>by rw [Ks];simp [Ac]) λj x hx=>(by obtain ⟨v,h1,h2⟩:=hcon.at j x hx;simp_all);have hcT2:=hfo.t E _ hy.v hcT;have hr2:Ao B pr E f.S.H w:=hfo.r B pr E w hy.v st.r;refine Calls.mono (sY (S:=S2) (nargs:=(DB ft.ent.slots).length) hm hlow b1 b2 rfl b4 b5 hF hok hf1 hy st.t.gl hr2 (by omega) hcT2 c.k) λe w' he=>?_;obtain ⟨j,ws,b,tp,E2,v,h1,h2,h3,h4,hv,hsub,hle,hat,hrel,hcv,rfl⟩:=he;have hll:∀i l,E.syl i=some l->((Y.puts S1.n (Am Y.v m.hv)).puts (S1.n+ft.ent.nv) ws).l i=some l:=λi l hx=>(by obtain ⟨k1,k2,k3,k4⟩:=hf1.puts (Am Y.v m.hv);rw [hvlen]at k1;rw [(k1.puts ws).2.2.1,k3,←hy.l];exact hx);have hlo:∀i,i<64->((Y.puts S1.n (Am Y.v m.hv)).puts (S1.n+ft.ent.nv) ws).v i=E.sy i:=λi hi=>(by obtain ⟨k1,k2,k3,k4⟩:=hf1.puts (Am Y.v m.hv);rw [hvlen]at k1;rw [(k1.puts ws).2.2.2 i hi,k4 i hi,hy.v]);have st1:=st.with hv hll hlo;exact ⟨E2,_,b,_,_,v,⟨j,ws,tp,h1,h2,h3,h4,rfl,rfl,rfl⟩,hle,hat,⟨⟨st1.t.size,st1.t.le,λt ht=>(st1.t.con t ht).sub hsub,st1.t.gl.sub hsub⟩,hrel,st1.d.sub hsub⟩,hcv,rfl⟩
def xq {o:Oper} {u:Tm->AV->Tm} {S:VS} {Y:Sy} {L:BD} {kt:VS->VT} {next:KP} {Xv:VX->VT} {X:XP} (hnext:Nx P Q c L S Y kt next) (hX:Nq P Q c L S Y Xv X) (hf:Au P c S.n Y) {g:FuncId} {ft:FT} {ag:List AV}
  (hst:(A0 P o).run S.T S.H=some (.call g ag)) (h:AB P Q L Y (Y8 P g ft o u S ag Xv kt)):∃S',AL P N c.k Y S S'/\MZ P N c.k o u Y S'.T S'.H S'.D next X:=by
 unfold Y8 at h;split at h;exact ⟨S,AL.refl _ _ _ _ _,mB hnext hX rfl rfl hf hst h⟩
 .simp only at h;split at h
  .rename_i r hst2;split at h
   .split at h
    .grind [ze',Oe,dq,mB]
    exact h.elim
   exact h.elim
  exact h.elim
omit [Gl]in
def tg {all:List Oper} {o:Oper} {g:Tm->Option Bool} (hg:Dy all o=.mk g) {T:Tm} {t:Bool} (h:g T=some t) (k n:Nat):g (B1 (DY k n) T)=some t:=by
 unfold Dy at hg;split at hg;cases hg
 .rename_i j want hgu;split at hg
  .split at hg
   .rename_i d hd;split at hg
    .cases hg;have e:(DD d).f (B1 (DY k n) T)=DY k n ((DD d).f T):=EW _ _ _;show Ei ((DD d).f (B1 (DY k n) T)) want=some t;have h:Ei ((DD d).f T) want=some t:=h;rw [e];generalize (DD d).f T=x at h⊢;cases x with
     |tup cs=>cases cs<;>first|exact h|(simp [Ei]at h)
     |_=>first|exact h|(simp [Ei]at h)
    grind
   grind
  grind
def AL.keep {P:Program} {N k:Nat} {Y:Sy} (S:VS) (j n:Nat):AL P N k Y S ⟨B1 (DY j n) S.T,S.H,S.n,S.lv,S.D⟩:=
 ⟨λB pr E a w hy st=>⟨E,Ag.leF_refl k E,hy,⟨⟨st.t.size,st.t.le,λt ht=>by rw [EW];exact mn (st.t.con t ht),st.t.gl⟩,st.r,st.d⟩⟩,λ_ _ _ _ hg h=>tg hg h j n⟩
def iV (hm:P.follows .mixedOrders=true) (hc:Ci P (CO P fuel)) {o:Oper} {u:Tm->AV->Tm} {S:VS} {Y:Sy} {L:BD} (hL:L.length=S.lv) {kt:VS->VT} {next:KP} {Xv:VX->VT} {X:XP} (hnext:Nx P Q c L S Y kt next) (hX:Nq P Q c L S Y Xv X) (hf:Au P c S.n Y)
  (h:AB P Q L Y (UZ P I c o u S Xv kt)):∃S',AL P N c.k Y S S'/\MZ P N c.k o u Y S'.T S'.H S'.D next X:=by
 unfold UZ at h;split at h;exact (show False from h).elim
 .rename_i hb;obtain ⟨hD,hk⟩:=Aq hb;have hk:c.k<=S.H.next:=zk' hk;simp only at h;split at h
  .rename_i r hst;split at h
   .rename_i g ag;refine ⟨⟨B1 (DY S.H.next S.n) S.T,S.H,S.n,S.lv,S.D⟩,AL.keep S _ _,?_⟩;have hs:=I.ok hm hc hL hf h;refine ⟨g,ag,λY' b r H'=>∃n',S.n<=n'/\AM S.n Y Y'/\Au P c n' Y'/\(match b with
     |false=>AB P Q L Y' (kt ⟨u (B1 (DY S.H.next S.n) S.T) r,H',n',S.lv,S.D⟩)
     |true=>AB P Q L Y' (Xv (.pan r ⟨B1 (DY S.H.next S.n) S.T,H',n',S.lv,S.D⟩))),hst,λY' r H' hR=>?_,λY' v H' hR=>?_,λB pr E a w vs hy st hcon=>?_⟩
    obtain ⟨n',h1,h2,h3,h4⟩:=hR;exact hnext Y' ⟨u (B1 (DY S.H.next S.n) S.T) r,H',n',S.lv,S.D⟩ rfl h1 h2 h3 h4;obtain ⟨n',h1,h2,h3,h4⟩:=hR;exact hX Y' ⟨B1 (DY S.H.next S.n) S.T,H',n',S.lv,S.D⟩ v rfl h1 h2 h3 h4
    .refine Calls.mono (hs B pr E w vs hy st.t.gl st.r hcon) λe w' he=>?_;obtain ⟨Y',r,⟨n',lv',L',q1,q2,q3,q4,q5,q6⟩,E',hle,hy',hres⟩:=he;have hkeep:De S.H.next S.n E E':=⟨hle.phi,hle.sz,hle.imm,λi hi=>by rw [hy'.v,hy.v];exact q4 i hi⟩;have hst':∀H',Ao B pr E' H' w'->St P B pr N E' (B1 (DY S.H.next S.n) S.T) H' S.D a w':=λH' hr=>⟨⟨st.t.size,st.t.le,λt ht=>by
      have:=st.t.con t ht
      grind [EW,fi],st.t.gl.leF hle⟩,hr,Ys hkeep hD st.d⟩
     have hlek:E.leF c.k E':=⟨λi x hi=>hle.phi i x (zj' hi hk),hle.sz,hle.imm,hle.bim,hle.sy⟩
     have hlv:∀{A B:VT},AB P Q L' Y' (match Nat.beq lv' S.lv with
       |true=>A
       |false=>.bad)->lv'=S.lv/\AB P Q L Y' A:=λhv=>by
      split at hv
      .rename_i hb;have e:=ze' hb;have:L'=L:=(q1.eq_of_length (by omega)).symm
       grind
      grind [AB]
     cases r with
     |ret v H'=>obtain ⟨x,rfl,h1,h2⟩:=hres;obtain ⟨e,hv⟩:=hlv (B:=.bad) q6;exact ⟨E',Y',false,v,H',x,⟨n',q3,q4,q5,by grind⟩,hlek,hy',hst' H' h2,h1,rfl⟩
     |pan v H'=>obtain ⟨x,rfl,h1,h2⟩:=hres;obtain ⟨e,hv⟩:=hlv (B:=.bad) q6;exact ⟨E',Y',true,v,H',x,⟨n',q3,q4,q5,by grind⟩,hlek,hy',hst' H' h2,h1,rfl⟩
   exact h.elim
  exact h.elim
def r5_ (hm:P.follows .mixedOrders=true) (hc:Ci P (CO P fuel)) {o:Oper} {u:Tm->AV->Tm} {S:VS} {Y:Sy} {L:BD} {kt:VS->VT} {next:KP} {Xv:VX->VT} {X:XP} (hnext:Nx P Q c L S Y kt next) (hX:Nq P Q c L S Y Xv X) (hL:L.length=S.lv) (hf:Au P c S.n Y) {g:FuncId} {ag:List AV}
  (hst:(A0 P o).run S.T S.H=some (.call g ag)) (h:AB P Q L Y (Ww P fuel I c o u S g ag Xv kt)):
  ∃S',AL P N c.k Y S S'/\(H4 P o u Y S'.T S'.H S'.D next X\/Gg P N c.k o u Y S'.T S'.H S'.D next\/R1 P N c.k o u Y S'.T S'.H S'.D next\/MZ P N c.k o u Y S'.T S'.H S'.D next X):=by
 unfold Ww at h;split at h;obtain ⟨S',h1,h2⟩:=xq hnext hX hf hst h;exact ⟨S',h1,.inr (.inr (.inr h2))⟩;split at h;rename_i sh hsh;split at h;rename_i hso;exact ⟨S,AL.refl _ _ _ _ _,.inr (.inr (.inl (lS hnext rfl rfl rfl hf hso hst h)))⟩;split at h;rename_i r hst2;split at h;rename_i g' args';split at h;rename_i hb;obtain ⟨e1,hso⟩:=Aq hb;have e1:=ze' e1;subst e1;exact ⟨Ee S ag,AL.frz S ag,.inr (.inr (.inl (lS (S1:=Ee S ag) hnext rfl rfl rfl hf hso hst2 h)))⟩;exact h.elim;exact h.elim;exact h.elim;split at h;rename_i r hcall;split at h;rename_i a H';refine ⟨S,AL.refl _ _ _ _ _,.inl ?_⟩;unfold H4;rw [hst];refine λB pr E w vs hy hg hr hcon=>Calls.mono (hc g ag S.H _ hcall B pr E w vs hg hr hcon) λe w' he=>⟨_,?_,he⟩;exact hnext Y ⟨u S.T a,H',S.n,S.lv,S.D⟩ rfl (za' _) (AM.refl _ _) hf h;obtain ⟨S',h1,h2⟩:=iV hm hc hL hnext hX hf h;exact ⟨S',h1,.inr (.inr (.inr h2))⟩;obtain ⟨S',h1,h2⟩:=iV hm hc hL hnext hX hf h;exact ⟨S',h1,.inr (.inr (.inr h2))⟩
theorem su_ {o:Oper} {op:XOp} {ag:List AV} {S:VS} {Y:Sy} {L:BD} {kt:VS->VT} {next:KP} (hnext:Nx P Q c L S Y kt next) (hf:Au P c S.n Y) {id sz:Nat} (ha:ZQ P S o=some (id,sz,op,ag)) {u:Tm->AV->Tm}
  (h:AB P Q L Y (.lt op ag S.n none (kt ⟨u S.T (.slx S.H.next sz S.n),(S.H.erase id).push (.syl S.n),Nat.succ S.n,S.lv,S.D⟩))):Gg P N c.k o u Y S.T S.H S.D next:=by
 obtain ⟨r,hr,hok,htree⟩:=h;refine ⟨Y.put S.n r,.slx S.H.next sz S.n,(S.H.erase id).push (.syl S.n),hnext _ ⟨u S.T (.slx S.H.next sz S.n),(S.H.erase id).push (.syl S.n),Nat.succ S.n,S.lv,S.D⟩ rfl (zc' _) (AM.put r (za' _)) (hf.put r) htree,λB pr E a w hy st=>?_⟩;unfold ZQ at ha;split at ha;rename_i hD;rw [TE hD]at st⊢;exact st_ ha hf.1 hr hok hy st;cases ha
theorem qB_ {o:Oper} {op:XOp} {ag:List AV} {S:VS} {Y:Sy} {L:BD} {kt:VS->VT} {next:KP} (hnext:Nx P Q c L S Y kt next) (hf:Au P c S.n Y) {id sz:Nat} (ha:XT P S o=some (id,sz,op,ag)) {u:Tm->AV->Tm}
  (h:AB P Q L Y (.lt op ag S.n none (kt ⟨u S.T (.slx S.H.next sz S.n),(S.H.erase id).push (.syl S.n),Nat.succ S.n,S.lv,S.D⟩))):Gg P N c.k o u Y S.T S.H S.D next:=by
 obtain ⟨r,hr,hok,htree⟩:=h;refine ⟨Y.put S.n r,.slx S.H.next sz S.n,(S.H.erase id).push (.syl S.n),hnext _ ⟨u S.T (.slx S.H.next sz S.n),(S.H.erase id).push (.syl S.n),Nat.succ S.n,S.lv,S.D⟩ rfl (zc' _) (AM.put r (za' _)) (hf.put r) htree,λB pr E a w hy st=>?_⟩;unfold XT at ha;split at ha;rename_i hD;split at ha;rename_i q hq;rw [TE hD]at st⊢;cases ha;exact qm hq hf.1 hr hok hy st;exact wS ha hf.1 hr hok hy st;cases ha
theorem zW {o:Oper} {op:XOp} {ag:List AV} {S:VS} {Y:Sy} {L:BD} {kt:VS->VT} {next:KP} (hnext:Nx P Q c L S Y kt next) (hf:Au P c S.n Y) {id:Nat} (ha:YW P S o=some (id,op,ag)) {u:Tm->AV->Tm}
  (h:AB P Q L Y (.lt op ag S.n none (kt ⟨u S.T (.tup []),S.H.set id (.mpl S.n),Nat.succ S.n,S.lv,S.D⟩))):Gg P N c.k o u Y S.T S.H S.D next:=by
 obtain ⟨r,hr,hok,htree⟩:=h;refine ⟨Y.put S.n r,.tup [],S.H.set id (.mpl S.n),hnext _ ⟨u S.T (.tup []),S.H.set id (.mpl S.n),Nat.succ S.n,S.lv,S.D⟩ rfl (zc' _) (AM.put r (za' _)) (hf.put r) htree,λB pr E a w hy st=>?_⟩;unfold YW at ha;split at ha;rename_i hD;rw [TE hD]at st⊢;exact rI ha hf.1 hr hok hy st;cases ha
theorem TY {o:Oper} {op:XOp} {ag:List AV} {S:VS} {Y:Sy} {L:BD} {kt:VS->VT} {next:KP} (hnext:Nx P Q c L S Y kt next) (hf:Au P c S.n Y) {u:Tm->AV->Tm}
  (hlet:∀(r:AV),op.run P (Am Y.v ag)=some r->∀(B:World) (pr:Nat->Prop) (E:Ag) (a:Act) (w:World),E.At Y->St P B pr N E S.T S.H S.D a w->
    ∃E' n v w',(execOp a.eval o).run P w=.ok n w'/\(n=.value v\/(n=.skip/\v=undef))/\E.le E'/\St P B pr N E' S.T S.H S.D a w'/\Ac E' r v)
  (h:AB P Q L Y (.lt op ag S.n none (kt ⟨u S.T (.sym S.n),S.H,Nat.succ S.n,S.lv,S.D⟩))):Gg P N c.k o u Y S.T S.H S.D next:=by
 obtain ⟨r,hr,hok,htree⟩:=h;refine ⟨Y.put S.n r,.sym S.n,S.H,hnext _ ⟨u S.T (.sym S.n),S.H,Nat.succ S.n,S.lv,S.D⟩ rfl (zc' _) (AM.put r (za' _)) (hf.put r) htree,λB pr E a w hy st=>?_⟩;obtain ⟨E',n,v,w',h1,h2,h3,st',h5⟩:=hlet r hr B pr E a w hy st;have hy':=hy.le h3;have hv:∀i x,E'.sy i=some x->(Y.put S.n r).v i=some x:=λi x hx=>hf.1.sub_put r i x (by rw [←hy'.v];exact hx);have hll:∀i l,E'.syl i=some l->(Y.put S.n r).l i=some l:=λi l hx=>by rw [hy'.l]at hx;exact hx
 have hlo:∀i,i<64->(Y.put S.n r).v i=E'.sy i:=λi hi=>by rw [hy'.v];exact hf.1.low r i hi
 refine ⟨E'.with (Y.put S.n r),n,v,w',h1,h2,(h3.leF c.k).trans (Ag.with_leF c.k hlo),⟨rfl,rfl,hy'.res⟩,st'.with hv hll hlo,?_⟩;exact ⟨r,Sy.put_same _ _ _,Fn hok,(Jk hok h5).with⟩
theorem wI {o:Oper} {op:XOp} {ag:List AV} {S:VS} {Y:Sy} {L:BD} {kt:VS->VT} {next:KP} (hnext:Nx P Q c L S Y kt next) (hf:Au P c S.n Y) (ha:Fa S.T o=some (op,ag)) {u:Tm->AV->Tm}
  (h:AB P Q L Y (.lt op ag S.n none (kt ⟨u S.T (.sym S.n),S.H,Nat.succ S.n,S.lv,S.D⟩))):Gg P N c.k o u Y S.T S.H S.D next:=by
 obtain ⟨r,hr,hok,htree⟩:=h;refine ⟨Y.put S.n r,.sym S.n,S.H,hnext _ ⟨u S.T (.sym S.n),S.H,Nat.succ S.n,S.lv,S.D⟩ rfl (zc' _) (AM.put r (za' _)) (hf.put r) htree,λB pr E a w hy st=>?_⟩;obtain ⟨E',n,v,w',h1,h2,h3,st',h5⟩:=vo ha hr hy st;have hy':=hy.le h3;have hv:∀i x,E'.sy i=some x->(Y.put S.n r).v i=some x:=λi x hx=>hf.1.sub_put r i x (by rw [←hy'.v];exact hx);have hll:∀i l,E'.syl i=some l->(Y.put S.n r).l i=some l:=λi l hx=>by rw [hy'.l]at hx;exact hx
 have hlo:∀i,i<64->(Y.put S.n r).v i=E'.sy i:=λi hi=>by rw [hy'.v];exact hf.1.low r i hi
 refine ⟨E'.with (Y.put S.n r),n,v,w',h1,h2,(h3.leF c.k).trans (Ag.with_leF c.k hlo),⟨rfl,rfl,hy'.res⟩,st'.with hv hll hlo,?_⟩;exact ⟨r,Sy.put_same _ _ _,Fn hok,(Jk hok h5).with⟩
theorem gC {o:Oper} {u:Tm->AV->Tm} {S:VS} {Y:Sy} {L:BD} {kt:VS->VT} {next:KP} (hnext:Nx P Q c L S Y kt next) (hf:Au P c S.n Y) {op:XOp} {ag:List AV} (hl:FI S.T o=some (op,ag)) (hs:Bi ag=true)
  (h:AB P Q L Y (SP P c u S kt op ag)):Gg P N c.k o u Y S.T S.H S.D next:=by
 unfold SP at h;split at h;split at h;rename_i v hv;exact xo (S:=S.x) hf.2 hl hs hv (hnext Y ⟨u S.T v,S.H,S.n,S.lv,S.D⟩ rfl (za' _) (AM.refl _ _) hf h);refine jD hf hl hs h λY' x n' f0 f1 f2 f3 f4 f5=>?_;obtain ⟨rfl,rfl⟩:=f4 rfl;exact hnext Y' ⟨_,S.H,_,S.lv,S.D⟩ rfl f0 f1 f2 f3;rename_i m hm;refine jD hf hl hs h λY' x n' f0 f1 f2 f3 f4 f5=>?_;obtain ⟨rfl,rfl⟩:=f5 m rfl;exact hnext Y' ⟨_,S.H,_,S.lv,S.D⟩ rfl f0 f1 f2 f3
theorem sU {o:Oper} {u:Tm->AV->Tm} {S:VS} {Y:Sy} {L:BD} {kt:VS->VT} {next:KP} (hnext:Nx P Q c L S Y kt next) (hf:Au P c S.n Y) {t:VT} (ht:Wq P c o u S kt=some t) (h:AB P Q L Y t):Gg P N c.k o u Y S.T S.H S.D next:=by
 unfold Wq at ht;split at ht;cases ht;split at ht;rename_i a ha;cases ht;refine ⟨Y,a,S.H,hnext Y ⟨u S.T a,S.H,S.n,S.lv,S.D⟩ rfl (za' _) (AM.refl _ _) hf h,λB pr E ac w hy st=>?_⟩;obtain ⟨v,h1,h2⟩:=pw st.r (λx=>st.t.look x) ha;exact ⟨E,.value v,v,w,h1,.inl rfl,Ag.leF_refl _ _,hy,st,h2⟩;split at ht;rename_i op ag id sz ha;cases ht;obtain ⟨r,hr,hok,htree⟩:=h;exact ⟨Y.put S.n r,.ptx id S.n sz 0,S.H,hnext _ ⟨u S.T (.ptx id S.n sz 0),S.H,Nat.succ S.n,S.lv,S.D⟩ rfl (zc' _) (AM.put r (za' _)) (hf.put r) htree,λB pr E ac w hy st=>qZ ha hf.1 hr hok hy st⟩;split at ht
 .rename_i op ag ha;have key:∀(r:AV) (Y':Sy) (x:AV),op.run P (Am Y.v ag)=some r->AA Y S.n->(∀i y,Y.v i=some y->Y'.v i=some y)->Y'.l=Y.l->(∀i,i<64->Y'.v i=Y.v i)->(∀(E:Ag) v,E.sy=Y.v->Ac E r v->Ac (E.with Y') x v)->
    ∀(B:World) (pr:Nat->Prop) (E:Ag) (ac:Act) (w:World),E.At Y->St P B pr N E S.T S.H S.D ac w->
    ∃E' n v w',(execOp ac.eval o).run P w=.ok n w'/\(n=.value v\/(n=.skip/\v=undef))/\E.leF c.k E'/\E'.At Y'/\St P B pr N E' S.T S.H S.D ac w'/\Ac E' x v:=by
   intro r Y' x hr _ hv hl hlo hcx B pr E ac w hy st;obtain ⟨v,h1,h2⟩:=XN st.r (λx=>st.t.look x) ha (by rw [hy.v];exact hr);have hv':∀i y,E.sy i=some y->Y'.v i=some y:=λi y hy'=>hv i y (by rw [←hy.v];exact hy');have hl':∀i l,E.syl i=some l->Y'.l i=some l:=λi l hx=>(by rw [hl,←hy.l];exact hx);have hlo':∀i,i<64->Y'.v i=E.sy i:=λi hi=>(by rw [hlo i hi,hy.v]);exact ⟨E.with Y',.value v,v,w,h1,.inl rfl,Ag.with_leF _ hlo',⟨rfl,rfl,hy.res⟩,st.with hv' hl' hlo',hcx E v hy.v h2⟩
  split at ht;cases ht;obtain ⟨r,hr,hok,htree⟩:=h;refine ⟨Y.put S.n r,.sym S.n,S.H,hnext _ ⟨u S.T (.sym S.n),S.H,Nat.succ S.n,S.lv,S.D⟩ rfl (zc' _) (AM.put r (za' _)) (hf.put r) htree,key r _ _ hr hf.1 (λi y hy=>hf.1.sub_put r i y hy) rfl (λi hi=>hf.1.low r i hi) λE v he hc=>?_⟩;exact ⟨r,Sy.put_same _ _ _,Fn hok,(Jk hok hc).with⟩;rename_i mm hmm;cases ht;obtain ⟨cs,hr,hlen,hok,htree⟩:=h;obtain ⟨f1,f2,f3,f4⟩:=hf.1.puts cs;refine ⟨Y.puts S.n cs,.agg (Af S.n mm),S.H,hnext _ ⟨u S.T (.agg (Af S.n mm)),S.H,Nat.add S.n mm,S.lv,S.D⟩ rfl (zh' _ _) (AM.puts cs _ (za' _)) (by rw [←hlen];exact hf.puts cs) htree,key _ _ _ hr hf.1 f2 f3 f4 λE v he hc=>?_⟩;obtain ⟨vs,rfl,hL⟩:=hc;refine ⟨vs,rfl,?_⟩;rw [←hlen];exact NQ S.n cs vs hok (λi a ha=>Gj cs hf.1 i a ha) (I4 (E:=E) (E':=E.with (Y.puts S.n cs)) (λ_ _ _ h=>h) (GJ hok hL))
 split at ht;rename_i op ag id ha;cases ht;obtain ⟨r,hr,hok,htree⟩:=h;exact ⟨Y.put S.n r,.tup [],S.H.set id (.syl S.n),hnext _ ⟨u S.T (.tup []),S.H.set id (.syl S.n),Nat.succ S.n,S.lv,S.D⟩ rfl (zc' _) (AM.put r (za' _)) (hf.put r) htree,λB pr E ac w hy st=>qL ha hf.1 hr hok hy st⟩;split at ht;rename_i op ag id sz ha;cases ht;obtain ⟨r,hr,hok,htree⟩:=h;exact ⟨Y.put S.n r,.slx id sz S.n,S.H.set id (.syl S.n),hnext _ ⟨u S.T (.slx id sz S.n),S.H.set id (.syl S.n),Nat.succ S.n,S.lv,S.D⟩ rfl (zc' _) (AM.put r (za' _)) (hf.put r) htree,λB pr E ac w hy st=>wB ha hf.1 hr hok hy st⟩;cases ht
def ve (hm:P.follows .mixedOrders=true) (hc:Ci P (CO P fuel)) {o:Oper} {u:Tm->AV->Tm} {S:VS} {Y:Sy} {L:BD} {kt:VS->VT} {next:KP} {Xv:VX->VT} {X:XP} (hnext:Nx P Q c L S Y kt next) (hX:Nq P Q c L S Y Xv X) (hL:L.length=S.lv) (hf:Au P c S.n Y)
  (h:AB P Q L Y (bL P fuel I c o u S Xv kt)):
  ∃S':VS,AL P N c.k Y S S'/\(H4 P o u Y S'.T S'.H S'.D next X\/Gg P N c.k o u Y S'.T S'.H S'.D next\/R1 P N c.k o u Y S'.T S'.H S'.D next\/MZ P N c.k o u Y S'.T S'.H S'.D next X):=by
 unfold bL at h;split at h;rename_i r hrun;split at h;rename_i a H';refine ⟨S,AL.refl _ _ _ _ _,.inl ?_⟩;unfold H4;rw [hrun];exact hnext Y ⟨u S.T a,H',S.n,S.lv,S.D⟩ rfl (za' _) (AM.refl _ _) hf h;exact r5_ hm hc hnext hX hL hf hrun h;rename_i g ag;refine ⟨S,AL.refl _ _ _ _ _,.inl ?_⟩;unfold H4;rw [hrun];exact hnext Y ⟨u S.T (.tup []),S.H,S.n,S.lv,(g,ag)::S.D⟩ rfl (za' _) (AM.refl _ _) hf h;rename_i v;refine ⟨S,AL.refl _ _ _ _ _,.inl ?_⟩;unfold H4;rw [hrun];exact hX Y S v rfl (za' _) (AM.refl _ _) hf h;exact h.elim
 .split at h
  .rename_i i a b hp;obtain ⟨t,ht,h1,h2⟩:=h;unfold XG at hp;split at hp
   .rename_i cd a' b' ho;split at hp
    .rename_i i' hl;cases hp;refine ⟨S.know i t,AL.know ht S,.inl ?_⟩;have hlook:look (S.know i t).T cd=.bool t:=YK hl S.x rfl t;have hst:(A0 P o).run (S.know i t).T (S.know i t).H=some (.val (match t with|true=>look (S.know i t).T a|false=>look (S.know i t).T b) S.H):=by unfold A0;rw [ho];show OC.run (.po λT=>S4 (look T cd) (look T a) (look T b)) _ _=_;unfold OC.run;simp only;rw [hlook];cases t<;>rfl
     unfold H4;rw [hst];cases t with
     |true=>exact hnext Y ⟨u (S.know i true).T (look (S.know i true).T a),S.H,S.n,S.lv,S.D⟩ rfl (za' _) (AM.refl _ _) hf (h1 rfl)
     |false=>exact hnext Y ⟨u (S.know i false).T (look (S.know i false).T b),S.H,S.n,S.lv,S.D⟩ rfl (za' _) (AM.refl _ _) hf (h2 rfl)
    cases hp
   cases hp
  .rename_i hp;split at h;rename_i v hv;exact ⟨S,AL.refl _ _ _ _ _,.inr (.inl (qM_ (S:=S.x) hf.2 hv (hnext Y ⟨u S.T v,S.H,S.n,S.lv,S.D⟩ rfl (za' _) (AM.refl _ _) hf h)))⟩;split at h
   .grind [AL.refl,sU]
   split at h
   .grind [AL.refl,su_]
   split at h
   .grind [AL.refl,qB_]
   split at h
   .grind [AL.refl,wI]
   split at h
   .grind [AL.refl,zW]
   split at h
   .rename_i op ag ha;split at h
    .grind [AL.refl,TY,ul]
    exact h.elim
   split at h
   .grind [AL.refl,TY,wo]
   split at h
   .grind [AL.refl,TY,y0]
   split at h
   .grind [AL.refl,TY,uU]
   split at h
   .rename_i op ag hl;split at h
    .grind [AL.refl,gC]
    split at h;rename_i op' args' hl';split at h;rename_i hs;exact ⟨Ee S ag,AL.frz S ag,.inr (.inl (gC (S:=Ee S ag) hnext hf hl' hs h))⟩;exact h.elim;exact h.elim
   exact h.elim
def yI (hm:P.follows .mixedOrders=true) (hc:Ci P (CO P fuel)) {all:List Oper} {o:Oper} {u:Tm->AV->Tm} {S:VS} {Y:Sy} {L:BD} {kt:VS->VT} {next:KP} {Xv:VX->VT} {X:XP} (hnext:Nx P Q c L S Y kt next) (hX:Nq P Q c L S Y Xv X) (hL:L.length=S.lv) (hf:Au P c S.n Y)
  (h:AB P Q L Y (OV P fuel I c all o u Xv kt S)):
  ∃S':VS,AL P N c.k Y S S'/\∃t,(match Dy all o with
    | .always=>some true
    | .mk g=>g S'.T)=some t/\(t=true->H4 P o u Y S'.T S'.H S'.D next X\/Gg P N c.k o u Y S'.T S'.H S'.D next\/R1 P N c.k o u Y S'.T S'.H S'.D next\/MZ P N c.k o u Y S'.T S'.H S'.D next X)/\(t=false->next Y (u S'.T (.tup [])) S'.H S'.D):=by
 unfold OV ma at h;split at h
 .rename_i t ht;split at h;exact ⟨S,AL.refl _ _ _ _ _,false,ht,(λe=>by cases e),λ_=>hnext Y ⟨u S.T (.tup []),S.H,S.n,S.lv,S.D⟩ rfl (za' _) (AM.refl _ _) hf h⟩
  .obtain ⟨S',h1,h2⟩:=ve (N:=N) (X:=X) hm hc hnext hX hL hf h;refine ⟨S',h1,true,?_,λ_=>h2,λe=>by cases e⟩;split at ht
   .grind
   rename_i g hg;rw [hg];exact h1.2 _ _ _ _ hg ht
 exact h.elim
theorem yR (b:Bool) (o:Oper) (S:VS) (Y:Sy):AY P N c.k Y S.T S.H S.D Y (MQ b o S).T (MQ b o S).H (MQ b o S).D/\(MQ b o S).n=S.n/\(MQ b o S).lv=S.lv:=by
 have key:∀l:List AV,AY P N c.k Y S.T S.H S.D Y (Ee S l).T (Ee S l).H (Ee S l).D/\(Ee S l).n=S.n/\(Ee S l).lv=S.lv:=λl=>⟨Tj _,rfl,rfl⟩;have key0:AY P N c.k Y S.T S.H S.D Y S.T S.H S.D/\S.n=S.n/\S.lv=S.lv:=⟨AY.refl _ _ _ _ _ _ _,rfl,rfl⟩;unfold MQ;repeat' split
 all_goals first|exact key0|exact key _|exact ⟨cH _ _,rfl,rfl⟩
theorem Vy (hm:P.follows .mixedOrders=true) (hc:Ci P (CO P fuel)) {all:List Oper} {X:VX->VT} {K:VS->VT} {L:BD}:∀(l:List Oper) (S:VS) (Y:Sy),L.length=S.lv->Au P c S.n Y->AB P Q L Y (Ka P N fuel I c all X l S K)->Hw P N c.k all l Y S.T S.H S.D (kV P Q c L S.n Y K) (xV P Q c L S.n Y X)
 |[],S,Y,hL,hf,h=>⟨S.n,S.lv,L,zi' L,hL,za' _,AM.refl _ _,hf,h⟩
 |o::r,S,Y,hL,hf,h=>by
  have ih:=Vy hm hc (all:=all) (X:=X) (K:=K) (L:=L) r;have fin:∀(S1:VS) (u:Tm->AV->Tm),CP N o.dst=.mk u->S1.n=S.n->S1.lv=S.lv->AY P N c.k Y S.T S.H S.D Y S1.T S1.H S1.D->AB P Q L Y (OV P fuel I c all o u X (λS=>Ka P N fuel I c all X r S K) S1)->
    Hw P N c.k all (o::r) Y S.T S.H S.D (kV P Q c L S.n Y K) (xV P Q c L S.n Y X):=by
   intro S1 u hu hn1 hl1 hw h1;obtain ⟨S',h2,t,ht,h3,h4⟩:=yI (N:=N) (X:=xV P Q c L S.n Y X) (next:=λY' T H D=>Hw P N c.k all r Y' T H D (kV P Q c L S.n Y K) (xV P Q c L S.n Y X)) hm hc (λY' S2 g1 g2 g3 g4 g5=>by
    rw [hn1]at g2 g3;exact X1 (λ_ _ _ _ hk=>U6 (zi' L) g2 g3 hk) (λ_ _ h=>JP (zi' L) g2 g3 h) _ _ _ _ _ (ih S2 Y' (by omega) g4 g5))
    (λY' S2 v g1 g2 g3 g4 hv=>⟨S2.n,S2.lv,L,zi' L,by omega,by omega,by grind,g4,hv⟩) (by omega) (by grind) h1
   refine ⟨Y,S'.T,S'.H,S'.D,hw.trans h2.1,?_⟩
   grind
  unfold Ka at h;split at h;exact h.elim
  .rename_i u hu;split at h
   .rename_i i hg;obtain ⟨t,ht,h1,h2⟩:=h;cases t with
    |true=>exact fin (S.know i true) u hu rfl rfl (VG ht S.x S.D) (h1 rfl)
    |false=>exact fin (S.know i false) u hu rfl rfl (VG ht S.x S.D) (h2 rfl)
   grind [yR]
end
end Go.Sx
