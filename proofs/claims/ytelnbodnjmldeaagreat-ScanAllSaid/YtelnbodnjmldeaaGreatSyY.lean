/-
  A call of a function that takes rows, in a heap that holds them.
-/
import Derived.Test.YtelnbodnjmldeaaGreatSyH
set_option linter.all false
open Nat renaming le_refl→za',lt_or_ge→zb',le_succ→zc',blt_eq→zd',eq_of_beq_eq_true→ze',le_add_right→zh',lt_of_lt_of_le→zj',le_of_ble_eq_true→zk'
open List renaming mem_cons_self→zf',mem_cons_of_mem→zg',prefix_refl→zi'
namespace Go.Sx
theorem Wh:∀(n:Nat) (l:List Nat),VA n l=l[n]?
 |n,[]=>by cases n<;>rfl
 |0,a::r=>rfl
 |n+1,a::r=>by simp [VA,Wh n r]
theorem gu:∀(l:List Nat) (a:Nat),LE.snoc l a=l++[a]
 |[],a=>rfl
 |x::r,a=>by simp [LE.snoc,gu r a]
def kD {m:MR}:∀{k:Nat} {l:List Nat},LE m k=some l->l.length=k/\∀i,i<k->∃a,l[i]? =some a/\Mu m i=some a
 |0,l,h=>by cases h;simp
 |k+1,l,h=>by
  unfold LE at h;split at h
  case h_2=>cases h
  rename_i l' hl;split at h
  case h_2=>cases h
  rename_i a ha;cases h;obtain ⟨h1,h2⟩:=kD hl;rw [gu];refine ⟨by simp [h1],λi hi=>?_⟩;rcases zb' i k with hlt|hge;obtain ⟨b,q1,q2⟩:=h2 i hlt;exact ⟨b,by rw [List.getElem?_append_left (by omega)];exact q1,q2⟩;have:i=k:=(by omega);subst this;exact ⟨a,by rw [List.getElem?_append_right (by omega),h1];simp,ha⟩
theorem nO {H:AHeap}:∀{l:List Nat},Ti H l=true->∀(i:Nat) (a:Nat),l[i]? =some a->∃k,H.get a=some k
 |[],_,i,a,hi=>by simp at hi
 |b::r,h,i,a,hi=>by
  obtain ⟨h1,h2⟩:=Au h;cases i with
  |zero=>simp at hi;subst hi;exact Option.isSome_iff_exists.1 h1
  |succ i=>exact nO h2 i a (by simpa using hi)
theorem af:∀{l:List (Nat×Nat)} {acc:List Nat} {a:Nat},a∈NA l acc↔(∃i,(i,a)∈l)\/a∈acc
 |[],acc,a=>by simp [NA]
 |(j,b)::r,acc,a=>by
  simp only [NA,CE,af (l:=r)];constructor
  .rintro (rfl|⟨i,hi⟩|h)<;>grind
  grind
theorem Un:∀{l:List DA} {acc:List Nat} {a:Nat},a∈Ml l acc↔(∃d,d∈l/\d.act=some a)\/a∈acc
 |[],acc,a=>by simp [Ml]
 |d::r,acc,a=>by
  unfold Ml;split
  .simp only [CE,Un (l:=r)]
   grind
  .rw [Un (l:=r)]
   grind
def de:∀{l:List (Nat×Nat)} {acc:List (Nat×Nat)} {i j:Nat},(i,j)∈Yp l acc->(j,i)∈l\/(i,j)∈acc
 |[],acc,i,j,h=>.inr h
 |(a,b)::r,acc,i,j,h=>by rcases List.mem_cons.1 h with h|h;cases h;exact .inl (zf' ..);exact (de (l:=r) h).imp (zg' _) id
def ZN:∀{l:List DA} {acc:List (Nat×Nat)} {i j:Nat},(i,j)∈RD l acc->(∃d,d∈l/\d.act=some i)\/(i,j)∈acc
 |[],acc,i,j,h=>.inr h
 |d::r,acc,i,j,h=>by unfold RD at h;split at h;rename_i q hq;rcases List.mem_cons.1 h with h|h;cases h;exact .inl ⟨d,zf' ..,hq⟩;exact (ZN (l:=r) h).imp (λ⟨x,h1,h2⟩=>⟨x,zg' _ h1,h2⟩) id;exact (ZN (l:=r) h).imp (λ⟨x,h1,h2⟩=>⟨x,zg' _ h1,h2⟩) id
def MR.act (m:MR):List Nat:=Ml m.ds (NA m.rn [])
theorem sM_ {m:MR} {i j:Nat} (h:BT m.inv i=some j):i∈m.act:=by
 rw [MR.act,Un];rcases ZN (G9 h)with h|h;exact .inl h
 .rcases de h with h|h<;>grind [af]
theorem yi {m:MR} {i a:Nat} (h:Mu m i=some a):a∈m.act:=by
 rw [MR.act,Un];unfold Mu at h;split at h;rename_i b hb;cases h;exact .inr (af.2 (.inl ⟨i,G9 hb⟩))
 grind [Jk]
structure Er (hv:List AV) (n:Nat) (r:Nat->Nat) (E1 E2:Ag):Prop where
 φ:∀i x,i<Bb->E1.φ i=some x->E2.φ (r i)=some x
 sz:∀b n,E1.sz b=some n->E2.sz b=some n
 imm:∀b o v,E1.imm b o=some v->E2.imm b o=some v
 sy:∀i a,E1.sy i=some a->E2.sy (GV hv n i)=some a
 cst:∀i a x,E1.sy i=some a->¬i<64->C8 (i-64) hv=some x->okC x=true->x=a
theorem R9 {hv:List AV} {n:Nat} {r:Nat->Nat} {E1 E:Ag} (h:Er hv n r E1 E) {a:AV} {v:Value} (hc:Aj E1 a v):Aj E a v:=Js h.imm hc
def NI {i:Nat} (h:Nat.blt i Bb=true):i<Bb:=by simp_all
mutual
theorem T7 {hv:List AV} {n:Nat} {r:Nat->Nat} {E1 E:Ag} (h:Er hv n r E1 E):∀{a:AV} {v:Value},Ip a=true->Ac E1 a v->Ac E (Ee hv n r a) v
 | .opq,_,_,hc=>by simp [Ee,Ac]
 | .bool _,_,_,hc=>by grind [Ee,Ac]
 | .int _ _,_,_,hc=>by grind [Ee,Ac]
 | .flt _ _,_,_,hc=>by grind [Ee,Ac]
 | .nan _,_,_,hc=>by grind [Ee,Ac]
 | .str _,_,_,hc=>by grind [Ee,Ac]
 | .nptr,_,_,hc=>by grind [Ee,Ac]
 | .nsl,_,_,hc=>by grind [Ee,Ac]
 | .nmap,_,_,hc=>by grind [Ee,Ac]
 | .nfn,_,_,hc=>by grind [Ee,Ac]
 | .nif,_,_,hc=>by grind [Ee,Ac]
 | .ptr id off,v,ht,hc=>by obtain ⟨b,o,h1,h2⟩:=hc;exact ⟨b,o,h.φ _ _ (NI ht) h1,h2⟩
 | .sl id off len sz cap,v,ht,hc=>by obtain ⟨b,o,n,c,off',h1,h2,h3⟩:=hc;exact ⟨b,o,n,c,off',h.φ _ _ (NI ht) h1,h.sz _ _ h2,h3⟩
 | .map id,v,ht,hc=>by obtain ⟨b,h1,h2⟩:=hc;exact ⟨b,h.φ _ _ (NI ht) h1,h2⟩
 | .slx id sz i,v,ht,hc=>by obtain ⟨a,h1,h2⟩:=hc;refine ⟨a,h.sy _ _ h1,h2.imp (λh=>h) λh2=>?_⟩;obtain ⟨len,cs,e,b,o,n,c,off',k1,k2,k3⟩:=h2;exact ⟨len,cs,e,b,o,n,c,off',h.φ _ _ (NI ht) k1,h.sz _ _ k2,k3⟩
 | .ptx id j sz off,v,ht,hc=>by obtain ⟨k,n,h1,b,o,h2,h3⟩:=hc;exact ⟨k,n,h.sy _ _ h1,b,o,h.φ _ _ (NI ht) h2,h3⟩
 | .vptr cs,v,ht,hc=>by obtain ⟨b,o,vs,h1,h2,h3⟩:=hc;exact ⟨b,o,vs,h1,OT h ht h2,λi v hv=>h.imm _ _ _ (h3 i v hv)⟩
 | .vsl len sz cs,v,ht,hc=>by obtain ⟨b,o,vs,c,h1,h2,h3,h4⟩:=hc;exact ⟨b,o,vs,c,h1,h2,OT h ht h3,λi v hv=>h.imm _ _ _ (h4 i v hv)⟩
 | .fn f cs,v,ht,hc=>by simp only [Ip]at ht;simp only [Ee,Ac]at hc⊢;obtain ⟨vs,h1,h2⟩:=hc;exact ⟨vs,h1,OT h ht h2⟩
 | .iface t a,v,ht,hc=>by simp only [Ip]at ht;simp only [Ee,Ac]at hc⊢;obtain ⟨u,h1,h2⟩:=hc;exact ⟨u,h1,T7 h ht h2⟩
 | .agg cs,v,ht,hc=>by simp only [Ip]at ht;simp only [Ee,Ac]at hc⊢;obtain ⟨vs,h1,h2⟩:=hc;exact ⟨vs,h1,OT h ht h2⟩
 | .tup cs,v,ht,hc=>by simp only [Ip]at ht;simp only [Ee,Ac]at hc⊢;obtain ⟨vs,h1,h2⟩:=hc;exact ⟨vs,h1,OT h ht h2⟩
 | .sym i,v,_,hc=>by
   obtain ⟨a,h1,h2,h3⟩:=hc;have key:Ac E (.sym (GV hv n i)) v:=(by exact ⟨a,h.sy _ _ h1,h2,R9 h h3⟩);simp only [Ee];unfold dR;split
   .grind [GV]
   .rename_i hb;have hlt:¬i<64:=λhlt=>by
     grind [zd']
    split;rename_i x hx;split;rename_i hok;have:=h.cst i a x h1 hlt hx hok;subst this;exact (R9 h h3).con;exact key;exact key
theorem OT {hv:List AV} {n:Nat} {r:Nat->Nat} {E1 E:Ag} (h:Er hv n r E1 E):∀{as:List AV} {vs:List Value},HU as=true->Ah E1 as vs->Ah E (Fu hv n r as) vs
 |[],_,_,hc=>by grind [Fu,Ah]
 |a::as,vs,ht,hc=>by obtain ⟨t1,t2⟩:=Au ht;simp only [Fu,Ah]at hc⊢;obtain ⟨v,t,h1,h2,h3⟩:=hc;exact ⟨v,t,h1,T7 h t1 h2,OT h t2 h3⟩
end
theorem nM (hv:List AV) (n:Nat) (r:Nat->Nat):∀(cs:List AV) (i:Nat),(Fu hv n r cs)[i]? =cs[i]?.map (Ee hv n r)
 |[],i=>by simp [Fu]
 |a::cs,0=>by simp [Fu]
 |a::cs,i+1=>by simpa [Fu]using nM hv n r cs i
theorem oK (hv:List AV) (n:Nat) (r:Nat->Nat):∀cs:List AV,(Fu hv n r cs).length=cs.length
 |[]=>rfl
 |a::cs=>by simp [Fu,oK hv n r cs]
def pz:∀{cs:List AV},HU cs=true->∀(i:Nat) (a:AV),cs[i]? =some a->Ip a=true
 |[],_,i,a,h=>by simp at h
 |b::r,ht,i,a,h=>by
  obtain ⟨t1,t2⟩:=Au ht;cases i with
  |zero=>simp at h;subst h;exact t1
  |succ i=>exact pz t2 i a (by simpa using h)
def lq:A2->Prop
 | .cells cs=>HU cs=true
 |_=>True
def sy_ {hv:List AV} {n:Nat} {r:Nat->Nat} {E1 E:Ag} (h:Er hv n r E1 E) {w:World} {b o:Nat} {k k':A2} (ht:lq k) (hm:QL hv n r k=some k') (hk:BlkAt E1 w b o k):BlkAt E w b o k':=by
 cases k with
 |cells cs=>
  cases hm;obtain ⟨arr,t,h1,h2,h3,h4⟩:=hk;refine ⟨arr,t,h1,h.sz _ _ h2,by rw [oK];exact h3,λi a ha=>?_⟩;rw [nM]at ha;cases hc:cs[i]? with
  |none=>grind
  |some a'=>rw [hc]at ha;cases ha;obtain ⟨v,hv',hcon⟩:=h4 i a' hc;exact ⟨v,hv',T7 h (pz ht i a' hc) hcon⟩
 |syl j=>
  cases hm;obtain ⟨len,sz,cs,h0,hlen,arr,t,h1,h2,h3,h4⟩:=hk;refine ⟨len,sz,cs,h.sy _ _ h0,hlen,arr,t,h1,h.sz _ _ h2,h3,λi a ha=>?_⟩
  grind [R9]
 |mpl j=>cases hm;obtain ⟨h0,n,cs,h1,es',clock,h2,h3,h4⟩:=hk;exact ⟨h0,n,cs,h.sy _ _ h1,es',clock,h2,h3,h4.imp λ_ _ hc=>R9 h hc⟩
 |map es c=>cases hm
 |fz cs=>cases hm
def w8 {hv:List AV} {n:Nat} {r:Nat->Nat} {E1 E:Ag} (h:Er hv n r E1 E) {k k':A2} (hm:QL hv n r k=some k') (hk:CW E1 k):CW E k':=by
 cases k with
 |syl j=>cases hm;exact h.sy _ _ hk
 |cells cs=>exact hk.elim
 |mpl j=>exact hk.elim
 |map es c=>cases hm
 |fz cs=>cases hm
def SG {hv:List AV} {n:Nat} {r:Nat->Nat} {F base:AHeap} (hr:∀id k,F.get id=some k->r id<Bb):∀(ids:List Nat) (x:Nat) (kk:A2),(J4 hv n r F base ids).get x=some kk->(∃id k,x=r id/\F.get id=some k/\QL hv n r k=some kk)\/base.get x=some kk
 |[],x,kk,h=>.inr h
 |id::l,x,kk,h=>by
  unfold J4 at h;split at h
  .rename_i k hk;split at h
   .rename_i k' hk';by_cases e:r id=x
    .subst e;rw [AHeap.get_set_same _ (hr id k hk)]at h
     grind
    rw [AHeap.get_set_ne _ (hr id k hk) e]at h;exact SG hr l x kk h
   exact SG hr l x kk h
  exact SG hr l x kk h
def iJ {hv:List AV} {n:Nat} {r:Nat->Nat} {F base:AHeap}:∀(ids:List Nat),(J4 hv n r F base ids).next=base.next/\(J4 hv n r F base ids).hi=base.hi
 |[]=>⟨rfl,rfl⟩
 |id::l=>by have:=iJ (hv:=hv) (n:=n) (r:=r) (F:=F) (base:=base) l;unfold J4;split;split;exact this;exact this;exact this
theorem NH:∀{ms:List (Nat×Nat)} {acc:List Nat} {id:Nat},id∈NL ms acc↔(∃j,(id,j)∈ms)\/id∈acc
 |[],acc,id=>by simp [NL]
 |(i,j)::r,acc,id=>by
  simp only [NL,CE,NH (ms:=r)];constructor
  .rintro (rfl|⟨q,h⟩|h)<;>grind
  grind
theorem cX:∀{rows:List (Nat×List AV)} {id:Nat},id∈QG rows↔∃cs,(id,cs)∈rows
 |[],id=>by simp [QG]
 |(i,c)::r,id=>by
  simp only [QG,CE,cX (rows:=r)];constructor
  .rintro (rfl|⟨q,h⟩)<;>grind
  grind
theorem O6:∀{ts:List TA} {l:List Nat} {id:Nat},id∈HA ts l↔(∃t,t∈ts/\t.id=id)\/id∈l
 |[],l,id=>by simp [HA]
 |t::r,l,id=>by
  simp only [HA,CE,O6 (ts:=r)]
  grind
def ep:∀{l:List Nat},Oe l=true->∀id,id∈l->id<Bb
 |[],_,id,h=>by cases h
 |i::r,ht,id,h=>by obtain ⟨t1,t2⟩:=Au ht;rcases List.mem_cons.1 h with rfl|h;exact NI t1;exact ep t2 id h
def cY {n:Nat}:∀{rows:List (Nat×List AV)},Oy n rows=true->∀id cs,(id,cs)∈rows->HU (CB n cs)=true
 |[],_,id,cs,h=>by cases h
 |(i,c)::r,ht,id,cs,h=>by obtain ⟨t1,t2⟩:=Au ht;rcases List.mem_cons.1 h with h|h;cases h;exact t1;exact cY t2 id cs h
def lr {n:Nat} {H0:AHeap}:∀{ts:List TA},(∀t,t∈ts->t.id<Bb)->∀id k,(Lx n H0 ts).get id=some k->(∃j,k=.syl j)\/H0.get id=some k
 |[],_,id,k,hk=>.inr hk
 |t::r,hlt,id,k,hk=>by
  have ht:=hlt t (zf' ..);unfold Lx at hk;by_cases e:t.id=id
  .subst e;rw [AHeap.get_set_same _ ht]at hk
   grind
  rw [AHeap.get_set_ne _ ht e]at hk;exact lr (λd hd=>hlt d (zg' _ hd)) id k hk
def uC {tp:BH} {n:Nat} (hr:Oy n tp.rows=true) (hN:Oe (HA tp.acc tp.ids)=true):∀id k,(tp.heap n).get id=some k->lq k:=by intro id k hk;have hid:∀i,i∈HA tp.acc tp.ids->i<Bb:=ep hN;have h1:∀a b,(a,b)∈tp.fix->a<Bb:=λa b h=>hid a (O6.2 (.inr (NH.2 (.inl ⟨b,h⟩))));have h2:∀a b,(a,b)∈tp.maps->a<Bb:=λa b h=>hid a (O6.2 (.inr (NH.2 (.inr (NH.2 (.inl ⟨b,h⟩))))));have h3:∀a b,(a,b)∈tp.rows->a<Bb:=λa b h=>hid a (O6.2 (.inr (NH.2 (.inr (NH.2 (.inr (cX.2 ⟨b,h⟩)))))));have h4:∀t,t∈tp.acc->t.id<Bb:=λt h=>hid _ (O6.2 (.inl ⟨t,h,rfl⟩));rcases WO tp.fix h1 id k hk with ⟨j,_,rfl⟩|hk;trivial;rcases aN tp.maps h2 id k hk with ⟨j,_,rfl⟩|hk;trivial;rcases lr h4 id k hk with ⟨j,rfl⟩|hk;trivial;obtain ⟨cs,h5,rfl⟩:=Yc tp.rows h3 id k hk;exact cY hr id cs h5
def nq {n:Nat}:∀{slots:List (Nat×AV)} {i:Nat},QI i slots=true->∀j a,(CB n (DE slots))[j]? =some a->i+j<512/\Ao (Fq n slots) (i+j)=a
 |[],i,_,j,a,h=>by simp [DE,CB]at h
 |(q,b)::r,i,hs,j,a,h=>by
  obtain ⟨e1,hs⟩:=Au hs;obtain ⟨e2,hs3⟩:=Au hs;have e1:=ze' e1;subst e1;have e2:i<512:=(by simp_all);simp only [DE,CB]at h;show _/\Ao (D9 (Fq n r) i (DC n b)) (i+j)=a;cases j with
  |zero=>
   grind [GD]
  |succ j=>
   obtain ⟨h1,h2⟩:=nq (i:=i+1) hs3 j a (by simpa using h)
   grind [Fm]
def XT:∀{Y:Sy} {n:Nat} (l:List AV),AA Y n->∀(i:Nat) (a:AV),(Y.puts n l).v i=some a->Y.v i=some a\/∃q,i=n+q/\l[q]? =some a
 |Y,n,[],_,i,a,h=>.inl h
 |Y,n,b::r,hf,i,a,h=>by
  rcases XT (Y:=Y.put n b) (n:=n+1) r (hf.put b) i a h with h|⟨q,e,h⟩
  .by_cases e:i=n
   .subst e;rw [Sy.put_same]at h;grind
   grind [Sy.put_ne]
  exact .inr ⟨q+1,by omega,by simpa using h⟩
def jU {i:Nat} (h:64<=i):Nat.blt i 64=false:=by
 grind [zd']
variable [Gl]
def qP {P:Program} {f:FuncId} {ft:FT} {T1:Tm} {S:VS} {m:MR} {low:List Nat} {Y:Sy} {Q:Nat->List AV->Prop} {nargs:Nat} (hm:ND 64 ft.ent T1 S.H=some m) (hlow:LE m ft.k=some low) (hroom:UA ft.k (64+ft.ent.nv) S.H ft.exs=true) (hhi:S.H.hi<=Bb)
  (hna:nargs=(DE ft.ent.slots).length) (hsl:QI 0 ft.ent.slots=true) (BU:Ti S.H low=true) (hF:CF P f ft (An Y.v m.hv) Q) (hok:Ak (An Y.v m.hv)=true) (hf:AA Y S.n)
  {B:World} {pr:Nat->Prop} {E:Ag} {w:World} {us:List Value} (hy:E.At Y) (hg:BQ E) (hr:As B pr E S.H w) (hus:us.length=nargs) (hc:∀t,t<512->Ac E (Ao T1 t) ((⟨us⟩:Array Value).getD t undef)) (kk:Nat):
  Calls P f ⟨us⟩ w λe w'=>∃j ws b tp E2 v,ft.exs[j]? =some (b,tp)/\Q j ws/\Ak ws=true/\ws.length=tp.nv/\(∀i x,E.sy i=some x->((Y.puts S.n (An Y.v m.hv)).puts (S.n+ft.ent.nv) ws).v i=some x)/\
   (E.with ((Y.puts S.n (An Y.v m.hv)).puts (S.n+ft.ent.nv) ws)).sub E2/\E.leF kk E2/\E2.At ((Y.puts S.n (An Y.v m.hv)).puts (S.n+ft.ent.nv) ws)/\As B pr E2 (HP ft m low S tp) w'/\Ac E2 (Kx ft m low S tp) v/\
   e=(match b with
    |true=>.panicked [{ v:=v,recovered:=false }]
    |false=>.returned v):=by
 obtain ⟨own,g1,g2,g3,g4⟩:∃own:Nat->Option Nat,(∀id k,S.H.get id=some k->BF E w own id k)/\(∀b,pr b->own b=none)/\(∀b o v,E.imm b o=some v->own b=none)/\∀b,¬b<w.heap.size->own b=none:=by obtain ⟨own,g1,g2,g3⟩:=hr.own;refine ⟨λb=>if b<w.heap.size then own b else none,λid k hk=>?_,λb hb=>?_,λb o v hi=>?_,λb hb=>Ab hb⟩;exact (g1 id k hk).imp (λ_ h=>h) (λh=>h) λb o h1 h2 h3=>⟨(Ad h3.lt).trans h2,h3⟩;all_goals grind
 have hvd0:∀id,E.vd id->E.φ id=none/\¬(S.H.next<=id/\id<S.H.hi):=λid h=>hr.resv id (hr.vds id h);generalize hvs:An Y.v m.hv=vs at*;have hvs':An E.sy m.hv=vs:=by rw [hy.v];exact hvs
 have hvlen:vs.length=ft.ent.nv:=hF.1
 let Yg:Sy:=⟨λi=>if i<64 then Y.v i else none,Y.l⟩
 have hfg:AA Yg 64:=⟨za' _,λi hi=>Ab (by omega)⟩;have hmc:=iP (w:=w) (own:=own) (Y0:=Yg) hm hfg (λi hi=>by rw [hy.v];grind) (by grind) g1 (λid h=>(hvd0 id h).1) E.imm;rw [hvs']at hmc;obtain ⟨p1,p2,p3,p4⟩:=hfg.puts vs;generalize hE1:R5 m E (Yg.puts 64 vs) E.imm=E1 at hmc;have e1sz:E1.sz=E.sz:=by rw [←hE1];rfl
 have e1imm:E1.imm=E.imm:=by rw [←hE1];rfl
 have e1bim:E1.bim=E.imm:=by rw [←hE1];rfl
 have e1sy:E1.sy=(Yg.puts 64 vs).v:=by rw [←hE1];rfl
 have e1syl:E1.syl=(Yg.puts 64 vs).l:=by rw [←hE1];rfl
 have e1res:E1.res=E1.vd:=by rw [←hE1];rfl
 have e1low:∀i,i<64->E1.sy i=E.sy i:=λi hi=>by rw [e1sy,p4 i hi,hy.v];grind
 obtain ⟨hn1,hn2⟩:=BH.heap_next ft.ent 64
 let pr':Nat->Prop:=λb=>b<w.heap.size/\GQ m own b=none
 have hrel1:As w pr' E1 (ft.ent.heap 64) w:={
  own:=⟨GQ m own,hmc.rows,λb hb=>hb.2,λb o v hv=>by unfold GQ;rw [g3 b o v (by grind)]⟩
  imm:=by rw [e1imm];exact hr.imm
  ib:=λb o v _ hv=>by grind
  fresh:=λid h1 _=>hmc.fresh id (hn1▸h1)
  resv:=λid hi=>by
   rw [e1res]at hi;obtain ⟨h1,h2⟩:=hmc.vd id hi
   grind
  vds:=λid h=>by grind
  szs:=by rw [e1sz];exact hr.szs
  prot:=λb hb=>⟨hb.1,rfl⟩
  size:=za' _
  os:=rfl
  output:=rfl }
 have hgl1:BQ E1:=⟨λg=>MP (E:=E) (E':=E1) (λ_ _ _ h=>by grind) (λi a hi hx=>by grind) (Gl.nr g) (hg.1 g),Gl.gtm _ _ e1low hg.2⟩;have hcl:Ah E1 (CB 64 (DE ft.ent.slots)) us:=by have hs:=hmc.slots ⟨us⟩ hc;refine Ah.of_at (by rw [T4,hus,hna]) λi a v h1 h2=>?_;obtain ⟨h3,h4⟩:=nq hsl i a h1;rw [Nat.zero_add]at h3 h4;have:=hs i h3;simp_all
 refine Calls.mono (hF.2 Yg hfg w pr' E1 w us ⟨e1sy,e1syl,λid h=>by grind⟩ hgl1 hrel1 hcl) λe w' he=>?_;obtain ⟨Y1,r1,⟨j,ws,b,tp,hj,hQ,hokw,hlw,rfl,rfl⟩,E1',hle1,hy1,hres⟩:=he;have hrm:ft.k<=tp.next/\S.H.next+(tp.next-ft.k)<S.H.hi/\Ip (Ao (Fq (64+ft.ent.nv) tp.slots) 0)=true/\Oy (64+ft.ent.nv) tp.rows=true/\Oe (HA tp.acc tp.ids)=true:=by
  have:∀(l:List (Bool×BH)) (j:Nat),UA ft.k (64+ft.ent.nv) S.H l=true->l[j]? =some (b,tp)->ft.k<=tp.next/\S.H.next+(tp.next-ft.k)<S.H.hi/\Ip (Ao (Fq (64+ft.ent.nv) tp.slots) 0)=true/\Oy (64+ft.ent.nv) tp.rows=true/\Oe (HA tp.acc tp.ids)=true:=by
   intro l
   induction l with
   |nil=>simp
   |cons q r ih=>
    intro j h hj;obtain ⟨q1,h⟩:=Au h;obtain ⟨q2,h⟩:=Au h;obtain ⟨q3,h⟩:=Au h;obtain ⟨q4,h⟩:=Au h;obtain ⟨q5,h⟩:=Au h;cases j with
    |zero=>simp_all
    |succ j=>grind
  grind
 obtain ⟨hk,hnx,htv,htr,htn⟩:=hrm;have hend:∃u,e=(match b with
       |true=>.panicked [{ v:=u,recovered:=false }]
       |false=>.returned u)/\Ac E1' (Ao (Fq (64+ft.ent.nv) tp.slots) 0) u/\As w pr' E1' (tp.heap (64+ft.ent.nv)) w':=by
  grind
 obtain ⟨u,he,hcu,hr1'⟩:=hend;obtain ⟨lw1,lw2⟩:=kD hlow
 let nx:=S.H.next
 let r:Nat->Nat:=Ph low ft.k nx
 have rlow:∀i,i<ft.k->∃a k,r i=a/\Mu m i=some a/\S.H.get a=some k:=λi hi=>by
  grind [nO,Ph,Wh]
 have rnew:∀i,ft.k<=i->r i=nx+(i-ft.k):=λi hi=>by
  grind [Ph,Wh]
 have hold:∀a k,S.H.get a=some k->¬(nx<=a/\a<S.H.hi):=λa k hk hx=>by
  rcases g1 a k hk with ⟨h1,_⟩|⟨b,o,h1,_⟩
  .grind
  rw [hr.fresh a hx.1 hx.2]at h1;cases h1
 have rinj:∀i j,i<tp.next->j<tp.next->r i=r j->i=j:=λi j hi hj e=>by
  rcases zb' i ft.k with h1|h1
  .obtain ⟨a,ka,ra,la,ga⟩:=rlow i h1;rcases zb' j ft.k with h2|h2
   .refine hmc.inj i j a ?_ ?_<;>grind [Mu]
   grind
  .rcases zb' j ft.k with h2|h2<;>grind
 have e1φ:∀i,i<ft.k->E1.φ i=E.φ (r i):=λi hi=>by
  obtain ⟨a,ka,ra,la,ga⟩:=rlow i hi;rw [ra,←hE1];show (match CO m.ds i with
   |some d=>match Jg (Ar E.sy d.x)with
    |true=>none
    |false=>match d.act with
     |some i=>E.φ i
     |none=>none
   |none=>match BT m.rn i with
    |some a=>E.φ a
    |none=>none)=_
  unfold Mu at la;split at la;rename_i q hq;cases la;rw [hmc.rnA i a hq,hq]
  .split at la
   .rename_i d hd;rw [hd];simp only [la];cases hnl:Jg (Ar E.sy d.x)with
    |true=>exact (hmc.accN d a (Jk hd).1 la hnl).symm
    |false=>rfl
   cases la
 have e1lt:∀i x,i<Bb->E1'.φ i=some x->i<tp.next:=λi x hi hx=>by rcases zb' i tp.next with h|h;exact h;obtain ⟨a1,a2⟩:=BH.heap_next tp (64+ft.ent.nv);rw [hr1'.fresh i (by omega) (by omega)]at hx;cases hx
 generalize hYy:(Y.puts S.n vs).puts (S.n+ft.ent.nv) ws=Y' at*;have hfn:=hf.puts vs;rw [hvlen]at hfn;obtain ⟨f1,f2,f3,f4⟩:=hfn;obtain ⟨f5,f6,f7,f8⟩:=f1.puts ws;rw [hYy]at f5 f6 f7 f8;have hYv:∀i x,E.sy i=some x->Y'.v i=some x:=λi x hx=>f6 i x (f2 i x (by rw [←hy.v];exact hx));have hYl:∀i l,E.syl i=some l->Y'.l i=some l:=λi l hx=>by rw [f7,f3,←hy.l];exact hx
 have hYlo:∀i,i<64->Y'.v i=E.sy i:=λi hi=>by grind
 have e1'sy:E1'.sy=((Yg.puts 64 vs).puts (64+ft.ent.nv) ws).v:=hy1.v;have p1':AA (Yg.puts 64 vs) (64+ft.ent.nv):=by grind
 have hvo:∀i a,vs[i]? =some a->okC a=true:=λi a ha=>JN hok a (List.mem_of_getElem? ha);have hhv:m.hv.length=ft.ent.nv:=by
  have:=congrArg List.length hvs
  grind [KM]
 have hat:∀i a,E1'.sy i=some a->(i<64/\Y.v i=some a)\/(∃q,i=64+q/\vs[q]? =some a)\/∃q,i=64+ft.ent.nv+q/\ws[q]? =some a:=λi a ha=>by
  rw [e1'sy]at ha;rcases XT ws p1' i a ha with ha|⟨q,e,hq⟩
  .rcases XT vs hfg i a ha with ha|⟨q,e,hq⟩<;>grind
  grind
 have hvq:∀q x,m.hv[q]? =some x->vs[q]? =some (Ar Y.v x):=λq x hx=>by rw [←hvs];exact QJ Y.v m.hv q x hx
 classical
 let φ2:Nat->Option (Nat×Nat):=λi=>match E.φ i with
  |some x=>some x
  |none=>if hx:∃j,j<tp.next/\i=r j then E1'.φ (Classical.choose hx)else none
 have hφ2:∀j,j<tp.next->(∀x,E.φ (r j)=some x->E1'.φ j=some x)->φ2 (r j)=E1'.φ j:=λj hj hx=>by
  show (match E.φ (r j)with
   |some x=>some x
   |none=>if hx:∃j',j'<tp.next/\r j=r j' then E1'.φ (Classical.choose hx)else none)=_
  cases hE:E.φ (r j)with
  |some x=>grind
  |none=>
   have hex:∃j',j'<tp.next/\r j=r j':=⟨j,hj,rfl⟩
   grind
 have hφk:∀j,j<tp.next->∀x,E.φ (r j)=some x->E1'.φ j=some x:=λj hj x hx=>by rcases zb' j ft.k with h|h;exact hle1.phi j x h ((e1φ j h).trans hx);rw [rnew j h,hr.fresh _ (by omega) (by omega)]at hx;cases hx
 let vd2:Nat->Prop:=λid=>(E.vd id/\id∉m.act)\/∃j,j<tp.next/\id=r j/\E1'.vd j
 let E2:Ag:=⟨φ2,E1'.sz,E1'.imm,vd2,E.bim,Y'.v,Y'.l,vd2⟩
 have hmov:Er m.hv S.n r E1' E2:={
  φ:=λi x hi hx=>by
   grind
  sz:=λ_ _ h=>h
  imm:=λ_ _ _ h=>h
  sy:=λi a ha=>by
   rcases hat i a ha with ⟨hi,ha⟩|⟨q,rfl,hq⟩|⟨q,rfl,hq⟩
   .grind [GV,zd']
   .have hb:Nat.blt (64+q) 64=false:=jU (by omega);have hsub:Nat.sub (64+q) 64=q:=(by simp);have hdef:Y'.v (S.n+q)=some a:=f6 _ _ (F7 vs hf q a hq);unfold GV;rw [hb];simp only [hsub,MY];split
    .rename_i s hs;have:=hvq q _ hs;rw [hq]at this;cases hs':Y.v s with
     |none=>simp only [Ar,hs']at this;cases this;have:=hvo q _ hq;cases this
     |some y=>
      grind [Ar]
    exact hdef
   .have hb:Nat.blt (64+ft.ent.nv+q) 64=false:=jU (by omega);have hdef:Y'.v (S.n+ft.ent.nv+q)=some a:=(by rw [←hYy];exact F7 ws f1 q a hq);unfold GV;rw [hb]
    grind [MY]
  cst:=λi a x ha hi hx hxo=>by rw [MY]at hx;rcases hat i a ha with ⟨hi',_⟩|⟨q,rfl,hq⟩|⟨q,rfl,hq⟩;omega;all_goals grind [Tz] }
 have hsub:(E.with Y').sub E2:=⟨λi x hx=>by
  have hx:E.φ i=some x:=hx
  grind,λb n hb=>hle1.sz b n (by rw [e1sz];exact hb),λb o v hb=>hle1.imm b o v (by rw [e1imm];exact hb),rfl,rfl⟩
 obtain ⟨n1,n2⟩:=BH.heap_next tp (64+ft.ent.nv);obtain ⟨own1,o1,o2,o3⟩:=hr1'.own;have hbim1:E1'.bim=E.imm:=hle1.bim.trans e1bim;have hres1:∀id,E1'.vd id->E1'.φ id=none:=λid h=>(hr1'.resv id (hr1'.vds id h)).1;have hpr:∀b,pr b->pr' b:=λb hb=>⟨zj' (hr.prot b hb).1 hr.size,by grind [GQ]⟩;have hfree:∀b id,b<w.heap.size->own b=some id->id∉m.act->pr' b:=λb id hb ho hn=>⟨hb,by
  unfold GQ;rw [ho];cases hf:BT m.inv id<;>grind [BT,id,absurd,sM_]⟩
 have himm1:∀b o v,pr' b->E1'.imm b o=some v->E.imm b o=some v:=λb o v hb hv=>by rw [←hbim1];exact hr1'.ib b o v hb hv
 let own2:Nat->Option Nat:=λb=>match own1 b with
  |some j=>some (r j)
  |none=>match own b with
   |some id=>if id∈m.act then none else some id
   |none=>none
 refine ⟨j,ws,b,tp,E2,u,hj,hQ,hokw,hlw,?_⟩;rw [hYy];refine ⟨hYv,hsub,⟨λi x _ hx=>hsub.1 i x hx,λb n hb=>hsub.2.1 b n hb,λb o v hb=>hsub.2.2.1 b o v hb,rfl,hYlo⟩,⟨rfl,rfl,λ_ h=>h⟩,?_,T7 hmov htv hcu,he⟩;have hbase:∀id k,(GK S.H m.act).get id=some k->S.H.get id=some k/\id∉m.act:=λid k h=>Vc m.act id k h;have hrt:∀j k,(tp.heap (64+ft.ent.nv)).get j=some k->r j<Bb:=λj k hjk=>by
  have hjl:=AHeap.get_lt hjk;rcases zb' j ft.k with h1|h1;obtain ⟨a,ka,ra,la,ga⟩:=rlow j h1;rw [ra];exact AHeap.get_lt ga
  .rw [rnew j h1];have hjn:j<tp.next:=by
    rcases o1 j k hjk with ⟨q1,_⟩|⟨bb,oo,q1,_⟩;rcases zb' j tp.next with h|h;exact h;exact absurd ⟨by omega,by omega⟩ (hr1'.resv j (hr1'.vds j q1)).2
    grind
   omega
 have hH2:∀id kk,(HP ft m low S tp).get id=some kk->(∃j k,id=r j/\(tp.heap (64+ft.ent.nv)).get j=some k/\QL m.hv S.n r k=some kk)\/(S.H.get id=some kk/\id∉m.act):=λid kk h=>by rcases SG (r:=r) hrt _ id kk h with h|h;exact .inl h;refine .inr (hbase id kk ?_);exact h
 obtain ⟨m1,m2⟩:=iJ (hv:=m.hv) (n:=S.n) (r:=r) (F:=tp.heap (64+ft.ent.nv)) (base:=(⟨(GK S.H m.act).tr,Nat.add S.H.next (Nat.sub tp.next ft.k),(GK S.H m.act).hi⟩:AHeap)) (HA tp.acc tp.ids);have hnext:(HP ft m low S tp).next=nx+(tp.next-ft.k):=m1
 have hhi2:(HP ft m low S tp).hi=S.H.hi:=m2.trans (N9 m.act).2;have hnotr:∀id,E.φ id=none->(∀j,j<tp.next->id≠r j)->φ2 id=none:=λid h1 h2=>by
  grind
 refine { own:=⟨own2,λid kk hkk=>?_,λb hb=>?_,λb o v hv=>?_⟩,imm:=hr1'.imm,ib:=λb o v hb hv=>hr.ib b o v hb (himm1 b o v (hpr b hb) hv),fresh:=λid h1 h2=>?_,resv:=λid hi=>?_,vds:=λ_ h=>h,szs:=hr1'.szs,prot:=λb hb=>⟨(hr.prot b hb).1,(hr1'.prot b (hpr b hb)).2.trans (hr.prot b hb).2⟩,size:=Nat.le_trans hr.size hr1'.size,os:=hr1'.os.trans hr.os,output:=hr1'.output.trans hr.output }
 .rcases hH2 id kk hkk with ⟨j,k,rfl,hjk,hmv⟩|⟨hk,hna⟩;have hjl:=AHeap.get_lt hjk;have htb:=uC htr htn j k hjk;rcases o1 j k hjk with ⟨q1,q2⟩|⟨bb,oo,q1,q2,q3⟩;have hjn:j<tp.next:=(by rcases zb' j tp.next with h|h;exact h;exact absurd ⟨by omega,by omega⟩ (hr1'.resv j (hr1'.vds j q1)).2);exact .inl ⟨.inr ⟨j,hjn,rfl,q1⟩,w8 hmov hmv q2⟩;exact .inr ⟨bb,oo,hmov.φ j _ hjl q1,by grind,sy_ hmov htb hmv q3⟩
  .rcases g1 id kk hk with ⟨q1,q2⟩|⟨bb,oo,q1,q2,q3⟩;exact .inl ⟨.inl ⟨q1,hna⟩,q2.sub λi hi=>hYv i _ hi⟩
   .have hp:=hfree bb id q3.lt q2 hna;refine .inr ⟨bb,oo,hsub.1 id _ q1,?_,?_⟩
    .grind
    .have h1:BF (E.with Y') w (λ_=>some id) id kk:=BF.withS (.inr ⟨bb,oo,q1,rfl,q3⟩) hYv hYl;rcases h1 with ⟨x1,x2⟩|⟨b2,o2',x1,_,x3⟩
     .have:E.φ id=none:=(hvd0 id x1).1
      grind
     have x1:E.φ id=some (b2,o2'):=x1;rw [q1]at x1;cases x1;exact x3.sub hsub (hr1'.prot bb hp).2
 .grind
 .show (match own1 b with
    |some j=>some (r j)
    |none=>match own b with
     |some id=>if id∈m.act then none else some id
     |none=>none)=none
  grind
 .rw [hnext]at h1;rw [hhi2]at h2;refine hnotr id (hr.fresh id (by omega) h2) λj hj e=>?_
  grind
 .rcases hi with ⟨q1,q2⟩|⟨j,hj,rfl,q1⟩
  .obtain ⟨a1,a2⟩:=hvd0 id q1;refine ⟨hnotr id a1 λj hj e=>?_,λhx=>a2 ⟨by omega,by omega⟩⟩;rcases zb' j ft.k with h|h
   .grind [yi]
   grind
  grind
end Go.Sx
namespace Go.Sx
structure C9 (k n:Nat) (E E':Ag):Prop where
 phi:∀id x,id<k->E.φ id=some x->E'.φ id=some x
 sz:∀b m,E.sz b=some m->E'.sz b=some m
 imm:∀b o v,E.imm b o=some v->E'.imm b o=some v
 sy:∀i,i<n->E'.sy i=E.sy i
def C9.immAt {k n:Nat} {E E':Ag} (h:C9 k n E E') {b o:Nat} {vs:List Value} (hi:B1 E b o vs):B1 E' b o vs:=λi v hv=>h.imm _ _ _ (hi i v hv)
mutual
theorem ah {k n:Nat} {E E':Ag} (h:C9 k n E E'):∀(a:AV) (v:Value),GZ k n a=true->Ac E a v->Ac E' a v
 | .opq,v,_,hc=>by simp [Ac]
 | .bool _,v,_,hc=>by grind [Ac]
 | .int _ _,v,_,hc=>by grind [Ac]
 | .flt _ _,v,_,hc=>by grind [Ac]
 | .nan _,v,_,hc=>by grind [Ac]
 | .str _,v,_,hc=>by grind [Ac]
 | .nptr,v,_,hc=>by grind [Ac]
 | .nsl,v,_,hc=>by grind [Ac]
 | .nmap,v,_,hc=>by grind [Ac]
 | .nfn,v,_,hc=>by grind [Ac]
 | .nif,v,_,hc=>by grind [Ac]
 | .ptr id off,v,hk,hc=>by have hk:id<k:=(by grind [GZ,zd']);obtain ⟨b,o,h1,h2⟩:=hc;exact ⟨b,o,h.phi _ _ hk h1,h2⟩
 | .vptr cs,v,hk,hc=>by obtain ⟨b,o,vs,h1,h2,h3⟩:=hc;exact ⟨b,o,vs,h1,MU h cs vs hk h2,h.immAt h3⟩
 | .sl id off len sz cap,v,hk,hc=>by have hk:id<k:=(by grind [GZ,zd']);obtain ⟨b,o,n,c,off',h1,h2,h3⟩:=hc;exact ⟨b,o,n,c,off',h.phi _ _ hk h1,h.sz _ _ h2,h3⟩
 | .vsl a z cs,v,hk,hc=>by obtain ⟨b,o,vs,c,h1,h2,h3,h4⟩:=hc;exact ⟨b,o,vs,c,h1,h2,MU h cs vs hk h3,h.immAt h4⟩
 | .map id,v,hk,hc=>by have hk:id<k:=(by grind [GZ,zd']);obtain ⟨b,h1,h2⟩:=hc;exact ⟨b,h.phi _ _ hk h1,h2⟩
 | .fn f cap,v,hk,hc=>by simp only [GZ]at hk;simp only [Ac]at hc⊢;obtain ⟨vs,h1,h2⟩:=hc;exact ⟨vs,h1,MU h cap vs hk h2⟩
 | .iface t a,v,hk,hc=>by simp only [GZ]at hk;simp only [Ac]at hc⊢;obtain ⟨u,h1,h2⟩:=hc;exact ⟨u,h1,ah h a u hk h2⟩
 | .agg cs,v,hk,hc=>by simp only [GZ]at hk;simp only [Ac]at hc⊢;obtain ⟨vs,h1,h2⟩:=hc;exact ⟨vs,h1,MU h cs vs hk h2⟩
 | .tup cs,v,hk,hc=>by simp only [GZ]at hk;simp only [Ac]at hc⊢;obtain ⟨vs,h1,h2⟩:=hc;exact ⟨vs,h1,MU h cs vs hk h2⟩
 | .sym i,v,hk,hc=>by have hk:i<n:=(by grind [GZ,zd']);obtain ⟨a,h1,h2,h3⟩:=hc;exact ⟨a,by rw [h.sy i hk];exact h1,h2,Js (E:=E) (E':=E') h.imm h3⟩
 | .slx id sz i,v,hk,hc=>by obtain ⟨hk1,hk2⟩:=Au hk;have hk1:id<k:=(by simp_all);have hk2:i<n:=(by simp_all);obtain ⟨a,h0,hc⟩:=hc;exact ⟨a,by rw [h.sy i hk2];exact h0,hc.imp_right λ⟨len,cs,e,b,o,n,c,off',h1,h2,h3⟩=>⟨len,cs,e,b,o,n,c,off',h.phi _ _ hk1 h1,h.sz _ _ h2,h3⟩⟩
 | .ptx id j sz off,v,hk,hc=>by obtain ⟨hk1,hk2⟩:=Au hk;have hk1:id<k:=(by simp_all);have hk2:j<n:=(by simp_all);obtain ⟨q,m,h0,b,o,h1,h2⟩:=hc;exact ⟨q,m,by rw [h.sy j hk2];exact h0,b,o,h.phi _ _ hk1 h1,h2⟩
theorem MU {k n:Nat} {E E':Ag} (h:C9 k n E E'):∀(l:List AV) (vs:List Value),K5 k n l=true->Ah E l vs->Ah E' l vs
 |[],vs,_,hc=>hc
 |a::r,vs,hk,hc=>by obtain ⟨k1,k2⟩:=Au hk;simp only [Ah]at hc⊢;obtain ⟨v,q,h1,h2,h3⟩:=hc;exact ⟨v,q,h1,ah h a v k1 h2,MU h r q k2 h3⟩
end
def ou {k n:Nat} {E:Ag} {a:AV} {v:Value} (h:Ac E a v):Ac E (D3 k n a) v:=by
 grind [D3,Ac]
theorem gh {k n:Nat} {E E':Ag} (h:C9 k n E E') {a:AV} {v:Value} (hc:Ac E (D3 k n a) v):Ac E' (D3 k n a) v:=by
 grind [D3,ah,Ac]
def ZP {P:Program} {k n:Nat} {E E':Ag} (h:C9 k n E E'):∀{D:Bj} {ds:List Deferred},Vl k n D=true->Ca P E D ds->Ca P E' D ds
 |[],ds,_,hd=>hd
 |(f,ag)::D,ds,hk,hd=>by obtain ⟨k1,k2⟩:=Au hk;obtain ⟨vs,r,h1,h2,h3,h4⟩:=hd;exact ⟨vs,r,h1,MU h ag vs k1 h2,h3,ZP h k2 h4⟩
theorem Vq:∀{sh:List (Option Nat)} {l vs:List AV},flat sh l=some vs->vs.length=FH sh
 |[],[],vs,h=>by cases h;rfl
 |none::s,a::r,vs,h=>by unfold flat at h;split at h;rename_i l' hl;cases h;simp only [List.length_cons,FH,Vq hl];cases h
 |some m::s,.agg cs::r,vs,h=>by simp only [flat]at h;split at h;rename_i hd;have hd:cs.length=m:=AU hd;split at h;rename_i l' hl;cases h;simp only [Az,FH,Vq hl,hd];rfl;cases h;cases h
 |[],_::_,vs,h=>by cases h
 |none::_,[],vs,h=>by cases h
 |some _::_,[],vs,h=>by cases h
 |some m::s,.opq::r,vs,h=>by cases h
 |some m::s,.bool _::r,vs,h=>by cases h
 |some m::s,.int _ _::r,vs,h=>by cases h
 |some m::s,.flt _ _::r,vs,h=>by cases h
 |some m::s,.nan _::r,vs,h=>by cases h
 |some m::s,.str _::r,vs,h=>by cases h
 |some m::s,.nptr::r,vs,h=>by cases h
 |some m::s,.ptr _ _::r,vs,h=>by cases h
 |some m::s,.vptr _::r,vs,h=>by cases h
 |some m::s,.nsl::r,vs,h=>by cases h
 |some m::s,.sl .. ::r,vs,h=>by cases h
 |some m::s,.vsl .. ::r,vs,h=>by cases h
 |some m::s,.nmap::r,vs,h=>by cases h
 |some m::s,.map _::r,vs,h=>by cases h
 |some m::s,.nfn::r,vs,h=>by cases h
 |some m::s,.fn .. ::r,vs,h=>by cases h
 |some m::s,.nif::r,vs,h=>by cases h
 |some m::s,.iface .. ::r,vs,h=>by cases h
 |some m::s,.tup _::r,vs,h=>by cases h
 |some m::s,.sym _::r,vs,h=>by cases h
 |some m::s,.slx .. ::r,vs,h=>by cases h
 |some m::s,.ptx .. ::r,vs,h=>by cases h
def X1 {sh:List (Option Nat)} {v:AV} {vs:List AV} (h:Kp sh v=some vs):vs.length=FH sh:=by
 unfold Kp at h
 grind [Vq]
def Wv:∀{a b:List AV},Ak (a++b)=true->Ak a=true/\Ak b=true
 |[],b,h=>⟨rfl,h⟩
 |x::r,b,h=>by rw [List.cons_append,CA]at h;obtain ⟨h1,h2⟩:=Au h;obtain ⟨h3,h4⟩:=Wv h2;exact ⟨by rw [CA,h1,h3];rfl,h4⟩
def QE {E E':Ag} (him:∀b o v,E.imm b o=some v->E'.imm b o=some v):∀(sh:List (Option Nat)) (n:Nat) (l vs:List AV) (us:List Value),flat sh l=some vs->Ak vs=true->Ah E l us->
  (∀i a,vs[i]? =some a->E'.sy (n+i)=some a)->Ah E' (Fo n sh) us
 |[],n,l,vs,us,h,hok,hc,hs=>by
  cases l with
  |nil=>grind [Fo,Ah]
  |cons a r=>cases h
 |none::s,n,l,vs,us,h,hok,hc,hs=>by
  cases l with
  |nil=>cases h
  |cons a r=>
   unfold flat at h;split at h
   .rename_i l' hl;cases h;rw [CA]at hok;obtain ⟨k1,k2⟩:=Au hok;obtain ⟨u,q,rfl,c1,c2⟩:=hc;refine ⟨u,q,rfl,?_,QE him s (n+1) r l' q hl k2 c2 λi b hb=>?_⟩;exact ⟨a,by simpa using hs 0 a rfl,Fx k1,Js him (Jf k1 c1)⟩
    .have:=hs (i+1) b (by grind)
     grind
   cases h
 |some m::s,n,l,vs,us,h,hok,hc,hs=>by
  cases l with
  |nil=>cases h
  |cons a r=>
   have ha:∃cs,a=.agg cs:=(by cases a<;>first|exact ⟨_,rfl⟩|(cases h));obtain ⟨cs,rfl⟩:=ha;simp only [flat]at h;split at h
   .rename_i hd;have hd:cs.length=m:=AU hd;subst hd;split at h
    .rename_i l' hl;cases h;obtain ⟨k1,k2⟩:=Wv hok;obtain ⟨u,q,rfl,c1,c2⟩:=hc;refine ⟨u,q,rfl,?_,QE him s (n+cs.length) r l' q hl k2 c2 λi b hb=>?_⟩
     .obtain ⟨ws,rfl,c3⟩:=c1;refine ⟨ws,rfl,NZ n cs ws k1 (λi b hb=>hs i b ?_) (I9 him (Gv k1 c3))⟩
      grind
     .have:=hs (cs.length+i) b (by grind)
      grind
    cases h
   cases h
def mQ {E E':Ag} (him:∀b o v,E.imm b o=some v->E'.imm b o=some v) {sh:List (Option Nat)} {n:Nat} {v:AV} {vs:List AV} {u:Value} (h:Kp sh v=some vs) (hok:Ak vs=true) (hc:Ac E v u)
  (hs:∀i a,vs[i]? =some a->E'.sy (n+i)=some a):Ac E' (Ik n sh) u:=by
 have tup:∀(sh:List (Option Nat)) (l:List AV),v=.tup l->flat sh l=some vs->Ac E' (.tup (Fo n sh)) u:=λsh l e hfl=>by subst e;obtain ⟨us,rfl,c⟩:=hc;have:=QE him sh n l vs us hfl hok c hs;simp only [Ac];grind
 have isT:∀sh:List (Option Nat),(∀s,sh≠[s])->Kp sh v=some vs->∃l,v=.tup l/\flat sh l=some vs:=λsh hne h=>by
  unfold Kp at h
  grind
 match sh,h with
 |[],h=>obtain ⟨l,e,h⟩:=isT [] (λs e=>by cases e) h;exact tup [] l e h
 |[none],h=>have:=QE him [none] n [v] vs [u] h hok (Ah.cons hc (Ah.nil E)) hs;obtain ⟨w,r,e,c,rfl⟩:=this;cases e;exact c
 |[some m],h=>have:=QE him [some m] n [v] vs [u] h hok (Ah.cons hc (Ah.nil E)) hs;obtain ⟨w,r,e,c,rfl⟩:=this;cases e;exact c
 |a::b::r,h=>obtain ⟨l,e,h⟩:=isT (a::b::r) (λs e=>by cases e) h;exact tup (a::b::r) l e h
mutual
theorem Yy {E:Ag} {Y:Sy} (hy:E.sy=Y.v) {id i k:Nat} (hs:(Dl.same i k).ok Y):∀{a:AV} {v:Value},Ac E a v->Ac E (FB id i k a) v
 | .slx a z j,v,hc=>by
   unfold FB;split
   .rename_i hb;have e:=ze' (Au hb).2;simp only [Ac]at hc⊢;rcases hs with ⟨e1,e2⟩|⟨n,z',cs,ds,e1,e2⟩<;>grind
   exact hc
 | .vptr cs,v,hc=>by simp only [FB,Ac]at hc⊢;obtain ⟨b,o,vs,h1,h2,h3⟩:=hc;exact ⟨b,o,vs,h1,Nv hy hs h2,h3⟩
 | .vsl n z cs,v,hc=>by obtain ⟨b,o,vs,c,h1,h2,h3,h4⟩:=hc;exact ⟨b,o,vs,c,h1,h2,Nv hy hs h3,h4⟩
 | .fn f cs,v,hc=>by simp only [FB,Ac]at hc⊢;obtain ⟨vs,h1,h2⟩:=hc;exact ⟨vs,h1,Nv hy hs h2⟩
 | .iface t a,v,hc=>by simp only [FB,Ac]at hc⊢;obtain ⟨u,h1,h2⟩:=hc;exact ⟨u,h1,Yy hy hs h2⟩
 | .agg cs,v,hc=>by simp only [FB,Ac]at hc⊢;obtain ⟨vs,h1,h2⟩:=hc;exact ⟨vs,h1,Nv hy hs h2⟩
 | .tup cs,v,hc=>by simp only [FB,Ac]at hc⊢;obtain ⟨vs,h1,h2⟩:=hc;exact ⟨vs,h1,Nv hy hs h2⟩
 | .opq,_,hc=>hc
 | .bool _,_,hc=>hc
 | .int _ _,_,hc=>hc
 | .flt _ _,_,hc=>hc
 | .nan _,_,hc=>hc
 | .str _,_,hc=>hc
 | .nptr,_,hc=>hc
 | .ptr _ _,_,hc=>hc
 | .nsl,_,hc=>hc
 | .sl ..,_,hc=>hc
 | .nmap,_,hc=>hc
 | .map _,_,hc=>hc
 | .nfn,_,hc=>hc
 | .nif,_,hc=>hc
 | .sym _,_,hc=>hc
 | .ptx ..,_,hc=>hc
theorem Nv {E:Ag} {Y:Sy} (hy:E.sy=Y.v) {id i k:Nat} (hs:(Dl.same i k).ok Y):∀{as:List AV} {vs:List Value},Ah E as vs->Ah E (Jv id i k as) vs
 |[],_,hc=>hc
 |a::as,vs,hc=>by simp only [Jv,Ah]at hc⊢;obtain ⟨v,t,h1,h2,h3⟩:=hc;exact ⟨v,t,h1,Yy hy hs h2,Nv hy hs h3⟩
end
variable [Gl]
section
variable {P:Program} {N:Nat} {Q:AV->Prop} {fuel:Nat} {I:C3 P fuel} {c:VC}
abbrev BG:=List (Nat->List AV->Prop)
def Av (P:Program) (c:VC) (n:Nat) (Y:Sy):Prop:=AA Y n/\Br P c.fc Y
def kV (P:Program) (Q:AV->Prop) (c:VC) (L0:BG) (n0:Nat) (Y0:Sy) (K:VS->VT):KP:=λY T H D=>∃(n lv:Nat) (L:BG),L0 <+: L/\L.length=lv/\n0<=n/\AR n0 Y0 Y/\Av P c n Y/\AC P Q L Y (K ⟨T,H,n,lv,D⟩)
def xV (P:Program) (Q:AV->Prop) (c:VC) (L0:BG) (n0:Nat) (Y0:Sy) (X:VX->VT):XP:=λY r=>match r with
 | .exit id T H D=>∃(n lv:Nat) (L:BG),L0 <+: L/\L.length=lv/\n0<=n/\AR n0 Y0 Y/\Av P c n Y/\AC P Q L Y (X (.exit id ⟨T,H,n,lv,D⟩))
 | .ret T H D=>∃(n lv:Nat) (L:BG),L0 <+: L/\L.length=lv/\n0<=n/\AR n0 Y0 Y/\Av P c n Y/\AC P Q L Y (X (.ret ⟨T,H,n,lv,D⟩))
 | .pan v T H D=>∃(n lv:Nat) (L:BG),L0 <+: L/\L.length=lv/\n0<=n/\AR n0 Y0 Y/\Av P c n Y/\AC P Q L Y (X (.pan v ⟨T,H,n,lv,D⟩))
 |_=>False
def SZ {L0 L1:BG} {n0 n1:Nat} {Y0 Y1:Sy} {K:VS->VT} (hL:L0 <+: L1) (hn:n0<=n1) (hx:AR n0 Y0 Y1) {Y:Sy} {T:Tm} {H:AHeap} {D:Bj} (h:kV P Q c L1 n1 Y1 K Y T H D):kV P Q c L0 n0 Y0 K Y T H D:=by obtain ⟨n,lv,L,h1,h2,h3,h4,h5,h6⟩:=h;exact ⟨n,lv,L,hL.trans h1,h2,by omega,hx.trans h4 hn,h5,h6⟩
def Jz {L0 L1:BG} {n0 n1:Nat} {Y0 Y1:Sy} {X:VX->VT} (hL:L0 <+: L1) (hn:n0<=n1) (hx:AR n0 Y0 Y1) {Y:Sy} {r:A7} (h:xV P Q c L1 n1 Y1 X Y r):xV P Q c L0 n0 Y0 X Y r:=by
 cases r with
 |exit id T H D=>obtain ⟨n,lv,L,h1,h2,h3,h4,h5,h6⟩:=h;exact ⟨n,lv,L,hL.trans h1,h2,by omega,hx.trans h4 hn,h5,h6⟩
 |ret T H D=>obtain ⟨n,lv,L,h1,h2,h3,h4,h5,h6⟩:=h;exact ⟨n,lv,L,hL.trans h1,h2,by omega,hx.trans h4 hn,h5,h6⟩
 |norm T H D=>exact h.elim
 |pan v T H D=>obtain ⟨n,lv,L,h1,h2,h3,h4,h5,h6⟩:=h;exact ⟨n,lv,L,hL.trans h1,h2,by omega,hx.trans h4 hn,h5,h6⟩
theorem Av.put {n:Nat} {Y:Sy} (h:Av P c n Y) (a:AV):Av P c (n+1) (Y.put n a):=⟨h.1.put a,h.2.sub (h.1.sub_put a) (h.1.low a)⟩
theorem Av.puts {n:Nat} {Y:Sy} (h:Av P c n Y) (l:List AV):Av P c (n+l.length) (Y.puts n l):=by obtain ⟨h1,h2,h3,h4⟩:=h.1.puts l;exact ⟨h1,h.2.sub h2 h4⟩
def Nx (P:Program) (Q:AV->Prop) (c:VC) (L:BG) (S:VS) (Y:Sy) (kt:VS->VT) (next:KP):Prop:=
 ∀Y' (S':VS),S'.lv=S.lv->S.n<=S'.n->AR S.n Y Y'->Av P c S'.n Y'->AC P Q L Y' (kt S')->next Y' S'.T S'.H S'.D
def NM (P:Program) (Q:AV->Prop) (c:VC) (L:BG) (S:VS) (Y:Sy) (Xv:VX->VT) (X:XP):Prop:=
 ∀Y' (S':VS) v,S'.lv=S.lv->S.n<=S'.n->AR S.n Y Y'->Av P c S'.n Y'->AC P Q L Y' (Xv (.pan v S'))->X Y' (.pan v S'.T S'.H S'.D)
def cz {o:Oper} {op:XOp} {ag:List AV} {S:VS} {Y:Sy} {L:BG} (hf:Av P c S.n Y) (hl:FO S.T o=some (op,ag)) (hs:Bm ag=true) {u:Tm->AV->Tm} {next:KP} {m:Option Nat} {t:VT}
  (ht:AC P Q L Y (.lt op ag S.n m t)) (hn:∀Y' x n',S.n<=n'->AR S.n Y Y'->Av P c n' Y'->AC P Q L Y' t->(m=none->x=.sym S.n/\n'=Nat.succ S.n)->(∀j,m=some j->x=.agg (Ae S.n j)/\n'=Nat.add S.n j)->next Y' (u S.T x) S.H S.D):
  F4 P N c.k o u Y S.T S.H S.D next:=by
 cases m with
 |none=>obtain ⟨r,hr,hok,htree⟩:=ht;refine ⟨Y.put S.n r,.sym S.n,S.H,hn _ _ _ (zc' _) (AR.put r (za' _)) (hf.put r) htree (λ_=>⟨rfl,rfl⟩) (λj e=>by cases e),λB pr E a w hy st=>?_⟩;obtain ⟨E',n,v,w',h1,h2,h3,st',h5⟩:=bl hl hs hr hy st;have hy':=hy.le h3;have hv:∀i x,E'.sy i=some x->(Y.put S.n r).v i=some x:=λi x hx=>hf.1.sub_put r i x (by rw [←hy'.v];exact hx);have hll:∀i l,E'.syl i=some l->(Y.put S.n r).l i=some l:=λi l hx=>(by rw [hy'.l]at hx;exact hx);have hlo:∀i,i<64->(Y.put S.n r).v i=E'.sy i:=λi hi=>(by rw [hy'.v];exact hf.1.low r i hi);refine ⟨E'.with (Y.put S.n r),n,v,w',h1,h2,(h3.leF c.k).trans (Ag.with_leF c.k hlo),⟨rfl,rfl,hy'.res⟩,st'.with hv hll hlo,?_⟩;exact ⟨r,Sy.put_same _ _ _,Fx hok,(Jf hok h5).with⟩
 |some j=>obtain ⟨cs,hr,hlen,hok,htree⟩:=ht;obtain ⟨f1,f2,f3,f4⟩:=hf.1.puts cs;refine ⟨Y.puts S.n cs,.agg (Ae S.n j),S.H,hn _ _ (Nat.add S.n j) (zh' _ _) (AR.puts cs _ (za' _)) (by rw [←hlen];exact hf.puts cs) htree (λe=>by cases e) (λj' e=>by grind),λB pr E a w hy st=>?_⟩;obtain ⟨E',n,v,w',h1,h2,h3,st',h5⟩:=bl hl hs hr hy st;have hy':=hy.le h3;have hv:∀i x,E'.sy i=some x->(Y.puts S.n cs).v i=some x:=λi x hx=>f2 i x (by rw [←hy'.v];exact hx);have hll:∀i l,E'.syl i=some l->(Y.puts S.n cs).l i=some l:=λi l hx=>(by rw [f3];rw [hy'.l]at hx;exact hx);have hlo:∀i,i<64->(Y.puts S.n cs).v i=E'.sy i:=λi hi=>(by rw [hy'.v];exact f4 i hi);refine ⟨E'.with (Y.puts S.n cs),n,v,w',h1,h2,(h3.leF c.k).trans (Ag.with_leF c.k hlo),⟨rfl,rfl,hy'.res⟩,st'.with hv hll hlo,?_⟩;obtain ⟨vs,rfl,hL⟩:=h5;refine ⟨vs,rfl,?_⟩;rw [←hlen];exact NZ S.n cs vs hok (λi a ha=>F7 cs hf.1 i a ha) (I9 (E:=E') (E':=E'.with (Y.puts S.n cs)) (λ_ _ _ h=>h) (Gv hok hL))
def AQ (P:Program) (N k:Nat) (Y:Sy) (S S':VS):Prop:=A1 P N k Y S.T S.H S.D Y S'.T S'.H S'.D/\∀(all:List Oper) (o:Oper) (g:Tm->Option Bool) (t:Bool),Du all o=.mk g->g S.T=some t->g S'.T=some t
theorem AQ.refl (P:Program) (N k:Nat) (Y:Sy) (S:VS):AQ P N k Y S S:=⟨A1.refl _ _ _ _ _ _ _,λ_ _ _ _ _ h=>h⟩
def AQ.know {P:Program} {N k:Nat} {Y:Sy} {i:Nat} {b:Bool} (hb:Y.v i=some (.bool b)) (S:VS):AQ P N k Y S (S.know i b):=⟨UX hb S.x S.D,λ_ _ _ _ hg h=>gp hg (S:=S.x) h i b⟩
omit [Gl]in
def xo {all:List Oper} {o:Oper} {g:Tm->Option Bool} (hg:Du all o=.mk g) {T:Tm} {t:Bool} (h:g T=some t) (F:AHeap):g (BZ (frz F) T)=some t:=by
 unfold Du at hg;split at hg;cases hg
 .rename_i j want hgu;split at hg
  .split at hg
   .rename_i d hd;split at hg
    .cases hg;have e:(Dy d).f (BZ (frz F) T)=frz F ((Dy d).f T):=E8 _ _ _;show Es ((Dy d).f (BZ (frz F) T)) want=some t;have h:Es ((Dy d).f T) want=some t:=h;rw [e];generalize (Dy d).f T=x at h⊢;cases x with
     |tup cs=>cases cs<;>first|exact h|(simp [Es]at h)
     |_=>first|exact h|(simp [Es]at h)
    grind
   grind
  grind
def AQ.frz {P:Program} {N k:Nat} {Y:Sy} (S:VS) (ag:List AV):AQ P N k Y S (Ec S ag):=⟨Uk _,λ_ _ _ _ hg h=>xo hg h _⟩
def dl {o:Oper} {u:Tm->AV->Tm} {S S1:VS} {Y:Sy} {L:BG} {kt:VS->VT} {next:KP} (hnext:Nx P Q c L S Y kt next) (hn1:S1.n=S.n) (hl1:S1.lv=S.lv) (hd1:S1.D=S.D) (hf:Av P c S.n Y) {g:FuncId} {ag:List AV} {sh:List (Option Nat)}
  (hso:Bm ag=true) (hst:(A3 P o).run S1.T S1.H=some (.call g ag)) (h:AC P Q L Y (.call g ag S.n sh (kt ⟨u S1.T (Ik S.n sh),S1.H,Nat.add S.n (FH sh),S.lv,S.D⟩))):RP P N c.k o u Y S1.T S1.H S1.D next:=by
 rw [←hd1]at h;obtain ⟨v,vs,hp,hfl,hok,ht⟩:=h;obtain ⟨f1,f2,f3,f4⟩:=hf.1.puts vs;have hlen:=X1 hfl;refine ⟨g,ag,Y.puts S.n vs,Ik S.n sh,hst,?_,λB pr E a w us hy st hcon=>?_⟩;refine hnext (Y.puts S.n vs) ⟨u S1.T (Ik S.n sh),S1.H,Nat.add S.n (FH sh),S.lv,S1.D⟩ rfl (zh' _ _) (AR.puts vs _ (za' _)) ?_ ht;rw [←hlen];exact hf.puts vs;have hcon':Ah E (An Y.v ag) us:=(by have:=JA hso hcon;rw [hy.v]at this;exact this.con);refine Calls.mono (hp S1.H B pr E w us st.t.gl st.r hcon') λe w' he=>?_;obtain ⟨E',hle,u',rfl,h1,h2⟩:=he;have hy':=hy.le hle;have st':St P B pr N E' S1.T S1.H S1.D a w':=⟨st.t.mono hle,h2,st.d.mono hle⟩;have hv:∀i x,E'.sy i=some x->(Y.puts S.n vs).v i=some x:=λi x hx=>f2 i x (by rw [←hy'.v];exact hx);have hll:∀i l,E'.syl i=some l->(Y.puts S.n vs).l i=some l:=λi l hx=>(by rw [f3];rw [hy'.l]at hx;exact hx);have hlo:∀i,i<64->(Y.puts S.n vs).v i=E'.sy i:=λi hi=>(by rw [hy'.v];exact f4 i hi);refine ⟨E'.with (Y.puts S.n vs),u',rfl,(hle.leF c.k).trans (Ag.with_leF c.k hlo),⟨rfl,rfl,hy'.res⟩,st'.with hv hll hlo,?_⟩;exact mQ (E:=E') (E':=E'.with (Y.puts S.n vs)) (λ_ _ _ h=>h) hfl hok h1 λi a ha=>F7 vs hf.1 i a ha
section
omit [Gl]
theorem SF {H:AHeap} {x a':AV} {i k:Nat} (h:Ya H x=some (i,k,a')) {E:Ag} {Y:Sy} (hy:E.sy=Y.v) (hs:(Dl.same i k).ok Y) {v:Value} (hc:Ac E x v):Ac E a' v:=by
 unfold Ya at h;split at h
 case h_2=>cases h
 split at h
 case h_2=>cases h
 split at h;cases h;cases h;simp only [Ac]at hc⊢;rcases hs with ⟨e1,e2⟩|⟨n,z',cs,ds,e1,e2⟩<;>grind
def cW (x:AV):∀(o:Nat) (cs:List AV) (i:Nat) (b:AV),(EO o x cs)[i]? =some b->cs[i]? =some b\/(i=o/\b=x/\∃y,cs[i]? =some y)
 |_,[],i,b,h=>by simp [EO]at h
 |0,y::r,0,b,h=>by simp [EO]at h;grind
 |0,y::r,i+1,b,h=>by grind [EO]
 |o+1,y::r,0,b,h=>by grind [EO]
 |o+1,y::r,i+1,b,h=>by simp only [EO,List.getElem?_cons_succ]at h⊢;exact (cW x o r i b h).imp id λ⟨h1,h2⟩=>⟨by omega,h2⟩
theorem jS (x:AV):∀(o:Nat) (cs:List AV),(EO o x cs).length=cs.length
 |0,[]=>rfl
 |o+1,[]=>rfl
 |0,y::r=>rfl
 |o+1,y::r=>by simp [EO,jS x o r]
theorem Pi:∀(o:Nat) (cs:List AV),K8 o cs=cs[o]?
 |o,[]=>by cases o<;>rfl
 |0,y::r=>rfl
 |o+1,y::r=>by simp [K8,Pi o r]
end
structure B5 (Y:Sy) (S S':VS):Prop where
 n:S'.n=S.n
 lv:S'.lv=S.lv
 D:S'.D=S.D
 next:S'.H.next=S.H.next/\S'.H.hi=S.H.hi
 t:∀(E:Ag) (tmps:Nat->Value),E.sy=Y.v->(∀t,t<512->Ac E (Ao S.T t) (tmps t))->∀t,t<512->Ac E (Ao S'.T t) (tmps t)
 r:∀(B:World) (pr:Nat->Prop) (E:Ag) (w:World),E.sy=Y.v->As B pr E S.H w->As B pr E S'.H w
section
omit [Gl]
theorem B5.refl (Y:Sy) (S:VS):B5 Y S S:=⟨rfl,rfl,rfl,⟨rfl,rfl⟩,λ_ _ _ h=>h,λ_ _ _ _ _ h=>h⟩
theorem B5.trans {Y:Sy} {S S' S'':VS} (h:B5 Y S S') (h':B5 Y S' S''):B5 Y S S'':=
 ⟨h'.n.trans h.n,h'.lv.trans h.lv,h'.D.trans h.D,⟨h'.next.1.trans h.next.1,h'.next.2.trans h.next.2⟩,λE tm e hc=>h'.t E tm e (h.t E tm e hc),λB pr E w e hr=>h'.r B pr E w e (h.r B pr E w e hr)⟩
theorem KJ {E:Ag} {a a':AV} (h:∀v,Ac E a v->Ac E a' v):∀(o:Nat) (cs:List AV) (vs:List Value),cs[o]? =some a->Ah E cs vs->Ah E (EO o a' cs) vs
 |o,[],vs,h1,_=>by simp at h1
 |0,b::r,vs,h1,hc=>by
  grind [EO,Ah]
 |o+1,b::r,vs,h1,hc=>by simp only [List.getElem?_cons_succ]at h1;simp only [EO,Ah]at hc⊢;obtain ⟨v,q,h2,h3,h4⟩:=hc;exact ⟨v,q,h2,h3,KJ h o r q h1 h4⟩
def uE {rn:List (Nat×Nat)} {t:TA} {S:VS} {Y:Sy} (h:∀i k,(i,k)∈(Tc rn t S).l->(Dl.same i k).ok Y):B5 Y S (Tc rn t S).S:=by
 unfold Tc at h⊢;split at h;exact B5.refl Y S;rename_i a ha;split at h;exact B5.refl Y S;rename_i i k a' hst;split at h
 .rename_i hoff;split at h
  .rename_i hb;have hlt:t.loc<512:=(by simp_all);have hloc:Ao S.T t.loc=a:=by
    grind [NX]
   refine ⟨rfl,rfl,rfl,⟨rfl,rfl⟩,λE tm e hc q hq=>?_,λ_ _ _ _ _ h=>h⟩
   grind [GD,SF,Fm]
  exact B5.refl Y S
 .rename_i o hoff;split at h
  .rename_i r hr;split at h
   .rename_i cs hk;have hs:=h i k (zf' ..);have hcell:cs[o]? =some a:=by
     grind [NX,Pi]
    refine ⟨rfl,rfl,rfl,⟨rfl,rfl⟩,λ_ _ _ h=>h,λB pr E w e hrel=>?_⟩;refine hrel.setTo hk λown hrow=>?_;rcases hrow with ⟨_,hv⟩|⟨b,oo,q1,q2,arr,tt,q3,q4,q5,q6⟩;exact hv.elim
    .refine .inr ⟨b,oo,q1,q2,arr,tt,q3,q4,by rw [jS];exact q5,λq x hx=>?_⟩;rcases cW a' o cs q x hx with hx|⟨rfl,rfl,_⟩<;>grind [SF]
   exact B5.refl Y S
  .rename_i hr;unfold NX at ha;rw [hoff]at ha;simp only [hr]at ha;generalize Nat.sub t.loc 600=m at*;split at h
   .rename_i cs hk;split at h
    .rename_i hb;have hlt:m<512:=(by simp_all);have hcell:cs[o]? =some a:=by
      grind [Pi]
     refine ⟨rfl,rfl,rfl,⟨rfl,rfl⟩,λE tm e hc q hq=>?_,λ_ _ _ _ _ h=>h⟩
     grind [Ac,GD,KJ,SF,Fm]
    exact B5.refl Y S
   .rename_i cs hk;split at h
    .rename_i hb;have hlt:m<512:=(by simp_all);have hcell:cs[o]? =some a:=by
      grind [Pi]
     refine ⟨rfl,rfl,rfl,⟨rfl,rfl⟩,λE tm e hc q hq=>?_,λ_ _ _ _ _ h=>h⟩
     grind [Ac,GD,KJ,SF,Fm]
    exact B5.refl Y S
   exact B5.refl Y S
theorem QO {x:Nat×Nat}:∀{a b:List (Nat×Nat)},x∈Jp.appP a b↔x∈a\/x∈b
 |[],b=>by simp [Jp.appP]
 |y::r,b=>by simp [Jp.appP,QO (a:=r),or_assoc]
def WN {rn:List (Nat×Nat)} {Y:Sy}:∀{ts:List TA} {S:VS},(∀i k,(i,k)∈(Jp rn ts S).l->(Dl.same i k).ok Y)->B5 Y S (Jp rn ts S).S
 |[],S,_=>B5.refl Y S
 |t::r,S,h=>by unfold Jp at h⊢;simp only at h⊢;exact (uE λi k hik=>h i k (QO.2 (.inl hik))).trans (WN λi k hik=>h i k (QO.2 (.inr hik)))
end
def B5.weak {Y:Sy} {S S':VS} (h:B5 Y S S') (k:Nat):A1 P N k Y S.T S.H S.D Y S'.T S'.H S'.D:=λB pr E a w hy st=>
 ⟨E,Ag.leF_refl k E,hy,⟨st.t.size,st.t.le,h.t E _ hy.v st.t.con,st.t.gl⟩,h.r B pr E w hy.v st.r,by rw [h.D];exact st.d⟩
def fW {k:Nat} {Y:Sy}:∀{q:List SR} {S:VS},(∀i j,(i,j)∈aq q->(Dl.same i j).ok Y)->A1 P N k Y S.T S.H S.D Y (I4 q S).T (I4 q S).H (I4 q S).D/\(I4 q S).n=S.n/\(I4 q S).lv=S.lv/\(I4 q S).D=S.D
 |[],S,_=>⟨A1.refl _ _ _ _ _ _ _,rfl,rfl,rfl⟩
 |q::r,S,h=>by obtain ⟨h1,h2,h3,h4⟩:=fW (k:=k) (q:=r) (S:=⟨BZ (FB q.id q.i q.k) S.T,S.H,S.n,S.lv,S.D⟩) λi j hm=>h i j (zg' _ hm);refine ⟨A1.trans (λB pr E a w hy st=>⟨E,Ag.leF_refl k E,hy,⟨⟨st.t.size,st.t.le,λt ht=>?_,st.t.gl⟩,st.r,st.d⟩⟩) h1,h2,h3,h4⟩;rw [E8];exact Yy hy.v (h q.i q.k (zf' ..)) (st.t.con t ht)
omit [Gl]in
def yd {all:List Oper} {o:Oper} {g:Tm->Option Bool} (hg:Du all o=.mk g) {T:Tm} {t:Bool} (h:g T=some t) (id i k:Nat):g (BZ (FB id i k) T)=some t:=by
 unfold Du at hg;split at hg;cases hg
 .rename_i j want hgu;split at hg
  .split at hg
   .rename_i d hd;split at hg
    .cases hg;have e:(Dy d).f (BZ (FB id i k) T)=FB id i k ((Dy d).f T):=E8 _ _ _;show Es ((Dy d).f (BZ (FB id i k) T)) want=some t;have h:Es ((Dy d).f T) want=some t:=h;rw [e];generalize (Dy d).f T=x at h⊢;cases x with
     |tup cs=>cases cs<;>first|exact h|(simp [Es]at h)
     |_=>first|exact h|(simp [Es]at h)
    grind
   grind
  grind
omit [Gl]in
def py {all:List Oper} {o:Oper} {g:Tm->Option Bool} (hg:Du all o=.mk g) {t:Bool}:∀{q:List SR} {S:VS},g S.T=some t->g (I4 q S).T=some t
 |[],S,h=>h
 |q::r,S,h=>py (q:=r) hg (S:=⟨BZ (FB q.id q.i q.k) S.T,S.H,S.n,S.lv,S.D⟩) (yd hg h q.id q.i q.k)
theorem eV {k:Nat} {Y:Sy} {S:VS} {l:List AV} (h:∀i j,(i,j)∈(La S l).l->(Dl.same i j).ok Y):AQ P N k Y S (La S l).S/\(La S l).S.n=S.n/\(La S l).S.lv=S.lv/\(La S l).S.D=S.D:=by
 unfold La at h⊢;generalize hq:NG S.H l=q at h⊢;cases q with
 |nil=>exact ⟨AQ.frz S l,rfl,rfl,rfl⟩
 |cons a r=>obtain ⟨h1,h2,h3,h4⟩:=fW (P:=P) (N:=N) (k:=k) (S:=S) h;have h5:=AQ.frz (P:=P) (N:=N) (k:=k) (Y:=Y) (I4 (a::r) S) (YA (a::r) l);exact ⟨⟨h1.trans h5.1,λall o g t hg ht=>h5.2 all o g t hg (py hg ht)⟩,h2,h3,h4⟩
theorem Oo {L:BG} {Y:Sy} {t:VT}:∀{l:List (Nat×Nat)},AC P Q L Y (Mp l t)->(∀i k,(i,k)∈l->(Dl.same i k).ok Y)/\AC P Q L Y t
 |[],h=>⟨(λ_ _ h=>by cases h),h⟩
 |(i,k)::r,h=>by obtain ⟨h1,h2⟩:=h;obtain ⟨h3,h4⟩:=Oo (l:=r) h2;refine ⟨λi' k' hm=>?_,h4⟩;rcases List.mem_cons.1 hm with e|hm;cases e;exact h1;exact h3 i' k' hm
def Tw {L:BG} {Y:Sy} {t:VT}:∀{l:List Nat},AC P Q L Y (Rx l t)->(∀i,i∈l->(Dl.nn i).ok Y)/\AC P Q L Y t
 |[],h=>⟨(λ_ h=>by cases h),h⟩
 |i::r,h=>by obtain ⟨h1,h2⟩:=h;obtain ⟨h3,h4⟩:=Tw (l:=r) h2;refine ⟨λi' hm=>?_,h4⟩;rcases List.mem_cons.1 hm with e|hm;cases e;exact h1;exact h3 i' hm
omit [Gl]in
def oE {E:Ag} {f:Nat->Value}:∀(ag:List AV) (i:Nat) (T:Tm),i+ag.length<=512->(∀t,t<512->Ac E (Ao T t) (f t))->(∀j a,ag[j]? =some a->Ac E a (f (i+j)))->∀t,t<512->Ac E (Ao (C6 ag i T) t) (f t)
 |[],i,T,_,h,_=>h
 |a::r,i,T,hl,h,ha=>by
  simp only [List.length_cons]at hl;refine oE r (i+1) _ (by omega) (λt ht=>?_) λj b hb=>?_
  .by_cases e:i=t;subst e;rw [GD _ ht];exact ha 0 a rfl
   grind [Fm]
  .have:=ha (j+1) b (by grind)
   grind
omit [Gl]in
def jv:∀{l:List (Nat×AV)} {i:Nat},i<=512->QI i l=true->i+(DE l).length<=512
 |[],i,hi,_=>hi
 |(j,a)::r,i,hi,h=>by
  obtain ⟨_,h⟩:=Au h;obtain ⟨h1,h2⟩:=Au h;have h1:i<512:=(by simp_all);have:=jv (l:=r) (i:=i+1) h1 h2
  grind [DE]
def ZI {ft:FT} {m:MR} {low:List Nat} {u:Tm->AV->Tm} {S:VS} {Xv:VX->VT} {kt:VS->VT} {R:Nat->List AV->Prop} {L:BG} {Y:Sy} {n:Nat} {b:Bool} {tp:BH}:∀(l:List (Bool×BH)) (j0:Nat),PZ P Q R L Y n j0 (Wj ft m low u S Xv kt l)->∀j,l[j]? =some (b,tp)->∀ws,R (j0+j) ws->
  AC P Q L (Y.puts n ws) (match b with
   |false=>kt ⟨u S.T (Kx ft m low S tp),HP ft m low S tp,OW ft S tp,S.lv,S.D⟩
   |true=>Xv (.pan (Kx ft m low S tp) ⟨S.T,HP ft m low S tp,OW ft S tp,S.lv,S.D⟩))
 |[],j0,_,j,hj,_,_=>by simp at hj
 |(b',tp')::r,j0,h,j,hj,ws,hw=>by
  obtain ⟨h1,h2⟩:=h;cases j with
  |zero=>
   grind
  |succ j=>exact ZI r (j0+1) h2 j (by simpa using hj) ws (by rw [show j0+1+j=j0+(j+1) by omega];exact hw)
theorem jf {o:Oper} {u:Tm->AV->Tm} {S S1:VS} {Y:Sy} {L:BG} {kt:VS->VT} {next:KP} {Xv:VX->VT} {X:XP} (hnext:Nx P Q c L S Y kt next) (hX:NM P Q c L S Y Xv X) (hn1:S1.n=S.n) (hl1:S1.lv=S.lv) (hf:Av P c S.n Y) {g:FuncId} {ft:FT} {ag:List AV}
  (hst:(A3 P o).run S1.T S1.H=some (.call g ag)) (h:AC P Q L Y (Sk g ft u S1 ag Xv kt)):LL P N c.k o u Y S1.T S1.H S1.D next X:=by
 unfold Sk at h;simp only at h;generalize hfr:TO ft.ent ⟨C6 ag 0 AP,S1.H,S1.n,S1.lv,[]⟩=f at h;split at h;exact h.elim;rename_i m hm;split at h;exact h.elim;rename_i low hlow;split at h
 case h_2=>exact h.elim
 rename_i hb;obtain ⟨b1,hb⟩:=Au hb;obtain ⟨b2,hb⟩:=Au hb;obtain ⟨b3,hb⟩:=Au hb;obtain ⟨b4,b5⟩:=Au hb;have b2:=zk' b2;have b3:=ze' b3;rw [BW,BW]at b3;obtain ⟨hs1,h⟩:=Oo h;have hfo:B5 Y ⟨C6 ag 0 AP,S1.H,S1.n,S1.lv,[]⟩ f.S:=by rw [←hfr];exact WN (by rw [←hfr]at hs1;exact hs1)
 obtain ⟨R,hF,hok,hbr⟩:=h
 let S2:VS:=⟨S1.T,f.S.H,S1.n,S1.lv,S1.D⟩
 have hf1:AA Y S1.n:=by rw [hn1];exact hf.1
 have hvlen:(An Y.v m.hv).length=ft.ent.nv:=hF.1;refine ⟨g,ag,λY' b r H'=>∃j ws tp,ft.exs[j]? =some (b,tp)/\R j ws/\Ak ws=true/\ws.length=tp.nv/\Y'=(Y.puts S1.n (An Y.v m.hv)).puts (S1.n+ft.ent.nv) ws/\r=Kx ft m low S2 tp/\H'=HP ft m low S2 tp,hst,?_,?_,λB pr E a w us hy st hcon=>?_⟩;rintro Y' r H' ⟨j,ws,tp,h1,h2,h3,h4,rfl,rfl,rfl⟩;have hv:=ZI ft.exs 0 hbr j h1 ws (by grind);refine hnext _ ⟨u S1.T (Kx ft m low S2 tp),HP ft m low S2 tp,OW ft S2 tp,S1.lv,S1.D⟩ hl1 ?_ ?_ ?_ hv;show S.n<=S1.n+ft.ent.nv+tp.nv;omega;rw [←hn1];exact (AR.puts _ _ (za' _)).trans (AR.puts ws _ (za' _)) (zh' _ _);have hg1:Av P c (S1.n+ft.ent.nv) (Y.puts S1.n (An Y.v m.hv)):=(by rw [←hvlen,hn1];exact hf.puts _);show Av P c (S1.n+ft.ent.nv+tp.nv) _;rw [←h4];exact hg1.puts ws;rintro Y' v H' ⟨j,ws,tp,h1,h2,h3,h4,rfl,rfl,rfl⟩;have hv:=ZI ft.exs 0 hbr j h1 ws (by grind);refine hX _ ⟨S1.T,HP ft m low S2 tp,OW ft S2 tp,S1.lv,S1.D⟩ (Kx ft m low S2 tp) hl1 ?_ ?_ ?_ hv;show S.n<=S1.n+ft.ent.nv+tp.nv;omega;rw [←hn1];exact (AR.puts _ _ (za' _)).trans (AR.puts ws _ (za' _)) (zh' _ _);have hg1:Av P c (S1.n+ft.ent.nv) (Y.puts S1.n (An Y.v m.hv)):=(by rw [←hvlen,hn1];exact hf.puts _);show Av P c (S1.n+ft.ent.nv+tp.nv) _;rw [←h4];exact hg1.puts ws;have hlen:us.length=ag.length:=hcon.length;have hl512:ag.length<=512:=(by have:=jv (Nat.zero_le _) b4;omega);have hcT:∀t,t<512->Ac E (Ao (C6 ag 0 AP) t) ((⟨us⟩:Array Value).getD t undef):=oE ag 0 AP (by omega) (λt _=>by rw [K2];simp [Ac]) λj x hx=>(by obtain ⟨v,h1,h2⟩:=hcon.at j x hx;simp_all);have hcT2:=hfo.t E _ hy.v hcT;have hr2:As B pr E f.S.H w:=hfo.r B pr E w hy.v st.r;refine Calls.mono (qP (S:=S2) (nargs:=(DE ft.ent.slots).length) hm hlow b1 b2 rfl b4 b5 hF hok hf1 hy st.t.gl hr2 (by omega) hcT2 c.k) λe w' he=>?_;obtain ⟨j,ws,b,tp,E2,v,h1,h2,h3,h4,hv,hsub,hle,hat,hrel,hcv,rfl⟩:=he;have hll:∀i l,E.syl i=some l->((Y.puts S1.n (An Y.v m.hv)).puts (S1.n+ft.ent.nv) ws).l i=some l:=λi l hx=>(by obtain ⟨k1,k2,k3,k4⟩:=hf1.puts (An Y.v m.hv);rw [hvlen]at k1;rw [(k1.puts ws).2.2.1,k3,←hy.l];exact hx);have hlo:∀i,i<64->((Y.puts S1.n (An Y.v m.hv)).puts (S1.n+ft.ent.nv) ws).v i=E.sy i:=λi hi=>(by obtain ⟨k1,k2,k3,k4⟩:=hf1.puts (An Y.v m.hv);rw [hvlen]at k1;rw [(k1.puts ws).2.2.2 i hi,k4 i hi,hy.v]);have st1:=st.with hv hll hlo;exact ⟨E2,_,b,_,_,v,⟨j,ws,tp,h1,h2,h3,h4,rfl,rfl,rfl⟩,hle,hat,⟨⟨st1.t.size,st1.t.le,λt ht=>(st1.t.con t ht).sub hsub,st1.t.gl.sub hsub⟩,hrel,st1.d.sub hsub⟩,hcv,rfl⟩
def xc {o:Oper} {u:Tm->AV->Tm} {S:VS} {Y:Sy} {L:BG} {kt:VS->VT} {next:KP} {Xv:VX->VT} {X:XP} (hnext:Nx P Q c L S Y kt next) (hX:NM P Q c L S Y Xv X) (hf:Av P c S.n Y) {g:FuncId} {ft:FT} {ag:List AV}
  (hst:(A3 P o).run S.T S.H=some (.call g ag)) (h:AC P Q L Y (XG P g ft o u S ag Xv kt)):∃S',AQ P N c.k Y S S'/\LL P N c.k o u Y S'.T S'.H S'.D next X:=by
 unfold XG at h;split at h;exact ⟨S,AQ.refl _ _ _ _ _,jf hnext hX rfl rfl hf hst h⟩
 .simp only at h;split at h
  .rename_i r hst2;split at h
   .split at h
    .grind [ze',Oo,eV,jf]
    exact h.elim
   exact h.elim
  exact h.elim
omit [Gl]in
def sg {all:List Oper} {o:Oper} {g:Tm->Option Bool} (hg:Du all o=.mk g) {T:Tm} {t:Bool} (h:g T=some t) (k n:Nat):g (BZ (D3 k n) T)=some t:=by
 unfold Du at hg;split at hg;cases hg
 .rename_i j want hgu;split at hg
  .split at hg
   .rename_i d hd;split at hg
    .cases hg;have e:(Dy d).f (BZ (D3 k n) T)=D3 k n ((Dy d).f T):=E8 _ _ _;show Es ((Dy d).f (BZ (D3 k n) T)) want=some t;have h:Es ((Dy d).f T) want=some t:=h;rw [e];generalize (Dy d).f T=x at h⊢;cases x with
     |tup cs=>cases cs<;>first|exact h|(simp [Es]at h)
     |_=>first|exact h|(simp [Es]at h)
    grind
   grind
  grind
def AQ.keep {P:Program} {N k:Nat} {Y:Sy} (S:VS) (j n:Nat):AQ P N k Y S ⟨BZ (D3 j n) S.T,S.H,S.n,S.lv,S.D⟩:=
 ⟨λB pr E a w hy st=>⟨E,Ag.leF_refl k E,hy,⟨⟨st.t.size,st.t.le,λt ht=>by rw [E8];exact ou (st.t.con t ht),st.t.gl⟩,st.r,st.d⟩⟩,λ_ _ _ _ hg h=>sg hg h j n⟩
def mf (hm:P.follows .mixedOrders=true) (hc:Cj P (CL P fuel)) {o:Oper} {u:Tm->AV->Tm} {S:VS} {Y:Sy} {L:BG} (hL:L.length=S.lv) {kt:VS->VT} {next:KP} {Xv:VX->VT} {X:XP} (hnext:Nx P Q c L S Y kt next) (hX:NM P Q c L S Y Xv X) (hf:Av P c S.n Y)
  (h:AC P Q L Y (SM P I c o u S Xv kt)):∃S',AQ P N c.k Y S S'/\LL P N c.k o u Y S'.T S'.H S'.D next X:=by
 unfold SM at h;split at h;exact (show False from h).elim
 .rename_i hb;obtain ⟨hD,hk⟩:=Au hb;have hk:c.k<=S.H.next:=zk' hk;simp only at h;split at h
  .rename_i r hst;split at h
   .rename_i g ag;refine ⟨⟨BZ (D3 S.H.next S.n) S.T,S.H,S.n,S.lv,S.D⟩,AQ.keep S _ _,?_⟩;have hs:=I.ok hm hc hL hf h;refine ⟨g,ag,λY' b r H'=>∃n',S.n<=n'/\AR S.n Y Y'/\Av P c n' Y'/\(match b with
     |false=>AC P Q L Y' (kt ⟨u (BZ (D3 S.H.next S.n) S.T) r,H',n',S.lv,S.D⟩)
     |true=>AC P Q L Y' (Xv (.pan r ⟨BZ (D3 S.H.next S.n) S.T,H',n',S.lv,S.D⟩))),hst,λY' r H' hR=>?_,λY' v H' hR=>?_,λB pr E a w vs hy st hcon=>?_⟩
    obtain ⟨n',h1,h2,h3,h4⟩:=hR;exact hnext Y' ⟨u (BZ (D3 S.H.next S.n) S.T) r,H',n',S.lv,S.D⟩ rfl h1 h2 h3 h4;obtain ⟨n',h1,h2,h3,h4⟩:=hR;exact hX Y' ⟨BZ (D3 S.H.next S.n) S.T,H',n',S.lv,S.D⟩ v rfl h1 h2 h3 h4
    .refine Calls.mono (hs B pr E w vs hy st.t.gl st.r hcon) λe w' he=>?_;obtain ⟨Y',r,⟨n',lv',L',q1,q2,q3,q4,q5,q6⟩,E',hle,hy',hres⟩:=he;have hkeep:C9 S.H.next S.n E E':=⟨hle.phi,hle.sz,hle.imm,λi hi=>by rw [hy'.v,hy.v];exact q4 i hi⟩;have hst':∀H',As B pr E' H' w'->St P B pr N E' (BZ (D3 S.H.next S.n) S.T) H' S.D a w':=λH' hr=>⟨⟨st.t.size,st.t.le,λt ht=>by
      have:=st.t.con t ht
      grind [E8,gh],st.t.gl.leF hle⟩,hr,ZP hkeep hD st.d⟩
     have hlek:E.leF c.k E':=⟨λi x hi=>hle.phi i x (zj' hi hk),hle.sz,hle.imm,hle.bim,hle.sy⟩
     have hlv:∀{A B:VT},AC P Q L' Y' (match Nat.beq lv' S.lv with
       |true=>A
       |false=>.bad)->lv'=S.lv/\AC P Q L Y' A:=λhv=>by
      split at hv
      .rename_i hb;have e:=ze' hb;have:L'=L:=(q1.eq_of_length (by omega)).symm
       grind
      grind [AC]
     cases r with
     |ret v H'=>obtain ⟨x,rfl,h1,h2⟩:=hres;obtain ⟨e,hv⟩:=hlv (B:=.bad) q6;exact ⟨E',Y',false,v,H',x,⟨n',q3,q4,q5,by grind⟩,hlek,hy',hst' H' h2,h1,rfl⟩
     |pan v H'=>obtain ⟨x,rfl,h1,h2⟩:=hres;obtain ⟨e,hv⟩:=hlv (B:=.bad) q6;exact ⟨E',Y',true,v,H',x,⟨n',q3,q4,q5,by grind⟩,hlek,hy',hst' H' h2,h1,rfl⟩
   exact h.elim
  exact h.elim
def vw (hm:P.follows .mixedOrders=true) (hc:Cj P (CL P fuel)) {o:Oper} {u:Tm->AV->Tm} {S:VS} {Y:Sy} {L:BG} {kt:VS->VT} {next:KP} {Xv:VX->VT} {X:XP} (hnext:Nx P Q c L S Y kt next) (hX:NM P Q c L S Y Xv X) (hL:L.length=S.lv) (hf:Av P c S.n Y) {g:FuncId} {ag:List AV}
  (hst:(A3 P o).run S.T S.H=some (.call g ag)) (h:AC P Q L Y (aU P fuel I c o u S g ag Xv kt)):
  ∃S',AQ P N c.k Y S S'/\(HK P o u Y S'.T S'.H S'.D next X\/F4 P N c.k o u Y S'.T S'.H S'.D next\/RP P N c.k o u Y S'.T S'.H S'.D next\/LL P N c.k o u Y S'.T S'.H S'.D next X):=by
 unfold aU at h;split at h;obtain ⟨S',h1,h2⟩:=xc hnext hX hf hst h;exact ⟨S',h1,.inr (.inr (.inr h2))⟩;split at h;rename_i sh hsh;split at h;rename_i hso;exact ⟨S,AQ.refl _ _ _ _ _,.inr (.inr (.inl (dl hnext rfl rfl rfl hf hso hst h)))⟩;split at h;rename_i r hst2;split at h;rename_i g' args';split at h;rename_i hb;obtain ⟨e1,hso⟩:=Au hb;have e1:=ze' e1;subst e1;exact ⟨Ec S ag,AQ.frz S ag,.inr (.inr (.inl (dl (S1:=Ec S ag) hnext rfl rfl rfl hf hso hst2 h)))⟩;exact h.elim;exact h.elim;exact h.elim;split at h;rename_i r hcall;split at h;rename_i a H';refine ⟨S,AQ.refl _ _ _ _ _,.inl ?_⟩;unfold HK;rw [hst];refine λB pr E w vs hy hg hr hcon=>Calls.mono (hc g ag S.H _ hcall B pr E w vs hg hr hcon) λe w' he=>⟨_,?_,he⟩;exact hnext Y ⟨u S.T a,H',S.n,S.lv,S.D⟩ rfl (za' _) (AR.refl _ _) hf h;obtain ⟨S',h1,h2⟩:=mf hm hc hL hnext hX hf h;exact ⟨S',h1,.inr (.inr (.inr h2))⟩;obtain ⟨S',h1,h2⟩:=mf hm hc hL hnext hX hf h;exact ⟨S',h1,.inr (.inr (.inr h2))⟩
theorem zL {o:Oper} {op:XOp} {ag:List AV} {S:VS} {Y:Sy} {L:BG} {kt:VS->VT} {next:KP} (hnext:Nx P Q c L S Y kt next) (hf:Av P c S.n Y) {id sz:Nat} (ha:Wm P S o=some (id,sz,op,ag)) {u:Tm->AV->Tm}
  (h:AC P Q L Y (.lt op ag S.n none (kt ⟨u S.T (.slx S.H.next sz S.n),(S.H.erase id).push (.syl S.n),Nat.succ S.n,S.lv,S.D⟩))):F4 P N c.k o u Y S.T S.H S.D next:=by
 obtain ⟨r,hr,hok,htree⟩:=h;refine ⟨Y.put S.n r,.slx S.H.next sz S.n,(S.H.erase id).push (.syl S.n),hnext _ ⟨u S.T (.slx S.H.next sz S.n),(S.H.erase id).push (.syl S.n),Nat.succ S.n,S.lv,S.D⟩ rfl (zc' _) (AR.put r (za' _)) (hf.put r) htree,λB pr E a w hy st=>?_⟩;unfold Wm at ha;split at ha;rename_i hD;rw [VF hD]at st⊢;exact qN ha hf.1 hr hok hy st;cases ha
theorem sV {o:Oper} {op:XOp} {ag:List AV} {S:VS} {Y:Sy} {L:BG} {kt:VS->VT} {next:KP} (hnext:Nx P Q c L S Y kt next) (hf:Av P c S.n Y) {id sz:Nat} (ha:Xq P S o=some (id,sz,op,ag)) {u:Tm->AV->Tm}
  (h:AC P Q L Y (.lt op ag S.n none (kt ⟨u S.T (.slx S.H.next sz S.n),(S.H.erase id).push (.syl S.n),Nat.succ S.n,S.lv,S.D⟩))):F4 P N c.k o u Y S.T S.H S.D next:=by
 obtain ⟨r,hr,hok,htree⟩:=h;refine ⟨Y.put S.n r,.slx S.H.next sz S.n,(S.H.erase id).push (.syl S.n),hnext _ ⟨u S.T (.slx S.H.next sz S.n),(S.H.erase id).push (.syl S.n),Nat.succ S.n,S.lv,S.D⟩ rfl (zc' _) (AR.put r (za' _)) (hf.put r) htree,λB pr E a w hy st=>?_⟩;unfold Xq at ha;split at ha;rename_i hD;split at ha;rename_i q hq;rw [VF hD]at st⊢;cases ha;exact w9 hq hf.1 hr hok hy st;exact yZ ha hf.1 hr hok hy st;cases ha
theorem wO {o:Oper} {op:XOp} {ag:List AV} {S:VS} {Y:Sy} {L:BG} {kt:VS->VT} {next:KP} (hnext:Nx P Q c L S Y kt next) (hf:Av P c S.n Y) {id:Nat} (ha:bf P S o=some (id,op,ag)) {u:Tm->AV->Tm}
  (h:AC P Q L Y (.lt op ag S.n none (kt ⟨u S.T (.tup []),S.H.set id (.mpl S.n),Nat.succ S.n,S.lv,S.D⟩))):F4 P N c.k o u Y S.T S.H S.D next:=by
 obtain ⟨r,hr,hok,htree⟩:=h;refine ⟨Y.put S.n r,.tup [],S.H.set id (.mpl S.n),hnext _ ⟨u S.T (.tup []),S.H.set id (.mpl S.n),Nat.succ S.n,S.lv,S.D⟩ rfl (zc' _) (AR.put r (za' _)) (hf.put r) htree,λB pr E a w hy st=>?_⟩;unfold bf at ha;split at ha;rename_i hD;rw [VF hD]at st⊢;exact xn ha hf.1 hr hok hy st;cases ha
theorem Sf {o:Oper} {op:XOp} {ag:List AV} {S:VS} {Y:Sy} {L:BG} {kt:VS->VT} {next:KP} (hnext:Nx P Q c L S Y kt next) (hf:Av P c S.n Y) {u:Tm->AV->Tm}
  (hlet:∀(r:AV),op.run P (An Y.v ag)=some r->∀(B:World) (pr:Nat->Prop) (E:Ag) (a:Act) (w:World),E.At Y->St P B pr N E S.T S.H S.D a w->
    ∃E' n v w',(execOp a.eval o).run P w=.ok n w'/\(n=.value v\/(n=.skip/\v=undef))/\E.le E'/\St P B pr N E' S.T S.H S.D a w'/\Ac E' r v)
  (h:AC P Q L Y (.lt op ag S.n none (kt ⟨u S.T (.sym S.n),S.H,Nat.succ S.n,S.lv,S.D⟩))):F4 P N c.k o u Y S.T S.H S.D next:=by
 obtain ⟨r,hr,hok,htree⟩:=h;refine ⟨Y.put S.n r,.sym S.n,S.H,hnext _ ⟨u S.T (.sym S.n),S.H,Nat.succ S.n,S.lv,S.D⟩ rfl (zc' _) (AR.put r (za' _)) (hf.put r) htree,λB pr E a w hy st=>?_⟩;obtain ⟨E',n,v,w',h1,h2,h3,st',h5⟩:=hlet r hr B pr E a w hy st;have hy':=hy.le h3;have hv:∀i x,E'.sy i=some x->(Y.put S.n r).v i=some x:=λi x hx=>hf.1.sub_put r i x (by rw [←hy'.v];exact hx);have hll:∀i l,E'.syl i=some l->(Y.put S.n r).l i=some l:=λi l hx=>by rw [hy'.l]at hx;exact hx
 have hlo:∀i,i<64->(Y.put S.n r).v i=E'.sy i:=λi hi=>by rw [hy'.v];exact hf.1.low r i hi
 refine ⟨E'.with (Y.put S.n r),n,v,w',h1,h2,(h3.leF c.k).trans (Ag.with_leF c.k hlo),⟨rfl,rfl,hy'.res⟩,st'.with hv hll hlo,?_⟩;exact ⟨r,Sy.put_same _ _ _,Fx hok,(Jf hok h5).with⟩
theorem uh {o:Oper} {op:XOp} {ag:List AV} {S:VS} {Y:Sy} {L:BG} {kt:VS->VT} {next:KP} (hnext:Nx P Q c L S Y kt next) (hf:Av P c S.n Y) (ha:FA S.T o=some (op,ag)) {u:Tm->AV->Tm}
  (h:AC P Q L Y (.lt op ag S.n none (kt ⟨u S.T (.sym S.n),S.H,Nat.succ S.n,S.lv,S.D⟩))):F4 P N c.k o u Y S.T S.H S.D next:=by
 obtain ⟨r,hr,hok,htree⟩:=h;refine ⟨Y.put S.n r,.sym S.n,S.H,hnext _ ⟨u S.T (.sym S.n),S.H,Nat.succ S.n,S.lv,S.D⟩ rfl (zc' _) (AR.put r (za' _)) (hf.put r) htree,λB pr E a w hy st=>?_⟩;obtain ⟨E',n,v,w',h1,h2,h3,st',h5⟩:=qA ha hr hy st;have hy':=hy.le h3;have hv:∀i x,E'.sy i=some x->(Y.put S.n r).v i=some x:=λi x hx=>hf.1.sub_put r i x (by rw [←hy'.v];exact hx);have hll:∀i l,E'.syl i=some l->(Y.put S.n r).l i=some l:=λi l hx=>by rw [hy'.l]at hx;exact hx
 have hlo:∀i,i<64->(Y.put S.n r).v i=E'.sy i:=λi hi=>by rw [hy'.v];exact hf.1.low r i hi
 refine ⟨E'.with (Y.put S.n r),n,v,w',h1,h2,(h3.leF c.k).trans (Ag.with_leF c.k hlo),⟨rfl,rfl,hy'.res⟩,st'.with hv hll hlo,?_⟩;exact ⟨r,Sy.put_same _ _ _,Fx hok,(Jf hok h5).with⟩
theorem lb {o:Oper} {u:Tm->AV->Tm} {S:VS} {Y:Sy} {L:BG} {kt:VS->VT} {next:KP} (hnext:Nx P Q c L S Y kt next) (hf:Av P c S.n Y) {op:XOp} {ag:List AV} (hl:FO S.T o=some (op,ag)) (hs:Bm ag=true)
  (h:AC P Q L Y (SU P c u S kt op ag)):F4 P N c.k o u Y S.T S.H S.D next:=by
 unfold SU at h;split at h;split at h;rename_i v hv;exact wq (S:=S.x) hf.2 hl hs hv (hnext Y ⟨u S.T v,S.H,S.n,S.lv,S.D⟩ rfl (za' _) (AR.refl _ _) hf h);refine cz hf hl hs h λY' x n' f0 f1 f2 f3 f4 f5=>?_;obtain ⟨rfl,rfl⟩:=f4 rfl;exact hnext Y' ⟨_,S.H,_,S.lv,S.D⟩ rfl f0 f1 f2 f3;rename_i m hm;refine cz hf hl hs h λY' x n' f0 f1 f2 f3 f4 f5=>?_;obtain ⟨rfl,rfl⟩:=f5 m rfl;exact hnext Y' ⟨_,S.H,_,S.lv,S.D⟩ rfl f0 f1 f2 f3
theorem xA {o:Oper} {u:Tm->AV->Tm} {S:VS} {Y:Sy} {L:BG} {kt:VS->VT} {next:KP} (hnext:Nx P Q c L S Y kt next) (hf:Av P c S.n Y) {t:VT} (ht:Yl P c o u S kt=some t) (h:AC P Q L Y t):F4 P N c.k o u Y S.T S.H S.D next:=by
 unfold Yl at ht;split at ht;cases ht;split at ht;rename_i a ha;cases ht;refine ⟨Y,a,S.H,hnext Y ⟨u S.T a,S.H,S.n,S.lv,S.D⟩ rfl (za' _) (AR.refl _ _) hf h,λB pr E ac w hy st=>?_⟩;obtain ⟨v,h1,h2⟩:=og st.r (λx=>st.t.look x) ha;exact ⟨E,.value v,v,w,h1,.inl rfl,Ag.leF_refl _ _,hy,st,h2⟩;split at ht;rename_i op ag id sz ha;cases ht;obtain ⟨r,hr,hok,htree⟩:=h;exact ⟨Y.put S.n r,.ptx id S.n sz 0,S.H,hnext _ ⟨u S.T (.ptx id S.n sz 0),S.H,Nat.succ S.n,S.lv,S.D⟩ rfl (zc' _) (AR.put r (za' _)) (hf.put r) htree,λB pr E ac w hy st=>yy ha hf.1 hr hok hy st⟩;split at ht
 .rename_i op ag ha;have key:∀(r:AV) (Y':Sy) (x:AV),op.run P (An Y.v ag)=some r->AA Y S.n->(∀i y,Y.v i=some y->Y'.v i=some y)->Y'.l=Y.l->(∀i,i<64->Y'.v i=Y.v i)->(∀(E:Ag) v,E.sy=Y.v->Ac E r v->Ac (E.with Y') x v)->
    ∀(B:World) (pr:Nat->Prop) (E:Ag) (ac:Act) (w:World),E.At Y->St P B pr N E S.T S.H S.D ac w->
    ∃E' n v w',(execOp ac.eval o).run P w=.ok n w'/\(n=.value v\/(n=.skip/\v=undef))/\E.leF c.k E'/\E'.At Y'/\St P B pr N E' S.T S.H S.D ac w'/\Ac E' x v:=by
   intro r Y' x hr _ hv hl hlo hcx B pr E ac w hy st;obtain ⟨v,h1,h2⟩:=YV st.r (λx=>st.t.look x) ha (by rw [hy.v];exact hr);have hv':∀i y,E.sy i=some y->Y'.v i=some y:=λi y hy'=>hv i y (by rw [←hy.v];exact hy');have hl':∀i l,E.syl i=some l->Y'.l i=some l:=λi l hx=>(by rw [hl,←hy.l];exact hx);have hlo':∀i,i<64->Y'.v i=E.sy i:=λi hi=>(by rw [hlo i hi,hy.v]);exact ⟨E.with Y',.value v,v,w,h1,.inl rfl,Ag.with_leF _ hlo',⟨rfl,rfl,hy.res⟩,st.with hv' hl' hlo',hcx E v hy.v h2⟩
  split at ht;cases ht;obtain ⟨r,hr,hok,htree⟩:=h;refine ⟨Y.put S.n r,.sym S.n,S.H,hnext _ ⟨u S.T (.sym S.n),S.H,Nat.succ S.n,S.lv,S.D⟩ rfl (zc' _) (AR.put r (za' _)) (hf.put r) htree,key r _ _ hr hf.1 (λi y hy=>hf.1.sub_put r i y hy) rfl (λi hi=>hf.1.low r i hi) λE v he hc=>?_⟩;exact ⟨r,Sy.put_same _ _ _,Fx hok,(Jf hok hc).with⟩;rename_i mm hmm;cases ht;obtain ⟨cs,hr,hlen,hok,htree⟩:=h;obtain ⟨f1,f2,f3,f4⟩:=hf.1.puts cs;refine ⟨Y.puts S.n cs,.agg (Ae S.n mm),S.H,hnext _ ⟨u S.T (.agg (Ae S.n mm)),S.H,Nat.add S.n mm,S.lv,S.D⟩ rfl (zh' _ _) (AR.puts cs _ (za' _)) (by rw [←hlen];exact hf.puts cs) htree,key _ _ _ hr hf.1 f2 f3 f4 λE v he hc=>?_⟩;obtain ⟨vs,rfl,hL⟩:=hc;refine ⟨vs,rfl,?_⟩;rw [←hlen];exact NZ S.n cs vs hok (λi a ha=>F7 cs hf.1 i a ha) (I9 (E:=E) (E':=E.with (Y.puts S.n cs)) (λ_ _ _ h=>h) (Gv hok hL))
 split at ht;rename_i op ag id ha;cases ht;obtain ⟨r,hr,hok,htree⟩:=h;exact ⟨Y.put S.n r,.tup [],S.H.set id (.syl S.n),hnext _ ⟨u S.T (.tup []),S.H.set id (.syl S.n),Nat.succ S.n,S.lv,S.D⟩ rfl (zc' _) (AR.put r (za' _)) (hf.put r) htree,λB pr E ac w hy st=>tD ha hf.1 hr hok hy st⟩;split at ht;rename_i op ag id sz ha;cases ht;obtain ⟨r,hr,hok,htree⟩:=h;exact ⟨Y.put S.n r,.slx id sz S.n,S.H.set id (.syl S.n),hnext _ ⟨u S.T (.slx id sz S.n),S.H.set id (.syl S.n),Nat.succ S.n,S.lv,S.D⟩ rfl (zc' _) (AR.put r (za' _)) (hf.put r) htree,λB pr E ac w hy st=>wL ha hf.1 hr hok hy st⟩;cases ht
def sY (hm:P.follows .mixedOrders=true) (hc:Cj P (CL P fuel)) {o:Oper} {u:Tm->AV->Tm} {S:VS} {Y:Sy} {L:BG} {kt:VS->VT} {next:KP} {Xv:VX->VT} {X:XP} (hnext:Nx P Q c L S Y kt next) (hX:NM P Q c L S Y Xv X) (hL:L.length=S.lv) (hf:Av P c S.n Y)
  (h:AC P Q L Y (XM P fuel I c o u S Xv kt)):
  ∃S':VS,AQ P N c.k Y S S'/\(HK P o u Y S'.T S'.H S'.D next X\/F4 P N c.k o u Y S'.T S'.H S'.D next\/RP P N c.k o u Y S'.T S'.H S'.D next\/LL P N c.k o u Y S'.T S'.H S'.D next X):=by
 unfold XM at h;split at h;rename_i r hrun;split at h;rename_i a H';refine ⟨S,AQ.refl _ _ _ _ _,.inl ?_⟩;unfold HK;rw [hrun];exact hnext Y ⟨u S.T a,H',S.n,S.lv,S.D⟩ rfl (za' _) (AR.refl _ _) hf h;exact vw hm hc hnext hX hL hf hrun h;rename_i g ag;refine ⟨S,AQ.refl _ _ _ _ _,.inl ?_⟩;unfold HK;rw [hrun];exact hnext Y ⟨u S.T (.tup []),S.H,S.n,S.lv,(g,ag)::S.D⟩ rfl (za' _) (AR.refl _ _) hf h;rename_i v;refine ⟨S,AQ.refl _ _ _ _ _,.inl ?_⟩;unfold HK;rw [hrun];exact hX Y S v rfl (za' _) (AR.refl _ _) hf h;exact h.elim
 .split at h
  .rename_i i a b hp;obtain ⟨t,ht,h1,h2⟩:=h;unfold aI at hp;split at hp
   .rename_i cd a' b' ho;split at hp
    .rename_i i' hl;cases hp;refine ⟨S.know i t,AQ.know ht S,.inl ?_⟩;have hlook:look (S.know i t).T cd=.bool t:=WB hl S.x rfl t;have hst:(A3 P o).run (S.know i t).T (S.know i t).H=some (.val (match t with|true=>look (S.know i t).T a|false=>look (S.know i t).T b) S.H):=by unfold A3;rw [ho];show OC.run (.po λT=>SY (look T cd) (look T a) (look T b)) _ _=_;unfold OC.run;simp only;rw [hlook];cases t<;>rfl
     unfold HK;rw [hst];cases t with
     |true=>exact hnext Y ⟨u (S.know i true).T (look (S.know i true).T a),S.H,S.n,S.lv,S.D⟩ rfl (za' _) (AR.refl _ _) hf (h1 rfl)
     |false=>exact hnext Y ⟨u (S.know i false).T (look (S.know i false).T b),S.H,S.n,S.lv,S.D⟩ rfl (za' _) (AR.refl _ _) hf (h2 rfl)
    cases hp
   cases hp
  .rename_i hp;split at h;rename_i v hv;exact ⟨S,AQ.refl _ _ _ _ _,.inr (.inl (qN_ (S:=S.x) hf.2 hv (hnext Y ⟨u S.T v,S.H,S.n,S.lv,S.D⟩ rfl (za' _) (AR.refl _ _) hf h)))⟩;split at h
   .grind [AQ.refl,xA]
   split at h
   .grind [AQ.refl,zL]
   split at h
   .grind [AQ.refl,sV]
   split at h
   .grind [AQ.refl,uh]
   split at h
   .grind [AQ.refl,wO]
   split at h
   .rename_i op ag ha;split at h
    .grind [AQ.refl,Sf,yl]
    exact h.elim
   split at h
   .grind [AQ.refl,Sf,vV]
   split at h
   .grind [AQ.refl,Sf,zy]
   split at h
   .grind [AQ.refl,Sf,q5_]
   split at h
   .rename_i op ag hl;split at h
    .grind [AQ.refl,lb]
    split at h;rename_i op' args' hl';split at h;rename_i hs;exact ⟨Ec S ag,AQ.frz S ag,.inr (.inl (lb (S:=Ec S ag) hnext hf hl' hs h))⟩;exact h.elim;exact h.elim
   exact h.elim
def qX (hm:P.follows .mixedOrders=true) (hc:Cj P (CL P fuel)) {all:List Oper} {o:Oper} {u:Tm->AV->Tm} {S:VS} {Y:Sy} {L:BG} {kt:VS->VT} {next:KP} {Xv:VX->VT} {X:XP} (hnext:Nx P Q c L S Y kt next) (hX:NM P Q c L S Y Xv X) (hL:L.length=S.lv) (hf:Av P c S.n Y)
  (h:AC P Q L Y (N4 P fuel I c all o u Xv kt S)):
  ∃S':VS,AQ P N c.k Y S S'/\∃t,(match Du all o with
    | .always=>some true
    | .mk g=>g S'.T)=some t/\(t=true->HK P o u Y S'.T S'.H S'.D next X\/F4 P N c.k o u Y S'.T S'.H S'.D next\/RP P N c.k o u Y S'.T S'.H S'.D next\/LL P N c.k o u Y S'.T S'.H S'.D next X)/\(t=false->next Y (u S'.T (.tup [])) S'.H S'.D):=by
 unfold N4 lA at h;split at h
 .rename_i t ht;split at h;exact ⟨S,AQ.refl _ _ _ _ _,false,ht,(λe=>by cases e),λ_=>hnext Y ⟨u S.T (.tup []),S.H,S.n,S.lv,S.D⟩ rfl (za' _) (AR.refl _ _) hf h⟩
  .obtain ⟨S',h1,h2⟩:=sY (N:=N) (X:=X) hm hc hnext hX hL hf h;refine ⟨S',h1,true,?_,λ_=>h2,λe=>by cases e⟩;split at ht
   .grind
   rename_i g hg;rw [hg];exact h1.2 _ _ _ _ hg ht
 exact h.elim
theorem rW (b:Bool) (o:Oper) (S:VS) (Y:Sy):A1 P N c.k Y S.T S.H S.D Y (LV b o S).T (LV b o S).H (LV b o S).D/\(LV b o S).n=S.n/\(LV b o S).lv=S.lv:=by
 have key:∀l:List AV,A1 P N c.k Y S.T S.H S.D Y (Ec S l).T (Ec S l).H (Ec S l).D/\(Ec S l).n=S.n/\(Ec S l).lv=S.lv:=λl=>⟨Uk _,rfl,rfl⟩;have key0:A1 P N c.k Y S.T S.H S.D Y S.T S.H S.D/\S.n=S.n/\S.lv=S.lv:=⟨A1.refl _ _ _ _ _ _ _,rfl,rfl⟩;unfold LV;repeat' split
 all_goals first|exact key0|exact key _|exact ⟨dJ _ _,rfl,rfl⟩
theorem Sp (hm:P.follows .mixedOrders=true) (hc:Cj P (CL P fuel)) {all:List Oper} {X:VX->VT} {K:VS->VT} {L:BG}:∀(l:List Oper) (S:VS) (Y:Sy),L.length=S.lv->Av P c S.n Y->AC P Q L Y (J0 P N fuel I c all X l S K)->Hq P N c.k all l Y S.T S.H S.D (kV P Q c L S.n Y K) (xV P Q c L S.n Y X)
 |[],S,Y,hL,hf,h=>⟨S.n,S.lv,L,zi' L,hL,za' _,AR.refl _ _,hf,h⟩
 |o::r,S,Y,hL,hf,h=>by
  have ih:=Sp hm hc (all:=all) (X:=X) (K:=K) (L:=L) r;have fin:∀(S1:VS) (u:Tm->AV->Tm),CN N o.dst=.mk u->S1.n=S.n->S1.lv=S.lv->A1 P N c.k Y S.T S.H S.D Y S1.T S1.H S1.D->AC P Q L Y (N4 P fuel I c all o u X (λS=>J0 P N fuel I c all X r S K) S1)->
    Hq P N c.k all (o::r) Y S.T S.H S.D (kV P Q c L S.n Y K) (xV P Q c L S.n Y X):=by
   intro S1 u hu hn1 hl1 hw h1;obtain ⟨S',h2,t,ht,h3,h4⟩:=qX (N:=N) (X:=xV P Q c L S.n Y X) (next:=λY' T H D=>Hq P N c.k all r Y' T H D (kV P Q c L S.n Y K) (xV P Q c L S.n Y X)) hm hc (λY' S2 g1 g2 g3 g4 g5=>by
    rw [hn1]at g2 g3;exact W3 (λ_ _ _ _ hk=>SZ (zi' L) g2 g3 hk) (λ_ _ h=>Jz (zi' L) g2 g3 h) _ _ _ _ _ (ih S2 Y' (by omega) g4 g5))
    (λY' S2 v g1 g2 g3 g4 hv=>⟨S2.n,S2.lv,L,zi' L,by omega,by omega,by grind,g4,hv⟩) (by omega) (by grind) h1
   refine ⟨Y,S'.T,S'.H,S'.D,hw.trans h2.1,?_⟩
   grind
  unfold J0 at h;split at h;exact h.elim
  .rename_i u hu;split at h
   .rename_i i hg;obtain ⟨t,ht,h1,h2⟩:=h;cases t with
    |true=>exact fin (S.know i true) u hu rfl rfl (UX ht S.x S.D) (h1 rfl)
    |false=>exact fin (S.know i false) u hu rfl rfl (UX ht S.x S.D) (h2 rfl)
   grind [rW]
end
end Go.Sx
