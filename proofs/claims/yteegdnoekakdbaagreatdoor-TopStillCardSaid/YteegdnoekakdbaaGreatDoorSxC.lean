/-
  The evaluator's operations that compute or read, and that the model's do the same.
-/
import Derived.Test.YteegdnoekakdbaaGreatDoorSyF
set_option linter.unusedVariables false
set_option linter.unusedSimpArgs false
namespace Go.Sx
def aI_ (P:Program) {α:Type}:Sem α->Option α
 | .pure a=>some a
 | .program k=>aI_ P (k P)
 | .mark _ k=>aI_ P k
 |_=>none
theorem bo_ {P:Program} {α:Type}:∀{s:Sem α} {a:α},aI_ P s=some a->∀w,s.run P w=.ok a w
 | .pure a,b,h,w=>by simp_all [aI_]
 | .program k,b,h,w=>by simp only [aI_]at h;exact bo_ (s:=k P) h w
 | .mark m k,b,h,w=>by simp only [aI_]at h;exact bo_ (s:=k) h w
 | .load ..,b,h,w=>by simp [aI_]at h
 | .store ..,b,h,w=>by simp [aI_]at h
 | .new ..,b,h,w=>by simp [aI_]at h
 | .shape ..,b,h,w=>by simp [aI_]at h
 | .freeze ..,b,h,w=>by simp [aI_]at h
 | .frozen ..,b,h,w=>by simp [aI_]at h
 | .getObj ..,b,h,w=>by simp [aI_]at h
 | .setObj ..,b,h,w=>by simp [aI_]at h
 | .choose ..,b,h,w=>by simp [aI_]at h
 | .sys ..,b,h,w=>by simp [aI_]at h
 | .halt ..,b,h,w=>by simp [aI_]at h
def pM_:Value->AV
 | .bool b=>.bool b
 | .int k n=>.int k n
 | .float k n=>.flt k n
 | .string ⟨⟨s⟩⟩=>.str s
 | .pointer none=>.nptr
 | .slice none 0 0=>.nsl
 | .map none=>.nmap
 | .nilFunc=>.nfn
 | .nilIface=>.nif
 | .func (.func f) ⟨[]⟩ ⟨[]⟩=>.fn f []
 |_=>.opq
theorem fQ_ (E:Env) (v:Value):Con E (pM_ v) v:=by
 unfold pM_
 grind [Con,ConL]
def pL_:List Value->List AV
 |[]=>[]
 |v::r=>pM_ v::pL_ r
theorem eV_ (E:Env):∀vs:List Value,ConL E (pL_ vs) vs
 |[]=>by simp [pL_,ConL]
 |v::r=>ConL.cons (fQ_ E v) (eV_ E r)
def ofV:Value->AV
 | .agg ⟨cs⟩=>.agg (pL_ cs)
 | .tuple ⟨cs⟩=>.tup (pL_ cs)
 | .iface t v=>.iface t (pM_ v)
 |v=>pM_ v
theorem cH_ (E:Env) (v:Value):Con E (ofV v) v:=by unfold ofV;split;exact ⟨_,rfl,eV_ E _⟩;exact ⟨_,rfl,eV_ E _⟩;exact ⟨_,rfl,fQ_ E _⟩;exact fQ_ E _
def as_ (z:Value):List AV:=match z with
 | .agg ⟨cs⟩=>pL_ cs
 |v=>[pM_ v]
theorem a4_ (E:Env) (z:Value):ConL E (as_ z) z.cells.toList:=by
 unfold as_;split;exact eV_ E _
 .rename_i h;cases z<;>first|exact ConL.cons (fQ_ E _) (ConL.nil E)|exact absurd rfl (h _)
def iP_:AV->Option Value
 | .bool b=>some (.bool b)
 | .int k n=>some (.int k n)
 | .flt k n=>some (.float k n)
 | .str s=>some (.string ⟨⟨s⟩⟩)
 | .nptr=>some (.pointer none)
 | .nsl=>some (.slice none 0 0)
 | .nmap=>some (.map none)
 | .nfn=>some .nilFunc
 | .nif=>some .nilIface
 | .fn f []=>some (.func (.func f) #[] #[])
 |_=>none
theorem gQ_ {E:Env} {a:AV} {u v:Value} (h:iP_ a=some u) (hc:Con E a v):v=u:=by
 unfold iP_ at h;split at h<;>first
  |(cases h;done)
  |(cases h;simpa only [Con]using hc)
  |(cases h;simp only [Con,ConL]at hc;obtain ⟨vs,rfl,rfl⟩:=hc;rfl)
def e8_:List AV->Option (List Value)
 |[]=>some []
 |a::r=>match iP_ a with
  |none=>none
  |some v=>match e8_ r with
   |none=>none
   |some vs=>some (v::vs)
theorem fz_ {E:Env}:∀{as:List AV} {us vs:List Value},e8_ as=some us->ConL E as vs->vs=us
 |[],us,vs,h,hc=>by grind [e8_,ConL]
 |a::as,us,vs,h,hc=>by simp only [e8_]at h;simp only [ConL]at hc;obtain ⟨v,r,rfl,h2,h3⟩:=hc;split at h;cases h;rename_i v0 hv0;split at h;cases h;rename_i vs0 hvs0;cases h;rw [gQ_ hv0 h2,fz_ hvs0 h3]
def plain:AV->Option Value
 | .agg cs=>match e8_ cs with
   |some l=>some (.agg ⟨l⟩)
   |none=>none
 | .tup cs=>match e8_ cs with
   |some l=>some (.tuple ⟨l⟩)
   |none=>none
 | .iface t a=>match iP_ a with
   |some v=>some (.iface t v)
   |none=>none
 |a=>iP_ a
theorem eE_ {E:Env} {a:AV} {u v:Value} (h:plain a=some u) (hc:Con E a v):v=u:=by
 cases a with
 |agg cs=>simp only [plain]at h;split at h;rename_i l hl;cases h;obtain ⟨vs,rfl,h2⟩:=hc;rw [fz_ hl h2];cases h
 |tup cs=>simp only [plain]at h;split at h;rename_i l hl;cases h;obtain ⟨vs,rfl,h2⟩:=hc;rw [fz_ hl h2];cases h
 |iface t a=>simp only [plain]at h;split at h;rename_i l hl;cases h;obtain ⟨vs,rfl,h2⟩:=hc;rw [gQ_ hl h2];cases h
 |_=>grind [gQ_,plain]
def Gives (P:Program) (B:World) (pr:Nat->Prop) (E:Env) (w:World) (s:Sem Value) (r:AV×AHeap):Prop:=
 ∃E' v' w',s.run P w=.ok v' w'/\E.le E'/\Rel B pr E' r.2 w'/\Con E' r.1 v'
section
variable {P:Program} {B:World} {pr:Nat->Prop} {E:Env} {H:AHeap} {w:World}
theorem Gives.still {s:Sem Value} {a:AV} {v:Value} (hr:Rel B pr E H w) (h:s.run P w=.ok v w) (hc:Con E a v):Gives P B pr E w s (a,H):=
 ⟨E,v,w,h,Env.le_refl _,hr,hc⟩
def bi_:Nat->List AV->Option (List AV)
 |0,_=>some []
 |_+1,[]=>none
 |n+1,a::r=>match bi_ n r with
  |some t=>some (a::t)
  |none=>none
theorem bJ_:∀{n:Nat} {l r:List AV},bi_ n l=some r->r=l.take n/\r.length=n
 |0,l,r,h=>by grind [bi_]
 |n+1,[],r,h=>by simp [bi_]at h
 |n+1,a::l,r,h=>by simp only [bi_]at h;split at h;rename_i t ht;cases h;obtain ⟨h1,h2⟩:=bJ_ ht;exact ⟨by rw [List.take_succ_cons,←h1],by simp [h2]⟩;cases h
def ah_:Nat->List AV->List AV
 |0,l=>l
 |_+1,[]=>[]
 |n+1,_::r=>ah_ n r
theorem aG_:∀(n:Nat) (l:List AV),ah_ n l=l.drop n
 |0,l=>rfl
 |n+1,[]=>rfl
 |n+1,a::r=>aG_ n r
def aU_ (H:AHeap) (a:AV) (n:Nat):Option (List AV):=match a with
 | .ptr id off=>match H.get id with
   |some (.cells cs)=>bi_ n (ah_ off cs)
   |_=>none
 | .vptr cs=>bi_ n cs
 |_=>none
theorem bn_ (hr:Rel B pr E H w) {a:AV} {v:Value} (hc:Con E a v) {n:Nat} {l:List AV} (h:aU_ H a n=some l):
  ∃b o vs,v=.pointer (some ⟨b,o,none⟩)/\vs.length=n/\ConL E l vs/\∀(j:Nat) (u:Value),vs[j]? =some u->w.cell? ⟨b,o+j,none⟩=some u:=by
 unfold aU_ at h;split at h
 .rename_i id off;split at h
  .rename_i cs hk;obtain ⟨h1,h2⟩:=bJ_ h;rw [aG_]at h1;obtain ⟨b,o,hφ,rfl⟩:=hc;obtain ⟨arr,t,g1,g2,g3,g4⟩:=hr.blk hk hφ;refine ⟨b,o+off,(arr.toList.drop (o+off)).take n,rfl,?_,?_,?_⟩
   .grind
   .refine ConL.of_at ?_ λi x u hx hu=>?_
    .grind
    grind
   grind [World.cell?]
  cases h
 rename_i cs;obtain ⟨h1,h2⟩:=bJ_ h;obtain ⟨b,o,vs,rfl,hL,hI⟩:=hc;refine ⟨b,o,vs.take n,rfl,?_,?_,?_⟩;have:n<=cs.length:=(by grind);simp [hL.length];omega;rw [h1];exact hL.take n;intro j u hu;simp only [List.getElem?_take]at hu;split at hu;exact hr.imm _ _ _ (hI j u hu);cases hu;cases h
theorem bu_ {b o:Nat} {vs:List Value} (h:∀(j:Nat) (u:Value),vs[j]? =some u->w.cell? ⟨b,o+j,none⟩=some u):
  (loadCells ⟨b,o,none⟩ vs.length).run P w=.ok ⟨vs⟩ w:=by
 grind [run_loadCells_list,Addr.add_lit]
def pd_ (d:TypeDesc):Bool:=match d with
 | .struct _| .array _ _=>true
 |_=>false
theorem bD_ {t:TypeId} {d:TypeDesc} (h:P.underlying t=some d):(isAgg t).run P w=.ok (pd_ d) w:=by unfold isAgg;simp only [Sem.run_bind,run_underlying h,Result.andThen_ok,pd_];split<;>simp_all
theorem af_ {t:TypeId} {i:TypeInfo} (h:P.info? t=some i):(sizeOf t).run P w=.ok i.size w:=by simp [sizeOf,typeInfo,h]
def bx_ (P:Program) (H:AHeap) (t:TypeId) (a:AV):Option AV:=match P.underlying t with
 |none=>none
 |some d=>match pd_ d with
  |true=>match P.info? t with
   |none=>none
   |some i=>match aU_ H a i.size with
    |some l=>some (.agg l)
    |none=>none
  |false=>match aU_ H a 1 with
   |some [c]=>some c
   |_=>none
theorem nh_ (hr:Rel B pr E H w) {t:TypeId} {a:AV} {v:Value} (hc:Con E a v) {r:AV} (h:bx_ P H t a=some r):
  Gives P B pr E w (Instr.loadAt t v) (r,H):=by
 unfold bx_ at h;split at h;cases h;rename_i d hd;split at h
 .rename_i hag;split at h;cases h;rename_i i hi;split at h;rename_i l hl;cases h;obtain ⟨b,o,vs,rfl,hlen,hL,hcell⟩:=bn_ hr hc hl;refine Gives.still hr (v:=.agg ⟨vs⟩) ?_ (by simp only [Con];grind);have:=bu_ (P:=P) hcell;simp_all [Instr.loadAt,Instr.sureAddr,loadVar,bD_,af_]
  cases h
 .rename_i hag;split at h;rename_i c hl;cases h;obtain ⟨b,o,vs,rfl,hlen,hL,hcell⟩:=bn_ hr hc hl;obtain ⟨u,hu,hcu⟩:=hL.at 0 r rfl;refine Gives.still hr (v:=u) ?_ hcu;have:=hcell 0 u hu;simp_all [Instr.loadAt,Instr.sureAddr,loadVar,bD_]
  cases h
def bU_ (P:Program) (s:TypeId) (a:AV) (f:Nat):Option AV:=match P.underlying s with
 |some (.struct fields)=>match fields[f]? with
  |some fl=>match P.info? fl.type with
   |some i=>match i.size with
    |0=>none
    |_+1=>match a with
     | .ptr id off=>some (.ptr id (Nat.add off fl.offset))
     | .vptr cs=>match Nat.ble fl.offset cs.length with
       |true=>some (.vptr (ah_ fl.offset cs))
       |false=>none
     |_=>none
   |none=>none
  |none=>none
 |_=>none
theorem ha_ (hr:Rel B pr E H w) {s:TypeId} {a:AV} {v:Value} (hc:Con E a v) {f:Nat} {r:AV} (h:bU_ P s a f=some r):
  Gives P B pr E w (Instr.fieldAt s v f) (r,H):=by
 unfold bU_ at h;split at h
 .rename_i fields hd;split at h
  .rename_i fl hfl;split at h
   .rename_i i hi;split at h;cases h;rename_i n hn;split at h;rename_i id off;cases h;obtain ⟨b,o,hφ,rfl⟩:=hc;refine Gives.still hr (v:=.pointer (some ⟨b,o+(off+fl.offset),none⟩)) ?_ (by simp only [Con];grind);simp_all [Instr.fieldAt,run_underlying,Instr.sureAddr,fieldPlace,af_,Addr.add_lit]
    .split at h
     .cases h;obtain ⟨b,o,vs,rfl,hL,hI⟩:=hc;refine Gives.still hr (v:=.pointer (some ⟨b,o+fl.offset,none⟩)) ?_ ?_;simp_all [Instr.fieldAt,run_underlying,Instr.sureAddr,fieldPlace,af_,Addr.add_lit]
      .simp only [Con,aG_];refine ⟨b,o+fl.offset,vs.drop fl.offset,rfl,hL.drop _,λi u hu=>?_⟩;rw [List.getElem?_drop]at hu;have:=hI _ _ hu
       grind
     cases h
    cases h
   cases h
  cases h
 cases h
def idx (i:Int) (len:Nat):Option Nat:=match i with
 | .ofNat n=>match Nat.blt n len with
   |true=>some n
   |false=>none
 | .negSucc _=>none
theorem kY_ {i:Int} {len n:Nat} (h:idx i len=some n):i=(n:Int)/\n<len:=by
 unfold idx at h;split at h
 .split at h<;>simp_all
 cases h
def aZ_ (P:Program) (t:TypeId) (x ix:AV):Option AV:=match ix with
 | .int _ i=>match P.underlying t with
   |some (.slice e)=>match P.info? e with
    |some ti=>match x with
     | .sl id off len _ _=>match idx i len with
       |some n=>some (.ptr id (Nat.add off (Nat.mul n ti.size)))
       |none=>none
     | .vsl len _ cs=>match idx i len with
       |some n=>some (.vptr (ah_ (Nat.mul n ti.size) cs))
       |none=>none
     |_=>none
    |none=>none
   |some (.array len e)=>match P.info? e with
    |some ti=>match x with
     | .ptr id off=>match idx i len with
       |some n=>some (.ptr id (Nat.add off (Nat.mul n ti.size)))
       |none=>none
     | .vptr cs=>match idx i len with
       |some n=>some (.vptr (ah_ (Nat.mul n ti.size) cs))
       |none=>none
     |_=>none
    |none=>none
   |_=>none
 |_=>none
theorem cB_ (hr:Rel B pr E H w) {t:TypeId} {x ix:AV} {v iv:Value} (hc:Con E x v) (hi:Con E ix iv) {r:AV} (h:aZ_ P t x ix=some r):
  Gives P B pr E w (Instr.indexAt t v iv) (r,H):=by
 unfold aZ_ at h;split at h
 .rename_i k i;simp only [Con]at hi;subst hi;split at h
  .rename_i e hd;split at h
   .rename_i ti hti;split at h;rename_i id off len sz cap;split at h;rename_i n hn;cases h;obtain ⟨rfl,hlt⟩:=kY_ hn;obtain ⟨b,o,m,c,off',hφ,hsz,rfl,hoff,hle,_⟩:=hc;obtain rfl:=hoff (by omega);refine Gives.still hr (v:=.pointer (some ⟨b,o+(off'+n*ti.size),none⟩)) ?_ (by simp only [Con];grind);have h0:(0:Int)<=(n:Int)/\(n:Int)<(len:Int):=(by omega);simp [Instr.indexAt,asIntOf,run_underlying hd,h0,hlt,af_ hti,Addr.add_lit,Nat.add_assoc];cases h
    .rename_i len sz cs;split at h
     .rename_i n hn;cases h;obtain ⟨rfl,hlt⟩:=kY_ hn;obtain ⟨b,o,vs,c,rfl,hle,hL,hI⟩:=hc;refine Gives.still hr (v:=.pointer (some ⟨b,o+n*ti.size,none⟩)) ?_ ?_;have h0:(0:Int)<=(n:Int)/\(n:Int)<(len:Int):=(by omega);simp [Instr.indexAt,asIntOf,run_underlying hd,h0,hlt,af_ hti,Addr.add_lit]
      .simp only [Con,aG_];refine ⟨b,o+n*ti.size,vs.drop (n*ti.size),rfl,hL.drop _,λi u hu=>?_⟩;rw [List.getElem?_drop]at hu;have:=hI _ _ hu
       grind
     cases h
    cases h
   cases h
  .rename_i len e hd;split at h
   .rename_i ti hti;split at h;rename_i id off;split at h;rename_i n hn;cases h;obtain ⟨rfl,hlt⟩:=kY_ hn;obtain ⟨b,o,hφ,rfl⟩:=hc;refine Gives.still hr (v:=.pointer (some ⟨b,o+(off+n*ti.size),none⟩)) ?_ (by simp only [Con];grind);have h0:(0:Int)<=(n:Int)/\(n:Int)<(len:Int):=(by omega);simp [Instr.indexAt,asIntOf,run_underlying hd,Instr.sureAddr,h0,hlt,af_ hti,Addr.add_lit,Nat.add_assoc];cases h
    .split at h
     .rename_i n hn;cases h;obtain ⟨rfl,hlt⟩:=kY_ hn;obtain ⟨b,o,vs,rfl,hL,hI⟩:=hc;refine Gives.still hr (v:=.pointer (some ⟨b,o+n*ti.size,none⟩)) ?_ ?_;have h0:(0:Int)<=(n:Int)/\(n:Int)<(len:Int):=(by omega);simp [Instr.indexAt,asIntOf,run_underlying hd,Instr.sureAddr,h0,hlt,af_ hti,Addr.add_lit]
      .simp only [Con,aG_];refine ⟨b,o+n*ti.size,vs.drop (n*ti.size),rfl,hL.drop _,λi u hu=>?_⟩;rw [List.getElem?_drop]at hu;have:=hI _ _ hu
       grind
     cases h
    cases h
   cases h
  cases h
 cases h
def ie_ (P:Program) (t:TypeId) (cs:List AV) (off:Nat):Option AV:=match P.underlying t with
 |none=>none
 |some d=>match pd_ d with
  |true=>match P.info? t with
   |none=>none
   |some i=>match bi_ i.size (ah_ off cs)with
    |some l=>some (.agg l)
    |none=>none
  |false=>match ah_ off cs with
   |c::_=>some c
   |[]=>none
theorem ft_ {t:TypeId} {cs:List AV} {vs:List Value} (hL:ConL E cs vs) {off:Nat} {r:AV} (h:ie_ P t cs off=some r):
  ∃u,(part t ⟨vs⟩ off).run P w=.ok u w/\Con E r u:=by
 unfold ie_ at h;split at h;cases h;rename_i d hd;split at h
 .rename_i hag;split at h;cases h;rename_i i hi;split at h
  .rename_i l hl;cases h;obtain ⟨h1,h2⟩:=bJ_ hl;rw [aG_]at h1;refine ⟨.agg ⟨(vs.drop off).take i.size⟩,?_,?_⟩;simp_all [part,bD_,af_]
   exact ⟨_,rfl,by rw [h1];exact (hL.drop off).take _⟩
  cases h
 .rename_i hag;split at h
  .rename_i c r' hcs;cases h;rw [aG_]at hcs;have hx:cs[off]? =some r:=by
    have:(cs.drop off)[0]? =some r:=by rw [hcs];rfl
    grind
   obtain ⟨u,hu,hcu⟩:=hL.at off r hx;simp_all [part,bD_]
  cases h
def eo_ (P:Program) (s:TypeId) (a:AV) (f:Nat):Option AV:=match P.underlying s with
 |some (.struct fields)=>match fields[f]? with
  |some fl=>match a with
   | .agg cs=>ie_ P fl.type cs fl.offset
   |_=>none
  |none=>none
 |_=>none
theorem kO_ (hr:Rel B pr E H w) {s:TypeId} {a:AV} {v:Value} (hc:Con E a v) {f:Nat} {r:AV} (h:eo_ P s a f=some r):
  Gives P B pr E w (Instr.field s v f) (r,H):=by
 unfold eo_ at h;split at h
 .rename_i fields hd;split at h
  .rename_i fl hfl;split at h;obtain ⟨vs,rfl,hL⟩:=hc;obtain ⟨u,hu,hcu⟩:=ft_ (w:=w) hL h;simp_all [Gives.still,Instr.field,run_underlying,asAgg]
   cases h
  cases h
 cases h
def e1_ (a:AV) (i:Nat):Option AV:=match a with
 | .tup cs=>match ah_ i cs with
   |c::_=>some c
   |[]=>none
 |_=>none
theorem jm_ (hr:Rel B pr E H w) {a:AV} {v:Value} (hc:Con E a v) {i:Nat} {r:AV} (h:e1_ a i=some r):
  Gives P B pr E w (Instr.extract v i) (r,H):=by
 unfold e1_ at h;split at h
 .rename_i cs;split at h
  .rename_i c r' hcs;cases h;obtain ⟨vs,rfl,hL⟩:=hc;rw [aG_]at hcs;have hx:cs[i]? =some r:=by
    have:(cs.drop i)[0]? =some r:=by rw [hcs];rfl
    grind
   obtain ⟨u,hu,hcu⟩:=hL.at i r hx;simp_all [Gives.still,Instr.extract]
  cases h
 cases h
end
section
variable {P:Program} {B:World} {pr:Nat->Prop} {E:Env} {H:AHeap} {w:World}
def es_ (H:AHeap) (cs:List AV):Option (AV×AHeap):=match H.room with
 |true=>some (.ptr H.next 0,H.push (.cells cs))
 |false=>none
theorem qo_ {cs:List AV} {arr:Array Value} (h:ConL E cs arr.toList):∀(i:Nat) (a:AV),cs[i]? =some a->∃v,arr[i]? =some v/\Con E a v:=λi a ha=>by
 obtain ⟨v,hv,hc⟩:=h.at i a ha
 grind
theorem gv_ (hr:Rel B pr E H w) {cs:List AV} {arr:Array Value} (t:TypeId) (hc:ConL E cs arr.toList) {r:AV×AHeap} (h:es_ H cs=some r):
  ∃E',E.le E'/\Rel B pr E' r.2 (w.alloc (.cells arr t))/\E'.sz w.heap.size=some arr.size/\r.1=.ptr H.next 0/\E'.φ H.next=some (w.heap.size,0):=by
 unfold es_ at h;split at h;rename_i hroom;cases h;obtain ⟨h1,h2⟩:=hr.new_cells hroom (cs:=cs) (arr:=arr) (t:=t) (by have:=hc.length;grind) (qo_ hc);exact ⟨_,h1,h2,by simp [Env.size],rfl,by simp [Env.size,Env.bind]⟩;cases h
theorem hb_ (hr:Rel B pr E H w) {cs:List AV} {arr:Array Value} {t:TypeId} (hc:ConL E cs arr.toList) {r:AV×AHeap} (h:es_ H cs=some r) {s:Sem Value}
  (hs:s.run P w=.ok (.pointer (some ⟨w.heap.size,0,none⟩)) (w.alloc (.cells arr t))):Gives P B pr E w s r:=by
 obtain ⟨E',h1,h2,h3,h4,h5⟩:=gv_ hr t hc h;exact ⟨E',_,_,hs,h1,h2,by rw [h4];simp only [Con];grind⟩
def eZ_ (P:Program) (H:AHeap) (t:TypeId):Option (AV×AHeap):=match P.info? t with
 |some i=>match i.zero with
  |some z=>es_ H (as_ z)
  |none=>none
 |none=>none
theorem lO_ (hr:Rel B pr E H w) {t:TypeId} {r:AV×AHeap} (h:eZ_ P H t=some r):Gives P B pr E w (Instr.alloc t true (.tuple #[])) r:=by unfold eZ_ at h;split at h;rename_i i hi;split at h;rename_i z hz;refine hb_ hr (t:=t) (a4_ E z) h ?_;simp [Instr.alloc,zeroValue,typeInfo,hi,hz,newVar,newRow];cases h;cases h
def lP_ (H:AHeap) (a:AV):Option (AV×AHeap):=match a with
 | .opq=>none
 |a=>es_ H a.cells
theorem pl_ (hr:Rel B pr E H w) {t:TypeId} {a:AV} {v:Value} (hc:Con E a v) {r:AV×AHeap} (h:lP_ H a=some r):Gives P B pr E w (Instr.box t v) r:=by unfold lP_ at h;split at h;cases h;rename_i hne;exact hb_ hr (t:=t) (hc.cells hne) h (by simp [Instr.box,newVar,newRow])
def c6_:Nat->List AV->List AV->Option (List AV)
 |0,[],cs=>some cs
 |0,_::_,[]=>none
 |0,x::xs,_::cs=>match c6_ 0 xs cs with
  |some r=>some (x::r)
  |none=>none
 |_+1,_,[]=>none
 |n+1,xs,c::cs=>match c6_ n xs cs with
  |some r=>some (c::r)
  |none=>none
theorem c7_:∀(cs:List AV) {n:Nat} {xs r:List AV},c6_ n xs cs=some r->n+xs.length<=cs.length/\r=cs.take n++xs++cs.drop (n+xs.length)
 |cs,0,[],r,h=>by grind [c6_]
 |[],0,x::xs,r,h=>by simp [c6_]at h
 |c::cs,0,x::xs,r,h=>by
  simp only [c6_]at h;split at h
  .rename_i r' hr';obtain ⟨h1,h2⟩:=c7_ cs hr'
   grind
  cases h
 |[],n+1,xs,r,h=>by simp [c6_]at h
 |c::cs,n+1,xs,r,h=>by
  simp only [c6_]at h;split at h
  .rename_i r' hr';obtain ⟨h1,h2⟩:=c7_ cs hr'
   grind
  cases h
theorem mB_ {cs:List AV} {n:Nat} {xs r:List AV} (h:c6_ n xs cs=some r) (i:Nat):
  r[i]? =if n<=i/\i<n+xs.length then xs[i-n]? else cs[i]? :=by
 obtain ⟨h1,h2⟩:=c7_ cs h;subst h2;by_cases ha:i<n
 .grind
 grind
theorem gT_ (l:List Value) (n:Nat) (xs:List Value) (hl:n+xs.length<=l.length) (i:Nat):
  (l.take n++xs++l.drop (n+xs.length))[i]? =if n<=i/\i<n+xs.length then xs[i-n]? else l[i]? :=by
 by_cases ha:i<n
 .grind
 grind
def a6_:List AV->Bool
 |[]=>true
 |a::r=>match a.one with
  |true=>a6_ r
  |false=>false
theorem fP_:∀{as:List AV} {vs:List Value},ConL E as vs->a6_ as=true->∀v∈vs,v.oneCell'=true
 |[],vs,h,_,v,hv=>by grind [ConL]
 |a::as,vs,h,ho,v,hv=>by
  obtain ⟨u,r,rfl,h2,h3⟩:=h;simp only [a6_]at ho;split at ho
  .rename_i hx;cases hv with
   |head=>exact h2.one hx
   |tail _ hm=>exact fP_ h3 ho v hm
  cases ho
theorem gW_ (hr:Rel B pr E H w) {id:Nat} {cs:List AV} (hk:H.get id=some (.cells cs)) {b o:Nat} (hφ:E.φ id=some (b,o)) {off:Nat} {xs:List AV} {vs:List Value} (hL:ConL E xs vs)
  (hone:a6_ xs=true) {cs':List AV} (cL_:c6_ off xs cs=some cs'):
  ∃w',(storeCells ⟨b,o+off,none⟩ vs 0).run P w=.ok () w'/\Rel B pr E (H.set id (.cells cs')) w':=by
 obtain ⟨arr,t,g1,g2,g3,g4⟩:=hr.blk hk hφ;obtain ⟨s1,s2⟩:=c7_ cs cL_;have hlen:=hL.length;have hst:=run_storeCells_at P b (o+off) t vs 0 arr w g1 (by omega) (fP_ hL hone);refine ⟨_,hst,?_⟩;refine hr.set_cells hk hφ g1 (arr':=(arr.toList.take (o+off)++vs++arr.toList.drop (o+off+vs.length)).toArray) ?_ (cs':=cs') ?_ ?_;simp;omega
 .grind
 .intro i a ha;rw [mB_ cL_]at ha;have hseg:=gT_ arr.toList (o+off) vs (by simp;omega) (o+i);rw [List.getElem?_toArray,hseg];split at ha
  .obtain ⟨v,hv,hc⟩:=hL.at _ _ ha
   grind
  grind
def b8_ (P:Program) (H:AHeap) (t:TypeId) (a v:AV):Option (AV×AHeap):=match P.info? t with
 |some i=>match a with
  | .ptr id off=>match v with
    | .opq=>none
    |v=>match Nat.beq v.cells.length i.size with
     |true=>match a6_ v.cells with
      |true=>match H.get id with
       |some (.cells cs)=>match c6_ off v.cells cs with
          |some cs'=>some (.tup [],H.set id (.cells cs'))
          |none=>none
       |_=>none
      |false=>none
     |false=>none
  |_=>none
 |none=>none
theorem hc_ (hr:Rel B pr E H w) {t:TypeId} {a x:AV} {v u:Value} (hc:Con E a v) (hx:Con E x u) {r:AV×AHeap} (h:b8_ P H t a x=some r):
  ∃w',(Instr.storeAt t v u).run P w=.ok () w'/\Rel B pr E r.2 w':=by
 unfold b8_ at h;split at h
 .rename_i i hi;split at h
  .split at h;cases h
   .rename_i hne;split at h
    .rename_i hlen;split at h
     .rename_i hone;split at h
      .rename_i cs hk;split at h
       .rename_i cs' cL_;cases h;obtain ⟨b,o,hφ,rfl⟩:=hc;have hL:=hx.cells hne;obtain ⟨w',h1,h2⟩:=gW_ (P:=P) hr hk hφ hL hone cL_;have hsz:u.cells.size=i.size:=by have:=hL.length;simp_all
        simp_all [Instr.storeAt,Instr.sureAddr,storeVar,af_]
       cases h
      cases h
     cases h
    cases h
  cases h
 cases h
def eD_ (P:Program):List Field->Option (List (Nat×Nat))
 |[]=>some []
 |f::r=>match P.info? f.type with
  |some i=>match eD_ P r with
   |some l=>some ((f.offset,i.size)::l)
   |none=>none
  |none=>none
theorem gc_:∀{fs:List Field} {l:List (Nat×Nat)},eD_ P fs=some l->∀w:World,(fs.mapM (m:=Sem) λf=>do pure (f.offset,←sizeOf f.type)).run P w=.ok l w
 |[],l,h,w=>by simp_all [eD_]
 |f::r,l,h,w=>by simp only [eD_]at h;split at h;rename_i i hi;split at h;rename_i l' hl';cases h;have ih:=gc_ hl' w;simp only [List.mapM_cons,Sem.run_bind,af_ hi,Result.andThen_ok,Sem.run_pure,ih];cases h;cases h
def hd_ (place:Nat->Option (Nat×Nat)):List AV->List (Nat×AV)->Option (List AV)
 |cells,[]=>some cells
 |cells,(i,v)::rest=>match place i with
  |none=>none
  |some (off,size)=>match v with
   | .opq=>none
   |v=>match Nat.beq v.cells.length size with
    |true=>match c6_ off v.cells cells with
     |some cells'=>hd_ place cells' rest
     |none=>none
    |false=>none
theorem qG_ (xs:List Value):∀(j off:Nat) (arr:Array Value),off+j+xs.length<=arr.size->
  ((xs.zipIdx j).foldl (λ(cs:Array Value) (p:Value×Nat)=>cs.setIfInBounds (off+p.2) p.1) arr).toList=arr.toList.take (off+j)++xs++arr.toList.drop (off+j+xs.length):=by
 induction xs with
 |nil=>simp_all
 |cons x xs ih=>
  intro j off arr h;simp only [List.length_cons]at h;simp only [List.zipIdx_cons,List.foldl_cons];rw [ih (j+1) off _ (by simp;omega)];apply List.ext_getElem?;intro i;have hs:(arr.setIfInBounds (off+j) x).toList.length=arr.size:=(by simp);have e1:=gT_ (arr.setIfInBounds (off+j) x).toList (off+(j+1)) xs (by grind) i;have e2:=gT_ arr.toList (off+j) (x::xs) (by omega) i;rw [e1];simp only [List.length_cons]at e2⊢;rw [e2];by_cases c1:i=off+j
  .subst c1;have:off+j<arr.size:=by omega
   grind
  .by_cases c2:off+(j+1)<=i/\i<off+(j+1)+xs.length;rw [if_pos c2,if_pos (by omega)];rw [show i-(off+j)=(i-(off+(j+1)))+1 by omega];simp
   .rw [if_neg c2,if_neg (by omega)]
    grind
theorem e4_ {place:Nat->Option (Nat×Nat)}:∀{parts:List (Nat×AV)} {vparts:List (Nat×Value)} {cells r:List AV} {arr:Array Value},hd_ place cells parts=some r->ConL E cells arr.toList->
  (vparts.map (·.1)=parts.map (·.1))->ConL E (parts.map (·.2)) (vparts.map (·.2))->∃arr',Instr.fill place arr vparts=some arr'/\ConL E r arr'.toList
 |[],vparts,cells,r,arr,h,hc,hn,hL=>by cases h;have:vparts=[]:=(by simpa using hn);subst this;exact ⟨arr,rfl,hc⟩
 |(i,a)::rest,vparts,cells,r,arr,h,hc,hn,hL=>by
  cases vparts with
  |nil=>simp at hn
  |cons p vrest=>
   obtain ⟨i',v⟩:=p;simp only [List.map_cons,List.cons.injEq]at hn;obtain ⟨rfl,hn⟩:=hn;simp only [List.map_cons,ConL]at hL;obtain ⟨v',r',he,hcv,hL'⟩:=hL;cases he;simp only [hd_]at h;split at h;cases h
   .rename_i off size hp;split at h;cases h
    .rename_i hne;split at h
     .rename_i hlen;split at h
      .rename_i cells' cL_;have hcc:=hcv.cells hne;have hvl:=hcc.length;rw [Nat.eq_of_beq_eq_true hlen]at hvl;obtain ⟨s1,s2⟩:=c7_ cells cL_;have hsz:v.cells.size=size:=(by grind);have hal:arr.size=cells.length:=(by have:=hc.length;grind);rw [Nat.eq_of_beq_eq_true hlen]at s1;have hfold:(v.cells.zipIdx.foldl (λcs (c,j)=>cs.setIfInBounds (off+j) c) arr).toList=arr.toList.take (off+0)++v.cells.toList++arr.toList.drop (off+0+v.cells.toList.length):=by rw [←qG_ v.cells.toList 0 off arr (by omega)];rw [←Array.foldl_toList];simp
       have:=e4_ (vparts:=vrest) h (arr:=v.cells.zipIdx.foldl (λcs (c,j)=>cs.setIfInBounds (off+j) c) arr) ?_ hn hL';simp_all [Instr.fill]
       .rw [hfold];refine ConL.of_at ?_ λk x u hx hu=>?_;simp_all
        .rw [mB_ cL_]at hx;rw [Nat.add_zero,gT_ _ _ _ (by simp;omega)]at hu;have hll:=hcc.length;split at hx
         .obtain ⟨u',hu',hcu⟩:=hcc.at _ _ hx
          grind
         .obtain ⟨u',hu',hcu⟩:=hc.at _ _ hx
          grind
      cases h
     cases h
def pK_:List (Nat×Nat)->Nat->Option (Nat×Nat)
 |[],_=>none
 |a::_,0=>some a
 |_::r,n+1=>pK_ r n
theorem oK_:∀(l:List (Nat×Nat)) (n:Nat),pK_ l n=l[n]?
 |[],n=>by simp [pK_]
 |a::r,0=>rfl
 |a::r,n+1=>by simp [pK_,oK_ r n]
def hE_ (P:Program) (t:TypeId) (parts:List (Nat×AV)):Option AV:=match P.info? t with
 |some i=>match i.zero with
  |some z=>match P.underlying t with
   |some (.struct fields)=>match eD_ P fields.toList with
    |some pl=>match hd_ (pK_ pl) (as_ z) parts with
     |some cs=>some (.agg cs)
     |none=>none
    |none=>none
   |some (.array _ elem)=>match P.info? elem with
    |some ie=>match hd_ (λi=>some (Nat.mul i ie.size,ie.size)) (as_ z) parts with
     |some cs=>some (.agg cs)
     |none=>none
    |none=>none
   |_=>none
  |none=>none
 |none=>none
theorem lQ_ (hr:Rel B pr E H w) {t:TypeId} {parts:List (Nat×AV)} {vparts:Array (Nat×Value)} (hn:vparts.toList.map (·.1)=parts.map (·.1))
  (hL:ConL E (parts.map (·.2)) (vparts.toList.map (·.2))) {r:AV} (h:hE_ P t parts=some r):Gives P B pr E w (Instr.build t vparts) (r,H):=by
 unfold hE_ at h;split at h
 .rename_i i hi;split at h
  .rename_i z hz;split at h
   .rename_i fields hd;split at h
    .rename_i pl hpl;split at h
     .rename_i cs hcs;cases h;obtain ⟨arr',h1,h2⟩:=e4_ hcs (a4_ E z) hn hL;have hpl':=gc_ hpl w;refine Gives.still hr (v:=.agg arr') ?_ (by grind [Con]);have hm:(fields.mapM (m:=Sem) λf=>do pure (f.offset,←sizeOf f.type)).run P w=.ok pl.toArray w:=by
       grind [Array.mapM_eq_mapM_toList,Sem.run_map,Result.andThen_ok]
      have e:(λx=>pl.toArray[x]?)=pK_ pl:=(by grind [oK_]);simp_all [Instr.build,zeroValue,typeInfo,run_underlying]
     cases h
    cases h
   .rename_i n elem hd;split at h
    .rename_i ie hie;split at h;rename_i cs hcs;cases h;obtain ⟨arr',h1,h2⟩:=e4_ hcs (a4_ E z) hn hL;refine Gives.still hr (v:=.agg arr') ?_ (by grind [Con]);simp only [Instr.build,Sem.run_bind,zeroValue,typeInfo,run_program,Result.andThen_ok,hi,hz,Sem.run_pure,run_underlying hd,af_ hie];simp_all
     cases h
    cases h
   cases h
  cases h
 cases h
def ax_ (z:List AV):Nat->List AV
 |0=>[]
 |n+1=>z++ax_ z n
theorem aN_ (z:List AV) (n:Nat):(ax_ z n).length=n*z.length:=by
 induction n<;>grind [ax_,Nat.succ_mul]
theorem d2_ (z:List AV):∀(n i:Nat),i<n*z.length->(ax_ z n)[i]? =z[i%z.length]?
 |0,i,h=>by simp at h
 |n+1,i,h=>by simp only [ax_];by_cases hi:i<z.length;rw [List.getElem?_append_left hi,Nat.mod_eq_of_lt hi];rw [List.getElem?_append_right (by omega),d2_ z n (i-z.length) (by rw [Nat.succ_mul]at h;omega)];rw [←Nat.mod_eq_sub_mod (by omega)]
def bq_ (P:Program) (H:AHeap) (t:TypeId) (len:Nat) (parts:List (Nat×AV)):Option (AV×AHeap):=match P.underlying t with
 |some (.slice e)=>match P.info? e with
  |some i=>match i.zero with
   |some z=>match Nat.beq (as_ z).length i.size with
    |true=>match Nat.ble (Nat.mul len i.size) 16777216 with
     |true=>match hd_ (λk=>some (Nat.mul k i.size,i.size)) (ax_ (as_ z) len) parts with
      |some cs=>match H.room with
       |true=>some (.sl H.next 0 len i.size (some len),H.push (.cells cs))
       |false=>none
      |none=>none
     |false=>none
    |false=>none
   |none=>none
  |none=>none
 |_=>none
theorem de_ {t:TypeId} {len:Nat} {parts:List (Nat×AV)} {vparts:Array (Nat×Value)} (hn:vparts.toList.map (·.1)=parts.map (·.1))
  (hL:ConL E (parts.map (·.2)) (vparts.toList.map (·.2))) {r:AV×AHeap} (h:bq_ P H t len parts=some r):
  ∃(e:TypeId) (sz:Nat) (cs:List AV) (arr:Array Value),H.room=true/\r=(.sl H.next 0 len sz (some len),H.push (.cells cs))/\arr.size=len*sz/\ConL E cs arr.toList/\
   ∀w:World,(Instr.buildSlice t len vparts).run P w=.ok (.slice (some ⟨w.heap.size,0,none⟩) len len) (w.alloc (.cells arr e)):=by
 unfold bq_ at h;split at h
 .rename_i e hd;split at h
  .rename_i i hi;split at h
   .rename_i z hz;split at h
    .rename_i hzl;split at h
     .rename_i hbig;split at h
      .rename_i cs hcs;split at h
       .rename_i hroom;cases h;have hzl':=Nat.eq_of_beq_eq_true hzl;have hbig':len*i.size<=16777216:=Nat.le_of_ble_eq_true hbig;have hzs:z.cells.size=i.size:=(by have:=(a4_ E z).length;grind);have hbase:ConL E (ax_ (as_ z) len) (((Array.range (len*i.size)).map (z.cells[· %z.cells.size]!)).toList):=by
         refine ConL.of_at ?_ λk x u hx hu=>?_
         .grind [aN_]
         .have hk:k<len*i.size:=by
            grind
          rw [d2_ _ _ _ (by grind),hzl']at hx;obtain ⟨u',hu',hcu⟩:=(a4_ E z).at _ _ hx
          grind
        obtain ⟨arr',h1,h2⟩:=e4_ hcs hbase hn hL;have hlen:arr'.size=len*i.size:=by
         have:=h2.length;have hcl:cs.length=(ax_ (as_ z) len).length:=by
          clear h1 h2 hL hn;revert hcs;generalize ax_ (as_ z) len=l0;intro hcs
          induction parts generalizing l0 with
          |nil=>grind [hd_]
          |cons p rest ih=>
           simp only [hd_]at hcs;split at hcs;cases hcs
           .split at hcs
            .split at hcs
             .rename_i cells' cL_;obtain ⟨s1,s2⟩:=c7_ _ cL_
              grind
             cases hcs
            cases hcs
         grind [aN_]
        refine ⟨e,i.size,cs,arr',hroom,rfl,hlen,h2,λw=>?_⟩;have hb2:¬(len*i.size>2^24):=(by omega);have e1:(λk=>some (k*i.size,i.size))=(λk=>some (Nat.mul k i.size,i.size)):=rfl;simp only [Instr.buildSlice,Sem.run_bind,run_underlying hd,Result.andThen_ok,af_ hi,if_neg hb2,Sem.run_pure];by_cases h0:len*i.size=0;rw [if_pos h0];have ez:((Array.range (len*i.size)).map ((#[]:Array Value)[· %(#[]:Array Value).size]!))=((Array.range (len*i.size)).map (z.cells[· %z.cells.size]!)):=(by rw [h0];simp);simp only [Sem.run_bind,Sem.run_pure,Result.andThen_ok];rw [ez,e1,h1];simp [newRow];simp_all [zeroValue,typeInfo,newRow]
       cases h
      cases h
     cases h
    cases h
   cases h
  cases h
 cases h
theorem gt_ (hr:Rel B pr E H w) {t:TypeId} {len:Nat} {parts:List (Nat×AV)} {vparts:Array (Nat×Value)} (hn:vparts.toList.map (·.1)=parts.map (·.1))
  (hL:ConL E (parts.map (·.2)) (vparts.toList.map (·.2))) {r:AV×AHeap} (h:bq_ P H t len parts=some r):Gives P B pr E w (Instr.buildSlice t len vparts) r:=by
 obtain ⟨e,sz,cs,arr,hroom,rfl,hlen,h2,hrun⟩:=de_ hn hL h;have hne:es_ H cs=some (.ptr H.next 0,H.push (.cells cs)):=by simp [es_,hroom]
 obtain ⟨E',g1,g2,g3,g4,g5⟩:=gv_ hr e h2 hne;refine ⟨E',.slice (some ⟨w.heap.size,0,none⟩) len len,w.alloc (.cells arr e),hrun w,g1,g2,?_⟩;exact ⟨w.heap.size,0,arr.size,len,0,g5,g3,rfl,λ_=>rfl,Nat.le_refl _,by grind,λk hk=>by cases hk;rfl⟩
end
end Go.Sx
