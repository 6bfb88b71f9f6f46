/-
  The evaluator's operations that compute or read, and that the model's do the same.
-/
import Derived.Test.YtjconanknjgpnaaGreatSxB
set_option linter.unusedVariables false
set_option linter.unusedSimpArgs false
namespace Go.Sx
def aF_ (P:Program) {α:Type}:Sem α->Option α
 | .pure a=>some a
 | .program k=>aF_ P (k P)
 | .mark _ k=>aF_ P k
 |_=>none
theorem bz_ {P:Program} {α:Type}:∀{s:Sem α} {a:α},aF_ P s=some a->∀w,s.run P w=.ok a w
 | .pure a,b,h,w=>by simp only [aF_]at h;cases h;rfl
 | .program k,b,h,w=>by simp only [aF_]at h;exact bz_ (s:=k P) h w
 | .mark m k,b,h,w=>by simp only [aF_]at h;exact bz_ (s:=k) h w
 | .load ..,b,h,w=>by simp [aF_]at h
 | .store ..,b,h,w=>by simp [aF_]at h
 | .new ..,b,h,w=>by simp [aF_]at h
 | .shape ..,b,h,w=>by simp [aF_]at h
 | .freeze ..,b,h,w=>by simp [aF_]at h
 | .frozen ..,b,h,w=>by simp [aF_]at h
 | .getObj ..,b,h,w=>by simp [aF_]at h
 | .setObj ..,b,h,w=>by simp [aF_]at h
 | .choose ..,b,h,w=>by simp [aF_]at h
 | .sys ..,b,h,w=>by simp [aF_]at h
 | .halt ..,b,h,w=>by simp [aF_]at h
def qg_:Value->AV
 | .bool b=>.bool b
 | .int k n=>.int k n
 | .float k n=>.flt k n
 | .string ⟨⟨s⟩⟩=>.str s
 | .pointer none=>.nptr
 | .slice none 0 0=>.nsl
 | .map none=>.nmap
 | .nilFunc=>.nfn
 | .nilIface=>.nif
 | .func (.func f) ⟨[]⟩ ⟨[]⟩=>.fn f []
 |_=>.opq
theorem f5_ (E:Env) (v:Value):Con E (qg_ v) v:=by
 unfold qg_
 split<;>simp [Con,ConL]
def qf_:List Value->List AV
 |[]=>[]
 |v::r=>qg_ v::qf_ r
theorem e5_ (E:Env):∀vs:List Value,ConL E (qf_ vs) vs
 |[]=>by simp [qf_,ConL]
 |v::r=>ConL.cons (f5_ E v) (e5_ E r)
def ofV:Value->AV
 | .agg ⟨cs⟩=>.agg (qf_ cs)
 | .tuple ⟨cs⟩=>.tup (qf_ cs)
 | .iface t v=>.iface t (qg_ v)
 |v=>qg_ v
theorem cS_ (E:Env) (v:Value):Con E (ofV v) v:=by
 unfold ofV
 split
 .simp only [Con];exact ⟨_,rfl,e5_ E _⟩
 .simp only [Con];exact ⟨_,rfl,e5_ E _⟩
 .simp only [Con];exact ⟨_,rfl,f5_ E _⟩
 .exact f5_ E _
def aJ_ (z:Value):List AV:=match z with
 | .agg ⟨cs⟩=>qf_ cs
 |v=>[qg_ v]
theorem a7_ (E:Env) (z:Value):ConL E (aJ_ z) z.cells.toList:=by
 unfold aJ_
 split
 .exact e5_ E _
 .rename_i h
  cases z<;>first|exact ConL.cons (f5_ E _) (ConL.nil E)|exact absurd rfl (h _)
def i9_:AV->Option Value
 | .bool b=>some (.bool b)
 | .int k n=>some (.int k n)
 | .flt k n=>some (.float k n)
 | .str s=>some (.string ⟨⟨s⟩⟩)
 | .nptr=>some (.pointer none)
 | .nsl=>some (.slice none 0 0)
 | .nmap=>some (.map none)
 | .nfn=>some .nilFunc
 | .nif=>some .nilIface
 | .fn f []=>some (.func (.func f) #[] #[])
 |_=>none
theorem g7_ {E:Env} {a:AV} {u v:Value} (h:i9_ a=some u) (hc:Con E a v):v=u:=by
 unfold i9_ at h
 split at h<;>first
  |(cases h;done)
  |(cases h;simpa only [Con]using hc)
  |(cases h;simp only [Con,ConL]at hc;obtain ⟨vs,rfl,rfl⟩:=hc;rfl)
def fn_:List AV->Option (List Value)
 |[]=>some []
 |a::r=>match i9_ a with
  |none=>none
  |some v=>match fn_ r with
   |none=>none
   |some vs=>some (v::vs)
theorem fO_ {E:Env}:∀{as:List AV} {us vs:List Value},fn_ as=some us->ConL E as vs->vs=us
 |[],us,vs,h,hc=>by simp only [fn_]at h;cases h;simpa only [ConL]using hc
 |a::as,us,vs,h,hc=>by
  simp only [fn_]at h
  simp only [ConL]at hc
  obtain ⟨v,r,rfl,h2,h3⟩:=hc
  split at h
  .cases h
  .rename_i v0 hv0
   split at h
   .cases h
   .rename_i vs0 hvs0
    cases h
    rw [g7_ hv0 h2,fO_ hvs0 h3]
def cp_:AV->Option Value
 | .agg cs=>match fn_ cs with
   |some l=>some (.agg ⟨l⟩)
   |none=>none
 | .tup cs=>match fn_ cs with
   |some l=>some (.tuple ⟨l⟩)
   |none=>none
 | .iface t a=>match i9_ a with
   |some v=>some (.iface t v)
   |none=>none
 |a=>i9_ a
theorem dm_ {E:Env} {a:AV} {u v:Value} (h:cp_ a=some u) (hc:Con E a v):v=u:=by
 cases a with
 |agg cs=>
  simp only [cp_]at h
  split at h
  .rename_i l hl;cases h;simp only [Con]at hc;obtain ⟨vs,rfl,h2⟩:=hc;rw [fO_ hl h2]
  .cases h
 |tup cs=>
  simp only [cp_]at h
  split at h
  .rename_i l hl;cases h;simp only [Con]at hc;obtain ⟨vs,rfl,h2⟩:=hc;rw [fO_ hl h2]
  .cases h
 |iface t a=>
  simp only [cp_]at h
  split at h
  .rename_i l hl;cases h;simp only [Con]at hc;obtain ⟨vs,rfl,h2⟩:=hc;rw [g7_ hl h2]
  .cases h
 |_=>exact g7_ (by simpa only [cp_]using h) hc
def Gives (P:Program) (B:World) (pr:Nat->Prop) (E:Env) (w:World) (s:Sem Value) (r:AV×AHeap):Prop:=
 ∃E' v' w',s.run P w=.ok v' w'/\E.le E'/\Rel B pr E' r.2 w'/\Con E' r.1 v'
section
variable {P:Program} {B:World} {pr:Nat->Prop} {E:Env} {H:AHeap} {w:World}
theorem Gives.still {s:Sem Value} {a:AV} {v:Value} (hr:Rel B pr E H w) (h:s.run P w=.ok v w) (hc:Con E a v):Gives P B pr E w s (a,H):=
 ⟨E,v,w,h,Env.le_refl _,hr,hc⟩
def a3_:Nat->List AV->Option (List AV)
 |0,_=>some []
 |_+1,[]=>none
 |n+1,a::r=>match a3_ n r with
  |some t=>some (a::t)
  |none=>none
theorem bT_:∀{n:Nat} {l r:List AV},a3_ n l=some r->r=l.take n/\r.length=n
 |0,l,r,h=>by simp only [a3_]at h;cases h;simp
 |n+1,[],r,h=>by simp [a3_]at h
 |n+1,a::l,r,h=>by
  simp only [a3_]at h
  split at h
  .rename_i t ht
   cases h
   obtain ⟨h1,h2⟩:=bT_ ht
   exact ⟨by rw [List.take_succ_cons,←h1],by simp [h2]⟩
  .cases h
def af_:Nat->List AV->List AV
 |0,l=>l
 |_+1,[]=>[]
 |n+1,_::r=>af_ n r
theorem aq_:∀(n:Nat) (l:List AV),af_ n l=l.drop n
 |0,l=>rfl
 |n+1,[]=>rfl
 |n+1,a::r=>aq_ n r
def aV_ (H:AHeap) (a:AV) (n:Nat):Option (List AV):=match a with
 | .ptr id off=>match H.get id with
   |some (.cells cs)=>a3_ n (af_ off cs)
   |_=>none
 | .vptr cs=>a3_ n cs
 |_=>none
theorem bv_ (hr:Rel B pr E H w) {a:AV} {v:Value} (hc:Con E a v) {n:Nat} {l:List AV} (h:aV_ H a n=some l):
  ∃b o vs,v=.pointer (some ⟨b,o,none⟩)/\vs.length=n/\ConL E l vs/\∀(j:Nat) (u:Value),vs[j]? =some u->w.cell? ⟨b,o+j,none⟩=some u:=by
 unfold aV_ at h
 split at h
 .rename_i id off
  split at h
  .rename_i cs hk
   obtain ⟨h1,h2⟩:=bT_ h
   rw [aq_]at h1
   simp only [Con]at hc
   obtain ⟨b,o,hφ,rfl⟩:=hc
   obtain ⟨arr,t,g1,g2,g3,g4⟩:=hr.blk hk hφ
   refine ⟨b,o+off,(arr.toList.drop (o+off)).take n,rfl,?_,?_,?_⟩
   .have:n<=cs.length-off:=by rw [←h2,h1];simp;omega
    simp only [List.length_take,List.length_drop,Array.length_toList]
    rcases Nat.eq_zero_or_pos n with h0|h0
    .omega
    .omega
   .refine ConL.of_at ?_ λi x u hx hu=>?_
    .have:n<=cs.length-off:=by rw [←h2,h1];simp;omega
     rw [h2]
     simp only [List.length_take,List.length_drop,Array.length_toList]
     rcases Nat.eq_zero_or_pos n with h0|h0
     .omega
     .omega
    .rw [h1]at hx
     simp only [List.getElem?_take,List.getElem?_drop]at hx hu
     split at hx
     .rename_i hlt
      simp only [hlt,if_true]at hu
      obtain ⟨u',hu',hcu⟩:=g4 (off+i) x hx
      rw [←Nat.add_assoc]at hu'
      rw [Array.getElem?_toList,hu']at hu
      cases hu;exact hcu
     .cases hx
   .intro j u hu
    simp only [List.getElem?_take,List.getElem?_drop]at hu
    split at hu
    .rw [Array.getElem?_toList]at hu
     simp [World.cell?,g1,hu]
    .cases hu
  .cases h
 .rename_i cs
  obtain ⟨h1,h2⟩:=bT_ h
  simp only [Con]at hc
  obtain ⟨b,o,vs,rfl,hL,hI⟩:=hc
  refine ⟨b,o,vs.take n,rfl,?_,?_,?_⟩
  .have:n<=cs.length:=by rw [←h2,h1];simp;omega
   simp [hL.length];omega
  .rw [h1];exact hL.take n
  .intro j u hu
   simp only [List.getElem?_take]at hu
   split at hu
   .exact hr.imm _ _ _ (hI j u hu)
   .cases hu
 .cases h
theorem bF_ {b o:Nat} {vs:List Value} (h:∀(j:Nat) (u:Value),vs[j]? =some u->w.cell? ⟨b,o+j,none⟩=some u):
  (loadCells ⟨b,o,none⟩ vs.length).run P w=.ok ⟨vs⟩ w:=by
 refine run_loadCells_list w ⟨b,o,none⟩ vs λj u hu=>?_
 rw [Addr.add_lit];exact h j u hu
def lS_ (d:TypeDesc):Bool:=match d with
 | .struct _| .array _ _=>true
 |_=>false
theorem bN_ {t:TypeId} {d:TypeDesc} (h:P.underlying t=some d):(isAgg t).run P w=.ok (lS_ d) w:=by
 unfold isAgg
 simp only [Sem.run_bind,run_underlying h,Result.andThen_ok,lS_]
 split<;>simp_all
theorem aj_ {t:TypeId} {i:TypeInfo} (h:P.info? t=some i):(sizeOf t).run P w=.ok i.size w:=by
 simp [sizeOf,typeInfo,h]
def bl_ (P:Program) (H:AHeap) (t:TypeId) (a:AV):Option AV:=match P.underlying t with
 |none=>none
 |some d=>match lS_ d with
  |true=>match P.info? t with
   |none=>none
   |some i=>match aV_ H a i.size with
    |some l=>some (.agg l)
    |none=>none
  |false=>match aV_ H a 1 with
   |some [c]=>some c
   |_=>none
theorem nN_ (hr:Rel B pr E H w) {t:TypeId} {a:AV} {v:Value} (hc:Con E a v) {r:AV} (h:bl_ P H t a=some r):
  Gives P B pr E w (Instr.loadAt t v) (r,H):=by
 unfold bl_ at h
 split at h
 .cases h
 rename_i d hd
 split at h
 .rename_i hag
  split at h
  .cases h
  rename_i i hi
  split at h
  .rename_i l hl
   cases h
   obtain ⟨b,o,vs,rfl,hlen,hL,hcell⟩:=bv_ hr hc hl
   refine Gives.still hr (v:=.agg ⟨vs⟩) ?_ (by simp only [Con];exact ⟨vs,rfl,hL⟩)
   have:=bF_ (P:=P) hcell
   rw [hlen]at this
   simp [Instr.loadAt,Instr.sureAddr,loadVar,bN_ hd,hag,aj_ hi,this]
  .cases h
 .rename_i hag
  split at h
  .rename_i c hl
   cases h
   obtain ⟨b,o,vs,rfl,hlen,hL,hcell⟩:=bv_ hr hc hl
   obtain ⟨u,hu,hcu⟩:=hL.at 0 r rfl
   refine Gives.still hr (v:=u) ?_ hcu
   have:=hcell 0 u hu
   simp only [Nat.add_zero]at this
   simp [Instr.loadAt,Instr.sureAddr,loadVar,bN_ hd,hag,this]
  .cases h
def b0_ (P:Program) (s:TypeId) (a:AV) (f:Nat):Option AV:=match P.underlying s with
 |some (.struct fields)=>match fields[f]? with
  |some fl=>match P.info? fl.type with
   |some i=>match i.size with
    |0=>none
    |_+1=>match a with
     | .ptr id off=>some (.ptr id (Nat.add off fl.offset))
     | .vptr cs=>match Nat.ble fl.offset cs.length with
       |true=>some (.vptr (af_ fl.offset cs))
       |false=>none
     |_=>none
   |none=>none
  |none=>none
 |_=>none
theorem hx_ (hr:Rel B pr E H w) {s:TypeId} {a:AV} {v:Value} (hc:Con E a v) {f:Nat} {r:AV} (h:b0_ P s a f=some r):
  Gives P B pr E w (Instr.fieldAt s v f) (r,H):=by
 unfold b0_ at h
 split at h
 .rename_i fields hd
  split at h
  .rename_i fl hfl
   split at h
   .rename_i i hi
    split at h
    .cases h
    rename_i n hn
    split at h
    .rename_i id off
     cases h
     simp only [Con]at hc
     obtain ⟨b,o,hφ,rfl⟩:=hc
     refine Gives.still hr (v:=.pointer (some ⟨b,o+(off+fl.offset),none⟩)) ?_ (by simp only [Con];exact ⟨b,o,hφ,rfl⟩)
     simp [Instr.fieldAt,run_underlying hd,hfl,Instr.sureAddr,fieldPlace,aj_ hi,hn,Addr.add_lit,Nat.add_assoc]
    .rename_i cs
     split at h
     .cases h
      simp only [Con]at hc
      obtain ⟨b,o,vs,rfl,hL,hI⟩:=hc
      refine Gives.still hr (v:=.pointer (some ⟨b,o+fl.offset,none⟩)) ?_ ?_
      .simp [Instr.fieldAt,run_underlying hd,hfl,Instr.sureAddr,fieldPlace,aj_ hi,hn,Addr.add_lit]
      .simp only [Con,aq_]
       refine ⟨b,o+fl.offset,vs.drop fl.offset,rfl,hL.drop _,λi u hu=>?_⟩
       rw [List.getElem?_drop]at hu
       have:=hI _ _ hu
       rwa [←Nat.add_assoc]at this
     .cases h
    .cases h
   .cases h
  .cases h
 .cases h
def idx (i:Int) (len:Nat):Option Nat:=match i with
 | .ofNat n=>match Nat.blt n len with
   |true=>some n
   |false=>none
 | .negSucc _=>none
theorem nU_ {i:Int} {len n:Nat} (h:idx i len=some n):i=(n:Int)/\n<len:=by
 unfold idx at h
 split at h
 .split at h
  .rename_i hb;cases h;exact ⟨rfl,by simpa [Nat.blt_eq]using hb⟩
  .cases h
 .cases h
def aS_ (P:Program) (t:TypeId) (x ix:AV):Option AV:=match ix with
 | .int _ i=>match P.underlying t with
   |some (.slice e)=>match P.info? e with
    |some ti=>match x with
     | .sl id off len _ _=>match idx i len with
       |some n=>some (.ptr id (Nat.add off (Nat.mul n ti.size)))
       |none=>none
     | .vsl len _ cs=>match idx i len with
       |some n=>some (.vptr (af_ (Nat.mul n ti.size) cs))
       |none=>none
     |_=>none
    |none=>none
   |some (.array len e)=>match P.info? e with
    |some ti=>match x with
     | .ptr id off=>match idx i len with
       |some n=>some (.ptr id (Nat.add off (Nat.mul n ti.size)))
       |none=>none
     |_=>none
    |none=>none
   |_=>none
 |_=>none
theorem cI_ (hr:Rel B pr E H w) {t:TypeId} {x ix:AV} {v iv:Value} (hc:Con E x v) (hi:Con E ix iv) {r:AV} (h:aS_ P t x ix=some r):
  Gives P B pr E w (Instr.indexAt t v iv) (r,H):=by
 unfold aS_ at h
 split at h
 .rename_i k i
  simp only [Con]at hi
  subst hi
  split at h
  .rename_i e hd
   split at h
   .rename_i ti hti
    split at h
    .rename_i id off len sz cap
     split at h
     .rename_i n hn
      cases h
      obtain ⟨rfl,hlt⟩:=nU_ hn
      simp only [Con]at hc
      obtain ⟨b,o,m,c,off',hφ,hsz,rfl,hoff,hle,_⟩:=hc
      obtain rfl:=hoff (by omega)
      refine Gives.still hr (v:=.pointer (some ⟨b,o+(off'+n*ti.size),none⟩)) ?_ (by simp only [Con];exact ⟨b,o,hφ,rfl⟩)
      have h0:(0:Int)<=(n:Int)/\(n:Int)<(len:Int):=by omega
      simp [Instr.indexAt,asIntOf,run_underlying hd,h0,hlt,aj_ hti,Addr.add_lit,Nat.add_assoc]
     .cases h
    .rename_i len sz cs
     split at h
     .rename_i n hn
      cases h
      obtain ⟨rfl,hlt⟩:=nU_ hn
      simp only [Con]at hc
      obtain ⟨b,o,vs,c,rfl,hle,hL,hI⟩:=hc
      refine Gives.still hr (v:=.pointer (some ⟨b,o+n*ti.size,none⟩)) ?_ ?_
      .have h0:(0:Int)<=(n:Int)/\(n:Int)<(len:Int):=by omega
       simp [Instr.indexAt,asIntOf,run_underlying hd,h0,hlt,aj_ hti,Addr.add_lit]
      .simp only [Con,aq_]
       refine ⟨b,o+n*ti.size,vs.drop (n*ti.size),rfl,hL.drop _,λi u hu=>?_⟩
       rw [List.getElem?_drop]at hu
       have:=hI _ _ hu
       rwa [←Nat.add_assoc]at this
     .cases h
    .cases h
   .cases h
  .rename_i len e hd
   split at h
   .rename_i ti hti
    split at h
    .rename_i id off
     split at h
     .rename_i n hn
      cases h
      obtain ⟨rfl,hlt⟩:=nU_ hn
      simp only [Con]at hc
      obtain ⟨b,o,hφ,rfl⟩:=hc
      refine Gives.still hr (v:=.pointer (some ⟨b,o+(off+n*ti.size),none⟩)) ?_ (by simp only [Con];exact ⟨b,o,hφ,rfl⟩)
      have h0:(0:Int)<=(n:Int)/\(n:Int)<(len:Int):=by omega
      simp [Instr.indexAt,asIntOf,run_underlying hd,Instr.sureAddr,h0,hlt,aj_ hti,Addr.add_lit,Nat.add_assoc]
     .cases h
    .cases h
   .cases h
  .cases h
 .cases h
def iz_ (P:Program) (t:TypeId) (cs:List AV) (off:Nat):Option AV:=match P.underlying t with
 |none=>none
 |some d=>match lS_ d with
  |true=>match P.info? t with
   |none=>none
   |some i=>match a3_ i.size (af_ off cs)with
    |some l=>some (.agg l)
    |none=>none
  |false=>match af_ off cs with
   |c::_=>some c
   |[]=>none
theorem fK_ {t:TypeId} {cs:List AV} {vs:List Value} (hL:ConL E cs vs) {off:Nat} {r:AV} (h:iz_ P t cs off=some r):
  ∃u,(part t ⟨vs⟩ off).run P w=.ok u w/\Con E r u:=by
 unfold iz_ at h
 split at h
 .cases h
 rename_i d hd
 split at h
 .rename_i hag
  split at h
  .cases h
  rename_i i hi
  split at h
  .rename_i l hl
   cases h
   obtain ⟨h1,h2⟩:=bT_ hl
   rw [aq_]at h1
   refine ⟨.agg ⟨(vs.drop off).take i.size⟩,?_,?_⟩
   .simp [part,bN_ hd,hag,aj_ hi,List.extract_eq_take_drop]
   .simp only [Con];exact ⟨_,rfl,by rw [h1];exact (hL.drop off).take _⟩
  .cases h
 .rename_i hag
  split at h
  .rename_i c r' hcs
   cases h
   rw [aq_]at hcs
   have hx:cs[off]? =some r:=by
    have:(cs.drop off)[0]? =some r:=by rw [hcs];rfl
    simpa using this
   obtain ⟨u,hu,hcu⟩:=hL.at off r hx
   exact ⟨u,by simp [part,bN_ hd,hag,hu],hcu⟩
  .cases h
def eB_ (P:Program) (s:TypeId) (a:AV) (f:Nat):Option AV:=match P.underlying s with
 |some (.struct fields)=>match fields[f]? with
  |some fl=>match a with
   | .agg cs=>iz_ P fl.type cs fl.offset
   |_=>none
  |none=>none
 |_=>none
theorem la_ (hr:Rel B pr E H w) {s:TypeId} {a:AV} {v:Value} (hc:Con E a v) {f:Nat} {r:AV} (h:eB_ P s a f=some r):
  Gives P B pr E w (Instr.field s v f) (r,H):=by
 unfold eB_ at h
 split at h
 .rename_i fields hd
  split at h
  .rename_i fl hfl
   split at h
   .rename_i cs
    simp only [Con]at hc
    obtain ⟨vs,rfl,hL⟩:=hc
    obtain ⟨u,hu,hcu⟩:=fK_ (w:=w) hL h
    exact Gives.still hr (by simp [Instr.field,run_underlying hd,hfl,asAgg,hu]) hcu
   .cases h
  .cases h
 .cases h
def fc_ (a:AV) (i:Nat):Option AV:=match a with
 | .tup cs=>match af_ i cs with
   |c::_=>some c
   |[]=>none
 |_=>none
theorem jF_ (hr:Rel B pr E H w) {a:AV} {v:Value} (hc:Con E a v) {i:Nat} {r:AV} (h:fc_ a i=some r):
  Gives P B pr E w (Instr.extract v i) (r,H):=by
 unfold fc_ at h
 split at h
 .rename_i cs
  split at h
  .rename_i c r' hcs
   cases h
   simp only [Con]at hc
   obtain ⟨vs,rfl,hL⟩:=hc
   rw [aq_]at hcs
   have hx:cs[i]? =some r:=by
    have:(cs.drop i)[0]? =some r:=by rw [hcs];rfl
    simpa using this
   obtain ⟨u,hu,hcu⟩:=hL.at i r hx
   exact Gives.still hr (by simp [Instr.extract,hu]) hcu
  .cases h
 .cases h
end
end Go.Sx
