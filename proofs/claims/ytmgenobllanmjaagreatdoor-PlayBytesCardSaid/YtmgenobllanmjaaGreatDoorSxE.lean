/-
  The evaluator's slices, appends, copies, and maps.
-/
import Derived.Test.YtmgenobllanmjaaGreatDoorSxD
import Derived.Lib.Strings
set_option linter.unusedVariables false
set_option linter.unusedSimpArgs false
namespace Go.Sx
section
variable {P:Program} {B:World} {pr:Nat->Prop} {E:Env} {H:AHeap} {w:World}
def bnd (o:Option AV) (d:Nat):Option Nat:=match o with
 |none=>some d
 |some (.int _ (.ofNat n))=>some n
 |_=>none
def rk_:Nat->List UInt8->List UInt8
 |0,l=>l
 |_+1,[]=>[]
 |n+1,_::r=>rk_ n r
theorem mp_:∀(n:Nat) (l:List UInt8),rk_ n l=l.drop n
 |0,l=>rfl
 |n+1,[]=>rfl
 |n+1,a::r=>mp_ n r
def k7_:Nat->List UInt8->List UInt8
 |0,_=>[]
 |_+1,[]=>[]
 |n+1,a::r=>a::k7_ n r
theorem jL_:∀(n:Nat) (l:List UInt8),k7_ n l=l.take n
 |0,l=>by rfl
 |n+1,[]=>rfl
 |n+1,a::r=>by simp [k7_,jL_ n r]
def hd_:List UInt8->Nat
 |[]=>0
 |_::r=>Nat.succ (hd_ r)
theorem cF_:∀l:List UInt8,hd_ l=l.length
 |[]=>rfl
 |_::r=>by simp [hd_,cF_ r]
def l5_ (E:Env):Option AV->Option Value->Prop
 |none,v=>v=none
 |some a,v=>∃u,v=some u/\Con E a u
theorem pJ_ (s:List UInt8):(ByteArray.mk ⟨s⟩).size=s.length:=rfl
theorem kr_ {o:Option AV} {v:Option Value} (ho:l5_ E o v) {d n:Nat} (h:bnd o d=some n):(v=none/\n=d)\/∃k,v=some (.int k (n:Int)):=by
 unfold bnd at h;split at h
 .simp only [l5_]at ho;grind
 .simp only [l5_]at ho
  grind [Con]
 cases h
theorem cw_ {lo hi:Option AV} {vlo vhi:Option Value} (hlo:l5_ E lo vlo) (hhi:l5_ E hi vhi) {b:Bool} {len cap l h:Nat} (h1:bnd lo 0=some l) (h2:bnd hi len=some h)
  (hlh:l<=h) (hhc:h<=cap):(Instr.sliceBounds b len cap vlo vhi none).run P w=.ok (l,h,cap) w:=by
 have r1:∀(k:IntKind) (code:BoundsCode),(Instr.sliceBound (.int k (l:Int)) h code).run P w=.ok l w:=λk code=>by
  grind [run_sliceBound]
 have r2:∀(k:IntKind) (code:BoundsCode),(Instr.sliceBound (.int k (h:Int)) cap code).run P w=.ok h w:=λk code=>by
  grind [run_sliceBound]
 unfold Instr.sliceBounds;rcases kr_ hlo h1 with ⟨rfl,rfl⟩|⟨k,rfl⟩<;>rcases kr_ hhi h2 with ⟨rfl,rfl⟩|⟨k',rfl⟩<;>
  simp only [Sem.run_bind,Sem.run_pure,Result.andThen_ok,r1,r2]
def aP_ (P:Program) (H:AHeap) (t:TypeId) (x:AV) (lo hi:Option AV):Option AV:=match bnd lo 0 with
 |none=>none
 |some l=>match P.underlying t with
  |some .string=>match x with
   | .str s=>match bnd hi (hd_ s)with
     |some h=>match Nat.ble l h&&Nat.ble h (hd_ s)with
      |true=>some (.str (k7_ (Nat.sub h l) (rk_ l s)))
      |false=>none
     |none=>none
   |_=>none
  |some (.slice e)=>match P.info? e with
   |some ti=>match x with
    | .nsl=>match l,bnd hi 0 with
      |0,some 0=>some .nsl
      |_,_=>none
    | .sl id off len sz cap=>match bnd hi len with
      |some h=>match Nat.ble l h&&Nat.beq sz ti.size with
       |true=>match cap with
          |some c=>match Nat.ble h c with
           |true=>some (.sl id (Nat.add off (Nat.mul l sz)) (Nat.sub h l) sz (some (Nat.sub c l)))
           |false=>none
          |none=>match Nat.ble h len with
           |true=>some (.sl id (Nat.add off (Nat.mul l sz)) (Nat.sub h l) sz none)
           |false=>none
       |false=>none
      |none=>none
    | .vsl len sz cs=>match bnd hi len with
      |some h=>match Nat.ble l h&&(Nat.ble h len&&Nat.beq sz ti.size)with
       |true=>match aX_ (Nat.mul (Nat.sub h l) sz) (aj_ (Nat.mul l sz) cs)with
          |some cs'=>some (.vsl (Nat.sub h l) sz cs')
          |none=>none
       |false=>none
      |none=>none
    |_=>none
   |none=>none
  |some (.array n e)=>match P.info? e with
   |some ti=>match x with
    | .ptr id off=>match bnd hi n with
      |some h=>match Nat.ble l h&&Nat.ble h n with
       |true=>match H.get id with
          |some (.cells cs)=>match Nat.ble (Nat.add off (Nat.mul n ti.size)) cs.length with
           |true=>some (.sl id (Nat.add off (Nat.mul l ti.size)) (Nat.sub h l) ti.size (some (Nat.sub n l)))
           |false=>none
          |_=>none
       |false=>none
      |none=>none
    |_=>none
   |none=>none
  |_=>none
theorem aa_ {a b:Bool} (h:(a&&b)=true):a=true/\b=true:=by simpa using h
theorem eK_ (hr:Rel B pr E H w) {t:TypeId} {x:AV} {v:Value} (hc:Con E x v) {lo hi:Option AV} {vlo vhi:Option Value} (hlo:l5_ E lo vlo) (hhi:l5_ E hi vhi)
  {r:AV} (h:aP_ P H t x lo hi=some r):Gives P B pr E w (Instr.sliceAt t v vlo vhi none) (r,H):=by
 unfold aP_ at h;split at h;cases h;rename_i l hl;split at h
 .rename_i hd;split at h
  .rename_i s;split at h
   .rename_i h' hh;split at h
    .rename_i hb;cases h;obtain ⟨b1,b2⟩:=aa_ hb;have b1:=Nat.le_of_ble_eq_true b1;have b2:=Nat.le_of_ble_eq_true b2;rw [cF_]at b2 hh;subst hc;have hbr:=cw_ (P:=P) (w:=w) (b:=false) (len:=s.length) (cap:=s.length) hlo hhi hl hh b1 b2;refine Gives.still hr (v:=.string ((ByteArray.mk ⟨s⟩).extract l h')) ?_ ?_;rw [run_sliceAt_string w t _ _ _ _ hd];simp only [Instr.slice,Sem.run_bind,run_underlying hd,Result.andThen_ok];have e:(ByteArray.mk ⟨s⟩).size=s.length:=rfl;simp_all
     have:=Lib.extract_data (ByteArray.mk ⟨s⟩) l h';rw [mp_,jL_];have e2:∀y:ByteArray,y=⟨⟨y.data.toList⟩⟩:=λy=>rfl;rw [e2 ((ByteArray.mk ⟨s⟩).extract l h'),this];rfl
    cases h
   cases h
  cases h
 .rename_i e hd;split at h
  .rename_i ti hti;have hel:P.elem t=e:=(by simp [Program.elem,hd]);split at h
   .split at h;rename_i hb;cases h;simp only [Con]at hc;have hbr:=cw_ (P:=P) (w:=w) (b:=true) (len:=0) (cap:=0) hlo hhi hl hb (Nat.le_refl _) (Nat.le_refl _);refine Gives.still hr (v:=.slice none 0 0) ?_ (by simp [Con]);simp_all [run_sliceAt_slice,Instr.slice,run_underlying,af_]
    cases h
   .rename_i id off len sz cap;split at h
    .rename_i h' hh;split at h
     .rename_i hb;obtain ⟨b1,b2⟩:=aa_ hb;have b1:=Nat.le_of_ble_eq_true b1;have b2:=Nat.eq_of_beq_eq_true b2;obtain ⟨b,o,n,c,off',hφ,hsz,rfl,hoff,hle,hfit,hcap⟩:=hc;have key:h'<=c->Gives P B pr E w (Instr.sliceAt t (.slice (some ⟨b,o+off',none⟩) len c) vlo vhi none) (.sl id (off+l*sz) (h'-l) sz (cap.map (· -l)),H):=by
       intro hhc;have hbr:=cw_ (P:=P) (w:=w) (b:=true) (len:=len) (cap:=c) hlo hhi hl hh b1 hhc;refine Gives.still hr (v:=.slice (some ⟨b,o+(if c=l then off' else off'+l*sz),none⟩) (h'-l) (c-l)) ?_ ?_
       .rw [run_sliceAt_slice w t _ _ _ _ (by grind)];simp only [Instr.slice,Sem.run_bind,run_underlying hd,Result.andThen_ok,hbr,af_ hti,Option.map_some,Addr.add_lit,Sem.run_pure,←b2]
        grind
       .refine ⟨b,o,n,c-l,_,hφ,hsz,rfl,?_,by omega,?_,?_⟩
        .grind
        have e1:(c-l)*sz=c*sz-l*sz:=Nat.sub_mul c l sz;have e2:l*sz<=c*sz:=Nat.mul_le_mul_right _ (by omega);omega
        grind
      split at h
      .split at h<;>simp_all
      split at h;rename_i hb3;cases h;exact key (by have:=Nat.le_of_ble_eq_true hb3;omega);cases h
     cases h
    cases h
   .rename_i len sz cs;split at h
    .rename_i h' hh;split at h
     .rename_i hb;obtain ⟨b1,b2⟩:=aa_ hb;obtain ⟨b2,b3⟩:=aa_ b2;have b1:=Nat.le_of_ble_eq_true b1;have b2:=Nat.le_of_ble_eq_true b2;have b3:=Nat.eq_of_beq_eq_true b3;split at h
      .rename_i cs' hcs';cases h;obtain ⟨b,o,vs,c,hs,hle,hL,hI⟩:=hc;rcases hs with rfl|⟨rfl,a,rfl⟩
       case inr=>
        obtain rfl:h'=0:=(by omega);obtain rfl:l=0:=(by omega);have hbr:=cw_ (P:=P) (w:=w) (b:=true) (len:=0) (cap:=c) hlo hhi hl hh b1 (by omega);refine Gives.still hr (v:=.slice (some a) 0 c) ?_ ?_
        .rw [run_sliceAt_slice w t _ _ _ _ (by grind)];simp only [Instr.slice,Sem.run_bind,run_underlying hd,Result.andThen_ok,hbr,af_ hti,Option.map_some,Sem.run_pure,←b3]
         grind [Addr.add]
        obtain ⟨t1,t2⟩:=bH_ hcs';refine ⟨b,o,[],c,.inr ⟨rfl,a,rfl⟩,Nat.zero_le _,?_,λi v hv=>by simp at hv⟩;have:cs'=[]:=(by rw [t1];simp);rw [this];simp [ConL]
       have hbr:=cw_ (P:=P) (w:=w) (b:=true) (len:=len) (cap:=c) hlo hhi hl hh b1 (by omega);refine Gives.still hr (v:=.slice (some ⟨b,o+(if c=l then 0 else l*sz),none⟩) (h'-l) (c-l)) ?_ ?_
       .rw [run_sliceAt_slice w t _ _ _ _ (by grind)];simp only [Instr.slice,Sem.run_bind,run_underlying hd,Result.andThen_ok,hbr,af_ hti,Option.map_some,Addr.add_lit,Sem.run_pure,←b3]
        grind
       .obtain ⟨t1,t2⟩:=bH_ hcs';rw [aA_]at t1;have t1:cs'=(cs.drop (l*sz)).take ((h'-l)*sz):=t1;by_cases he:c=l;refine ⟨b,o,[],c-l,.inl (by simp [he]),by grind,?_,λi v hv=>by simp at hv⟩;have:h'-l=0:=(by omega);simp_all [ConL]
        .refine ⟨b,o+l*sz,(vs.drop (l*sz)).take ((h'-l)*sz),c-l,.inl (by simp [he]),by grind,?_,λi v hv=>?_⟩;rw [t1];exact (hL.drop _).take _
         .simp only [List.getElem?_take,List.getElem?_drop]at hv;split at hv
          .have:=hI _ _ hv;grind
          cases hv
      cases h
     cases h
    cases h
   cases h
  cases h
 .rename_i n e hd;split at h
  .rename_i ti hti;split at h
   .rename_i id off;split at h
    .rename_i h' hh;split at h
     .rename_i hb;obtain ⟨b1,b2⟩:=aa_ hb;have b1:=Nat.le_of_ble_eq_true b1;have b2:=Nat.le_of_ble_eq_true b2;split at h
      .rename_i cs hk;split at h
       .rename_i hb3;cases h;have b3:off+n*ti.size<=cs.length:=Nat.le_of_ble_eq_true hb3;obtain ⟨b,o,hφ,rfl⟩:=hc;obtain ⟨arr,t',g1,g2,g3,g4⟩:=hr.blk hk hφ;have hbr:=cw_ (P:=P) (w:=w) (b:=false) (len:=n) (cap:=n) hlo hhi hl hh b1 b2;refine Gives.still hr (v:=.slice (some ⟨b,o+(if n=l then off else off+l*ti.size),none⟩) (h'-l) (n-l)) ?_ ?_
        .simp only [Instr.sliceAt,Sem.run_bind,run_underlying hd,Result.andThen_ok,Instr.sureAddr,Sem.run_pure,hbr,af_ hti,Addr.add_lit]
         grind
        .refine ⟨b,o,arr.size,n-l,_,hφ,g2,rfl,?_,by grind,?_,λk hk=>by cases hk;rfl⟩
         .grind
         show o+(off+l*ti.size)+(n-l)*ti.size<=arr.size;have e1:(n-l)*ti.size=n*ti.size-l*ti.size:=Nat.sub_mul n l ti.size;have e2:l*ti.size<=n*ti.size:=Nat.mul_le_mul_right _ (by omega);omega
       cases h
      cases h
     cases h
    cases h
   cases h
  cases h
 cases h
def gQ_:List UInt8->List AV
 |[]=>[]
 |b::r=>.int .u8 (.ofNat b.toNat)::gQ_ r
theorem fQ_ (E:Env):∀s:List UInt8,ConL E (gQ_ s) (s.map λb=>.int .u8 b.toNat)
 |[]=>by rfl
 |b::r=>ConL.cons (by simp [Con]) (fQ_ E r)
theorem fG_:∀s:List UInt8,(gQ_ s).length=s.length
 |[]=>rfl
 |b::r=>by simp [gQ_,fG_ r]
def aU_ (x:AV):Option Nat:=match x with
 | .nsl=>some 0
 | .sl _ _ n _ _=>some n
 | .vsl n _ _=>some n
 | .str s=>some (hd_ s)
 |_=>none
def ak_ (H:AHeap) (x:AV) (n size:Nat):Option (List AV):=match x with
 | .nsl=>some []
 | .sl id off _ _ _=>match n with
   |0=>some []
   |n+1=>aV_ H (.ptr id off) (Nat.mul (Nat.succ n) size)
 | .vsl _ _ cs=>aX_ (Nat.mul n size) cs
 | .str s=>match size with
   |1=>some (gQ_ (k7_ n s))
   |_=>none
 |_=>none
theorem f6_ {x:AV} {v:Value} (hc:Con E x v) {n:Nat} (h:aU_ x=some n):Builtin.lenOf v=Sem.pure n:=by
 unfold aU_ at h;split at h;cases h;subst hc;rfl;cases h;obtain ⟨b,o,m,c,off',_,_,rfl,_⟩:=hc;rfl
 .cases h;obtain ⟨b,o,vs,c,h,_⟩:=hc;rcases h with rfl|⟨rfl,a,rfl⟩<;>rfl
 cases h;subst hc;rw [cF_];rfl;cases h
theorem aR_ (hr:Rel B pr E H w) {x:AV} {v:Value} (hc:Con E x v) {m n size:Nat} (hm:aU_ x=some m) (hn:n<=m) {l:List AV} (h:ak_ H x n size=some l):
  ∃vs,(Builtin.firstCells size n v).run P w=.ok ⟨vs⟩ w/\ConL E l vs/\(n=0\/l.length=n*size\/x=.nsl):=by
 unfold ak_ at h;split at h;cases h;subst hc;exact ⟨[],rfl,by simp [ConL],.inr (.inr rfl)⟩;rename_i id off m' sz cap;split at h;cases h;obtain ⟨b,o,m,c,off',_,_,rfl,_⟩:=hc;exact ⟨[],by simp [Builtin.firstCells,loadCells,loadCellsFrom],by simp [ConL],.inl rfl⟩;cases hm;obtain ⟨b,o,m2,c,off',hφ,hsz,rfl,hoff,hle,_⟩:=hc;obtain rfl:=hoff (by omega);have hp:Con E (.ptr id off') (.pointer (some ⟨b,o+off',none⟩)):=(by simp only [Con];grind);obtain ⟨b2,o2,vs,he,hl,hL,hcell⟩:=bv_ hr hp h;cases he;refine ⟨vs,?_,hL,.inr (.inl ?_)⟩;have:=bG_ (P:=P) hcell;rw [hl]at this;exact this;rw [←hL.length,hl];rfl
 .rename_i m' sz cs;obtain ⟨t1,t2⟩:=bH_ h;obtain ⟨b,o,vs,c,hs,hle,hL,hI⟩:=hc;rcases hs with rfl|⟨rfl,a,rfl⟩
  case inr=>
   cases hm;have e:n=0:=(by omega);subst e;rw [show Nat.mul 0 size=0 from Nat.zero_mul size]at t1 t2;refine ⟨[],by simp [Builtin.firstCells,loadCells,loadCellsFrom],?_,.inl rfl⟩;rw [t1];simp [ConL]
  have hv:(vs.take (n*size)).length=n*size:=by
   have:=hL.length
   grind
  refine ⟨vs.take (n*size),?_,by rw [t1];exact hL.take _,.inr (.inl t2)⟩;have:=bG_ (P:=P) (w:=w) (b:=b) (o:=o) (vs:=vs.take (n*size)) λj u hu=>(by simp only [List.getElem?_take]at hu;split at hu;exact hr.imm _ _ _ (hI j u hu);cases hu);rw [hv]at this;exact this
 .rename_i s;split at h
  .cases h;simp only [Con]at hc;refine ⟨(k7_ n s).map λb=>.int .u8 b.toNat,?_,fQ_ E _,.inr (.inl ?_)⟩<;>simp_all [Builtin.firstCells,jL_,fG_,aU_,cF_]
  cases h
 cases h
def aL_:List AV->Nat
 |[]=>0
 |_::r=>Nat.succ (aL_ r)
theorem ai_:∀l:List AV,aL_ l=l.length
 |[]=>rfl
 |_::r=>by simp [aL_,ai_ r]
def ef_ (d:TypeDesc):Bool:=match d with
 | .slice _| .string=>true
 |_=>false
theorem eg_ {d:TypeDesc} (h:ef_ d=true):(∃e,d=.slice e)\/d=.string:=by cases d<;>first|(exact .inl ⟨_,rfl⟩)|(exact .inr rfl)|(simp [ef_]at h)
def cf_ (H:AHeap) (cs:List AV) (need size:Nat):Option (AV×AHeap):=match H.room with
 |true=>some (.sl H.next 0 need size none,H.push (.cells cs))
 |false=>none
def aq_ (P:Program) (H:AHeap) (t tx:TypeId) (s x:AV):Option (AV×AHeap):=match P.underlying t with
 |some (.slice e)=>match P.info? e with
  |some i=>match i.zero with
   |some z=>match P.underlying tx with
    |some dx=>match ef_ dx&&Nat.beq (aL_ (at_ z)) i.size with
     |true=>match aU_ x with
      |some n=>match ak_ H x n i.size with
       |some l=>match Nat.beq (aL_ l) (Nat.mul n i.size)with
           |true=>match s with
            | .nsl=>match n with
             |0=>some (.nsl,H)
             |_=>match Nat.ble (Nat.mul n i.bytes) 1073741824&&Nat.ble n 1073741824&&Nat.blt 0 i.bytes with
              |true=>cf_ H l n i.size
              |false=>none
            | .sl id off len sz cap=>match Nat.beq sz i.size with
             |false=>none
             |true=>match n with
              |0=>some (s,H)
              |_=>match Nat.ble (Nat.mul (Nat.add len n) i.bytes) 1073741824&&Nat.ble (Nat.add len n) 1073741824&&Nat.blt 0 i.bytes with
               |false=>none
               |true=>match cap with
                  |some c=>match Nat.ble (Nat.add len n) c with
                   |true=>match H.get id with
                    |some (.cells cs)=>match bd_ l with
                     |true=>match dk_ (Nat.add off (Nat.mul len sz)) l cs with
                      |some cs'=>some (.sl id off (Nat.add len n) sz cap,H.set id (.cells cs'))
                      |none=>none
                     |false=>none
                    |_=>none
                   |false=>match ak_ H s len i.size with
                    |some l0=>cf_ H (l0++l) (Nat.add len n) i.size
                    |none=>none
                  |none=>match H.get id with
                   |some (.cells cs)=>match bd_ l&&Nat.beq (Nat.add off (Nat.mul len sz)) (aL_ cs)with
                    |true=>cf_ (H.erase id) (aj_ off cs++l) (Nat.add len n) i.size
                    |false=>none
                   |_=>none
            |_=>none
           |false=>none
       |none=>none
      |none=>none
     |false=>none
    |none=>none
   |none=>none
  |none=>none
 |_=>none
theorem gs_ (t ty tx e:TypeId) (i:TypeInfo) (z:Value) (dx:TypeDesc) (ht:P.underlying t=some (.slice e)) (hi:P.info? e=some i) (hz:i.zero=some z)
  (htx:P.underlying tx=some dx) (hdx:ef_ dx=true) {base:Option Addr} {len cap n:Nat} {xv:Value} (hlen:Builtin.lenOf xv=Sem.pure n) (hgt:cap<len+n)
  (hb:(len+n)*i.bytes<=1073741824) (hn:len+n<=1073741824) (hby:0<i.bytes) {olds news:List Value}
  (ho:(Builtin.firstCells i.size len (.slice base len cap)).run P w.drew=.ok ⟨olds⟩ w.drew) (hx:(Builtin.firstCells i.size n xv).run P w.drew=.ok ⟨news⟩ w.drew):
  (Builtin.append_ #[t,tx] ty #[.slice base len cap,xv]).run P w=
    .ok (.slice (some ⟨w.heap.size,0,none⟩) (len+n) (grownCap w (len+n) cap e))
     (w.drew.alloc (.cells ((⟨olds++news⟩:Array Value)++Builtin.zeroCells z.cells (grownCap w (len+n) cap e-(len+n))) e)):=by
 have hno:¬(len+n<=cap):=by omega
 have h63:¬(9223372036854775807<((len:Int)+(n:Int))):=by omega
 have h48:¬(281474976710656<Builtin.nextslicecap (len+n) cap*i.bytes):=by have:=growslice_fits (need:=len+n) (old:=cap) (bytes:=i.bytes) hgt (by omega);omega
 have hby':i.bytes≠0:=by omega
 have hq:(Question.appendCap (len+n) cap e).forced=false:=rfl;have e:∀z:Array Value,(⟨olds⟩:Array Value)++(⟨news⟩++z)=(⟨olds++news⟩:Array Value)++z:=λz=>by
  grind
 rcases eg_ hdx with ⟨e',rfl⟩|rfl<;>
  (simp [Builtin.append_,run_underlying ht,run_underlying htx,sizeOf,typeInfo,hi,hlen,hno,h48,hby',hq,ho,hx,zeroValue,hz,newRow,grownCap];rw [e])
theorem Rel.drew (h:Rel B pr E H w):Rel B pr E H w.drew:=h.drawn _
theorem dd_ (hr:Rel B pr E H w) {cs:List AV} {need size:Nat} {r:AV×AHeap} (h:cf_ H cs need size=some r) {news:List Value} (hL:ConL E cs news) (hl:cs.length=need*size)
  {z:Value} (hz:z.cells.size=size) {s:Sem Value} {e:TypeId} {c:Nat} (hc:need<=c)
  (hs:s.run P w=.ok (.slice (some ⟨w.heap.size,0,none⟩) need c) (w.drew.alloc (.cells ((⟨news⟩:Array Value)++Builtin.zeroCells z.cells (c-need)) e))):Gives P B pr E w s r:=by
 unfold cf_ at h;split at h
 .rename_i hroom;cases h;have hr2:=hr.drew;have hnl:=hL.length;obtain ⟨h1,h2⟩:=hr2.new_cells hroom (cs:=cs) (arr:=(⟨news⟩:Array Value)++Builtin.zeroCells z.cells (c-need)) (t:=e) (by simp;omega) λi a ha=>by
   obtain ⟨v,hv,hcv⟩:=hL.at i a ha
   grind
  refine ⟨_,_,_,hs,h1,h2,?_⟩;refine ⟨w.heap.size,0,_,c,0,by simp [Env.bind,Env.size],by simp [Env.size];rfl,rfl,λ_=>rfl,hc,?_,λk hk=>by cases hk⟩;simp only [Array.size_append,List.size_toArray,size_zeroCells,hz];have:c*size=need*size+(c-need)*size:=(by rw [←Nat.add_mul];grind);omega
 cases h
theorem aD_ (hr:Rel B pr E H w) {t tx ty:TypeId} {s x:AV} {sv xv:Value} (hs:Con E s sv) (hx:Con E x xv) {r:AV×AHeap} (h:aq_ P H t tx s x=some r):
  Gives P B pr E w (Builtin.append_ #[t,tx] ty #[sv,xv]) r:=by
 unfold aq_ at h;split at h
 case h_2=>cases h
 rename_i e ht;split at h
 case h_2=>cases h
 rename_i i hi;split at h
 case h_2=>cases h
 rename_i z hz;split at h
 case h_2=>cases h
 rename_i dx htx;split at h
 case h_2=>cases h
 rename_i hb;obtain ⟨hdx,hzl⟩:=aa_ hb;have hzl:=Nat.eq_of_beq_eq_true hzl;rw [ai_]at hzl;have hzs:z.cells.size=i.size:=by have:=(a8_ E z).length;grind
 split at h
 case h_2=>cases h
 rename_i n hn;split at h
 case h_2=>cases h
 rename_i l hl;split at h
 case h_2=>cases h
 rename_i hll;have hll:l.length=n*i.size:=by grind [Nat.eq_of_beq_eq_true,ai_]
 have hlen:=f6_ hx hn;obtain ⟨news,hf,hL,_⟩:=aR_ (P:=P) hr hx hn (Nat.le_refl n) hl;obtain ⟨news',hf',hL',_⟩:=aR_ (P:=P) hr.drew hx hn (Nat.le_refl n) hl;have fits:∀(base:Option Addr) (len cap:Nat),len+n<=cap->
   (Builtin.append_ #[t,tx] ty #[.slice base len cap,xv]).run P w=
     (match base with
       |some a=>((storeCells (a.add (len*i.size)) news).run P w).andThen λ_ w'=>.ok (.slice base (len+n) cap) w'
       |none=>.ok (.slice base (len+n) cap) w):=by
  intro base len cap hfit;rcases eg_ hdx with ⟨e',rfl⟩|rfl<;>cases base<;>
   simp [Builtin.append_,run_underlying ht,run_underlying htx,sizeOf,typeInfo,hi,hlen,hfit,hf]
 split at h
 ·
  subst hs;split at h
  .grind [Gives.still,Con]
  .rename_i hn0;split at h
   .rename_i hb;obtain ⟨hb,hb3⟩:=aa_ hb;obtain ⟨hb1,hb2⟩:=aa_ hb;have hb3:0<i.bytes:=(by simp_all);have hpos:0<n:=Nat.pos_of_ne_zero hn0;have hg:=gs_ (P:=P) (w:=w) t ty tx e i z dx ht hi hz htx hdx (base:=none) (len:=0) (cap:=0) hlen (by omega) (by simpa using hb1) (by simpa using hb2) hb3 (olds:=[]) (by rfl) hf'
    grind [dd_,grownCap_ge]
   cases h
 .rename_i id off len sz cap;split at h;cases h;rename_i hsz;have hsz:=Nat.eq_of_beq_eq_true hsz;have hs0:=hs;simp only [Con]at hs;obtain ⟨b,o,m,c,off',hφ,hbs,rfl,hoff,hle,hfit,hcap⟩:=hs;split at h;cases h;refine Gives.still hr (v:=.slice (some ⟨b,o+off',none⟩) len c) ?_ hs0;have:news=[]:=(by have:=hL.length;grind);simp_all [storeCells]
  .rename_i hn0;have hpos:0<n:=Nat.pos_of_ne_zero hn0;split at h;cases h;rename_i hb;obtain ⟨hb,hb3⟩:=aa_ hb;obtain ⟨hb1,hb2⟩:=aa_ hb;have hb1:(len+n)*i.bytes<=1073741824:=Nat.le_of_ble_eq_true hb1;have hb2:len+n<=1073741824:=Nat.le_of_ble_eq_true hb2;have hb3:0<i.bytes:=(by simp_all);split at h
   .rename_i c';obtain rfl:=hcap c' rfl;split at h
    .rename_i hfitc;have hfitc:len+n<=c:=Nat.le_of_ble_eq_true hfitc;split at h
     case h_2=>cases h
     rename_i cs hk;split at h
     case h_2=>cases h
     rename_i hone;split at h
     case h_2=>cases h
     rename_i cs' cT_;cases h;obtain rfl:=hoff (by omega);obtain ⟨w',g1,g2⟩:=hr_ (P:=P) hr hk hφ hL hone cT_;refine ⟨E,.slice (some ⟨b,o+off',none⟩) (len+n) c,w',?_,Env.le_refl _,g2,?_⟩;simp_all [Addr.add_lit,Nat.add_assoc]
     .simp only [Con]
      grind
    .rename_i hfitc;split at h
     case h_2=>cases h
     rename_i l0 hl0;have hgt:c<len+n:=by rcases Nat.lt_or_ge c (len+n)with h'|h'<;>simp_all [Nat.ble_eq_true_of_le]
     obtain ⟨olds,ho,hLo,hlo⟩:=aR_ (P:=P) hr.drew hs0 (m:=len) rfl (Nat.le_refl len) hl0;have hl0l:l0.length=len*i.size:=by
      grind [ak_]
     have hg:=gs_ (P:=P) (w:=w) t ty tx e i z dx ht hi hz htx hdx hlen hgt hb1 hb2 hb3 ho hf';refine dd_ hr h (hLo.append hL') ?_ hzs (c:=grownCap w (len+n) c e) (grownCap_ge _ _ _ _) (e:=e) ?_<;>grind
   .split at h
    case h_2=>cases h
    rename_i cs hk;split at h
    case h_2=>cases h
    rename_i hb4;obtain ⟨hone,hhw⟩:=aa_ hb4;have hhw:off+len*sz=cs.length:=(by grind [Nat.eq_of_beq_eq_true,ai_]);have hcslen:(aj_ off cs++l).length=(len+n)*i.size:=by
     grind [aA_]
    obtain ⟨arr,t',g1,g2,g3,g4⟩:=hr.blk hk hφ;by_cases hfitc:len+n<=c
    ·
     obtain rfl:=hoff (by omega);unfold cf_ at h;split at h
     case h_2=>cases h
     rename_i hroom;cases h;have hasz:arr.size=m:=(by grind);have hnl:=hL.length;have hst:=run_storeCells_at P b (o+(off'+len*sz)) t' news 0 arr w g1 (by
      have:(len+n)*sz<=c*sz:=Nat.mul_le_mul_right _ hfitc
      grind) (gh_ hL hone)
     simp only [Nat.add_zero]at hst;have hsub:Rel B pr E (H.set id (.cells (cs++l))) (w.setRow b (arr.toList.take (o+(off'+len*sz))++news++arr.toList.drop (o+(off'+len*sz)+news.length)).toArray):=by
      have hbound:o+(off'+len*sz)+news.length<=arr.size:=by
       have:(len+n)*sz<=c*sz:=Nat.mul_le_mul_right _ hfitc
       grind
      refine hr.set_cells hk hφ g1 ?_ ?_ ?_;simp;omega
      .grind
      .intro k a ha;have hseg:=hn_ arr.toList (o+(off'+len*sz)) news (by omega) (o+k);rw [List.getElem?_toArray,hseg];by_cases hkl:k<cs.length
       .grind
       .rw [List.getElem?_append_right (by omega)]at ha;obtain ⟨v,hv,hcv⟩:=hL.at _ _ ha;have hlt:k-cs.length<news.length:=by
         grind
        rw [if_pos (by omega)];exact ⟨v,by rw [show o+k-(o+(off'+len*sz))=k-cs.length by omega];exact hv,hcv⟩
     have hk2:(H.set id (.cells (cs++l))).get id=some (.cells (cs++l)):=AHeap.get_set_same H (AHeap.get_lt hk) _;have hroom2:(H.set id (.cells (cs++l))).room=true:=(by exact hroom);obtain ⟨arr2,t2,q1,q2,q3,q4⟩:=hsub.blk hk2 hφ;have hren:=hsub.renew hroom2 hk2 hφ q1 (o':=o+off') (cs':=aj_ off' (cs++l)) (by
      grind [aA_]) λk a ha=>by
       grind [aA_]
     obtain ⟨hle2,hrel2⟩:=hren;have hdrop:aj_ off' (cs++l)=aj_ off' cs++l:=by
      grind [aA_]
     refine ⟨E.bind H.next b (o+off'),.slice (some ⟨b,o+off',none⟩) (len+n) c,(w.setRow b (arr.toList.take (o+(off'+len*sz))++news++arr.toList.drop (o+(off'+len*sz)+news.length)).toArray),?_,hle2,?_,?_⟩;simp_all [Addr.add_lit,Nat.add_assoc]
     .rw [hdrop]at hrel2;have hn1:(((H.set id (.cells (cs++l))).erase id).push (.cells (aj_ off' cs++l))).next<=((H.erase id).push (.cells (aj_ off' cs++l))).next:=by simp [AHeap.push,AHeap.erase,AHeap.set]
      have hn2:((H.erase id).push (.cells (aj_ off' cs++l))).hi<=(((H.set id (.cells (cs++l))).erase id).push (.cells (aj_ off' cs++l))).hi:=(by simp [AHeap.push,AHeap.erase,AHeap.set]);refine hrel2.forget (λid' k' hk'=>?_) hn1 hn2;have hnt:=(Rel.room hroom).2.1;by_cases he:H.next=id'
      .have e1:((H.erase id).push (.cells (aj_ off' cs++l))).get H.next=some (.cells (aj_ off' cs++l)):=AHeap.get_push_same (H.erase id) hnt _;have e2:(((H.set id (.cells (cs++l))).erase id).push (.cells (aj_ off' cs++l))).get H.next=some (.cells (aj_ off' cs++l)):=AHeap.get_push_same ((H.set id (.cells (cs++l))).erase id) hnt _
       grind
      .have e1:((H.erase id).push (.cells (aj_ off' cs++l))).get id'=(H.erase id).get id':=AHeap.get_push_ne (H.erase id) hnt he _;have e2:(((H.set id (.cells (cs++l))).erase id).push (.cells (aj_ off' cs++l))).get id'=((H.set id (.cells (cs++l))).erase id).get id':=AHeap.get_push_ne ((H.set id (.cells (cs++l))).erase id) hnt he _
       grind [AHeap.get_erase_same,AHeap.get_erase_ne,AHeap.get_set_ne,AHeap.get_lt]
     .refine ⟨b,o+off',m,c,0,by show (if H.next=H.next then some (b,o+off')else E.φ H.next)=_;simp,hbs,by simp,λ_=>rfl,hfitc,?_,λk hk=>by cases hk⟩
      grind
    ·
     have hgt:c<len+n:=(by omega);have hold:∃olds,(Builtin.firstCells i.size len (.slice (some ⟨b,o+off',none⟩) len c)).run P w.drew=.ok ⟨olds⟩ w.drew/\ConL E (aj_ off cs) olds:=by
      rcases Nat.eq_zero_or_pos len with h0|h0;simp_all [Builtin.firstCells,loadCells,loadCellsFrom,ConL]
      .obtain rfl:=hoff (by omega);have hsrc:ak_ H (.sl id off' len sz none) len i.size=some (aj_ off' cs):=by
        cases len with
        |zero=>omega
        |succ len'=>
         simp only [ak_,aV_,hk];have:∀(q:List AV),aX_ q.length q=some q:=by
          intro q
          induction q<;>grind [aX_]
         grind
       obtain ⟨olds,ho,hLo,_⟩:=aR_ (P:=P) hr.drew hs0 (m:=len) rfl (Nat.le_refl len) hsrc
       grind
     obtain ⟨olds,ho,hLo⟩:=hold;have hg:=gs_ (P:=P) (w:=w) t ty tx e i z dx ht hi hz htx hdx hlen hgt hb1 hb2 hb3 ho hf';refine dd_ (hr.erase id) h (hLo.append hL') hcslen hzs (c:=grownCap w (len+n) c e) (grownCap_ge _ _ _ _) (e:=e) ?_;omega
 cases h
def gU_ (P:Program) (H:AHeap) (t tx:TypeId) (s x:AV):Option (AV×AHeap):=match s with
 | .sl id off len sz cap=>match cap with
   |some _=>none
   |none=>match H.get id with
    |some (.fz cs)=>match P.underlying t with
     |some (.slice e)=>match P.info? e with
      |some i=>match i.zero with
       |some z=>match P.underlying tx with
          |some dx=>match ef_ dx&&Nat.beq (aL_ (at_ z)) i.size with
           |true=>match aU_ x with
            |some n=>match ak_ H x n i.size with
             |some l=>match Nat.beq (aL_ l) (Nat.mul n i.size)&&(Nat.beq sz i.size&&(Nat.blt 0 n&&(Nat.ble (Nat.mul (Nat.add len n) i.bytes) 1073741824&&(Nat.ble (Nat.add len n) 1073741824&&(Nat.blt 0 i.bytes&&(bd_ l&&(Nat.beq (Nat.add off (Nat.mul len sz)) (aL_ cs)&&H.room)))))))with
               |true=>some (.sl H.next 0 (Nat.add len n) i.size none,(H.erase id).push (.fz (aj_ off cs++l)))
               |false=>none
             |none=>none
            |none=>none
           |false=>none
          |none=>none
       |none=>none
      |none=>none
     |_=>none
    |_=>none
 |_=>none
theorem dC_ (P:Program) (g o:Nat) (t:TypeId) (fr:Nat×Nat):∀(vs:List Value) (i:Nat) (cur:Array Value) (w:World),w.heap[g]? =some (.cells cur t fr)->fr.2<=o+i->o+i+vs.length<=cur.size->(∀v∈vs,v.oneCell'=true)->
  (storeCells ⟨g,o,none⟩ vs i).run P w=.ok () (w.setRow g (cur.toList.take (o+i)++vs++cur.toList.drop (o+i+vs.length)).toArray)
 |[],i,cur,w,hg,_,_,_=>by simp only [storeCells,List.append_nil,List.length_nil,Nat.add_zero,List.take_append_drop,Array.toArray_toList];rw [setRow_self w g cur t fr hg];rfl
 |v::rest,i,cur,w,hg,hf,hl,h1=>by
  have hi:o+i<cur.size:=(by grind);have hadd:(⟨g,o,none⟩:Addr).add i=⟨g,o+i,none⟩:=(by simp [Addr.add]);have hcell:w.cell? ⟨g,o+i,none⟩=some cur[o+i]:=(by simp [World.cell?,hg,hi]);have hfro:w.frozen? ⟨g,o+i,none⟩=false:=by
   grind [World.frozen?]
  have hst:(store ((⟨g,o,none⟩:Addr).add i) v).run P w=.ok () (w.setRow g (cur.setIfInBounds (o+i) v)):=by
   grind [run_store,setCell_eq_setRow]
  have ih:=dC_ P g o t fr rest (i+1) (cur.setIfInBounds (o+i) v) (w.setRow g (cur.setIfInBounds (o+i) v)) (setRow_heap w g cur _ t _ hg) (by omega) (by grind) (λx hx=>h1 x (by simp [hx]));simp only [storeCells,Sem.run_bind,hst,Result.andThen_ok,ih,setRow_setRow];have e:=list_seg_step cur.toList (o+i) v rest (by omega);simp_all [Nat.add_assoc]
theorem j3_ (hr:Rel B pr E H w) {t tx ty:TypeId} {s x:AV} {sv xv:Value} (hs:Con E s sv) (hx:Con E x xv) {r:AV×AHeap} (h:gU_ P H t tx s x=some r):
  Gives P B pr E w (Builtin.append_ #[t,tx] ty #[sv,xv]) r:=by
 unfold gU_ at h;split at h
 case h_2=>cases h
 rename_i id off len sz cap;split at h
 case h_1=>cases h
 split at h
 case h_2=>cases h
 rename_i cs hk;split at h
 case h_2=>cases h
 rename_i e ht;split at h
 case h_2=>cases h
 rename_i i hi;split at h
 case h_2=>cases h
 rename_i z hz;split at h
 case h_2=>cases h
 rename_i dx htx;split at h
 case h_2=>cases h
 rename_i hb;obtain ⟨hdx,hzl⟩:=aa_ hb;have hzl:=Nat.eq_of_beq_eq_true hzl;rw [ai_]at hzl;have hzs:z.cells.size=i.size:=by have:=(a8_ E z).length;grind
 split at h
 case h_2=>cases h
 rename_i n hn;split at h
 case h_2=>cases h
 rename_i l hl;split at h
 case h_2=>cases h
 rename_i hall;cases h;obtain ⟨c1,hall⟩:=aa_ hall;obtain ⟨c2,hall⟩:=aa_ hall;obtain ⟨c3,hall⟩:=aa_ hall;obtain ⟨c4,hall⟩:=aa_ hall;obtain ⟨c5,hall⟩:=aa_ hall;obtain ⟨c6,hall⟩:=aa_ hall;obtain ⟨hone,hall⟩:=aa_ hall;obtain ⟨c8,hroom⟩:=aa_ hall;have hll:l.length=n*i.size:=by grind [Nat.eq_of_beq_eq_true,ai_]
 have hsz:=Nat.eq_of_beq_eq_true c2;have hpos:0<n:=by simp_all
 have hb1:(len+n)*i.bytes<=1073741824:=Nat.le_of_ble_eq_true c4;have hb2:len+n<=1073741824:=Nat.le_of_ble_eq_true c5;have hb3:0<i.bytes:=by simp_all
 have hhw:off+len*sz=cs.length:=by grind [Nat.eq_of_beq_eq_true,ai_]
 subst hsz;have hlen:=f6_ hx hn;obtain ⟨news,hf,hL,_⟩:=aR_ (P:=P) hr hx hn (Nat.le_refl n) hl;obtain ⟨news',hf',hL',_⟩:=aR_ (P:=P) hr.drew hx hn (Nat.le_refl n) hl;have hs0:=hs;simp only [Con]at hs;obtain ⟨b,o,m,c,off',hφ,hbs,rfl,hoff,hle,hfit,hcap⟩:=hs;obtain ⟨arr,t',fr,g1,g2,g3,g5,g4⟩:=hr.blk hk hφ;have hasz:arr.size=m:=by grind
 have hcslen:(aj_ off cs++l).length=(len+n)*i.size:=by
  grind [aA_]
 have hnl:=hL.length;by_cases hfitc:len+n<=c
 .obtain rfl:=hoff (by omega);have hmul:(len+n)*i.size<=c*i.size:=Nat.mul_le_mul_right _ hfitc;rw [Nat.add_mul]at hmul;have hbound:o+(off'+len*i.size)+news.length<=arr.size:=(by omega);have hst:=dC_ P b (o+(off'+len*i.size)) t' fr news 0 arr w g1 (by omega) hbound (gh_ hL hone);simp only [Nat.add_zero]at hst
  have hmv:=hr.moveF hroom hk hφ g1 g2 (arr':=(arr.toList.take (o+(off'+len*i.size))++news++arr.toList.drop (o+(off'+len*i.size)+news.length)).toArray) (by simp;omega) (o':=o+off') (cs':=aj_ off' cs++l) (by
   grind) (by grind) λk a ha=>by
    have hseg:=hn_ arr.toList (o+(off'+len*i.size)) news (by omega) (o+off'+k);rw [List.getElem?_toArray,hseg];rw [aA_]at ha;by_cases hkl:k<len*i.size
    .rw [List.getElem?_append_left (by grind),List.getElem?_drop]at ha
     grind
    .rw [List.getElem?_append_right (by grind),List.length_drop]at ha;obtain ⟨v,hv,hcv⟩:=hL.at _ _ ha;have hlt:k-(cs.length-off')<news.length:=by
      grind
     rw [if_pos (by omega)];exact ⟨v,by rw [show o+off'+k-(o+(off'+len*i.size))=k-(cs.length-off') by omega];exact hv,hcv⟩
  obtain ⟨hle2,hrel2⟩:=hmv;refine ⟨E.bind H.next b (o+off'),.slice (some ⟨b,o+off',none⟩) (len+n) c,_,?_,hle2,hrel2,?_⟩
  .have fits:(Builtin.append_ #[t,tx] ty #[.slice (some ⟨b,o+off',none⟩) len c,xv]).run P w=((storeCells ((⟨b,o+off',none⟩:Addr).add (len*i.size)) news).run P w).andThen λ_ w'=>.ok (.slice (some ⟨b,o+off',none⟩) (len+n) c) w':=by
     rcases eg_ hdx with ⟨e',rfl⟩|rfl<;>
      simp [Builtin.append_,run_underlying ht,run_underlying htx,sizeOf,typeInfo,hi,hlen,hfitc,hf]
   simp_all [Addr.add_lit,Nat.add_assoc]
  refine ⟨b,o+off',m,c,0,by show (if H.next=H.next then some (b,o+off')else E.φ H.next)=_;simp,hbs,by simp,λ_=>rfl,hfitc,?_,λk hk=>by cases hk⟩;omega
 .have hgt:c<len+n:=(by omega);have hold:∃olds,(Builtin.firstCells i.size len (.slice (some ⟨b,o+off',none⟩) len c)).run P w.drew=.ok ⟨olds⟩ w.drew/\ConL E (aj_ off cs) olds:=by
   rcases Nat.eq_zero_or_pos len with h0|h0;simp_all [Builtin.firstCells,loadCells,loadCellsFrom,ConL]
   .obtain rfl:=hoff (by omega);have hln:(aj_ off' cs).length=len*i.size:=(by grind);have hcells:∃vs:List Value,vs.length=len*i.size/\ConL E (aj_ off' cs) vs/\∀(j:Nat) (u:Value),vs[j]? =some u->w.drew.cell? ⟨b,o+off'+j,none⟩=some u:=by
     refine ⟨(arr.toList.drop (o+off')).take (len*i.size),by simp;omega,?_,λj u hu=>?_⟩
     .grind [ConL.of_at,aA_]
     .rw [List.getElem?_take]at hu;split at hu
      .have:w.drew.heap[b]? =some (.cells arr t' fr):=g1
       grind [World.cell?]
      cases hu
    obtain ⟨vs,v1,v2,v3⟩:=hcells;refine ⟨vs,?_,v2⟩;have:=bG_ (P:=P) (w:=w.drew) (b:=b) (o:=o+off') (vs:=vs) v3;rw [v1]at this;exact this
  obtain ⟨olds,ho,hLo⟩:=hold;have hg:=gs_ (P:=P) (w:=w) t ty tx e i z dx ht hi hz htx hdx hlen hgt hb1 hb2 hb3 ho hf';have hgrow:cf_ (H.erase id) (aj_ off cs++l) (len+n) i.size=some (.sl H.next 0 (len+n) i.size none,(H.erase id).push (.cells (aj_ off cs++l))):=(by unfold cf_;have:(H.erase id).room=true:=hroom;rw [this];rfl);obtain ⟨E',v',w',q1,q2,q3,q4⟩:=dd_ (hr.erase id) hgrow (hLo.append hL') hcslen hzs (c:=grownCap w (len+n) c e) (grownCap_ge _ _ _ _) (e:=e) (by rw [hg]);have hnt:=(Rel.room hroom).2.1;have hsame:((H.erase id).push (.cells (aj_ off cs++l))).get H.next=some (.cells (aj_ off cs++l)):=AHeap.get_push_same (H.erase id) hnt _;refine ⟨E',v',w',q1,q2,?_,q4⟩;have hn1:(((H.erase id).push (.cells (aj_ off cs++l))).set H.next (.fz (aj_ off cs++l))).next<=((H.erase id).push (.fz (aj_ off cs++l))).next:=by simp [AHeap.push,AHeap.set]
  have hn2:((H.erase id).push (.fz (aj_ off cs++l))).hi<=(((H.erase id).push (.cells (aj_ off cs++l))).set H.next (.fz (aj_ off cs++l))).hi:=(by simp [AHeap.push,AHeap.set]);refine (q3.toF hsame).forget (λid' k' hk'=>?_) hn1 hn2;by_cases he:H.next=id'
  .have e1:((H.erase id).push (.fz (aj_ off cs++l))).get H.next=some (.fz (aj_ off cs++l)):=AHeap.get_push_same (H.erase id) hnt _
   grind [AHeap.get_set_same]
  .have e1:((H.erase id).push (.fz (aj_ off cs++l))).get id'=(H.erase id).get id':=AHeap.get_push_ne (H.erase id) hnt he _;have e2:((H.erase id).push (.cells (aj_ off cs++l))).get id'=(H.erase id).get id':=AHeap.get_push_ne (H.erase id) hnt he _
   grind [AHeap.get_set_ne]
def pM_:Nat->List AV->List AV
 |0,_=>[]
 |_+1,[]=>[]
 |n+1,a::r=>a::pM_ n r
theorem nu_:∀(n:Nat) (l:List AV),pM_ n l=l.take n
 |0,l=>by rfl
 |n+1,[]=>by rfl
 |n+1,a::r=>by simp [pM_,nu_ n r]
def sw_ (H:AHeap) (s:AV):AHeap:=match s with
 | .sl id off len sz cap=>match cap with
   |some _=>H
   |none=>match H.get id with
    |some (.cells cs)=>match Nat.blt (Nat.add off (Nat.mul len sz)) (aL_ cs)with
     |true=>H.set id (.cells (pM_ (Nat.add off (Nat.mul len sz)) cs))
     |false=>H
    |_=>H
 |_=>H
theorem Rel.trim (h:Rel B pr E H w) {id:Nat} {cs:List AV} (hk:H.get id=some (.cells cs)) (k:Nat):Rel B pr E (H.set id (.cells (cs.take k))) w where
 own:=by
  obtain ⟨own,g1,g2⟩:=h.own;refine ⟨own,λid' k' hk'=>?_,g2⟩;by_cases e:id=id'
  .subst e;rw [AHeap.get_set_same H (AHeap.get_lt hk)]at hk';cases hk';obtain ⟨_,hvoid⟩|⟨b,o,h1,h2,arr,t,h3,h4,h5,h6⟩:=g1 id _ hk;exact hvoid.elim;refine .inr ⟨b,o,h1,h2,arr,t,h3,h4,?_,λi a ha=>?_⟩<;>grind
  grind [AHeap.get_set_ne,AHeap.get_lt]
 imm:=h.imm
 ib:=h.ib
 fresh:=h.fresh
 resv:=h.resv
 vds:=h.vds
 szs:=h.szs
 prot:=h.prot
 size:=h.size
 os:=h.os
 output:=h.output
theorem sx_ (h:Rel B pr E H w) (s:AV):Rel B pr E (sw_ H s) w:=by unfold sw_;split;split;exact h;split;rename_i cs hk;split;rw [nu_];exact h.trim hk _;exact h;exact h;exact h
def dQ_ (P:Program) (H:AHeap) (t tx:TypeId) (s x:AV):Option (AV×AHeap):=match s with
 | .nsl=>match x with
   | .int _ (.ofNat n)=>match P.underlying t with
     |some (.slice e)=>match P.info? e with
      |some i=>match i.zero with
       |some z=>match P.underlying tx with
         |some (.int _)=>match Nat.beq (aL_ (at_ z)) i.size&&Nat.blt 0 i.bytes&&Nat.blt 0 i.size&&Nat.blt 0 n&&Nat.ble (Nat.mul n i.bytes) 1073741824&&Nat.ble n 1073741824 with
          |true=>cf_ H (ax_ (at_ z) n) n i.size
          |false=>none
         |_=>none
       |none=>none
      |none=>none
     |_=>none
   |_=>none
 |_=>none
theorem fJ_ (hr:Rel B pr E H w) {t tx ty:TypeId} {s x:AV} {sv xv:Value} (hs:Con E s sv) (hx:Con E x xv) {r:AV×AHeap} (h:dQ_ P H t tx s x=some r):
  Gives P B pr E w (Builtin.append_ #[t,tx] ty #[sv,xv]) r:=by
 unfold dQ_ at h;split at h
 case h_2=>cases h
 split at h
 case h_2=>cases h
 rename_i k n;split at h
 case h_2=>cases h
 rename_i e ht;split at h
 case h_2=>cases h
 rename_i i hi;split at h
 case h_2=>cases h
 rename_i z hz;split at h
 case h_2=>cases h
 rename_i k' htx;split at h
 case h_2=>cases h
 rename_i hb;obtain ⟨hb,b6⟩:=aa_ hb;obtain ⟨hb,b5⟩:=aa_ hb;obtain ⟨hb,b4⟩:=aa_ hb;obtain ⟨hb,b3⟩:=aa_ hb;obtain ⟨b1,b2⟩:=aa_ hb;have b1:=Nat.eq_of_beq_eq_true b1;rw [ai_]at b1;have b2:0<i.bytes:=by simp_all
 have b3:0<i.size:=by simp_all
 have b4:0<n:=by simp_all
 have b5:n*i.bytes<=1073741824:=Nat.le_of_ble_eq_true b5;have b6:n<=1073741824:=Nat.le_of_ble_eq_true b6;simp only [Con]at hs hx;subst hs hx;have hzs:z.cells.size=i.size:=by have:=(a8_ E z).length;grind
 have hL:ConL E (ax_ (at_ z) n) (Builtin.zeroCells z.cells n).toList:=by
  refine ConL.of_at ?_ λq x u hx hu=>?_
  .grind [aQ_,size_zeroCells]
  .have hq:q<n*i.size:=by
     grind [aQ_]
   rw [el_ _ _ _ (by grind),b1]at hx;obtain ⟨u',hu',hcu⟩:=(a8_ E z).at _ _ hx
   grind [Builtin.zeroCells]
 refine dd_ hr h hL (by rw [aQ_,b1]) hzs (c:=grownCap w n 0 e) (grownCap_ge _ _ _ _) (e:=e) ?_;have h0:¬n=0:=by omega
 have hw:IntKind.i64.wrap (n:Int)=(n:Int):=by
  grind [IntKind.wrap,IntKind.bits]
 have h1:¬((n:Int)<0):=by omega
 have h2:¬(281474976710656<(n:Int)*(i.bytes:Int)):=by omega
 have h48:¬(281474976710656<Builtin.nextslicecap n 0*i.bytes):=by have:=growslice_fits (need:=n) (old:=0) (bytes:=i.bytes) (by omega) (by omega);omega
 have h63:¬(9223372036854775807<(n:Int)):=by omega
 have hby':i.bytes≠0:=by omega
 have hsz:i.size≠0:=by omega
 have hq:(Question.appendCap n 0 e).forced=false:=rfl;simp [Builtin.append_,run_underlying ht,run_underlying htx,sizeOf,typeInfo,hi,asInt,asIntOf,hw,h1,h2,h0,h63,h48,hby',hsz,hq,zeroValue,hz,newRow,grownCap,Builtin.firstCells]
 grind [Nat.mul_ne_zero]
def gn_ (P:Program) (H:AHeap) (t tx:TypeId) (s x:AV):Option (AV×AHeap):=match aq_ P (sw_ H s) t tx s x with
 |some r=>some r
 |none=>match gU_ P H t tx s x with
  |some r=>some r
  |none=>dQ_ P H t tx s x
theorem lp_ (hr:Rel B pr E H w) {t tx ty:TypeId} {s x:AV} {sv xv:Value} (hs:Con E s sv) (hx:Con E x xv) {r:AV×AHeap} (h:gn_ P H t tx s x=some r):
  Gives P B pr E w (Builtin.append_ #[t,tx] ty #[sv,xv]) r:=by
 unfold gn_ at h;split at h;rename_i r' hr';cases h;exact aD_ (sx_ hr s) hs hx hr'
 grind [j3_,fJ_]
end
end Go.Sx
