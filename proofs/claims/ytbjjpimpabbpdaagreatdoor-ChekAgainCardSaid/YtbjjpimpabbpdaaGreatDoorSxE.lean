/-
  The evaluator's slices, appends, copies, and maps.
-/
import Derived.Test.YtbjjpimpabbpdaaGreatDoorSxD
import Derived.Lib.Strings
set_option linter.unusedVariables false
set_option linter.unusedSimpArgs false
namespace Go.Sx
section
variable {P:Program} {B:World} {pr:Nat->Prop} {E:Env} {H:AHeap} {w:World}
def bnd (o:Option AV) (d:Nat):Option Nat:=match o with
 |none=>some d
 |some (.int _ (.ofNat n))=>some n
 |_=>none
def qB_:Nat->List UInt8->List UInt8
 |0,l=>l
 |_+1,[]=>[]
 |n+1,_::r=>qB_ n r
theorem lV_:∀(n:Nat) (l:List UInt8),qB_ n l=l.drop n
 |0,l=>rfl
 |n+1,[]=>rfl
 |n+1,a::r=>lV_ n r
def jf_:Nat->List UInt8->List UInt8
 |0,_=>[]
 |_+1,[]=>[]
 |n+1,a::r=>a::jf_ n r
theorem gi_:∀(n:Nat) (l:List UInt8),jf_ n l=l.take n
 |0,l=>by simp [jf_]
 |n+1,[]=>rfl
 |n+1,a::r=>by simp [jf_,gi_ n r]
def gO_:List UInt8->Nat
 |[]=>0
 |_::r=>Nat.succ (gO_ r)
theorem cR_:∀l:List UInt8,gO_ l=l.length
 |[]=>rfl
 |_::r=>by simp [gO_,cR_ r]
def lE_ (E:Env):Option AV->Option Value->Prop
 |none,v=>v=none
 |some a,v=>∃u,v=some u/\Con E a u
theorem h2_ (s:List UInt8):(ByteArray.mk ⟨s⟩).size=s.length:=rfl
theorem jN_ {o:Option AV} {v:Option Value} (ho:lE_ E o v) {d n:Nat} (h:bnd o d=some n):(v=none/\n=d)\/∃k,v=some (.int k (n:Int)):=by unfold bnd at h;split at h;cases h;simp only [lE_]at ho;exact .inl ⟨ho,rfl⟩;rename_i k m;cases h;simp only [lE_]at ho;obtain ⟨u,rfl,hc⟩:=ho;simp only [Con]at hc;exact .inr ⟨k,by rw [hc];rfl⟩;cases h
theorem c3_ {lo hi:Option AV} {vlo vhi:Option Value} (hlo:lE_ E lo vlo) (hhi:lE_ E hi vhi) {b:Bool} {len cap l h:Nat} (h1:bnd lo 0=some l) (h2:bnd hi len=some h)
  (hlh:l<=h) (hhc:h<=cap):(Instr.sliceBounds b len cap vlo vhi none).run P w=.ok (l,h,cap) w:=by
 have r1:∀(k:IntKind) (code:BoundsCode),(Instr.sliceBound (.int k (l:Int)) h code).run P w=.ok l w:=λk code=>by rw [run_sliceBound w _ _ _ _ (by omega) (by omega)];rfl
 have r2:∀(k:IntKind) (code:BoundsCode),(Instr.sliceBound (.int k (h:Int)) cap code).run P w=.ok h w:=λk code=>by rw [run_sliceBound w _ _ _ _ (by omega) (by omega)];rfl
 unfold Instr.sliceBounds;rcases jN_ hlo h1 with ⟨rfl,rfl⟩|⟨k,rfl⟩<;>rcases jN_ hhi h2 with ⟨rfl,rfl⟩|⟨k',rfl⟩<;>
  simp only [Sem.run_bind,Sem.run_pure,Result.andThen_ok,r1,r2]
def a0_ (P:Program) (H:AHeap) (t:TypeId) (x:AV) (lo hi:Option AV):Option AV:=match bnd lo 0 with
 |none=>none
 |some l=>match P.underlying t with
  |some .string=>match x with
   | .str s=>match bnd hi (gO_ s)with
     |some h=>match Nat.ble l h&&Nat.ble h (gO_ s)with
      |true=>some (.str (jf_ (Nat.sub h l) (qB_ l s)))
      |false=>none
     |none=>none
   |_=>none
  |some (.slice e)=>match P.info? e with
   |some ti=>match x with
    | .nsl=>match l,bnd hi 0 with
      |0,some 0=>some .nsl
      |_,_=>none
    | .sl id off len sz cap=>match bnd hi len with
      |some h=>match Nat.ble l h&&Nat.beq sz ti.size with
       |true=>match cap with
          |some c=>match Nat.ble h c with
           |true=>some (.sl id (Nat.add off (Nat.mul l sz)) (Nat.sub h l) sz (some (Nat.sub c l)))
           |false=>none
          |none=>match Nat.ble h len with
           |true=>some (.sl id (Nat.add off (Nat.mul l sz)) (Nat.sub h l) sz none)
           |false=>none
       |false=>none
      |none=>none
    | .vsl len sz cs=>match bnd hi len with
      |some h=>match Nat.ble l h&&(Nat.ble h len&&Nat.beq sz ti.size)with
       |true=>match a5_ (Nat.mul (Nat.sub h l) sz) (af_ (Nat.mul l sz) cs)with
          |some cs'=>some (.vsl (Nat.sub h l) sz cs')
          |none=>none
       |false=>none
      |none=>none
    |_=>none
   |none=>none
  |some (.array n e)=>match P.info? e with
   |some ti=>match x with
    | .ptr id off=>match bnd hi n with
      |some h=>match Nat.ble l h&&Nat.ble h n with
       |true=>match H.get id with
          |some (.cells cs)=>match Nat.ble (Nat.add off (Nat.mul n ti.size)) cs.length with
           |true=>some (.sl id (Nat.add off (Nat.mul l ti.size)) (Nat.sub h l) ti.size (some (Nat.sub n l)))
           |false=>none
          |_=>none
       |false=>none
      |none=>none
    |_=>none
   |none=>none
  |_=>none
theorem aa_ {a b:Bool} (h:(a&&b)=true):a=true/\b=true:=by simpa using h
theorem ey_ (hr:Rel B pr E H w) {t:TypeId} {x:AV} {v:Value} (hc:Con E x v) {lo hi:Option AV} {vlo vhi:Option Value} (hlo:lE_ E lo vlo) (hhi:lE_ E hi vhi)
  {r:AV} (h:a0_ P H t x lo hi=some r):Gives P B pr E w (Instr.sliceAt t v vlo vhi none) (r,H):=by
 unfold a0_ at h;split at h;cases h;rename_i l hl;split at h
 .rename_i hd;split at h
  .rename_i s;split at h
   .rename_i h' hh;split at h
    .rename_i hb;cases h;obtain ⟨b1,b2⟩:=aa_ hb;have b1:=Nat.le_of_ble_eq_true b1;have b2:=Nat.le_of_ble_eq_true b2;rw [cR_]at b2 hh;simp only [Con]at hc;subst hc;have hbr:=c3_ (P:=P) (w:=w) (b:=false) (len:=s.length) (cap:=s.length) hlo hhi hl hh b1 b2;refine Gives.still hr (v:=.string ((ByteArray.mk ⟨s⟩).extract l h')) ?_ ?_;rw [run_sliceAt_string w t _ _ _ _ hd];simp only [Instr.slice,Sem.run_bind,run_underlying hd,Result.andThen_ok];have e:(ByteArray.mk ⟨s⟩).size=s.length:=rfl;rw [e];simp [hbr]
     .simp only [Con]
      congr 1
      have:=Lib.extract_data (ByteArray.mk ⟨s⟩) l h';rw [lV_,gi_];have e2:∀y:ByteArray,y=⟨⟨y.data.toList⟩⟩:=λy=>rfl;rw [e2 ((ByteArray.mk ⟨s⟩).extract l h'),this];rfl
    cases h
   cases h
  cases h
 .rename_i e hd;split at h
  .rename_i ti hti;have hel:P.elem t=e:=(by simp [Program.elem,hd]);split at h;split at h;rename_i hb;cases h;simp only [Con]at hc;subst hc;have hbr:=c3_ (P:=P) (w:=w) (b:=true) (len:=0) (cap:=0) hlo hhi hl hb (Nat.le_refl _) (Nat.le_refl _);refine Gives.still hr (v:=.slice none 0 0) ?_ (by simp [Con]);rw [run_sliceAt_slice w t _ _ _ _ (by rw [hel];exact hd)];simp only [Instr.slice,Sem.run_bind,run_underlying hd,Result.andThen_ok,hbr,ai_ hti];rfl;cases h
   .rename_i id off len sz cap;split at h
    .rename_i h' hh;split at h
     .rename_i hb;obtain ⟨b1,b2⟩:=aa_ hb;have b1:=Nat.le_of_ble_eq_true b1;have b2:=Nat.eq_of_beq_eq_true b2;simp only [Con]at hc;obtain ⟨b,o,n,c,off',hφ,hsz,rfl,hoff,hle,hfit,hcap⟩:=hc;have key:h'<=c->Gives P B pr E w (Instr.sliceAt t (.slice (some ⟨b,o+off',none⟩) len c) vlo vhi none) (.sl id (off+l*sz) (h'-l) sz (cap.map (· -l)),H):=by
       intro hhc;have hbr:=c3_ (P:=P) (w:=w) (b:=true) (len:=len) (cap:=c) hlo hhi hl hh b1 hhc;refine Gives.still hr (v:=.slice (some ⟨b,o+(if c=l then off' else off'+l*sz),none⟩) (h'-l) (c-l)) ?_ ?_
       .rw [run_sliceAt_slice w t _ _ _ _ (by rw [hel];exact hd)];simp only [Instr.slice,Sem.run_bind,run_underlying hd,Result.andThen_ok,hbr,ai_ hti,Option.map_some,Addr.add_lit,Sem.run_pure,←b2];split<;>simp [Nat.add_assoc]
       .simp only [Con];refine ⟨b,o,n,c-l,_,hφ,hsz,rfl,?_,by omega,?_,?_⟩;intro hne;rw [if_neg (by omega),hoff (by omega)];have e1:(c-l)*sz=c*sz-l*sz:=Nat.sub_mul c l sz;have e2:l*sz<=c*sz:=Nat.mul_le_mul_right _ (by omega);omega
        .intro k hk;cases cap with
         |none=>cases hk
         |some k'=>simp at hk;have:=hcap k' rfl;omega
      split at h;rename_i c';split at h;rename_i hb3;cases h;have:=hcap c' rfl;exact key (by have:=Nat.le_of_ble_eq_true hb3;omega);cases h;split at h;rename_i hb3;cases h;exact key (by have:=Nat.le_of_ble_eq_true hb3;omega);cases h
     cases h
    cases h
   .rename_i len sz cs;split at h
    .rename_i h' hh;split at h
     .rename_i hb;obtain ⟨b1,b2⟩:=aa_ hb;obtain ⟨b2,b3⟩:=aa_ b2;have b1:=Nat.le_of_ble_eq_true b1;have b2:=Nat.le_of_ble_eq_true b2;have b3:=Nat.eq_of_beq_eq_true b3;split at h
      .rename_i cs' hcs';cases h;simp only [Con]at hc;obtain ⟨b,o,vs,c,rfl,hle,hL,hI⟩:=hc;have hbr:=c3_ (P:=P) (w:=w) (b:=true) (len:=len) (cap:=c) hlo hhi hl hh b1 (by omega);refine Gives.still hr (v:=.slice (some ⟨b,o+(if c=l then 0 else l*sz),none⟩) (h'-l) (c-l)) ?_ ?_
       .rw [run_sliceAt_slice w t _ _ _ _ (by rw [hel];exact hd)];simp only [Instr.slice,Sem.run_bind,run_underlying hd,Result.andThen_ok,hbr,ai_ hti,Option.map_some,Addr.add_lit,Sem.run_pure,←b3];split<;>simp
       .obtain ⟨t1,t2⟩:=bO_ hcs';rw [aq_]at t1;have t1:cs'=(cs.drop (l*sz)).take ((h'-l)*sz):=t1;simp only [Con];by_cases he:c=l;refine ⟨b,o,[],c-l,by simp [he],by show h'-l<=c-l;omega,?_,λi v hv=>by simp at hv⟩;have:h'-l=0:=(by omega);rw [t1,this];simp [ConL]
        .refine ⟨b,o+l*sz,(vs.drop (l*sz)).take ((h'-l)*sz),c-l,by simp [he],by show h'-l<=c-l;omega,?_,λi v hv=>?_⟩;rw [t1];exact (hL.drop _).take _
         .simp only [List.getElem?_take,List.getElem?_drop]at hv;split at hv
          .have:=hI _ _ hv;rwa [←Nat.add_assoc]at this
          cases hv
      cases h
     cases h
    cases h
   cases h
  cases h
 .rename_i n e hd;split at h
  .rename_i ti hti;split at h
   .rename_i id off;split at h
    .rename_i h' hh;split at h
     .rename_i hb;obtain ⟨b1,b2⟩:=aa_ hb;have b1:=Nat.le_of_ble_eq_true b1;have b2:=Nat.le_of_ble_eq_true b2;split at h
      .rename_i cs hk;split at h
       .rename_i hb3;cases h;have b3:off+n*ti.size<=cs.length:=Nat.le_of_ble_eq_true hb3;simp only [Con]at hc;obtain ⟨b,o,hφ,rfl⟩:=hc;obtain ⟨arr,t',g1,g2,g3,g4⟩:=hr.blk hk hφ;have hbr:=c3_ (P:=P) (w:=w) (b:=false) (len:=n) (cap:=n) hlo hhi hl hh b1 b2;refine Gives.still hr (v:=.slice (some ⟨b,o+(if n=l then off else off+l*ti.size),none⟩) (h'-l) (n-l)) ?_ ?_
        .simp only [Instr.sliceAt,Sem.run_bind,run_underlying hd,Result.andThen_ok,Instr.sureAddr,Sem.run_pure,hbr,ai_ hti,Addr.add_lit];split<;>simp [Nat.add_assoc]
        simp only [Con];refine ⟨b,o,arr.size,n-l,_,hφ,g2,rfl,?_,by show h'-l<=n-l;omega,?_,λk hk=>by cases hk;rfl⟩;intro hne;have hne:n-l≠0:=hne;rw [if_neg (by omega)];rfl;show o+(off+l*ti.size)+(n-l)*ti.size<=arr.size;have e1:(n-l)*ti.size=n*ti.size-l*ti.size:=Nat.sub_mul n l ti.size;have e2:l*ti.size<=n*ti.size:=Nat.mul_le_mul_right _ (by omega);omega
       cases h
      cases h
     cases h
    cases h
   cases h
  cases h
 cases h
def ft_:List UInt8->List AV
 |[]=>[]
 |b::r=>.int .u8 (.ofNat b.toNat)::ft_ r
theorem fu_ (E:Env):∀s:List UInt8,ConL E (ft_ s) (s.map λb=>.int .u8 b.toNat)
 |[]=>by simp [ft_,ConL]
 |b::r=>ConL.cons (by simp [Con]) (fu_ E r)
theorem fk_:∀s:List UInt8,(ft_ s).length=s.length
 |[]=>rfl
 |b::r=>by simp [ft_,fk_ r]
def aG_ (x:AV):Option Nat:=match x with
 | .nsl=>some 0
 | .sl _ _ n _ _=>some n
 | .vsl n _ _=>some n
 | .str s=>some (gO_ s)
 |_=>none
def am_ (H:AHeap) (x:AV) (n size:Nat):Option (List AV):=match x with
 | .nsl=>some []
 | .sl id off _ _ _=>match n with
   |0=>some []
   |n+1=>aS_ H (.ptr id off) (Nat.mul (Nat.succ n) size)
 | .vsl _ _ cs=>a5_ (Nat.mul n size) cs
 | .str s=>match size with
   |1=>some (ft_ (jf_ n s))
   |_=>none
 |_=>none
theorem fI_ {x:AV} {v:Value} (hc:Con E x v) {n:Nat} (h:aG_ x=some n):Builtin.lenOf v=Sem.pure n:=by unfold aG_ at h;split at h;cases h;simp only [Con]at hc;subst hc;rfl;cases h;simp only [Con]at hc;obtain ⟨b,o,m,c,off',_,_,rfl,_⟩:=hc;rfl;cases h;simp only [Con]at hc;obtain ⟨b,o,vs,c,rfl,_⟩:=hc;rfl;cases h;simp only [Con]at hc;subst hc;rw [cR_];rfl;cases h
theorem aP_ (hr:Rel B pr E H w) {x:AV} {v:Value} (hc:Con E x v) {m n size:Nat} (hm:aG_ x=some m) (hn:n<=m) {l:List AV} (h:am_ H x n size=some l):
  ∃vs,(Builtin.firstCells size n v).run P w=.ok ⟨vs⟩ w/\ConL E l vs/\(n=0\/l.length=n*size\/x=.nsl):=by
 unfold am_ at h;split at h;cases h;simp only [Con]at hc;subst hc;exact ⟨[],rfl,by simp [ConL],.inr (.inr rfl)⟩;rename_i id off m' sz cap;split at h;cases h;simp only [Con]at hc;obtain ⟨b,o,m,c,off',_,_,rfl,_⟩:=hc;exact ⟨[],by simp [Builtin.firstCells,loadCells,loadCellsFrom],by simp [ConL],.inl rfl⟩;rename_i n';simp only [aG_]at hm;cases hm;simp only [Con]at hc;obtain ⟨b,o,m2,c,off',hφ,hsz,rfl,hoff,hle,_⟩:=hc;obtain rfl:=hoff (by omega);have hp:Con E (.ptr id off') (.pointer (some ⟨b,o+off',none⟩)):=(by simp only [Con];exact ⟨b,o,hφ,rfl⟩);obtain ⟨b2,o2,vs,he,hl,hL,hcell⟩:=bt_ hr hp h;cases he;refine ⟨vs,?_,hL,.inr (.inl ?_)⟩;have:=bC_ (P:=P) hcell;rw [hl]at this;exact this;rw [←hL.length,hl];rfl
 .rename_i m' sz cs;obtain ⟨t1,t2⟩:=bO_ h;simp only [Con]at hc;obtain ⟨b,o,vs,c,rfl,hle,hL,hI⟩:=hc;have hv:(vs.take (n*size)).length=n*size:=by have:=hL.length;have t2:l.length=n*size:=t2;rw [t1,List.length_take]at t2;have t2:min (n*size) cs.length=n*size:=t2;rw [List.length_take];omega
  refine ⟨vs.take (n*size),?_,by rw [t1];exact hL.take _,.inr (.inl t2)⟩;have:=bC_ (P:=P) (w:=w) (b:=b) (o:=o) (vs:=vs.take (n*size)) λj u hu=>(by simp only [List.getElem?_take]at hu;split at hu;exact hr.imm _ _ _ (hI j u hu);cases hu);rw [hv]at this;exact this
 .rename_i s;split at h
  .cases h;simp only [Con]at hc;subst hc;refine ⟨(jf_ n s).map λb=>.int .u8 b.toNat,?_,fu_ E _,.inr (.inl ?_)⟩
   .simp only [Builtin.firstCells,Sem.run_pure]
    congr 1
    have:=Lib.extract_data (ByteArray.mk ⟨s⟩) 0 n;simp only [List.drop_zero,Nat.sub_zero]at this;apply Array.ext';rw [Array.toList_map,this,gi_]
   rw [fk_,gi_];simp only [aG_]at hm;cases hm;rw [cR_]at hn;simp;omega
  cases h
 cases h
def aY_:List AV->Nat
 |[]=>0
 |_::r=>Nat.succ (aY_ r)
theorem aj_:∀l:List AV,aY_ l=l.length
 |[]=>rfl
 |_::r=>by simp [aY_,aj_ r]
def d4_ (d:TypeDesc):Bool:=match d with
 | .slice _| .string=>true
 |_=>false
theorem d5_ {d:TypeDesc} (h:d4_ d=true):(∃e,d=.slice e)\/d=.string:=by cases d<;>first|(exact .inl ⟨_,rfl⟩)|(exact .inr rfl)|(simp [d4_]at h)
def cp_ (H:AHeap) (cs:List AV) (need size:Nat):Option (AV×AHeap):=match H.room with
 |true=>some (.sl H.next 0 need size none,H.push (.cells cs))
 |false=>none
def ao_ (P:Program) (H:AHeap) (t tx:TypeId) (s x:AV):Option (AV×AHeap):=match P.underlying t with
 |some (.slice e)=>match P.info? e with
  |some i=>match i.zero with
   |some z=>match P.underlying tx with
    |some dx=>match d4_ dx&&Nat.beq (aY_ (aI_ z)) i.size with
     |true=>match aG_ x with
      |some n=>match am_ H x n i.size with
       |some l=>match Nat.beq (aY_ l) (Nat.mul n i.size)with
           |true=>match s with
            | .nsl=>match n with
             |0=>some (.nsl,H)
             |_=>match Nat.ble (Nat.mul n i.bytes) 1073741824&&Nat.ble n 1073741824&&Nat.blt 0 i.bytes with
              |true=>cp_ H l n i.size
              |false=>none
            | .sl id off len sz cap=>match Nat.beq sz i.size with
             |false=>none
             |true=>match n with
              |0=>some (s,H)
              |_=>match Nat.ble (Nat.mul (Nat.add len n) i.bytes) 1073741824&&Nat.ble (Nat.add len n) 1073741824&&Nat.blt 0 i.bytes with
               |false=>none
               |true=>match cap with
                  |some c=>match Nat.ble (Nat.add len n) c with
                   |true=>match H.get id with
                    |some (.cells cs)=>match a7_ l with
                     |true=>match cK_ (Nat.add off (Nat.mul len sz)) l cs with
                      |some cs'=>some (.sl id off (Nat.add len n) sz cap,H.set id (.cells cs'))
                      |none=>none
                     |false=>none
                    |_=>none
                   |false=>match am_ H s len i.size with
                    |some l0=>cp_ H (l0++l) (Nat.add len n) i.size
                    |none=>none
                  |none=>match H.get id with
                   |some (.cells cs)=>match a7_ l&&Nat.beq (Nat.add off (Nat.mul len sz)) (aY_ cs)with
                    |true=>cp_ (H.erase id) (af_ off cs++l) (Nat.add len n) i.size
                    |false=>none
                   |_=>none
            |_=>none
           |false=>none
       |none=>none
      |none=>none
     |false=>none
    |none=>none
   |none=>none
  |none=>none
 |_=>none
theorem f5_ (t ty tx e:TypeId) (i:TypeInfo) (z:Value) (dx:TypeDesc) (ht:P.underlying t=some (.slice e)) (hi:P.info? e=some i) (hz:i.zero=some z)
  (htx:P.underlying tx=some dx) (hdx:d4_ dx=true) {base:Option Addr} {len cap n:Nat} {xv:Value} (hlen:Builtin.lenOf xv=Sem.pure n) (hgt:cap<len+n)
  (hb:(len+n)*i.bytes<=1073741824) (hn:len+n<=1073741824) (hby:0<i.bytes) {olds news:List Value}
  (ho:(Builtin.firstCells i.size len (.slice base len cap)).run P w.drew=.ok ⟨olds⟩ w.drew) (hx:(Builtin.firstCells i.size n xv).run P w.drew=.ok ⟨news⟩ w.drew):
  (Builtin.append_ #[t,tx] ty #[.slice base len cap,xv]).run P w=
    .ok (.slice (some ⟨w.heap.size,0,none⟩) (len+n) (grownCap w (len+n) cap e))
     (w.drew.alloc (.cells ((⟨olds++news⟩:Array Value)++Builtin.zeroCells z.cells (grownCap w (len+n) cap e-(len+n))) e)):=by
 have hno:¬(len+n<=cap):=by omega
 have h63:¬(9223372036854775807<((len:Int)+(n:Int))):=by omega
 have h48:¬(281474976710656<Builtin.nextslicecap (len+n) cap*i.bytes):=by have:=growslice_fits (need:=len+n) (old:=cap) (bytes:=i.bytes) hgt (by omega);omega
 have hby':i.bytes≠0:=by omega
 have hq:(Question.appendCap (len+n) cap e).forced=false:=rfl;have e:∀z:Array Value,(⟨olds⟩:Array Value)++(⟨news⟩++z)=(⟨olds++news⟩:Array Value)++z:=λz=>by
  rw [←Array.append_assoc]
  congr 1
  simp
 rcases d5_ hdx with ⟨e',rfl⟩|rfl<;>
  (simp [Builtin.append_,run_underlying ht,run_underlying htx,sizeOf,typeInfo,hi,hlen,hno,h48,hby',hq,ho,hx,zeroValue,hz,newRow,grownCap];rw [e])
theorem Rel.drew (h:Rel B pr E H w):Rel B pr E H w.drew:=h.drawn _
theorem c6_ (hr:Rel B pr E H w) {cs:List AV} {need size:Nat} {r:AV×AHeap} (h:cp_ H cs need size=some r) {news:List Value} (hL:ConL E cs news) (hl:cs.length=need*size)
  {z:Value} (hz:z.cells.size=size) {s:Sem Value} {e:TypeId} {c:Nat} (hc:need<=c)
  (hs:s.run P w=.ok (.slice (some ⟨w.heap.size,0,none⟩) need c) (w.drew.alloc (.cells ((⟨news⟩:Array Value)++Builtin.zeroCells z.cells (c-need)) e))):Gives P B pr E w s r:=by
 unfold cp_ at h;split at h
 .rename_i hroom;cases h;have hr2:=hr.drew;have hnl:=hL.length;obtain ⟨h1,h2⟩:=hr2.new_cells hroom (cs:=cs) (arr:=(⟨news⟩:Array Value)++Builtin.zeroCells z.cells (c-need)) (t:=e) (by simp;omega) λi a ha=>by obtain ⟨v,hv,hcv⟩:=hL.at i a ha;refine ⟨v,?_,hcv⟩;have hlt:i<news.length:=(by rcases Nat.lt_or_ge i news.length with h'|h';exact h';rw [List.getElem?_eq_none h']at hv;cases hv);rw [Array.getElem?_append_left (by simpa using hlt)];simpa using hv
  refine ⟨_,_,_,hs,h1,h2,?_⟩;simp only [Con];refine ⟨w.heap.size,0,_,c,0,by simp [Env.bind,Env.size],by simp [Env.size];rfl,rfl,λ_=>rfl,hc,?_,λk hk=>by cases hk⟩;simp only [Array.size_append,List.size_toArray,size_zeroCells,hz];have:c*size=need*size+(c-need)*size:=(by rw [←Nat.add_mul];congr 1;omega);have e:news.length=need*size:=(by omega);omega
 cases h
theorem aE_ (hr:Rel B pr E H w) {t tx ty:TypeId} {s x:AV} {sv xv:Value} (hs:Con E s sv) (hx:Con E x xv) {r:AV×AHeap} (h:ao_ P H t tx s x=some r):
  Gives P B pr E w (Builtin.append_ #[t,tx] ty #[sv,xv]) r:=by
 unfold ao_ at h;split at h
 case h_2=>cases h
 rename_i e ht;split at h
 case h_2=>cases h
 rename_i i hi;split at h
 case h_2=>cases h
 rename_i z hz;split at h
 case h_2=>cases h
 rename_i dx htx;split at h
 case h_2=>cases h
 rename_i hb;obtain ⟨hdx,hzl⟩:=aa_ hb;have hzl:=Nat.eq_of_beq_eq_true hzl;rw [aj_]at hzl;have hzs:z.cells.size=i.size:=by have:=(a4_ E z).length;rw [hzl]at this;simpa using this
 split at h
 case h_2=>cases h
 rename_i n hn;split at h
 case h_2=>cases h
 rename_i l hl;split at h
 case h_2=>cases h
 rename_i hll;have hll:l.length=n*i.size:=by have:=Nat.eq_of_beq_eq_true hll;rw [aj_]at this;exact this
 have hlen:=fI_ hx hn;obtain ⟨news,hf,hL,_⟩:=aP_ (P:=P) hr hx hn (Nat.le_refl n) hl;obtain ⟨news',hf',hL',_⟩:=aP_ (P:=P) hr.drew hx hn (Nat.le_refl n) hl;have fits:∀(base:Option Addr) (len cap:Nat),len+n<=cap->
   (Builtin.append_ #[t,tx] ty #[.slice base len cap,xv]).run P w=
     (match base with
       |some a=>((storeCells (a.add (len*i.size)) news).run P w).andThen λ_ w'=>.ok (.slice base (len+n) cap) w'
       |none=>.ok (.slice base (len+n) cap) w):=by
  intro base len cap hfit;rcases d5_ hdx with ⟨e',rfl⟩|rfl<;>cases base<;>
   simp [Builtin.append_,run_underlying ht,run_underlying htx,sizeOf,typeInfo,hi,hlen,hfit,hf]
 split at h
 ·
  simp only [Con]at hs;subst hs;split at h;cases h;refine Gives.still hr (v:=.slice none 0 0) ?_ (by simp [Con]);rw [fits none 0 0 (by omega)];rename_i hn0;split at h;rename_i hb;obtain ⟨hb,hb3⟩:=aa_ hb;obtain ⟨hb1,hb2⟩:=aa_ hb;have hb1:n*i.bytes<=1073741824:=Nat.le_of_ble_eq_true hb1;have hb2:=Nat.le_of_ble_eq_true hb2;have hb3:0<i.bytes:=(by simpa [Nat.blt_eq]using hb3);have hpos:0<n:=Nat.pos_of_ne_zero hn0;have hg:=f5_ (P:=P) (w:=w) t ty tx e i z dx ht hi hz htx hdx (base:=none) (len:=0) (cap:=0) hlen (by omega) (by simpa using hb1) (by simpa using hb2) hb3 (olds:=[]) (by simp [Builtin.firstCells]) hf';simp only [Nat.zero_add]at hg;refine c6_ hr h hL' hll hzs (c:=grownCap w n 0 e) (grownCap_ge _ _ _ _) (e:=e) ?_;rw [hg];simp;cases h
 .rename_i id off len sz cap;split at h;cases h;rename_i hsz;have hsz:=Nat.eq_of_beq_eq_true hsz;have hs0:=hs;simp only [Con]at hs;obtain ⟨b,o,m,c,off',hφ,hbs,rfl,hoff,hle,hfit,hcap⟩:=hs;split at h;cases h;refine Gives.still hr (v:=.slice (some ⟨b,o+off',none⟩) len c) ?_ hs0;rw [fits _ len c (by omega)];have:news=[]:=(by have:=hL.length;rw [hll]at this;simpa using this);subst this;simp [storeCells]
  .rename_i hn0;have hpos:0<n:=Nat.pos_of_ne_zero hn0;split at h;cases h;rename_i hb;obtain ⟨hb,hb3⟩:=aa_ hb;obtain ⟨hb1,hb2⟩:=aa_ hb;have hb1:(len+n)*i.bytes<=1073741824:=Nat.le_of_ble_eq_true hb1;have hb2:len+n<=1073741824:=Nat.le_of_ble_eq_true hb2;have hb3:0<i.bytes:=(by simpa [Nat.blt_eq]using hb3);split at h
   .rename_i c';obtain rfl:=hcap c' rfl;split at h
    .rename_i hfitc;have hfitc:len+n<=c:=Nat.le_of_ble_eq_true hfitc;split at h
     case h_2=>cases h
     rename_i cs hk;split at h
     case h_2=>cases h
     rename_i hone;split at h
     case h_2=>cases h
     rename_i cs' cy_;cases h;obtain rfl:=hoff (by omega);obtain ⟨w',g1,g2⟩:=g6_ (P:=P) hr hk hφ hL hone cy_;refine ⟨E,.slice (some ⟨b,o+off',none⟩) (len+n) c,w',?_,Env.le_refl _,g2,?_⟩;rw [fits _ len c hfitc];have e1:(⟨b,o+off',none⟩:Addr).add (len*i.size)=⟨b,o+(off'+len*sz),none⟩:=(by rw [Addr.add_lit,hsz,Nat.add_assoc]);simp only [e1];have g1':(storeCells ⟨b,o+(off'+len*sz),none⟩ news).run P w=.ok () w':=g1;rw [g1'];rfl;simp only [Con];exact ⟨b,o,m,c,off',hφ,hbs,rfl,λ_=>rfl,hfitc,hfit,hcap⟩
    .rename_i hfitc;split at h
     case h_2=>cases h
     rename_i l0 hl0;have hgt:c<len+n:=by rcases Nat.lt_or_ge c (len+n)with h'|h';exact h';have:Nat.ble (Nat.add len n) c=true:=Nat.ble_eq_true_of_le h';rw [hfitc]at this;cases this
     obtain ⟨olds,ho,hLo,hlo⟩:=aP_ (P:=P) hr.drew hs0 (m:=len) rfl (Nat.le_refl len) hl0;have hl0l:l0.length=len*i.size:=(by rcases hlo with h0|h0|h0;subst h0;simp only [am_]at hl0;cases hl0;simp;exact h0;cases h0);have hg:=f5_ (P:=P) (w:=w) t ty tx e i z dx ht hi hz htx hdx hlen hgt hb1 hb2 hb3 ho hf';refine c6_ hr h (hLo.append hL') ?_ hzs (c:=grownCap w (len+n) c e) (grownCap_ge _ _ _ _) (e:=e) ?_;rw [List.length_append,hl0l,hll,←Nat.add_mul];rfl;rw [hg];rfl
   .split at h
    case h_2=>cases h
    rename_i cs hk;split at h
    case h_2=>cases h
    rename_i hb4;obtain ⟨hone,hhw⟩:=aa_ hb4;have hhw:off+len*sz=cs.length:=(by have:=Nat.eq_of_beq_eq_true hhw;rw [aj_]at this;exact this);have hcslen:(af_ off cs++l).length=(len+n)*i.size:=by rw [aq_,List.length_append,List.length_drop,hll,←hhw,Nat.add_mul,hsz];omega
    obtain ⟨arr,t',g1,g2,g3,g4⟩:=hr.blk hk hφ;by_cases hfitc:len+n<=c
    ·
     obtain rfl:=hoff (by omega);unfold cp_ at h;split at h
     case h_2=>cases h
     rename_i hroom;cases h;have hasz:arr.size=m:=(by rw [hbs]at g2;cases g2;rfl);have hnl:=hL.length;have hst:=run_storeCells_at P b (o+(off'+len*sz)) t' news 0 arr w g1 (by rw [hnl,hll,hasz];have:(len+n)*sz<=c*sz:=Nat.mul_le_mul_right _ hfitc;rw [Nat.add_mul]at this;rw [←hsz];omega) (fT_ hL hone);simp only [Nat.add_zero]at hst;have hsub:Rel B pr E (H.set id (.cells (cs++l))) (w.setRow b (arr.toList.take (o+(off'+len*sz))++news++arr.toList.drop (o+(off'+len*sz)+news.length)).toArray):=by
      have hbound:o+(off'+len*sz)+news.length<=arr.size:=(by rw [hnl,hll,hasz];have:(len+n)*sz<=c*sz:=Nat.mul_le_mul_right _ hfitc;rw [Nat.add_mul]at this;rw [←hsz];omega);refine hr.set_cells hk hφ g1 ?_ ?_ ?_;simp;omega;rw [List.length_append,←hhw];omega
      .intro k a ha;have hseg:=g1_ arr.toList (o+(off'+len*sz)) news (by simpa using hbound) (o+k);rw [List.getElem?_toArray,hseg];by_cases hkl:k<cs.length;rw [List.getElem?_append_left hkl]at ha;rw [if_neg (by omega)];obtain ⟨v,hv,hcv⟩:=g4 k a ha;exact ⟨v,by simpa using hv,hcv⟩
       .rw [List.getElem?_append_right (by omega)]at ha;obtain ⟨v,hv,hcv⟩:=hL.at _ _ ha;have hlt:k-cs.length<news.length:=by rcases Nat.lt_or_ge (k-cs.length) news.length with h'|h';exact h';rw [List.getElem?_eq_none h']at hv;cases hv
        rw [if_pos (by omega)];exact ⟨v,by rw [show o+k-(o+(off'+len*sz))=k-cs.length by omega];exact hv,hcv⟩
     have hk2:(H.set id (.cells (cs++l))).get id=some (.cells (cs++l)):=AHeap.get_set_same H (AHeap.get_lt hk) _;have hroom2:(H.set id (.cells (cs++l))).room=true:=(by have:(H.set id (.cells (cs++l))).room=H.room:=rfl;rw [this];exact hroom);obtain ⟨arr2,t2,q1,q2,q3,q4⟩:=hsub.blk hk2 hφ;have hren:=hsub.renew hroom2 hk2 hφ q1 (o':=o+off') (cs':=af_ off' (cs++l)) (by rw [aq_,List.length_drop,List.length_append,←hhw];simp only [List.length_append,←hhw]at q3;omega) λk a ha=>(by rw [aq_,List.getElem?_drop]at ha;obtain ⟨v,hv,hcv⟩:=q4 _ _ ha;exact ⟨v,by rw [Nat.add_assoc];exact hv,hcv⟩);obtain ⟨hle2,hrel2⟩:=hren;have hdrop:af_ off' (cs++l)=af_ off' cs++l:=(by rw [aq_,aq_,List.drop_append_of_le_length (by omega)]);refine ⟨E.bind H.next b (o+off'),.slice (some ⟨b,o+off',none⟩) (len+n) c,(w.setRow b (arr.toList.take (o+(off'+len*sz))++news++arr.toList.drop (o+(off'+len*sz)+news.length)).toArray),?_,hle2,?_,?_⟩;rw [fits _ len c hfitc];have e1:(⟨b,o+off',none⟩:Addr).add (len*i.size)=⟨b,o+(off'+len*sz),none⟩:=(by rw [Addr.add_lit,hsz,Nat.add_assoc]);simp only [e1];rw [hst];rfl
     .rw [hdrop]at hrel2;have hn1:(((H.set id (.cells (cs++l))).erase id).push (.cells (af_ off' cs++l))).next<=((H.erase id).push (.cells (af_ off' cs++l))).next:=by simp only [AHeap.push,AHeap.erase,AHeap.set,Nat.le_refl]
      have hn2:((H.erase id).push (.cells (af_ off' cs++l))).hi<=(((H.set id (.cells (cs++l))).erase id).push (.cells (af_ off' cs++l))).hi:=(by simp only [AHeap.push,AHeap.erase,AHeap.set,Nat.le_refl]);refine hrel2.forget (λid' k' hk'=>?_) hn1 hn2;have hnt:=(Rel.room hroom).2.1;by_cases he:H.next=id';subst he;have e1:((H.erase id).push (.cells (af_ off' cs++l))).get H.next=some (.cells (af_ off' cs++l)):=AHeap.get_push_same (H.erase id) hnt _;have e2:(((H.set id (.cells (cs++l))).erase id).push (.cells (af_ off' cs++l))).get H.next=some (.cells (af_ off' cs++l)):=AHeap.get_push_same ((H.set id (.cells (cs++l))).erase id) hnt _;rw [e1]at hk';rw [e2];exact hk';have e1:((H.erase id).push (.cells (af_ off' cs++l))).get id'=(H.erase id).get id':=AHeap.get_push_ne (H.erase id) hnt he _;have e2:(((H.set id (.cells (cs++l))).erase id).push (.cells (af_ off' cs++l))).get id'=((H.set id (.cells (cs++l))).erase id).get id':=AHeap.get_push_ne ((H.set id (.cells (cs++l))).erase id) hnt he _;rw [e1]at hk';rw [e2];by_cases hid:id=id';subst hid;rw [AHeap.get_erase_same]at hk';cases hk';rw [AHeap.get_erase_ne H hid]at hk';rw [AHeap.get_erase_ne _ hid,AHeap.get_set_ne H (AHeap.get_lt hk) hid];exact hk'
     simp only [Con];refine ⟨b,o+off',m,c,0,by show (if H.next=H.next then some (b,o+off')else E.φ H.next)=_;rw [if_pos rfl],hbs,by simp,λ_=>rfl,hfitc,?_,λk hk=>by cases hk⟩;rw [←hsz];omega
    ·
     have hgt:c<len+n:=(by omega);have hold:∃olds,(Builtin.firstCells i.size len (.slice (some ⟨b,o+off',none⟩) len c)).run P w.drew=.ok ⟨olds⟩ w.drew/\ConL E (af_ off cs) olds:=by
      rcases Nat.eq_zero_or_pos len with h0|h0;subst h0;refine ⟨[],by simp [Builtin.firstCells,loadCells,loadCellsFrom],?_⟩;have:af_ off cs=[]:=(by rw [aq_];apply List.drop_eq_nil_of_le;simp at hhw;omega);rw [this];simp [ConL]
      .obtain rfl:=hoff (by omega);have hsrc:am_ H (.sl id off' len sz none) len i.size=some (af_ off' cs):=by
        cases len with
        |zero=>omega
        |succ len'=>
         simp only [am_,aS_,hk];have hln:(af_ off' cs).length=(len'+1)*i.size:=(by rw [aq_,List.length_drop,←hhw,hsz];omega);have:∀(q:List AV),a5_ q.length q=some q:=by
          intro q
          induction q with
          |nil=>rfl
          |cons a q ih=>simp [a5_,ih]
         have:=this (af_ off' cs);rw [hln]at this;exact this
       obtain ⟨olds,ho,hLo,_⟩:=aP_ (P:=P) hr.drew hs0 (m:=len) rfl (Nat.le_refl len) hsrc;exact ⟨olds,ho,hLo⟩
     obtain ⟨olds,ho,hLo⟩:=hold;have hg:=f5_ (P:=P) (w:=w) t ty tx e i z dx ht hi hz htx hdx hlen hgt hb1 hb2 hb3 ho hf';refine c6_ (hr.erase id) h (hLo.append hL') hcslen hzs (c:=grownCap w (len+n) c e) (grownCap_ge _ _ _ _) (e:=e) ?_;rw [hg];rfl
 cases h
def gv_ (P:Program) (H:AHeap) (t tx:TypeId) (s x:AV):Option (AV×AHeap):=match s with
 | .sl id off len sz cap=>match cap with
   |some _=>none
   |none=>match H.get id with
    |some (.fz cs)=>match P.underlying t with
     |some (.slice e)=>match P.info? e with
      |some i=>match i.zero with
       |some z=>match P.underlying tx with
          |some dx=>match d4_ dx&&Nat.beq (aY_ (aI_ z)) i.size with
           |true=>match aG_ x with
            |some n=>match am_ H x n i.size with
             |some l=>match Nat.beq (aY_ l) (Nat.mul n i.size)&&(Nat.beq sz i.size&&(Nat.blt 0 n&&(Nat.ble (Nat.mul (Nat.add len n) i.bytes) 1073741824&&(Nat.ble (Nat.add len n) 1073741824&&(Nat.blt 0 i.bytes&&(a7_ l&&(Nat.beq (Nat.add off (Nat.mul len sz)) (aY_ cs)&&H.room)))))))with
               |true=>some (.sl H.next 0 (Nat.add len n) i.size none,(H.erase id).push (.fz (af_ off cs++l)))
               |false=>none
             |none=>none
            |none=>none
           |false=>none
          |none=>none
       |none=>none
      |none=>none
     |_=>none
    |_=>none
 |_=>none
theorem do_ (P:Program) (g o:Nat) (t:TypeId) (fr:Nat×Nat):∀(vs:List Value) (i:Nat) (cur:Array Value) (w:World),w.heap[g]? =some (.cells cur t fr)->fr.2<=o+i->o+i+vs.length<=cur.size->(∀v∈vs,v.oneCell'=true)->
  (storeCells ⟨g,o,none⟩ vs i).run P w=.ok () (w.setRow g (cur.toList.take (o+i)++vs++cur.toList.drop (o+i+vs.length)).toArray)
 |[],i,cur,w,hg,_,_,_=>by simp only [storeCells,List.append_nil,List.length_nil,Nat.add_zero,List.take_append_drop,Array.toArray_toList];rw [setRow_self w g cur t fr hg];rfl
 |v::rest,i,cur,w,hg,hf,hl,h1=>by
  have hi:o+i<cur.size:=(by simp at hl;omega);have hadd:(⟨g,o,none⟩:Addr).add i=⟨g,o+i,none⟩:=(by unfold Addr.add;split<;>simp_all);have hcell:w.cell? ⟨g,o+i,none⟩=some cur[o+i]:=(by simp [World.cell?,hg,hi]);have hfro:w.frozen? ⟨g,o+i,none⟩=false:=(by obtain ⟨f1,f2⟩:=fr;simp only [World.frozen?,hg];have:¬(o+i<f2):=(by have:f2<=o+i:=hf;omega);simp [this]);have hst:(store ((⟨g,o,none⟩:Addr).add i) v).run P w=.ok () (w.setRow g (cur.setIfInBounds (o+i) v)):=(by rw [hadd,run_store P w _ v _ (h1 v (by simp)),hcell];simp [hfro,setCell_eq_setRow w g (o+i) cur t fr v hg]);have ih:=do_ P g o t fr rest (i+1) (cur.setIfInBounds (o+i) v) (w.setRow g (cur.setIfInBounds (o+i) v)) (setRow_heap w g cur _ t _ hg) (by omega) (by simp at hl⊢;omega) (λx hx=>h1 x (by simp [hx]));simp only [storeCells,Sem.run_bind,hst,Result.andThen_ok,ih,setRow_setRow]
  congr 3
  have e:=list_seg_step cur.toList (o+i) v rest (by simp at hl⊢;omega);simpa [Array.toList_setIfInBounds,Nat.add_assoc]using e
theorem jq_ (hr:Rel B pr E H w) {t tx ty:TypeId} {s x:AV} {sv xv:Value} (hs:Con E s sv) (hx:Con E x xv) {r:AV×AHeap} (h:gv_ P H t tx s x=some r):
  Gives P B pr E w (Builtin.append_ #[t,tx] ty #[sv,xv]) r:=by
 unfold gv_ at h;split at h
 case h_2=>cases h
 rename_i id off len sz cap;split at h
 case h_1=>cases h
 split at h
 case h_2=>cases h
 rename_i cs hk;split at h
 case h_2=>cases h
 rename_i e ht;split at h
 case h_2=>cases h
 rename_i i hi;split at h
 case h_2=>cases h
 rename_i z hz;split at h
 case h_2=>cases h
 rename_i dx htx;split at h
 case h_2=>cases h
 rename_i hb;obtain ⟨hdx,hzl⟩:=aa_ hb;have hzl:=Nat.eq_of_beq_eq_true hzl;rw [aj_]at hzl;have hzs:z.cells.size=i.size:=by have:=(a4_ E z).length;rw [hzl]at this;simpa using this
 split at h
 case h_2=>cases h
 rename_i n hn;split at h
 case h_2=>cases h
 rename_i l hl;split at h
 case h_2=>cases h
 rename_i hall;cases h;obtain ⟨c1,hall⟩:=aa_ hall;obtain ⟨c2,hall⟩:=aa_ hall;obtain ⟨c3,hall⟩:=aa_ hall;obtain ⟨c4,hall⟩:=aa_ hall;obtain ⟨c5,hall⟩:=aa_ hall;obtain ⟨c6,hall⟩:=aa_ hall;obtain ⟨hone,hall⟩:=aa_ hall;obtain ⟨c8,hroom⟩:=aa_ hall;have hll:l.length=n*i.size:=by have:=Nat.eq_of_beq_eq_true c1;rw [aj_]at this;exact this
 have hsz:=Nat.eq_of_beq_eq_true c2;have hpos:0<n:=by simpa [Nat.blt_eq]using c3
 have hb1:(len+n)*i.bytes<=1073741824:=Nat.le_of_ble_eq_true c4;have hb2:len+n<=1073741824:=Nat.le_of_ble_eq_true c5;have hb3:0<i.bytes:=by simpa [Nat.blt_eq]using c6
 have hhw:off+len*sz=cs.length:=by have:=Nat.eq_of_beq_eq_true c8;rw [aj_]at this;exact this
 subst hsz;have hlen:=fI_ hx hn;obtain ⟨news,hf,hL,_⟩:=aP_ (P:=P) hr hx hn (Nat.le_refl n) hl;obtain ⟨news',hf',hL',_⟩:=aP_ (P:=P) hr.drew hx hn (Nat.le_refl n) hl;have hs0:=hs;simp only [Con]at hs;obtain ⟨b,o,m,c,off',hφ,hbs,rfl,hoff,hle,hfit,hcap⟩:=hs;obtain ⟨arr,t',fr,g1,g2,g3,g5,g4⟩:=hr.blk hk hφ;have hasz:arr.size=m:=by rw [hbs]at g2;cases g2;rfl
 have hcslen:(af_ off cs++l).length=(len+n)*i.size:=by rw [aq_,List.length_append,List.length_drop,hll,←hhw,Nat.add_mul];omega
 have hnl:=hL.length;by_cases hfitc:len+n<=c
 .obtain rfl:=hoff (by omega);have hmul:(len+n)*i.size<=c*i.size:=Nat.mul_le_mul_right _ hfitc;rw [Nat.add_mul]at hmul;have hbound:o+(off'+len*i.size)+news.length<=arr.size:=(by rw [hnl,hll,hasz];omega);have hst:=do_ P b (o+(off'+len*i.size)) t' fr news 0 arr w g1 (by rw [hhw];exact g5) hbound (fT_ hL hone);simp only [Nat.add_zero]at hst
  have hmv:=hr.moveF hroom hk hφ g1 g2 (arr':=(arr.toList.take (o+(off'+len*i.size))++news++arr.toList.drop (o+(off'+len*i.size)+news.length)).toArray) (by simp;omega) (o':=o+off') (cs':=af_ off' cs++l) (by
   rw [hcslen,Nat.add_mul,hasz];omega) (by rw [hcslen,Nat.add_mul];omega) λk a ha=>by
    have hseg:=g1_ arr.toList (o+(off'+len*i.size)) news (by simpa using hbound) (o+off'+k);rw [List.getElem?_toArray,hseg];rw [aq_]at ha;by_cases hkl:k<len*i.size;rw [List.getElem?_append_left (by rw [List.length_drop];omega),List.getElem?_drop]at ha;rw [if_neg (by omega)];obtain ⟨v,hv,hcv⟩:=g4 _ a ha;exact ⟨v,by rw [show o+off'+k=o+(off'+k) by omega];simpa using hv,hcv⟩
    .rw [List.getElem?_append_right (by rw [List.length_drop];omega),List.length_drop]at ha;obtain ⟨v,hv,hcv⟩:=hL.at _ _ ha;have hlt:k-(cs.length-off')<news.length:=by rcases Nat.lt_or_ge (k-(cs.length-off')) news.length with h'|h';exact h';rw [List.getElem?_eq_none h']at hv;cases hv
     rw [if_pos (by omega)];exact ⟨v,by rw [show o+off'+k-(o+(off'+len*i.size))=k-(cs.length-off') by omega];exact hv,hcv⟩
  obtain ⟨hle2,hrel2⟩:=hmv;refine ⟨E.bind H.next b (o+off'),.slice (some ⟨b,o+off',none⟩) (len+n) c,_,?_,hle2,hrel2,?_⟩
  .have fits:(Builtin.append_ #[t,tx] ty #[.slice (some ⟨b,o+off',none⟩) len c,xv]).run P w=((storeCells ((⟨b,o+off',none⟩:Addr).add (len*i.size)) news).run P w).andThen λ_ w'=>.ok (.slice (some ⟨b,o+off',none⟩) (len+n) c) w':=by
     rcases d5_ hdx with ⟨e',rfl⟩|rfl<;>
      simp [Builtin.append_,run_underlying ht,run_underlying htx,sizeOf,typeInfo,hi,hlen,hfitc,hf]
   rw [fits];have e1:(⟨b,o+off',none⟩:Addr).add (len*i.size)=⟨b,o+(off'+len*i.size),none⟩:=(by rw [Addr.add_lit,Nat.add_assoc]);simp only [e1];rw [hst];rfl
  simp only [Con];refine ⟨b,o+off',m,c,0,by show (if H.next=H.next then some (b,o+off')else E.φ H.next)=_;rw [if_pos rfl],hbs,by simp,λ_=>rfl,hfitc,?_,λk hk=>by cases hk⟩;omega
 .have hgt:c<len+n:=(by omega);have hold:∃olds,(Builtin.firstCells i.size len (.slice (some ⟨b,o+off',none⟩) len c)).run P w.drew=.ok ⟨olds⟩ w.drew/\ConL E (af_ off cs) olds:=(by rcases Nat.eq_zero_or_pos len with h0|h0;subst h0;refine ⟨[],by simp [Builtin.firstCells,loadCells,loadCellsFrom],?_⟩;have:af_ off cs=[]:=(by rw [aq_];apply List.drop_eq_nil_of_le;simp at hhw;omega);rw [this];simp [ConL];obtain rfl:=hoff (by omega);have hln:(af_ off' cs).length=len*i.size:=(by rw [aq_,List.length_drop,←hhw];omega);have hcells:∃vs:List Value,vs.length=len*i.size/\ConL E (af_ off' cs) vs/\∀(j:Nat) (u:Value),vs[j]? =some u->w.drew.cell? ⟨b,o+off'+j,none⟩=some u:=(by refine ⟨(arr.toList.drop (o+off')).take (len*i.size),by simp;omega,?_,λj u hu=>?_⟩;refine ConL.of_at (by rw [hln];simp;omega) λq a u hq hu=>?_;rw [aq_,List.getElem?_drop]at hq;obtain ⟨v,hv,hcv⟩:=g4 _ a hq;rw [List.getElem?_take]at hu;split at hu;rw [List.getElem?_drop,Array.getElem?_toList,Nat.add_assoc,hv]at hu;cases hu;exact hcv;cases hu;rw [List.getElem?_take]at hu;split at hu;rw [List.getElem?_drop,Array.getElem?_toList]at hu;have:w.drew.heap[b]? =some (.cells arr t' fr):=g1;simp only [World.cell?,this];exact hu;cases hu);obtain ⟨vs,v1,v2,v3⟩:=hcells;refine ⟨vs,?_,v2⟩;have:=bC_ (P:=P) (w:=w.drew) (b:=b) (o:=o+off') (vs:=vs) v3;rw [v1]at this;exact this);obtain ⟨olds,ho,hLo⟩:=hold;have hg:=f5_ (P:=P) (w:=w) t ty tx e i z dx ht hi hz htx hdx hlen hgt hb1 hb2 hb3 ho hf';have hgrow:cp_ (H.erase id) (af_ off cs++l) (len+n) i.size=some (.sl H.next 0 (len+n) i.size none,(H.erase id).push (.cells (af_ off cs++l))):=(by unfold cp_;have:(H.erase id).room=true:=hroom;rw [this];rfl);obtain ⟨E',v',w',q1,q2,q3,q4⟩:=c6_ (hr.erase id) hgrow (hLo.append hL') hcslen hzs (c:=grownCap w (len+n) c e) (grownCap_ge _ _ _ _) (e:=e) (by rw [hg]);have hnt:=(Rel.room hroom).2.1;have hsame:((H.erase id).push (.cells (af_ off cs++l))).get H.next=some (.cells (af_ off cs++l)):=AHeap.get_push_same (H.erase id) hnt _;refine ⟨E',v',w',q1,q2,?_,q4⟩;have hn1:(((H.erase id).push (.cells (af_ off cs++l))).set H.next (.fz (af_ off cs++l))).next<=((H.erase id).push (.fz (af_ off cs++l))).next:=by simp only [AHeap.push,AHeap.erase,AHeap.set,Nat.le_refl]
  have hn2:((H.erase id).push (.fz (af_ off cs++l))).hi<=(((H.erase id).push (.cells (af_ off cs++l))).set H.next (.fz (af_ off cs++l))).hi:=(by simp only [AHeap.push,AHeap.erase,AHeap.set,Nat.le_refl]);refine (q3.toF hsame).forget (λid' k' hk'=>?_) hn1 hn2;by_cases he:H.next=id';subst he;have e1:((H.erase id).push (.fz (af_ off cs++l))).get H.next=some (.fz (af_ off cs++l)):=AHeap.get_push_same (H.erase id) hnt _;rw [e1]at hk';rw [AHeap.get_set_same _ hnt];exact hk';have e1:((H.erase id).push (.fz (af_ off cs++l))).get id'=(H.erase id).get id':=AHeap.get_push_ne (H.erase id) hnt he _;have e2:((H.erase id).push (.cells (af_ off cs++l))).get id'=(H.erase id).get id':=AHeap.get_push_ne (H.erase id) hnt he _;rw [e1]at hk';rw [AHeap.get_set_ne _ hnt he,e2];exact hk'
def kx_:Nat->List AV->List AV
 |0,_=>[]
 |_+1,[]=>[]
 |n+1,a::r=>a::kx_ n r
theorem m3_:∀(n:Nat) (l:List AV),kx_ n l=l.take n
 |0,l=>by simp [kx_]
 |n+1,[]=>by simp [kx_]
 |n+1,a::r=>by simp [kx_,m3_ n r]
def rD_ (H:AHeap) (s:AV):AHeap:=match s with
 | .sl id off len sz cap=>match cap with
   |some _=>H
   |none=>match H.get id with
    |some (.cells cs)=>match Nat.blt (Nat.add off (Nat.mul len sz)) (aY_ cs)with
     |true=>H.set id (.cells (kx_ (Nat.add off (Nat.mul len sz)) cs))
     |false=>H
    |_=>H
 |_=>H
theorem Rel.trim (h:Rel B pr E H w) {id:Nat} {cs:List AV} (hk:H.get id=some (.cells cs)) (k:Nat):Rel B pr E (H.set id (.cells (cs.take k))) w where
 own:=by obtain ⟨own,g1,g2⟩:=h.own;refine ⟨own,λid' k' hk'=>?_,g2⟩;by_cases e:id=id';subst e;rw [AHeap.get_set_same H (AHeap.get_lt hk)]at hk';cases hk';obtain ⟨_,hvoid⟩|⟨b,o,h1,h2,arr,t,h3,h4,h5,h6⟩:=g1 id _ hk;exact hvoid.elim;refine .inr ⟨b,o,h1,h2,arr,t,h3,h4,?_,λi a ha=>?_⟩;rw [List.length_take];omega;rw [List.getElem?_take]at ha;split at ha;exact h6 i a ha;cases ha;rw [AHeap.get_set_ne H (AHeap.get_lt hk) e]at hk';exact g1 id' k' hk'
 imm:=h.imm
 ib:=h.ib
 fresh:=h.fresh
 resv:=h.resv
 vds:=h.vds
 szs:=h.szs
 prot:=h.prot
 size:=h.size
 os:=h.os
 output:=h.output
theorem rE_ (h:Rel B pr E H w) (s:AV):Rel B pr E (rD_ H s) w:=by unfold rD_;split;split;exact h;split;rename_i cs hk;split;rw [m3_];exact h.trim hk _;exact h;exact h;exact h
def gw_ (P:Program) (H:AHeap) (t tx:TypeId) (s x:AV):Option (AV×AHeap):=match s with
 | .nsl=>match x with
   | .int _ (.ofNat n)=>match P.underlying t with
     |some (.slice e)=>match P.info? e with
      |some i=>match i.zero with
       |some z=>match P.underlying tx with
         |some (.int _)=>match Nat.beq (aY_ (aI_ z)) i.size&&Nat.blt 0 i.bytes&&Nat.blt 0 i.size&&Nat.blt 0 n&&Nat.ble (Nat.mul n i.bytes) 1073741824&&Nat.ble n 1073741824 with
          |true=>cp_ H (aT_ (aI_ z) n) n i.size
          |false=>none
         |_=>none
       |none=>none
      |none=>none
     |_=>none
   |_=>none
 |_=>none
theorem jr_ (hr:Rel B pr E H w) {t tx ty:TypeId} {s x:AV} {sv xv:Value} (hs:Con E s sv) (hx:Con E x xv) {r:AV×AHeap} (h:gw_ P H t tx s x=some r):
  Gives P B pr E w (Builtin.append_ #[t,tx] ty #[sv,xv]) r:=by
 unfold gw_ at h;split at h
 case h_2=>cases h
 split at h
 case h_2=>cases h
 rename_i k n;split at h
 case h_2=>cases h
 rename_i e ht;split at h
 case h_2=>cases h
 rename_i i hi;split at h
 case h_2=>cases h
 rename_i z hz;split at h
 case h_2=>cases h
 rename_i k' htx;split at h
 case h_2=>cases h
 rename_i hb;obtain ⟨hb,b6⟩:=aa_ hb;obtain ⟨hb,b5⟩:=aa_ hb;obtain ⟨hb,b4⟩:=aa_ hb;obtain ⟨hb,b3⟩:=aa_ hb;obtain ⟨b1,b2⟩:=aa_ hb;have b1:=Nat.eq_of_beq_eq_true b1;rw [aj_]at b1;have b2:0<i.bytes:=by simpa [Nat.blt_eq]using b2
 have b3:0<i.size:=by simpa [Nat.blt_eq]using b3
 have b4:0<n:=by simpa [Nat.blt_eq]using b4
 have b5:n*i.bytes<=1073741824:=Nat.le_of_ble_eq_true b5;have b6:n<=1073741824:=Nat.le_of_ble_eq_true b6;simp only [Con]at hs hx;subst hs hx;have hzs:z.cells.size=i.size:=by have:=(a4_ E z).length;rw [b1]at this;simpa using this
 have hL:ConL E (aT_ (aI_ z) n) (Builtin.zeroCells z.cells n).toList:=by refine ConL.of_at ?_ λq x u hx hu=>?_;rw [aO_,b1];simp [size_zeroCells,hzs];have hq:q<n*i.size:=(by rcases Nat.lt_or_ge q (n*i.size)with h'|h';exact h';rw [List.getElem?_eq_none (by rw [aO_,b1];exact h')]at hx;cases hx);rw [d9_ _ _ _ (by rw [b1];exact hq),b1]at hx;obtain ⟨u',hu',hcu⟩:=(a4_ E z).at _ _ hx;simp only [Builtin.zeroCells,Array.toList_map,Array.toList_range,List.getElem?_map,hzs,List.getElem?_range hq,Option.map_some]at hu;cases hu;have:z.cells[q%i.size]? =some u':=(by simpa using hu');rw [getElem!_def,this];exact hcu
 refine c6_ hr h hL (by rw [aO_,b1]) hzs (c:=grownCap w n 0 e) (grownCap_ge _ _ _ _) (e:=e) ?_;have h0:¬n=0:=by omega
 have hw:IntKind.i64.wrap (n:Int)=(n:Int):=by simp [IntKind.wrap,IntKind.bits,IntKind.signed];omega
 have h1:¬((n:Int)<0):=by omega
 have h2:¬(281474976710656<(n:Int)*(i.bytes:Int)):=by have:((n*i.bytes:Nat):Int)<=1073741824:=(by omega);rw [Int.natCast_mul]at this;omega
 have h48:¬(281474976710656<Builtin.nextslicecap n 0*i.bytes):=by have:=growslice_fits (need:=n) (old:=0) (bytes:=i.bytes) (by omega) (by omega);omega
 have h63:¬(9223372036854775807<(n:Int)):=by omega
 have hby':i.bytes≠0:=by omega
 have hsz:i.size≠0:=by omega
 have hq:(Question.appendCap n 0 e).forced=false:=rfl;simp [Builtin.append_,run_underlying ht,run_underlying htx,sizeOf,typeInfo,hi,asInt,asIntOf,hw,h1,h2,h0,h63,h48,hby',hsz,hq,zeroValue,hz,newRow,grownCap,Builtin.firstCells];intro h;exact absurd h (Nat.mul_ne_zero h0 hsz)
def fY_ (P:Program) (H:AHeap) (t tx:TypeId) (s x:AV):Option (AV×AHeap):=match ao_ P (rD_ H s) t tx s x with
 |some r=>some r
 |none=>match gv_ P H t tx s x with
  |some r=>some r
  |none=>gw_ P H t tx s x
theorem kT_ (hr:Rel B pr E H w) {t tx ty:TypeId} {s x:AV} {sv xv:Value} (hs:Con E s sv) (hx:Con E x xv) {r:AV×AHeap} (h:fY_ P H t tx s x=some r):
  Gives P B pr E w (Builtin.append_ #[t,tx] ty #[sv,xv]) r:=by
 unfold fY_ at h;split at h;rename_i r' hr';cases h;exact aE_ (rE_ hr s) hs hx hr';split at h;rename_i r' hr';cases h;exact jq_ hr hs hx hr';exact jr_ hr hs hx h
end
end Go.Sx
